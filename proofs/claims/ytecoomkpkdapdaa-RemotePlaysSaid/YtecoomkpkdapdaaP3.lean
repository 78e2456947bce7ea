/- maid: the reference's Put. -/
import Derived.Test.YtecoomkpkdapdaaP2
set_option linter.unusedVariables false
namespace Go.Proofs.Ytecoomkpkdapdaa
open Go.RowKit

def strSize : Value → Nat
  | .string b => b.size
  | _ => 0

set_option maxRecDepth 100000 in
set_option maxHeartbeats 4000000 in
theorem refPut10_any (d o : List UInt8) (w : World) (hd : d.length ≤ 1000) (ho : o.length ≤ 1000) :
    Calls Try.prog 80 #[.string (bs d), .string (bs o)] w fun en w' => en = .returned (.tuple #[.string (bs (mPut d o).1), .int .i64 (mPut d o).2]) ∧ Below w.heap.size w w' := by
  have hsd := bs_size d
  have hso := bs_size o
  have HC : Hid (∀ w, Calls Try.prog 101 #[.string (bs d), .bool true] w fun en w' => en = .returned (.bool (plB d)) ∧ w = w') := fun w => by
    have h := refName_any d true w (by omega)
    rw [Bool.true_or, Bool.and_true] at h; exact h
  have HC2 : Hid (∀ w, Calls Try.prog 101 #[.string (bs o), .bool false] w fun en w' => en = .returned (.bool (plB o && decide (0 < o.length))) ∧ w = w') := fun w => by
    have h := refName_any o false w (by omega)
    rw [Bool.false_or] at h; exact h
  obtain ⟨p, hp⟩ : ∃ p, plB d = p := ⟨_, rfl⟩
  obtain ⟨q, hq⟩ : ∃ q, (plB o && decide (0 < o.length)) = q := ⟨_, rfl⟩
  rw [hp] at HC
  rw [hq] at HC2
  have hP : mPut d o = if p = true ∧ q = true then (if d.length + o.length ≤ 44 then (padT (mBody d o), 0) else ([], 5)) else ([], 2) := by
    have e : (o ≠ [] ∧ plB o = true ∧ plB d = true) ↔ (p = true ∧ q = true) := by
      rw [← hp, ← hq]; simp [List.length_pos_iff]; constructor
      · rintro ⟨h1, h2, h3⟩; exact ⟨h3, h2, h1⟩
      · rintro ⟨h1, h2, h3⟩; exact ⟨h3, h2, h1⟩
    unfold mPut
    by_cases h : p = true ∧ q = true
    · rw [if_pos h, if_pos (e.2 h)]
    · rw [if_neg h, if_neg (fun hh => h (e.1 hh))]
  rw [hP]
  clear hP
  cases p with
  | false =>
    rw [if_neg (by simp)]
    go_enter Try.func80, Try.ntmps80
    go_wp2_with fail
    with_reducible refine (HC.out _).mono ?_
    rintro en _ ⟨rfl, rfl⟩
    go_wp2
    refine bodyPost_ret (v := .tuple #[.string (bs []), .int .i64 2]) (by simp [results, Try.results80, go_sem]; rfl) rfl ⟨rfl, Below.refl _ _⟩
  | true =>
  cases q with
  | false =>
    rw [if_neg (by simp)]
    go_enter Try.func80, Try.ntmps80
    go_wp2_with fail
    with_reducible refine (HC.out _).mono ?_
    rintro en _ ⟨rfl, rfl⟩
    go_wp2_with fail
    with_reducible refine (HC2.out _).mono ?_
    rintro en _ ⟨rfl, rfl⟩
    go_wp2
    refine bodyPost_ret (v := .tuple #[.string (bs []), .int .i64 2]) (by simp [results, Try.results80, go_sem]; rfl) rfl ⟨rfl, Below.refl _ _⟩
  | true =>
  rw [if_pos ⟨rfl, rfl⟩]
  clear hp hq
  by_cases h3 : d.length + o.length ≤ 44
  rotate_left
  · rw [if_neg h3]
    by_cases h4 : 44 < d.length
    · have d4 : decide (44 < (d.length : Int)) = true := decide_eq_true (by omega)
      go_enter Try.func80, Try.ntmps80
      go_wp2_with fail
      with_reducible refine (HC.out _).mono ?_
      rintro en _ ⟨rfl, rfl⟩
      go_wp2_with fail
      with_reducible refine (HC2.out _).mono ?_
      rintro en _ ⟨rfl, rfl⟩
      go_wp2
      refine bodyPost_ret (v := .tuple #[.string (bs []), .int .i64 5]) (by simp [results, Try.results80, go_sem]; rfl) rfl ⟨rfl, Below.refl _ _⟩
    · have d4 : decide (44 < (d.length : Int)) = false := decide_eq_false (by omega)
      by_cases h5 : 44 < o.length
      · have d5 : decide (44 < (o.length : Int)) = true := decide_eq_true (by omega)
        go_enter Try.func80, Try.ntmps80
        go_wp2_with fail
        with_reducible refine (HC.out _).mono ?_
        rintro en _ ⟨rfl, rfl⟩
        go_wp2_with fail
        with_reducible refine (HC2.out _).mono ?_
        rintro en _ ⟨rfl, rfl⟩
        go_wp2
        refine bodyPost_ret (v := .tuple #[.string (bs []), .int .i64 5]) (by simp [results, Try.results80, go_sem]; rfl) rfl ⟨rfl, Below.refl _ _⟩
      · have d5 : decide (44 < (o.length : Int)) = false := decide_eq_false (by omega)
        have d6 : decide (44 < (d.length : Int) + (o.length : Int)) = true := decide_eq_true (by omega)
        go_enter Try.func80, Try.ntmps80
        go_wp2_with fail
        with_reducible refine (HC.out _).mono ?_
        rintro en _ ⟨rfl, rfl⟩
        go_wp2_with fail
        with_reducible refine (HC2.out _).mono ?_
        rintro en _ ⟨rfl, rfl⟩
        go_wp2
        refine bodyPost_ret (v := .tuple #[.string (bs []), .int .i64 5]) (by simp [results, Try.results80, go_sem]; rfl) rfl ⟨rfl, Below.refl _ _⟩
  rw [if_pos h3]
  have d4 : decide (44 < (d.length : Int)) = false := decide_eq_false (by omega)
  have d5 : decide (44 < (o.length : Int)) = false := decide_eq_false (by omega)
  have d6 : decide (44 < (d.length : Int) + (o.length : Int)) = false := decide_eq_false (by omega)
  obtain ⟨T, hT⟩ : ∃ T, mBody d o = T := ⟨_, rfl⟩
  have hbl := mBody_len d o
  rw [hT] at hbl ⊢
  have HT := Lib.hid hT
  have HBL := Lib.hid hbl
  have hw1 := lenB_wrap d
  have hw2 := lenB_wrap o
  obtain ⟨x, hx⟩ : ∃ x : Int, ((lenB d).toNat : Int) = x := ⟨_, rfl⟩
  obtain ⟨y, hy⟩ : ∃ y : Int, ((lenB o).toNat : Int) = y := ⟨_, rfl⟩
  rw [hx] at hw1
  rw [hy] at hw2
  have hx0 : 0 ≤ x ∧ x < 256 := by have := (lenB d).toNat_lt; omega
  have hy0 : 0 ≤ y ∧ y < 256 := by have := (lenB o).toNat_lt; omega
  have hone1 := run_string_one x hx0.1 hx0.2
  have hone2 := run_string_one y hy0.1 hy0.2
  have hX : UInt8.ofNat x.toNat = lenB d := by apply UInt8.toNat_inj.1; simp; omega
  have hY : UInt8.ofNat y.toNat = lenB o := by apply UInt8.toNat_inj.1; simp; omega
  rw [hX] at hone1
  rw [hY] at hone2
  clear hT hbl hx hy hX hY
  by_cases h5 : d = []
  · have e5 : (bs d).toList.isEmpty = true := by rw [empty_eq]; exact decide_eq_true h5
    have hbody : mBody d o = [1] ++ 2 :: lenB o :: o := by unfold mBody; rw [if_pos h5]
    have HBD := Lib.hid hbody
    have hT48 : T.length ≤ 48 := by rw [HBL.out, if_pos h5]; omega
    have a1 : ∀ W : World, (Op.stringOp .add ({ data := #[1] } : ByteArray) { data := #[2] }).run Try.prog W = .ok (.string (bs [1, 2])) W := run_add_bs [1] [2] (by simp)
    have a2 := run_add_bs [1, 2] [lenB o] (by simp)
    have a3 := run_add_bs [1, 2, lenB o] o (by simp; omega)
    clear hbody h5
    go_enter Try.func80, Try.ntmps80
    go_wp2_with fail
    with_reducible refine (HC.out _).mono ?_
    rintro en _ ⟨rfl, rfl⟩
    go_wp2_with fail
    with_reducible refine (HC2.out _).mono ?_
    rintro en _ ⟨rfl, rfl⟩
    go_wp2_with fail
    go_loop [6] (fun s => ∃ k : Nat, k ≤ 48 - T.length ∧ s = .string (bs (T ++ List.replicate k 0))) (fun s => 48 - strSize s)
    case atStart => exact ⟨0, by omega, by rw [← HT.out, HBD.out]; simp⟩
    case round =>
      obtain ⟨k, hk, rfl⟩ := hrel
      obtain ⟨L, hL⟩ : ∃ L, T ++ List.replicate k 0 = L := ⟨_, rfl⟩
      have hLn : L.length = T.length + k := by rw [← hL]; simp
      have hLs : (bs L).size = T.length + k := by rw [bs_size, hLn]
      have hpad : k = 48 - T.length → padT T = L := fun h => by rw [← hL, h]; rfl
      have hnext : T ++ List.replicate (k + 1) 0 = L ++ [0] := by rw [← hL, List.append_assoc, ← List.replicate_succ']
      have HPAD := Lib.hid hpad
      have HNX := Lib.hid hnext
      rw [hL]
      have HL := Lib.hid hL
      clear hL hpad hnext
      have a4 : ∀ W : World, (Op.stringOp .add (bs L) ({ data := #[0] } : ByteArray)).run Try.prog W = .ok (.string (bs (L ++ [0]))) W := run_add_bs L [0] (by simp; omega)
      by_cases hlt : T.length + k < 48
      · have dk : decide ((T.length : Int) + (k : Int) < 48) = true := decide_eq_true (by omega)
        go_wp2
        exact ⟨⟨k + 1, by omega, by rw [HNX.out]⟩, by simp [strSize, bs_size]; omega⟩
      · have dk : decide ((T.length : Int) + (k : Int) < 48) = false := decide_eq_false (by omega)
        have hp := HPAD.out (by omega)
        go_wp2
        refine bodyPost_ret (v := .tuple #[.string (bs L), .int .i64 0]) (by simp [results, Try.results80, go_sem]) rfl ⟨rfl, ?_⟩
        exact (Below.refl _ _).alloc (Nat.le_refl _) _
  · have e5 : (bs d).toList.isEmpty = false := by rw [empty_eq]; exact decide_eq_false h5
    have hbody : mBody d o = (4 :: lenB d :: d) ++ 2 :: lenB o :: o := by unfold mBody; rw [if_neg h5]
    have HBD := Lib.hid hbody
    have hT48 : T.length ≤ 48 := by rw [HBL.out, if_neg h5]; omega
    obtain ⟨A, hA⟩ : ∃ A, 4 :: lenB d :: d = A := ⟨_, rfl⟩
    have hAl : A.length = d.length + 2 := by rw [← hA]; simp
    have a1 : ∀ W : World, (Op.stringOp .add ({ data := #[4] } : ByteArray) (bs [lenB d])).run Try.prog W = .ok (.string (bs [4, lenB d])) W := run_add_bs [4] [lenB d] (by simp)
    have a2 : ∀ W : World, (Op.stringOp .add (bs [4, lenB d]) (bs d)).run Try.prog W = .ok (.string (bs A)) W := by rw [← hA]; exact run_add_bs [4, lenB d] d (by simp; omega)
    have a3 : ∀ W : World, (Op.stringOp .add (bs A) ({ data := #[2] } : ByteArray)).run Try.prog W = .ok (.string (bs (A ++ [2]))) W := run_add_bs A [2] (by simp; omega)
    have a5 := run_add_bs (A ++ [2]) [lenB o] (by simp; omega)
    have a6 := run_add_bs (A ++ [2] ++ [lenB o]) o (by simp; omega)
    rw [hA] at HBD
    simp only [List.append_assoc, List.cons_append, List.nil_append] at a5 a6
    clear hbody h5 hA
    go_enter Try.func80, Try.ntmps80
    go_wp2_with fail
    with_reducible refine (HC.out _).mono ?_
    rintro en _ ⟨rfl, rfl⟩
    go_wp2_with fail
    with_reducible refine (HC2.out _).mono ?_
    rintro en _ ⟨rfl, rfl⟩
    go_wp2_with fail
    go_loop [6] (fun s => ∃ k : Nat, k ≤ 48 - T.length ∧ s = .string (bs (T ++ List.replicate k 0))) (fun s => 48 - strSize s)
    case atStart => exact ⟨0, by omega, by rw [← HT.out, HBD.out]; simp⟩
    case round =>
      obtain ⟨k, hk, rfl⟩ := hrel
      obtain ⟨L, hL⟩ : ∃ L, T ++ List.replicate k 0 = L := ⟨_, rfl⟩
      have hLn : L.length = T.length + k := by rw [← hL]; simp
      have hLs : (bs L).size = T.length + k := by rw [bs_size, hLn]
      have hpad : k = 48 - T.length → padT T = L := fun h => by rw [← hL, h]; rfl
      have hnext : T ++ List.replicate (k + 1) 0 = L ++ [0] := by rw [← hL, List.append_assoc, ← List.replicate_succ']
      have HPAD := Lib.hid hpad
      have HNX := Lib.hid hnext
      rw [hL]
      have HL := Lib.hid hL
      clear hL hpad hnext
      have a4 : ∀ W : World, (Op.stringOp .add (bs L) ({ data := #[0] } : ByteArray)).run Try.prog W = .ok (.string (bs (L ++ [0]))) W := run_add_bs L [0] (by simp; omega)
      by_cases hlt : T.length + k < 48
      · have dk : decide ((T.length : Int) + (k : Int) < 48) = true := decide_eq_true (by omega)
        go_wp2
        exact ⟨⟨k + 1, by omega, by rw [HNX.out]⟩, by simp [strSize, bs_size]; omega⟩
      · have dk : decide ((T.length : Int) + (k : Int) < 48) = false := decide_eq_false (by omega)
        have hp := HPAD.out (by omega)
        go_wp2
        refine bodyPost_ret (v := .tuple #[.string (bs L), .int .i64 0]) (by simp [results, Try.results80, go_sem]) rfl ⟨rfl, ?_⟩
        exact ((Below.refl _ _).alloc (Nat.le_refl _) _).alloc (by simp) _
end Go.Proofs.Ytecoomkpkdapdaa
