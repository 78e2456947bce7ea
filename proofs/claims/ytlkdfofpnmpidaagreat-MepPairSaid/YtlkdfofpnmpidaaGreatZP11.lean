/- ZP11: the texts P3, P7 as one. -/
import Derived.Test.YtlkdfofpnmpidaaGreatZP10
import Derived.Test.YtlkdfofpnmpidaaGreatZP09
/- maid: the reference's Put. -/
set_option linter.unusedVariables false
namespace Go.Proofs.YtlkdfofpnmpidaaGreat
open Go.RowKit

def strSize : Value → Nat
  | .string b => b.size
  | _ => 0

set_option maxRecDepth 100000 in
set_option maxHeartbeats 4000000 in
theorem refPut10_any (d o : List UInt8) (w : World) (hd : d.length ≤ 1000) (ho : o.length ≤ 1000) :
    Calls Tryz.prog 70 #[.string (bs d), .string (bs o)] w fun en w' => en = .returned (.tuple #[.string (bs (mPut d o).1), .int .i64 (mPut d o).2]) ∧ Below w.heap.size w w' := by
  have hsd := bs_size d
  have hso := bs_size o
  have HC : Hid (∀ w, Calls Tryz.prog 109 #[.string (bs d), .bool true] w fun en w' => en = .returned (.bool (plB d)) ∧ w = w') := fun w => by
    have h := refName_any d true w (by omega)
    rw [Bool.true_or, Bool.and_true] at h; exact h
  have HC2 : Hid (∀ w, Calls Tryz.prog 109 #[.string (bs o), .bool false] w fun en w' => en = .returned (.bool (plB o && decide (0 < o.length))) ∧ w = w') := fun w => by
    have h := refName_any o false w (by omega)
    rw [Bool.false_or] at h; exact h
  obtain ⟨p, hp⟩ : ∃ p, plB d = p := ⟨_, rfl⟩
  obtain ⟨q, hq⟩ : ∃ q, (plB o && decide (0 < o.length)) = q := ⟨_, rfl⟩
  rw [hp] at HC
  rw [hq] at HC2
  have hP : mPut d o = if p = true ∧ q = true then (if d.length + o.length ≤ 44 then (padT (mBody d o), 0) else ([], 5)) else ([], 2) := by
    have e : (o ≠ [] ∧ plB o = true ∧ plB d = true) ↔ (p = true ∧ q = true) := by
      rw [← hp, ← hq]; simp [List.length_pos_iff]; constructor
      · rintro ⟨h1, h2, h3⟩; exact ⟨h3, h2, h1⟩
      · rintro ⟨h1, h2, h3⟩; exact ⟨h3, h2, h1⟩
    unfold mPut
    by_cases h : p = true ∧ q = true
    · rw [if_pos h, if_pos (e.2 h)]
    · rw [if_neg h, if_neg (fun hh => h (e.1 hh))]
  rw [hP]
  clear hP
  cases p with
  | false =>
    rw [if_neg (by simp)]
    go_enter Tryz.func70, Tryz.ntmps70
    go_wp2_with fail
    with_reducible refine (HC.out _).mono ?_
    rintro en _ ⟨rfl, rfl⟩
    go_wp2
    refine bodyPost_ret (v := .tuple #[.string (bs []), .int .i64 2]) (by simp [results, Tryz.results70, go_sem]; rfl) rfl ⟨rfl, Below.refl _ _⟩
  | true =>
  cases q with
  | false =>
    rw [if_neg (by simp)]
    go_enter Tryz.func70, Tryz.ntmps70
    go_wp2_with fail
    with_reducible refine (HC.out _).mono ?_
    rintro en _ ⟨rfl, rfl⟩
    go_wp2_with fail
    with_reducible refine (HC2.out _).mono ?_
    rintro en _ ⟨rfl, rfl⟩
    go_wp2
    refine bodyPost_ret (v := .tuple #[.string (bs []), .int .i64 2]) (by simp [results, Tryz.results70, go_sem]; rfl) rfl ⟨rfl, Below.refl _ _⟩
  | true =>
  rw [if_pos ⟨rfl, rfl⟩]
  clear hp hq
  by_cases h3 : d.length + o.length ≤ 44
  rotate_left
  · rw [if_neg h3]
    by_cases h4 : 44 < d.length
    · have d4 : decide (44 < (d.length : Int)) = true := decide_eq_true (by omega)
      go_enter Tryz.func70, Tryz.ntmps70
      go_wp2_with fail
      with_reducible refine (HC.out _).mono ?_
      rintro en _ ⟨rfl, rfl⟩
      go_wp2_with fail
      with_reducible refine (HC2.out _).mono ?_
      rintro en _ ⟨rfl, rfl⟩
      go_wp2
      refine bodyPost_ret (v := .tuple #[.string (bs []), .int .i64 5]) (by simp [results, Tryz.results70, go_sem]; rfl) rfl ⟨rfl, Below.refl _ _⟩
    · have d4 : decide (44 < (d.length : Int)) = false := decide_eq_false (by omega)
      by_cases h5 : 44 < o.length
      · have d5 : decide (44 < (o.length : Int)) = true := decide_eq_true (by omega)
        go_enter Tryz.func70, Tryz.ntmps70
        go_wp2_with fail
        with_reducible refine (HC.out _).mono ?_
        rintro en _ ⟨rfl, rfl⟩
        go_wp2_with fail
        with_reducible refine (HC2.out _).mono ?_
        rintro en _ ⟨rfl, rfl⟩
        go_wp2
        refine bodyPost_ret (v := .tuple #[.string (bs []), .int .i64 5]) (by simp [results, Tryz.results70, go_sem]; rfl) rfl ⟨rfl, Below.refl _ _⟩
      · have d5 : decide (44 < (o.length : Int)) = false := decide_eq_false (by omega)
        have d6 : decide (44 < (d.length : Int) + (o.length : Int)) = true := decide_eq_true (by omega)
        go_enter Tryz.func70, Tryz.ntmps70
        go_wp2_with fail
        with_reducible refine (HC.out _).mono ?_
        rintro en _ ⟨rfl, rfl⟩
        go_wp2_with fail
        with_reducible refine (HC2.out _).mono ?_
        rintro en _ ⟨rfl, rfl⟩
        go_wp2
        refine bodyPost_ret (v := .tuple #[.string (bs []), .int .i64 5]) (by simp [results, Tryz.results70, go_sem]; rfl) rfl ⟨rfl, Below.refl _ _⟩
  rw [if_pos h3]
  have d4 : decide (44 < (d.length : Int)) = false := decide_eq_false (by omega)
  have d5 : decide (44 < (o.length : Int)) = false := decide_eq_false (by omega)
  have d6 : decide (44 < (d.length : Int) + (o.length : Int)) = false := decide_eq_false (by omega)
  obtain ⟨T, hT⟩ : ∃ T, mBody d o = T := ⟨_, rfl⟩
  have hbl := mBody_len d o
  rw [hT] at hbl ⊢
  have HT := Lib.hid hT
  have HBL := Lib.hid hbl
  have hw1 := lenB_wrap d
  have hw2 := lenB_wrap o
  obtain ⟨x, hx⟩ : ∃ x : Int, ((lenB d).toNat : Int) = x := ⟨_, rfl⟩
  obtain ⟨y, hy⟩ : ∃ y : Int, ((lenB o).toNat : Int) = y := ⟨_, rfl⟩
  rw [hx] at hw1
  rw [hy] at hw2
  have hx0 : 0 ≤ x ∧ x < 256 := by have := (lenB d).toNat_lt; omega
  have hy0 : 0 ≤ y ∧ y < 256 := by have := (lenB o).toNat_lt; omega
  have hone1 := run_string_one x hx0.1 hx0.2
  have hone2 := run_string_one y hy0.1 hy0.2
  have hX : UInt8.ofNat x.toNat = lenB d := by apply UInt8.toNat_inj.1; simp; omega
  have hY : UInt8.ofNat y.toNat = lenB o := by apply UInt8.toNat_inj.1; simp; omega
  rw [hX] at hone1
  rw [hY] at hone2
  clear hT hbl hx hy hX hY
  by_cases h5 : d = []
  · have e5 : (bs d).toList.isEmpty = true := by rw [empty_eq]; exact decide_eq_true h5
    have hbody : mBody d o = [1] ++ 2 :: lenB o :: o := by unfold mBody; rw [if_pos h5]
    have HBD := Lib.hid hbody
    have hT48 : T.length ≤ 48 := by rw [HBL.out, if_pos h5]; omega
    have a1 : ∀ W : World, (Op.stringOp .add ({ data := #[1] } : ByteArray) { data := #[2] }).run Tryz.prog W = .ok (.string (bs [1, 2])) W := run_add_bs [1] [2] (by simp)
    have a2 := run_add_bs [1, 2] [lenB o] (by simp)
    have a3 := run_add_bs [1, 2, lenB o] o (by simp; omega)
    clear hbody h5
    go_enter Tryz.func70, Tryz.ntmps70
    go_wp2_with fail
    with_reducible refine (HC.out _).mono ?_
    rintro en _ ⟨rfl, rfl⟩
    go_wp2_with fail
    with_reducible refine (HC2.out _).mono ?_
    rintro en _ ⟨rfl, rfl⟩
    go_wp2_with fail
    go_loop [6] (fun s => ∃ k : Nat, k ≤ 48 - T.length ∧ s = .string (bs (T ++ List.replicate k 0))) (fun s => 48 - strSize s)
    case atStart => exact ⟨0, by omega, by rw [← HT.out, HBD.out]; simp⟩
    case round =>
      obtain ⟨k, hk, rfl⟩ := hrel
      obtain ⟨L, hL⟩ : ∃ L, T ++ List.replicate k 0 = L := ⟨_, rfl⟩
      have hLn : L.length = T.length + k := by rw [← hL]; simp
      have hLs : (bs L).size = T.length + k := by rw [bs_size, hLn]
      have hpad : k = 48 - T.length → padT T = L := fun h => by rw [← hL, h]; rfl
      have hnext : T ++ List.replicate (k + 1) 0 = L ++ [0] := by rw [← hL, List.append_assoc, ← List.replicate_succ']
      have HPAD := Lib.hid hpad
      have HNX := Lib.hid hnext
      rw [hL]
      have HL := Lib.hid hL
      clear hL hpad hnext
      have a4 : ∀ W : World, (Op.stringOp .add (bs L) ({ data := #[0] } : ByteArray)).run Tryz.prog W = .ok (.string (bs (L ++ [0]))) W := run_add_bs L [0] (by simp; omega)
      by_cases hlt : T.length + k < 48
      · have dk : decide ((T.length : Int) + (k : Int) < 48) = true := decide_eq_true (by omega)
        go_wp2
        exact ⟨⟨k + 1, by omega, by rw [HNX.out]⟩, by simp [strSize, bs_size]; omega⟩
      · have dk : decide ((T.length : Int) + (k : Int) < 48) = false := decide_eq_false (by omega)
        have hp := HPAD.out (by omega)
        go_wp2
        refine bodyPost_ret (v := .tuple #[.string (bs L), .int .i64 0]) (by simp [results, Tryz.results70, go_sem]) rfl ⟨rfl, ?_⟩
        exact (Below.refl _ _).alloc (Nat.le_refl _) _
  · have e5 : (bs d).toList.isEmpty = false := by rw [empty_eq]; exact decide_eq_false h5
    have hbody : mBody d o = (4 :: lenB d :: d) ++ 2 :: lenB o :: o := by unfold mBody; rw [if_neg h5]
    have HBD := Lib.hid hbody
    have hT48 : T.length ≤ 48 := by rw [HBL.out, if_neg h5]; omega
    obtain ⟨A, hA⟩ : ∃ A, 4 :: lenB d :: d = A := ⟨_, rfl⟩
    have hAl : A.length = d.length + 2 := by rw [← hA]; simp
    have a1 : ∀ W : World, (Op.stringOp .add ({ data := #[4] } : ByteArray) (bs [lenB d])).run Tryz.prog W = .ok (.string (bs [4, lenB d])) W := run_add_bs [4] [lenB d] (by simp)
    have a2 : ∀ W : World, (Op.stringOp .add (bs [4, lenB d]) (bs d)).run Tryz.prog W = .ok (.string (bs A)) W := by rw [← hA]; exact run_add_bs [4, lenB d] d (by simp; omega)
    have a3 : ∀ W : World, (Op.stringOp .add (bs A) ({ data := #[2] } : ByteArray)).run Tryz.prog W = .ok (.string (bs (A ++ [2]))) W := run_add_bs A [2] (by simp; omega)
    have a5 := run_add_bs (A ++ [2]) [lenB o] (by simp; omega)
    have a6 := run_add_bs (A ++ [2] ++ [lenB o]) o (by simp; omega)
    rw [hA] at HBD
    simp only [List.append_assoc, List.cons_append, List.nil_append] at a5 a6
    clear hbody h5 hA
    go_enter Tryz.func70, Tryz.ntmps70
    go_wp2_with fail
    with_reducible refine (HC.out _).mono ?_
    rintro en _ ⟨rfl, rfl⟩
    go_wp2_with fail
    with_reducible refine (HC2.out _).mono ?_
    rintro en _ ⟨rfl, rfl⟩
    go_wp2_with fail
    go_loop [6] (fun s => ∃ k : Nat, k ≤ 48 - T.length ∧ s = .string (bs (T ++ List.replicate k 0))) (fun s => 48 - strSize s)
    case atStart => exact ⟨0, by omega, by rw [← HT.out, HBD.out]; simp⟩
    case round =>
      obtain ⟨k, hk, rfl⟩ := hrel
      obtain ⟨L, hL⟩ : ∃ L, T ++ List.replicate k 0 = L := ⟨_, rfl⟩
      have hLn : L.length = T.length + k := by rw [← hL]; simp
      have hLs : (bs L).size = T.length + k := by rw [bs_size, hLn]
      have hpad : k = 48 - T.length → padT T = L := fun h => by rw [← hL, h]; rfl
      have hnext : T ++ List.replicate (k + 1) 0 = L ++ [0] := by rw [← hL, List.append_assoc, ← List.replicate_succ']
      have HPAD := Lib.hid hpad
      have HNX := Lib.hid hnext
      rw [hL]
      have HL := Lib.hid hL
      clear hL hpad hnext
      have a4 : ∀ W : World, (Op.stringOp .add (bs L) ({ data := #[0] } : ByteArray)).run Tryz.prog W = .ok (.string (bs (L ++ [0]))) W := run_add_bs L [0] (by simp; omega)
      by_cases hlt : T.length + k < 48
      · have dk : decide ((T.length : Int) + (k : Int) < 48) = true := decide_eq_true (by omega)
        go_wp2
        exact ⟨⟨k + 1, by omega, by rw [HNX.out]⟩, by simp [strSize, bs_size]; omega⟩
      · have dk : decide ((T.length : Int) + (k : Int) < 48) = false := decide_eq_false (by omega)
        have hp := HPAD.out (by omega)
        go_wp2
        refine bodyPost_ret (v := .tuple #[.string (bs L), .int .i64 0]) (by simp [results, Tryz.results70, go_sem]) rfl ⟨rfl, ?_⟩
        exact ((Below.refl _ _).alloc (Nat.le_refl _) _).alloc (by simp) _
end Go.Proofs.YtlkdfofpnmpidaaGreat

/- maid: the reference's Take. -/
set_option linter.unusedVariables false
namespace Go.Proofs.YtlkdfofpnmpidaaGreat
open Go.RowKit

theorem getD_append_right' (a b : List UInt8) (i : Nat) (h : a.length ≤ i) : (a ++ b).getD i 0 = b.getD (i - a.length) 0 := by
  simp [List.getD, List.getElem?_append_right h]
theorem mid_cut (A o Z : List UInt8) (n m : Nat) (hn : n = A.length) (hm : m = A.length + o.length) : ((A ++ (o ++ Z)).take m).drop n = o := by
  subst hn; subst hm
  rw [← List.append_assoc, List.take_left' (by simp), List.drop_left' rfl]
/-- Where the reference looks. -/
def atR (l : List UInt8) : Nat := if ((l.getD 0 0).toNat : Int) = 4 then 2 + (l.getD 1 0).toNat else 1
def domR (l : List UInt8) : List UInt8 := if ((l.getD 0 0).toNat : Int) = 4 then (l.take (atR l)).drop 2 else []
def endR (l : List UInt8) : Nat := atR l + 2 + (l.getD (atR l + 1) 0).toNat
def ownR (l : List UInt8) : List UInt8 := (l.take (endR l)).drop (atR l + 2)
theorem lenB_nat (t : List UInt8) (h : t.length < 256) : (lenB t).toNat = t.length := by unfold lenB; simp; omega
theorem ref_put {d o l : List UInt8} (h : mPut d o = (l, 0)) : atR l ≤ 45 ∧ endR l ≤ 48 ∧ domR l = d ∧ ownR l = o := by
  obtain ⟨ho0, _, _, hle, rfl⟩ := mPut_ok h
  have hop : 0 < o.length := List.length_pos_iff.2 ho0
  obtain ⟨Z, hZ⟩ : ∃ Z : List UInt8, List.replicate (48 - (mBody d o).length) 0 = Z := ⟨_, rfl⟩
  have hlo := lenB_nat o (by omega)
  have hld := lenB_nat d (by omega)
  by_cases h5 : d = []
  · subst h5
    have e : padT (mBody [] o) = 1 :: 2 :: lenB o :: (o ++ Z) := by
      unfold padT; rw [hZ]; unfold mBody; simp
    rw [e]
    have ha : atR (1 :: 2 :: lenB o :: (o ++ Z)) = 1 := rfl
    have hd : domR (1 :: 2 :: lenB o :: (o ++ Z)) = [] := rfl
    have he : endR (1 :: 2 :: lenB o :: (o ++ Z)) = 3 + o.length := by
      unfold endR; rw [ha]; simp [hlo]
    refine ⟨by rw [ha]; omega, by rw [he]; simp at hle; omega, hd, ?_⟩
    unfold ownR; rw [ha, he]
    simp [List.take_succ_cons, Nat.add_comm 3]
  · have e : padT (mBody d o) = 4 :: lenB d :: (d ++ (2 :: lenB o :: (o ++ Z))) := by
      unfold padT; rw [hZ]; unfold mBody; simp [h5]
    rw [e]
    have ha : atR (4 :: lenB d :: (d ++ (2 :: lenB o :: (o ++ Z)))) = 2 + d.length := by
      show 2 + (lenB d).toNat = _; rw [hld]
    have hd : domR (4 :: lenB d :: (d ++ (2 :: lenB o :: (o ++ Z)))) = d := by
      unfold domR; rw [ha]; simp [Nat.add_comm 2]
    have hg : (4 :: lenB d :: (d ++ (2 :: lenB o :: (o ++ Z)))).getD (2 + d.length + 1) 0 = lenB o := by
      have : (4 :: lenB d :: (d ++ (2 :: lenB o :: (o ++ Z)))) = (4 :: lenB d :: d) ++ (2 :: lenB o :: (o ++ Z)) := by simp
      rw [this, getD_append_right' _ _ _ (by simp; omega)]
      rw [show 2 + d.length + 1 - (4 :: lenB d :: d).length = 1 by simp; omega]; rfl
    have he : endR (4 :: lenB d :: (d ++ (2 :: lenB o :: (o ++ Z)))) = 4 + d.length + o.length := by
      unfold endR; rw [ha, hg, hlo]; omega
    refine ⟨by rw [ha]; omega, by rw [he]; omega, hd, ?_⟩
    unfold ownR; rw [ha, he]
    have e2 : (4 :: lenB d :: (d ++ (2 :: lenB o :: (o ++ Z)))) = (4 :: lenB d :: (d ++ [2, lenB o])) ++ (o ++ Z) := by simp
    have e3 : (4 :: lenB d :: (d ++ [2, lenB o])).length = 2 + d.length + 2 := by simp; omega
    rw [e2]; exact mid_cut _ o Z _ _ (by rw [e3]) (by rw [e3]; omega)
end Go.Proofs.YtlkdfofpnmpidaaGreat
