/- tlv: the known row; the walks of TlvPuts and TlvTakes. -/
import Derived.Test.YtblmpndaofhmjaaT10
import Derived.Test.YtblmpndaofhmjaaT7
import Derived.Test.YtblmpndaofhmjaaT5
import Derived.Test.YtblmpndaofhmjaaT4
import Derived.Test.YtblmpndaofhmjaaT3
import Derived.Test.YtblmpndaofhmjaaT1
set_option linter.unusedVariables false
namespace Go.Proofs.Ytblmpndaofhmjaa
open Go.RowKit

theorem takeT_known : takeT [3, 0, 2, 97, 98, 0, 7] = ([(3, [97, 98])], [7], 0) := by
  have h := takeT_cons 3 0 [97, 98] [0, 7] 0 2 (by decide) rfl
  rw [takeT_zero] at h
  exact h
theorem byt_u8 (a : Int) (h : (Lit.int .u8 a).wf = true) : ∃ k : UInt8, (k.toNat : Int) = a := by
  have := bounds_u8 h
  exact ⟨UInt8.ofNat a.toNat, by simp; omega⟩

set_option maxRecDepth 100000 in
set_option maxHeartbeats 4000000 in
theorem wakes11_any (w : World) : Calls Try.prog 21 #[] w fun en w' => en = .returned (.bool true) ∧ Below w.heap.size w w' := by
  have kk : Below w.heap.size w (w.alloc (.cells #[.int .u8 3, .string { data := #[97, 98] }] 92)) := (Below.refl _ _).alloc (Nat.le_refl _) _
  have C1 : Hid (Calls Try.prog 22 #[.slice (some ⟨w.heap.size, 0, none⟩) 1 1] (w.alloc (.cells #[.int .u8 3, .string { data := #[97, 98] }] 92)) fun en w' => en = .returned (.tuple #[.string { data := #[3, 0, 2, 97, 98, 0] }, .int .i64 0]) ∧ Below (w.alloc (.cells #[.int .u8 3, .string { data := #[97, 98] }] 92)).heap.size (w.alloc (.cells #[.int .u8 3, .string { data := #[97, 98] }] 92)) w') :=
    tput_any _ [(3, [97, 98])] _ (TlT.lit w 0 (3, [97, 98]) (Nat.zero_le _)).tls (by simp) (by simp [maxLen])
  have hadd : ∀ W : World, (Op.stringOp .add ({ data := #[3, 0, 2, 97, 98, 0] } : ByteArray) { data := #[7] }).run Try.prog W = .ok (.string (bs [3, 0, 2, 97, 98, 0, 7])) W := run_add_bs [3, 0, 2, 97, 98, 0] [7] (by simp)
  have hadd2 : ({ data := #[3, 0, 2, 97, 98, 0] } : ByteArray) ++ { data := #[7] } = bs [3, 0, 2, 97, 98, 0, 7] := bs_append [3, 0, 2, 97, 98, 0] [7]
  have C2 : Hid (∀ w, Calls Try.prog 27 #[.string (bs [3, 0, 2, 97, 98, 0, 7])] w fun en w' => ∃ v', en = .returned (.tuple #[v', .string { data := #[7] }, .int .i64 0]) ∧ TlT w' w.heap.size v' [(3, [97, 98])] ∧ Below w.heap.size w w') := fun w => by
    have h := ttake_any [3, 0, 2, 97, 98, 0, 7] w (by simp)
    rw [takeT_known] at h; exact h
  have KK := Lib.hid kk
  clear kk
  go_enter Try.func21, Try.ntmps21
  go_wp2_with fail
  with_reducible refine C1.out.mono ?_
  rintro en w1 ⟨rfl, hb1⟩
  have HB1 := Lib.hid (KK.out.trans (hb1.mono KK.out.size))
  clear hb1
  go_wp2_with fail
  with_reducible refine (C2.out _).mono ?_
  rintro en w2 ⟨v', rfl, hown, hb2⟩
  have HB2 := Lib.hid (HB1.out.trans (hb2.mono HB1.out.size))
  have HF := Lib.hid (find_any v' [(3, [97, 98])] 3 w2 hown.tls (by simp))
  obtain ⟨a, c, rfl, _⟩ := hown.tls.shape
  have C3 : Hid (Calls Try.prog 25 #[.slice a 1 c, .int .u8 3] w2 fun en w' => en = .returned (.tuple #[.string { data := #[97, 98] }, .bool true]) ∧ Below w2.heap.size w2 w') := HF.out
  clear hb2 hown HF
  go_wp2_with fail
  with_reducible refine C3.out.mono ?_
  rintro en w3 ⟨rfl, hb3⟩
  have HB3 := Lib.hid (HB2.out.trans (hb3.mono HB2.out.size))
  clear hb3
  go_wp2
  go_ret
  exact ⟨rfl, HB3.out⟩

set_option maxRecDepth 100000 in
set_option maxHeartbeats 4000000 in
theorem TlvPuts_walk (v : Value) (l : List Th) (k0 : Int) (w : World) (hv : Tls w v l ∧ l.length ≤ maxLen ∧ ∀ x ∈ l, x.2.length ≤ maxLen) (hk : (Lit.int .u8 k0).wf = true) : Calls Try.prog 6 #[v, .int .u8 k0] w fun en w' => en = .returned (.bool true) ∧ Below w.heap.size w w' := by
  obtain ⟨hv, hl, hs⟩ := hv
  obtain ⟨k, hkk⟩ := byt_u8 k0 hk
  clear hk
  have G := Lib.hid (great_any v l w hv hl hs)
  cases hg : grT l with
  | true =>
    rw [hg] at G
    clear hv hl hs hkk hg
    go_enter Try.func6, Try.ntmps6
    go_wp2_with fail
    with_reducible refine G.out.mono ?_
    rintro en _ ⟨rfl, rfl⟩
    go_wp2_with fail
    with_reducible refine (wakes11_any _).mono ?_
    rintro en w1 ⟨rfl, hb⟩
    go_wp2
    go_ret
    exact ⟨rfl, hb⟩
  | false =>
    rw [hg] at G
    have hl3 : l.length ≤ 30 := by
      unfold grT at hg; rw [Bool.or_eq_false_iff] at hg
      have := of_decide_eq_false hg.1; omega
    obtain ⟨A, e, hP⟩ : ∃ A e, putT l = (A, e) := ⟨_, _, rfl⟩
    obtain ⟨F, b, hF⟩ : ∃ F b, findT l k = (F, b) := ⟨_, _, rfl⟩
    have HV := Lib.hid hv
    have HS := Lib.hid hs
    have P1 : Hid (∀ v w, Tls w v l → Calls Try.prog 22 #[v] w fun en w' => en = .returned (.tuple #[.string (bs A), .int .i64 e]) ∧ Below w.heap.size w w') := fun v w h => by
      have h := tput_any v l w h (by omega) hs
      rw [hP] at h; exact h
    have P2 : Hid (∀ w, Tls w v l → Calls Try.prog 24 #[v] w fun en w' => en = .returned (.tuple #[.string (bs A), .int .i64 e]) ∧ Below w.heap.size w w') := fun w h => by
      have h := refPut11_any v l w h (by omega) hs
      rw [hP] at h; exact h
    have P3 : Hid (∀ v w, Tls w v l → Calls Try.prog 25 #[v, .int .u8 k0] w fun en w' => en = .returned (.tuple #[.string (bs F), .bool b]) ∧ Below w.heap.size w w') := fun v w h => by
      have h := find_any v l k w h (by omega)
      rw [hF, hkk] at h; exact h
    have P4 : Hid (∀ w, Tls w v l → Calls Try.prog 26 #[v, .int .u8 k0] w fun en w' => en = .returned (.tuple #[.string (bs F), .bool b]) ∧ w = w') := fun w h => by
      have h := refFind_any v l k w h (by omega)
      rw [hF, hkk] at h; exact h
    have P5 : Hid (∀ w, Tls w v l → Calls Try.prog 23 #[v] w fun en w' => ∃ v', en = .returned v' ∧ TlT w' w.heap.size v' l ∧ Below w.heap.size w w') := fun w h => of11_any v l w h (by omega)
    have bb : (b == b) = true := by simp
    clear hv hl hs hkk hg hP hF hl3
    go_enter Try.func6, Try.ntmps6
    go_wp2_with fail
    with_reducible refine G.out.mono ?_
    rintro en _ ⟨rfl, rfl⟩
    go_wp2_with fail
    with_reducible refine (P5.out w HV.out).mono ?_
    rintro en w1 ⟨v1, rfl, ho1, hb1⟩
    have HO1 := Lib.hid ho1
    have HB1 := Lib.hid hb1
    clear ho1 hb1
    go_wp2_with fail
    with_reducible refine (P1.out v1 w1 HO1.out.tls).mono ?_
    rintro en w2 ⟨rfl, hb2⟩
    have HB2 := Lib.hid (HB1.out.trans (hb2.mono HB1.out.size))
    clear hb2 HO1
    go_wp2_with fail
    with_reducible refine (P2.out w2 (HV.out.later HB2.out)).mono ?_
    rintro en w3 ⟨rfl, hb3⟩
    have HB3 := Lib.hid (HB2.out.trans (hb3.mono HB2.out.size))
    clear hb3
    go_wp2_with fail
    with_reducible refine (P5.out w3 (HV.out.later HB3.out)).mono ?_
    rintro en w4 ⟨v4, rfl, ho4, hb4⟩
    have HO4 := Lib.hid ho4
    have HB4 := Lib.hid (HB3.out.trans (hb4.mono HB3.out.size))
    clear ho4 hb4
    go_wp2_with fail
    with_reducible refine (P3.out v4 w4 HO4.out.tls).mono ?_
    rintro en w5 ⟨rfl, hb5⟩
    have HB5 := Lib.hid (HB4.out.trans (hb5.mono HB4.out.size))
    clear hb5 HO4
    go_wp2_with fail
    with_reducible refine (P4.out w5 (HV.out.later HB5.out)).mono ?_
    rintro en _ ⟨rfl, rfl⟩
    go_wp2_with fail
    with_reducible refine (wakes11_any _).mono ?_
    rintro en w6 ⟨rfl, hb6⟩
    go_wp2
    go_ret
    exact ⟨rfl, HB5.out.trans (hb6.mono HB5.out.size)⟩

set_option maxRecDepth 100000 in
set_option maxHeartbeats 4000000 in
theorem TlvTakes_walk (t : ByteArray) (w : World) (ht : t.size ≤ maxLen) : Calls Try.prog 7 #[.string t] w fun en w' => en = .returned (.bool true) ∧ Below w.heap.size w w' := by
  unfold maxLen at ht
  by_cases h1 : 2000 < t.size
  · go_enter Try.func7, Try.ntmps7
    go_wp2_with fail
    with_reducible refine (wakes11_any _).mono ?_
    rintro en w1 ⟨rfl, hb⟩
    go_wp2
    go_ret
    exact ⟨rfl, hb⟩
  obtain ⟨s, rfl⟩ : ∃ l, t = bs l := ⟨_, bs_of t⟩
  rw [bs_size] at h1 ht
  have hsz := bs_size s
  have hlen := takeT_len _ s (Nat.le_refl _)
  obtain ⟨l, r, e, hT⟩ : ∃ l r e, takeT s = (l, r, e) := ⟨_, _, _, rfl⟩
  rw [hT] at hlen
  have hl2 : l.length ≤ 100000 := by simp at hlen; omega
  have P1 : Hid (∀ w, Calls Try.prog 27 #[.string (bs s)] w fun en w' => ∃ v', en = .returned (.tuple #[v', .string (bs r), .int .i64 e]) ∧ TlT w' w.heap.size v' l ∧ Below w.heap.size w w') := fun w => by
    have h := ttake_any s w (by omega)
    rw [hT] at h; exact h
  have P2 : Hid (∀ w, Calls Try.prog 28 #[.string (bs s)] w fun en w' => ∃ v', en = .returned (.tuple #[v', .string (bs r), .int .i64 e]) ∧ TlR w' w.heap.size v' l ∧ Below w.heap.size w w') := fun w => by
    have h := refTake11_any _ s w (Nat.le_refl _) (by omega)
    rw [hT] at h; exact h
  clear hT hlen
  go_enter Try.func7, Try.ntmps7
  go_wp2_with fail
  with_reducible refine (P1.out w).mono ?_
  rintro en w1 ⟨v1, rfl, ho1, hb1⟩
  have HO1 := Lib.hid ho1
  have HB1 := Lib.hid hb1
  clear ho1 hb1
  go_wp2_with fail
  with_reducible refine (P2.out w1).mono ?_
  rintro en w2 ⟨v2, rfl, ho2, hb2⟩
  have HO2 := Lib.hid ho2
  have HO12 := Lib.hid (HO1.out.later hb2)
  have HB2 := Lib.hid (HB1.out.trans (hb2.mono HB1.out.size))
  clear ho2 hb2 HO1
  go_wp2_with fail
  with_reducible refine (of11_any v2 l w2 HO2.out.tls hl2).mono ?_
  rintro en w3 ⟨v3, rfl, ho3, hb3⟩
  have HO3 := Lib.hid ho3
  have HO13 := Lib.hid (HO12.out.later hb3)
  have HB3 := Lib.hid (HB2.out.trans (hb3.mono HB2.out.size))
  clear ho3 hb3 HO2 HO12
  have C := Lib.hid (same_any v1 v3 l l w3 HO13.out.tls HO3.out.tls hl2 hl2)
  rw [show decide (l = l) = true from decide_eq_true rfl] at C
  go_wp2_with fail
  with_reducible refine C.out.mono ?_
  rintro en w4 ⟨rfl, hb4⟩
  have HB4 := Lib.hid (HB3.out.trans (hb4.mono HB3.out.size))
  clear hb4
  go_wp2_with fail
  with_reducible refine (wakes11_any _).mono ?_
  rintro en w5 ⟨rfl, hb5⟩
  go_wp2
  go_ret
  exact ⟨rfl, HB4.out.trans (hb5.mono HB4.out.size)⟩
end Go.Proofs.Ytblmpndaofhmjaa
