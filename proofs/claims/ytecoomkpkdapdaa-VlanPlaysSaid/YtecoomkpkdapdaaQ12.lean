/- vlan: Drop. -/
import Derived.Test.YtecoomkpkdapdaaQ11
set_option linter.unusedVariables false
namespace Go.Proofs.Ytecoomkpkdapdaa
open Go.RowKit

set_option maxRecDepth 100000 in
set_option maxHeartbeats 8000000 in
theorem vdrop_any (q m : Nat) (n : Int) (o : List Int) (V : List Vn) (k : Int) (w : World) (hs : TS w q n m o V) (hk : 0 ≤ k ∧ k < 65536) :
    Calls Try.prog 23 #[.pointer (some ⟨q, 0, none⟩), .int .u16 k] w fun en w' => en = .returned (.int .i64 (dropErr V k)) ∧ TS w' q n m o (dropV V k) ∧ Only m w w' := by
  obtain ⟨R, hR⟩ : ∃ R, dropErr V k = R := ⟨_, rfl⟩
  obtain ⟨V', hV⟩ : ∃ X, dropV V k = X := ⟨_, rfl⟩
  rw [hR, hV]
  unfold dropV at hV
  rw [hR] at hV
  unfold dropErr at hR
  have HV := Lib.hid hV
  have HR := Lib.hid hR
  clear hV hR
  have MY : Hid (∀ w, Calls Try.prog 59 #[.int .u16 k] w fun en w' => en = .returned (.bool (decide (1 ≤ k ∧ k ≤ 4094))) ∧ Below w.heap.size w w') := Lib.hid fun w => vmay_any k w
  have TS0 := Lib.hid hs
  have HK := Lib.hid hk
  clear hs
  go_enter Try.func23, Try.ntmps23
  go_wp2_with fail
  with_reducible refine (MY.out _).mono ?_
  rintro en w1 ⟨rfl, hb1⟩
  have TS1 := Lib.hid (TS0.out.later hb1)
  have HB1 := Lib.hid hb1
  clear hb1 TS0
  by_cases h1 : 1 ≤ k ∧ k ≤ 4094
  rotate_left
  · have d1 : decide (1 ≤ k ∧ k ≤ 4094) = false := decide_eq_false h1
    have hR2 : R = 2 := by rw [← HR.out, if_pos h1]
    have hV2 : V' = V := by rw [← HV.out, hR2]; rfl
    have HR2 := Lib.hid hR2
    have HV2 := Lib.hid hV2
    clear h1 hR2 hV2
    go_wp2
    go_ret
    exact ⟨by rw [HR2.out]; rfl, by rw [HV2.out]; exact TS1.out, below_only HB1.out⟩
  · have d1 : decide (1 ≤ k ∧ k ≤ 4094) = true := decide_eq_true h1
    have HR3 : Hid ((if (vFind V k).isSome = false then (7 : Int) else 0) = R) := Lib.hid (by have h := HR.out; rw [if_neg (not_not_intro h1)] at h; exact h)
    have lk := TS1.out.vm.look k HK.out
    have c1 := TS1.out.tb.c1
    obtain ⟨e1, he1⟩ : ∃ e, (vGet V k).1 = e := ⟨_, rfl⟩
    obtain ⟨e2, he2⟩ : ∃ e, (vGet V k).2 = e := ⟨_, rfl⟩
    obtain ⟨S, hS⟩ : ∃ S, (vFind V k).isSome = S := ⟨_, rfl⟩
    rw [he1, he2, hS] at lk
    rw [hS] at HR3
    have HSS := Lib.hid hS
    clear h1 he1 he2 hS
    go_upto_region 6 with fail
    have bb : Below w1.heap.size w1 (w1.alloc (.cells #[.int .u8 e1, .int .u8 e2] 110)) := (Below.refl _ _).alloc (Nat.le_refl _) _
    have TS2 := Lib.hid (TS1.out.later bb)
    have HB2 := Lib.hid (HB1.out.trans (bb.mono HB1.out.size))
    obtain ⟨w2, hw2⟩ : ∃ x, w1.alloc (.cells #[.int .u8 e1, .int .u8 e2] 110) = x := ⟨_, rfl⟩
    rw [hw2] at TS2 HB2 ⊢
    clear bb hw2 c1 lk TS1 HB1 d1
    have c1 := TS2.out.tb.c1
    cases S
    · have hR7 : R = 7 := by rw [← HR3.out]; rfl
      have hV2 : V' = V := by rw [← HV.out, hR7]; rfl
      have HR7 := Lib.hid hR7
      have HV2 := Lib.hid hV2
      clear hR7 hV2
      go_wp2
      go_ret
      exact ⟨by rw [HR7.out]; rfl, by rw [HV2.out]; exact TS2.out, below_only HB2.out⟩
    · have hR0 : R = 0 := by rw [← HR3.out]; rfl
      have hV2 : V' = vDel V k := by rw [← HV.out, hR0]; rfl
      have HR0 := Lib.hid hR0
      have HV2 := Lib.hid hV2
      have dr := fun ty => TS2.out.vm.drop k HK.out ty
      obtain ⟨w3, run, vm3, hg⟩ := dr 0
      have t := TS2.out
      have HZ : Hid (TS w3 q n m o (vDel V k) ∧ Only m w w3) := Lib.hid ⟨⟨t.tb.blk (hg.block q t.tb.lt (by intro e; injection e with e; exact t.ne e)), vm3, t.ne, t.ol, t.n1, Nat.le_trans (List.length_filter_le _ _) t.vl, t.ow⟩, (below_only HB2.out).trans hg⟩
      clear hR0 hV2 dr vm3 hg t
      go_wp2
      go_ret
      exact ⟨by rw [HR0.out]; rfl, by rw [HV2.out]; exact HZ.out.1, HZ.out.2⟩
end Go.Proofs.Ytecoomkpkdapdaa
