/- mac: the walk of MacLevels. -/
import Derived.Test.YtknahemnmboidaaM2
set_option linter.unusedVariables false
namespace Go.Proofs.Ytknahemnmboidaa
open Go.RowKit

theorem level_48 (A : Int) (h0 : 0 ≤ A) (h1 : A < 8) (w : World) : Calls Try.prog 23 #[.agg #[.int .u8 1, .int .u8 128, .int .u8 194, .int .u8 0, .int .u8 0, .int .u8 (48 + A)]] w fun en w' => en = .returned (.tuple #[.int .u8 A, .bool true]) ∧ Below w.heap.size w w' := by
  have h := level_in (48 + A) (by omega) (by omega) w
  rw [show (48 + A) % 8 = A by omega] at h
  exact h
theorem group_48 (A : Int) (w : World) : Calls Try.prog 24 #[.agg #[.int .u8 1, .int .u8 128, .int .u8 194, .int .u8 0, .int .u8 0, .int .u8 (48 + A)]] w fun en w' => en = .returned (.bool true) ∧ Below w.heap.size w w' :=
  group_any 1 128 194 0 0 (48 + A) w (by omega) (by omega)
theorem reserved_48 (A : Int) (h0 : 0 ≤ A) (h1 : A < 8) (w : World) : Calls Try.prog 25 #[.agg #[.int .u8 1, .int .u8 128, .int .u8 194, .int .u8 0, .int .u8 0, .int .u8 (48 + A)]] w fun en w' => en = .returned (.bool false) ∧ Below w.heap.size w w' := by
  have h := reserved_any 1 128 194 0 0 (48 + A) w
  have hr : resB 1 128 194 0 0 (48 + A) = false := by
    have : A = 0 ∨ A = 1 ∨ A = 2 ∨ A = 3 ∨ A = 4 ∨ A = 5 ∨ A = 6 ∨ A = 7 := by omega
    rcases this with rfl | rfl | rfl | rfl | rfl | rfl | rfl | rfl <;> rfl
  rw [hr] at h
  exact h
theorem level_56 (A : Int) (h0 : 0 ≤ A) (h1 : A < 8) (w : World) : Calls Try.prog 23 #[.agg #[.int .u8 1, .int .u8 128, .int .u8 194, .int .u8 0, .int .u8 0, .int .u8 (56 + A)]] w fun en w' => en = .returned (.tuple #[.int .u8 A, .bool true]) ∧ Below w.heap.size w w' := by
  have h := level_in (56 + A) (by omega) (by omega) w
  rw [show (56 + A) % 8 = A by omega] at h
  exact h
theorem group_56 (A : Int) (w : World) : Calls Try.prog 24 #[.agg #[.int .u8 1, .int .u8 128, .int .u8 194, .int .u8 0, .int .u8 0, .int .u8 (56 + A)]] w fun en w' => en = .returned (.bool true) ∧ Below w.heap.size w w' :=
  group_any 1 128 194 0 0 (56 + A) w (by omega) (by omega)
theorem reserved_56 (A : Int) (h0 : 0 ≤ A) (h1 : A < 8) (w : World) : Calls Try.prog 25 #[.agg #[.int .u8 1, .int .u8 128, .int .u8 194, .int .u8 0, .int .u8 0, .int .u8 (56 + A)]] w fun en w' => en = .returned (.bool false) ∧ Below w.heap.size w w' := by
  have h := reserved_any 1 128 194 0 0 (56 + A) w
  have hr : resB 1 128 194 0 0 (56 + A) = false := by
    have : A = 0 ∨ A = 1 ∨ A = 2 ∨ A = 3 ∨ A = 4 ∨ A = 5 ∨ A = 6 ∨ A = 7 := by omega
    rcases this with rfl | rfl | rfl | rfl | rfl | rfl | rfl | rfl <;> rfl
  rw [hr] at h
  exact h
theorem reserved_own (w : World) : Calls Try.prog 25 #[.agg #[.int .u8 1, .int .u8 128, .int .u8 194, .int .u8 0, .int .u8 0, .int .u8 0]] w fun en w' => en = .returned (.bool true) ∧ Below w.heap.size w w' :=
  reserved_any 1 128 194 0 0 0 w

theorem macEq_lvl (A B : Int) : macEq 1 128 194 0 0 (48 + A) 1 128 194 0 0 (48 + B) = decide (A = B) := by
  by_cases h : A = B
  · subst h; simp [macEq]
  · have h2 : (48 + A == 48 + B) = false := beq_eq_false_iff_ne.2 (by omega)
    simp only [macEq, h2, Bool.and_false, decide_eq_false h]
set_option maxRecDepth 100000 in
set_option maxHeartbeats 4000000 in
theorem MacLevels_walk (a b : Int) (w : World) (ha : (Lit.int .u8 a).wf = true) (hb : (Lit.int .u8 b).wf = true) : Calls Try.prog 5 #[.int .u8 a, .int .u8 b] w fun e w' => e = .returned (.bool true) ∧ Below w.heap.size w w' := by
  obtain ⟨a0, a1⟩ := bounds_u8 ha
  obtain ⟨b0, b1⟩ := bounds_u8 hb
  obtain ⟨A, hA⟩ : ∃ A, a.tmod 8 = A := ⟨_, rfl⟩
  obtain ⟨B, hB⟩ : ∃ B, b.tmod 8 = B := ⟨_, rfl⟩
  have hA2 : A = a % 8 := by rw [← hA]; exact Int.tmod_eq_emod_of_nonneg a0
  have hB2 : B = b % 8 := by rw [← hB]; exact Int.tmod_eq_emod_of_nonneg b0
  have A0 : 0 ≤ A := by omega
  have A1 : A < 8 := by omega
  have B0 : 0 ≤ B := by omega
  have B1 : B < 8 := by omega
  clear hA2 hB2 ha hb
  have heq := run_eql_mac
  have hne := run_neq_mac
  have q2 : macEq 1 128 194 0 0 (48 + A) 1 128 194 0 0 (56 + B) = false := by simp [macEq]; omega
  go_enter Try.func5, Try.ntmps5
  go_wp2_with fail
  refine (Check_in A A0 A1 _).mono ?_
  rintro en w1 ⟨rfl, hb1⟩
  go_wp2_with fail
  refine (Check_in B B0 B1 _).mono ?_
  rintro en w2 ⟨rfl, hb2⟩
  have m1 := (MA.new w1 1 128 194 0 0 (48 + A)).later hb2
  obtain ⟨hB2, hz2⟩ := MA.put hb1 hb2
  clear hb1 hb2
  go_wp2_with fail
  refine (Trace_in B B0 B1 _).mono ?_
  rintro en w3 ⟨rfl, hb3⟩
  have m2 := (MA.new w2 1 128 194 0 0 (48 + B)).later hb3
  obtain ⟨hB3, hz3⟩ := MA.put hB2 hb3
  have m1' := m1.later (((Below.refl _ _).alloc (Nat.le_refl _) _).trans (hb3.mono (by simp)))
  clear hB2 hb3 m1
  have x1 := m1'.later ((Below.refl _ _).alloc (Nat.le_refl _) (.cells #[.int .u8 1, .int .u8 128, .int .u8 194, .int .u8 0, .int .u8 0, .int .u8 (56 + B)] 34))
  have x2 := m2.later ((Below.refl _ _).alloc (Nat.le_refl _) (.cells #[.int .u8 1, .int .u8 128, .int .u8 194, .int .u8 0, .int .u8 0, .int .u8 (56 + B)] 34))
  have x3 := MA.new w3 1 128 194 0 0 (56 + B)
  have x4 := hB3.alloc hB3.size (.cells #[.int .u8 1, .int .u8 128, .int .u8 194, .int .u8 0, .int .u8 0, .int .u8 (56 + B)] 34)
  obtain ⟨c0, c1, c2, c3, c4, c5⟩ := id x1
  have X1 := Lib.hid x1
  have X2 := Lib.hid x2
  have X3 := Lib.hid x3
  have X4 := Lib.hid x4
  clear x1 x2 x3 x4 m1' m2 hB3
  go_wp2_with fail
  refine (level_48 A A0 A1 _).mono ?_
  rintro en w4 ⟨rfl, hb4⟩
  have Y1 := Lib.hid (X1.out.later hb4)
  have Y2 := Lib.hid (X2.out.later hb4)
  have Y3 := Lib.hid (X3.out.later hb4)
  have Y4 := Lib.hid (X4.out.trans (hb4.mono X4.out.size))
  clear c0 c1 c2 c3 c4 c5 X1 X2 X3 X4 hb4
  obtain ⟨c0, c1, c2, c3, c4, c5⟩ := Y3.out
  go_wp2_with fail
  refine (level_56 B B0 B1 _).mono ?_
  rintro en w5 ⟨rfl, hb5⟩
  have X1 := Lib.hid (Y1.out.later hb5)
  have X2 := Lib.hid (Y2.out.later hb5)
  have X3 := Lib.hid (Y3.out.later hb5)
  have X4 := Lib.hid (Y4.out.trans (hb5.mono Y4.out.size))
  clear c0 c1 c2 c3 c4 c5 Y1 Y2 Y3 Y4 hb5
  obtain ⟨c0, c1, c2, c3, c4, c5⟩ := X1.out
  obtain ⟨d0, d1, d2, d3, d4, d5⟩ := X2.out
  obtain ⟨e0, e1', e2', e3', e4, e5⟩ := X3.out
  obtain ⟨q, e1, e2, e3⟩ : ∃ q : Bool, macEq 1 128 194 0 0 (48 + A) 1 128 194 0 0 (48 + B) = q ∧ (A == B) = q ∧ decide (A = B) = q := ⟨decide (A = B), macEq_lvl A B, rfl, rfl⟩
  cases q <;>
  · go_wp2_with fail
    refine (group_48 A _).mono ?_
    rintro en w6 ⟨rfl, hb6⟩
    have Y1 := Lib.hid (X1.out.later hb6)
    have Y3 := Lib.hid (X3.out.later hb6)
    have Y4 := Lib.hid (X4.out.trans (hb6.mono X4.out.size))
    clear c0 c1 c2 c3 c4 c5 d0 d1 d2 d3 d4 d5 e0 e1' e2' e3' e4 e5 X1 X2 X3 X4 hb6
    obtain ⟨c0, c1, c2, c3, c4, c5⟩ := Y1.out
    obtain ⟨e0, e1', e2', e3', e4, e5⟩ := Y3.out
    go_wp2_with fail
    refine (group_56 B _).mono ?_
    rintro en w7 ⟨rfl, hb7⟩
    have X1 := Lib.hid (Y1.out.later hb7)
    have X3 := Lib.hid (Y3.out.later hb7)
    have X4 := Lib.hid (Y4.out.trans (hb7.mono Y4.out.size))
    clear c0 c1 c2 c3 c4 c5 e0 e1' e2' e3' e4 e5 Y1 Y3 Y4 hb7
    obtain ⟨c0, c1, c2, c3, c4, c5⟩ := X1.out
    obtain ⟨e0, e1', e2', e3', e4, e5⟩ := X3.out
    go_wp2_with fail
    refine (reserved_48 A A0 A1 _).mono ?_
    rintro en w8 ⟨rfl, hb8⟩
    have Y1 := Lib.hid (X1.out.later hb8)
    have Y3 := Lib.hid (X3.out.later hb8)
    have Y4 := Lib.hid (X4.out.trans (hb8.mono X4.out.size))
    clear c0 c1 c2 c3 c4 c5 e0 e1' e2' e3' e4 e5 X1 X3 X4 hb8
    obtain ⟨c0, c1, c2, c3, c4, c5⟩ := Y1.out
    obtain ⟨e0, e1', e2', e3', e4, e5⟩ := Y3.out
    go_wp2_with fail
    refine (reserved_56 B B0 B1 _).mono ?_
    rintro en w9 ⟨rfl, hb9⟩
    have X1 := Lib.hid (Y1.out.later hb9)
    have X3 := Lib.hid (Y3.out.later hb9)
    have X4 := Lib.hid (Y4.out.trans (hb9.mono Y4.out.size))
    clear c0 c1 c2 c3 c4 c5 e0 e1' e2' e3' e4 e5 Y1 Y3 Y4 hb9
    obtain ⟨c0, c1, c2, c3, c4, c5⟩ := X1.out
    obtain ⟨e0, e1', e2', e3', e4, e5⟩ := X3.out
    go_wp2_with fail
    refine (own_any _).mono ?_
    rintro en w10 ⟨rfl, hb10⟩
    have Y4 := Lib.hid (X4.out.trans (hb10.mono X4.out.size))
    clear c0 c1 c2 c3 c4 c5 e0 e1' e2' e3' e4 e5 X1 X3 X4 hb10
    go_wp2_with fail
    refine (reserved_own _).mono ?_
    rintro en w11 ⟨rfl, hb11⟩
    have X4 := Lib.hid (Y4.out.trans (hb11.mono Y4.out.size))
    clear Y4 hb11
    go_wp2_with fail
    refine (wakes2_any _).mono ?_
    rintro en w12 ⟨rfl, hb12⟩
    have Y4 := Lib.hid (X4.out.trans (hb12.mono X4.out.size))
    clear X4 hb12
    go_wp2_with fail
    go_ret
    exact ⟨rfl, Y4.out⟩
end Go.Proofs.Ytknahemnmboidaa
