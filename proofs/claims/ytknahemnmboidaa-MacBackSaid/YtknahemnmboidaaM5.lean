/- mac: the walk of MacMakes. -/
import Derived.Test.YtknahemnmboidaaM4
set_option linter.unusedVariables false
namespace Go.Proofs.Ytknahemnmboidaa
open Go.RowKit

theorem refOf_all (w : World) : Calls Try.prog 36 #[.int .u64 281474976710655] w fun en w' => en = .returned (.agg #[.int .u8 255, .int .u8 255, .int .u8 255, .int .u8 255, .int .u8 255, .int .u8 255]) ∧ Below w.heap.size w w' :=
  refOf_any 281474976710655 w (by omega) (by omega)
theorem macEq_refl (a b c d e f : Int) : macEq a b c d e f a b c d e f = true := by simp [macEq]

set_option maxRecDepth 100000 in
set_option maxHeartbeats 4000000 in
theorem MacMakes_walk (a n : Int) (w : World) (ha : (Lit.int .u8 a).wf = true) (hn : (Lit.int .u64 n).wf = true) : Calls Try.prog 7 #[.int .u8 a, .int .u64 n] w fun e w' => e = .returned (.bool true) ∧ Below w.heap.size w w' := by
  obtain ⟨a0, a1⟩ := bounds_u8 ha
  obtain ⟨n0, n1⟩ := bounds_u64 hn
  obtain ⟨A, hA⟩ : ∃ A, a % 8 = A := ⟨_, rfl⟩
  have A0 : 0 ≤ A := by omega
  have A1 : A < 8 := by omega
  have heq := run_eql_mac
  have hrf := macEq_refl
  have hm0 : a.tmod 8 = A := by rw [Int.tmod_eq_emod_of_nonneg a0, hA]
  obtain ⟨b, hb⟩ : ∃ b, n % 281474976710656 = b := ⟨_, rfl⟩
  by_cases h8 : 7 < a
  · by_cases h4 : n < 281474976710656
    · have d1 : decide (7 < a) = true := by simpa using h8
      have d2 : decide (a < 8) = false := by simp; omega
      have hC : ∀ w, Calls Try.prog 21 #[.int .u8 a] w fun en w' => en = .returned (.tuple #[.agg #[.int .u8 0, .int .u8 0, .int .u8 0, .int .u8 0, .int .u8 0, .int .u8 0], .bool false]) ∧ Below w.heap.size w w' := by
        intro w
        have h := Check_any a w (by omega) (by omega)
        unfold grpV at h
        rw [if_pos (by omega)] at h
        exact h
      have hT : ∀ w, Calls Try.prog 22 #[.int .u8 a] w fun en w' => en = .returned (.tuple #[.agg #[.int .u8 0, .int .u8 0, .int .u8 0, .int .u8 0, .int .u8 0, .int .u8 0], .bool false]) ∧ Below w.heap.size w w' := by
        intro w
        have h := Trace_any a w (by omega) (by omega)
        unfold grpV at h
        rw [if_pos (by omega)] at h
        exact h
      have HC := Lib.hid hC
      have HT := Lib.hid hT
      clear hC hT
      have d3 : decide (281474976710656 ≤ n) = false := by simp; omega
      have d4 : decide (n < 281474976710656) = true := by simp; omega
      have hbn : b = n := by omega
      obtain ⟨z0, z1, z2, z3, z4, z5, hO, hR⟩ : ∃ z0 z1 z2 z3 z4 z5 : Int, (∀ w, Calls Try.prog 35 #[.int .u64 n] w fun en w' => en = .returned (.tuple #[.agg #[.int .u8 z0, .int .u8 z1, .int .u8 z2, .int .u8 z3, .int .u8 z4, .int .u8 z5], .bool true]) ∧ Below w.heap.size w w') ∧ (∀ w, Calls Try.prog 36 #[.int .u64 b] w fun en w' => en = .returned (.agg #[.int .u8 z0, .int .u8 z1, .int .u8 z2, .int .u8 z3, .int .u8 z4, .int .u8 z5]) ∧ Below w.heap.size w w') := by
        refine ⟨n / 256 / 256 / 256 / 256 / 256 % 256, n / 256 / 256 / 256 / 256 % 256, n / 256 / 256 / 256 % 256, n / 256 / 256 % 256, n / 256 % 256, n % 256, fun w => ?_, fun w => ?_⟩
        · have h := of2_any n w n0 (by omega)
          unfold ofV at h
          rw [if_pos h4] at h
          exact h
        · rw [hbn]; exact refOf_any n w (by omega) (by omega)
      have HO := Lib.hid hO
      have HR := Lib.hid hR
      clear hO hR hbn
      go_enter Try.func7, Try.ntmps7
      go_wp2_with fail
      refine (HC.out _).mono ?_
      rintro en w1 ⟨rfl, hb1⟩
      go_wp2_with fail
      refine (HT.out _).mono ?_
      rintro en w2 ⟨rfl, hb2⟩
      have m1 := (MA.new w1 0 0 0 0 0 0).later hb2
      obtain ⟨hB2, hz2⟩ := MA.put hb1 hb2
      clear hb1 hb2
      go_wp2_with fail
      refine (refLevels_any A _ A0 A1).mono ?_
      rintro en w3 ⟨rfl, hb3⟩
      have m2 := (MA.new w2 0 0 0 0 0 0).later hb3
      obtain ⟨hB3, hz3⟩ := MA.put hB2 hb3
      have m1' := m1.later (((Below.refl _ _).alloc (Nat.le_refl _) _).trans (hb3.mono (by simp)))
      clear hB2 hb3 m1
      have kk : Below w3.heap.size w3 ((w3.alloc (.cells #[.int .u8 0, .int .u8 0, .int .u8 0, .int .u8 0, .int .u8 0, .int .u8 0] 34)).alloc (.cells #[.int .u8 0, .int .u8 0, .int .u8 0, .int .u8 0, .int .u8 0, .int .u8 0] 34)) := ((Below.refl _ _).alloc (Nat.le_refl _) _).alloc (by simp) _
      have X1 := Lib.hid (m1'.later kk)
      have X2 := Lib.hid (m2.later kk)
      have X3 : Hid (MA ((w3.alloc (.cells #[.int .u8 0, .int .u8 0, .int .u8 0, .int .u8 0, .int .u8 0, .int .u8 0] 34)).alloc (.cells #[.int .u8 0, .int .u8 0, .int .u8 0, .int .u8 0, .int .u8 0, .int .u8 0] 34)) w3.heap.size 0 0 0 0 0 0) := (MA.new w3 0 0 0 0 0 0).later ((Below.refl _ _).alloc (Nat.le_refl _) _)
      have X4 : Hid (MA ((w3.alloc (.cells #[.int .u8 0, .int .u8 0, .int .u8 0, .int .u8 0, .int .u8 0, .int .u8 0] 34)).alloc (.cells #[.int .u8 0, .int .u8 0, .int .u8 0, .int .u8 0, .int .u8 0, .int .u8 0] 34)) (w3.heap.size + 1) 0 0 0 0 0 0) := by
        have h := MA.new (w3.alloc (.cells #[.int .u8 0, .int .u8 0, .int .u8 0, .int .u8 0, .int .u8 0, .int .u8 0] 34)) 0 0 0 0 0 0
        have e : (w3.alloc (.cells #[.int .u8 0, .int .u8 0, .int .u8 0, .int .u8 0, .int .u8 0, .int .u8 0] 34)).heap.size = w3.heap.size + 1 := by simp
        rw [e] at h
        exact h
      have X5 := Lib.hid (hB3.trans (kk.mono hB3.size))
      have hz4 : w3.heap.size + 2 = ((w3.alloc (.cells #[.int .u8 0, .int .u8 0, .int .u8 0, .int .u8 0, .int .u8 0, .int .u8 0] 34)).alloc (.cells #[.int .u8 0, .int .u8 0, .int .u8 0, .int .u8 0, .int .u8 0, .int .u8 0] 34)).heap.size := by simp
      clear m1' m2 hB3 kk
      go_wp2_with fail
      refine (HO.out _).mono ?_
      rintro en w4 ⟨rfl, hb4⟩
      have Y1 := X1.out.later hb4
      have Y2 := X2.out.later hb4
      have Y3 := X3.out.later hb4
      have Y4 := X4.out.later hb4
      have Y5 := X5.out.trans (hb4.mono X5.out.size)
      clear X1 X2 X3 X4 X5 hb4
      go_wp2_with fail
      refine (HR.out _).mono ?_
      rintro en w5 ⟨rfl, hb5⟩
      have hz5 := hb5.size
      simp at hz5
      have kk : Below w4.heap.size w4 (w5.alloc (.cells #[.int .u8 z0, .int .u8 z1, .int .u8 z2, .int .u8 z3, .int .u8 z4, .int .u8 z5] 34)) := (((Below.refl _ _).alloc (Nat.le_refl _) _).trans (hb5.mono (by simp))).alloc (by omega) _
      have m11 : MA (w5.alloc (.cells #[.int .u8 z0, .int .u8 z1, .int .u8 z2, .int .u8 z3, .int .u8 z4, .int .u8 z5] 34)) w4.heap.size z0 z1 z2 z3 z4 z5 := ((MA.new w4 z0 z1 z2 z3 z4 z5).later hb5).later ((Below.refl _ _).alloc (Nat.le_refl _) _)
      have m13 : MA (w5.alloc (.cells #[.int .u8 z0, .int .u8 z1, .int .u8 z2, .int .u8 z3, .int .u8 z4, .int .u8 z5] 34)) w5.heap.size z0 z1 z2 z3 z4 z5 := MA.new w5 z0 z1 z2 z3 z4 z5
      have m5 := Y1.later kk
      have m7 := Y2.later kk
      have m9 := Y3.later kk
      have m10 := Y4.later kk
      have HB := Lib.hid (Y5.trans (kk.mono Y5.size))
      clear Y1 Y2 Y3 Y4 Y5 kk hb5
      obtain ⟨g0, g1, g2, g3, g4, g5⟩ := m5
      obtain ⟨h0, h1, h2, h3, h4, h5⟩ := m7
      obtain ⟨i0, i1, i2, i3, i4, i5⟩ := m9
      obtain ⟨j0, j1, j2, j3, j4, j5⟩ := m10
      obtain ⟨k0, k1, k2, k3, k4, k5⟩ := m11
      obtain ⟨l0, l1, l2, l3, l4, l5⟩ := m13
      go_wp2_with fail
      refine (all_any _).mono ?_
      rintro en w6 ⟨rfl, hb6⟩
      have HB6 := Lib.hid (HB.out.trans (hb6.mono HB.out.size))
      clear g0 g1 g2 g3 g4 g5 h0 h1 h2 h3 h4 h5 i0 i1 i2 i3 i4 i5 j0 j1 j2 j3 j4 j5 k0 k1 k2 k3 k4 k5 l0 l1 l2 l3 l4 l5 hb6
      go_wp2_with fail
      refine (refOf_all _).mono ?_
      rintro en w7 ⟨rfl, hb7⟩
      have HB7 := Lib.hid (HB6.out.trans (hb7.mono HB6.out.size))
      clear hb7
      go_wp2_with fail
      refine (own_any _).mono ?_
      rintro en w8 ⟨rfl, hb8⟩
      have HB8 := Lib.hid (HB7.out.trans (hb8.mono HB7.out.size))
      clear hb8
      go_wp2_with fail
      refine (wakes2_any _).mono ?_
      rintro en w9 ⟨rfl, hb9⟩
      have HB9 := Lib.hid (HB8.out.trans (hb9.mono HB8.out.size))
      clear hb9
      go_wp2
      go_ret
      exact ⟨rfl, HB9.out⟩
    · have d1 : decide (7 < a) = true := by simpa using h8
      have d2 : decide (a < 8) = false := by simp; omega
      have hC : ∀ w, Calls Try.prog 21 #[.int .u8 a] w fun en w' => en = .returned (.tuple #[.agg #[.int .u8 0, .int .u8 0, .int .u8 0, .int .u8 0, .int .u8 0, .int .u8 0], .bool false]) ∧ Below w.heap.size w w' := by
        intro w
        have h := Check_any a w (by omega) (by omega)
        unfold grpV at h
        rw [if_pos (by omega)] at h
        exact h
      have hT : ∀ w, Calls Try.prog 22 #[.int .u8 a] w fun en w' => en = .returned (.tuple #[.agg #[.int .u8 0, .int .u8 0, .int .u8 0, .int .u8 0, .int .u8 0, .int .u8 0], .bool false]) ∧ Below w.heap.size w w' := by
        intro w
        have h := Trace_any a w (by omega) (by omega)
        unfold grpV at h
        rw [if_pos (by omega)] at h
        exact h
      have HC := Lib.hid hC
      have HT := Lib.hid hT
      clear hC hT
      have d3 : decide (281474976710656 ≤ n) = true := by simp; omega
      have d4 : decide (n < 281474976710656) = false := by simp; omega
      have hO : ∀ w, Calls Try.prog 35 #[.int .u64 n] w fun en w' => en = .returned (.tuple #[.agg #[.int .u8 0, .int .u8 0, .int .u8 0, .int .u8 0, .int .u8 0, .int .u8 0], .bool false]) ∧ Below w.heap.size w w' := by
        intro w
        have h := of2_any n w n0 (by omega)
        unfold ofV at h
        rw [if_neg h4] at h
        exact h
      have hR : ∀ w, Calls Try.prog 36 #[.int .u64 b] w fun en w' => en = .returned (ofA b) ∧ Below w.heap.size w w' := fun w => refOf_any b w (by omega) (by omega)
      unfold ofA at hR
      have HO := Lib.hid hO
      have HR := Lib.hid hR
      clear hO hR
      go_enter Try.func7, Try.ntmps7
      go_wp2_with fail
      refine (HC.out _).mono ?_
      rintro en w1 ⟨rfl, hb1⟩
      go_wp2_with fail
      refine (HT.out _).mono ?_
      rintro en w2 ⟨rfl, hb2⟩
      have m1 := (MA.new w1 0 0 0 0 0 0).later hb2
      obtain ⟨hB2, hz2⟩ := MA.put hb1 hb2
      clear hb1 hb2
      go_wp2_with fail
      refine (refLevels_any A _ A0 A1).mono ?_
      rintro en w3 ⟨rfl, hb3⟩
      have m2 := (MA.new w2 0 0 0 0 0 0).later hb3
      obtain ⟨hB3, hz3⟩ := MA.put hB2 hb3
      have m1' := m1.later (((Below.refl _ _).alloc (Nat.le_refl _) _).trans (hb3.mono (by simp)))
      clear hB2 hb3 m1
      have kk : Below w3.heap.size w3 ((w3.alloc (.cells #[.int .u8 0, .int .u8 0, .int .u8 0, .int .u8 0, .int .u8 0, .int .u8 0] 34)).alloc (.cells #[.int .u8 0, .int .u8 0, .int .u8 0, .int .u8 0, .int .u8 0, .int .u8 0] 34)) := ((Below.refl _ _).alloc (Nat.le_refl _) _).alloc (by simp) _
      have X1 := Lib.hid (m1'.later kk)
      have X2 := Lib.hid (m2.later kk)
      have X3 : Hid (MA ((w3.alloc (.cells #[.int .u8 0, .int .u8 0, .int .u8 0, .int .u8 0, .int .u8 0, .int .u8 0] 34)).alloc (.cells #[.int .u8 0, .int .u8 0, .int .u8 0, .int .u8 0, .int .u8 0, .int .u8 0] 34)) w3.heap.size 0 0 0 0 0 0) := (MA.new w3 0 0 0 0 0 0).later ((Below.refl _ _).alloc (Nat.le_refl _) _)
      have X4 : Hid (MA ((w3.alloc (.cells #[.int .u8 0, .int .u8 0, .int .u8 0, .int .u8 0, .int .u8 0, .int .u8 0] 34)).alloc (.cells #[.int .u8 0, .int .u8 0, .int .u8 0, .int .u8 0, .int .u8 0, .int .u8 0] 34)) (w3.heap.size + 1) 0 0 0 0 0 0) := by
        have h := MA.new (w3.alloc (.cells #[.int .u8 0, .int .u8 0, .int .u8 0, .int .u8 0, .int .u8 0, .int .u8 0] 34)) 0 0 0 0 0 0
        have e : (w3.alloc (.cells #[.int .u8 0, .int .u8 0, .int .u8 0, .int .u8 0, .int .u8 0, .int .u8 0] 34)).heap.size = w3.heap.size + 1 := by simp
        rw [e] at h
        exact h
      have X5 := Lib.hid (hB3.trans (kk.mono hB3.size))
      have hz4 : w3.heap.size + 2 = ((w3.alloc (.cells #[.int .u8 0, .int .u8 0, .int .u8 0, .int .u8 0, .int .u8 0, .int .u8 0] 34)).alloc (.cells #[.int .u8 0, .int .u8 0, .int .u8 0, .int .u8 0, .int .u8 0, .int .u8 0] 34)).heap.size := by simp
      clear m1' m2 hB3 kk
      go_wp2_with fail
      refine (HO.out _).mono ?_
      rintro en w4 ⟨rfl, hb4⟩
      have Y1 := X1.out.later hb4
      have Y2 := X2.out.later hb4
      have Y3 := X3.out.later hb4
      have Y4 := X4.out.later hb4
      have Y5 := X5.out.trans (hb4.mono X5.out.size)
      clear X1 X2 X3 X4 X5 hb4
      go_wp2_with fail
      refine (HR.out _).mono ?_
      rintro en w5 ⟨rfl, hb5⟩
      have hz5 := hb5.size
      simp at hz5
      have kk : Below w4.heap.size w4 (w5.alloc (.cells #[.int .u8 0, .int .u8 0, .int .u8 0, .int .u8 0, .int .u8 0, .int .u8 0] 34)) := (((Below.refl _ _).alloc (Nat.le_refl _) _).trans (hb5.mono (by simp))).alloc (by omega) _
      have m11 : MA (w5.alloc (.cells #[.int .u8 0, .int .u8 0, .int .u8 0, .int .u8 0, .int .u8 0, .int .u8 0] 34)) w4.heap.size 0 0 0 0 0 0 := ((MA.new w4 0 0 0 0 0 0).later hb5).later ((Below.refl _ _).alloc (Nat.le_refl _) _)
      have m13 : MA (w5.alloc (.cells #[.int .u8 0, .int .u8 0, .int .u8 0, .int .u8 0, .int .u8 0, .int .u8 0] 34)) w5.heap.size 0 0 0 0 0 0 := MA.new w5 0 0 0 0 0 0
      have m5 := Y1.later kk
      have m7 := Y2.later kk
      have m9 := Y3.later kk
      have m10 := Y4.later kk
      have HB := Lib.hid (Y5.trans (kk.mono Y5.size))
      clear Y1 Y2 Y3 Y4 Y5 kk hb5
      obtain ⟨g0, g1, g2, g3, g4, g5⟩ := m5
      obtain ⟨h0, h1, h2, h3, h4, h5⟩ := m7
      obtain ⟨i0, i1, i2, i3, i4, i5⟩ := m9
      obtain ⟨j0, j1, j2, j3, j4, j5⟩ := m10
      obtain ⟨k0, k1, k2, k3, k4, k5⟩ := m11
      obtain ⟨l0, l1, l2, l3, l4, l5⟩ := m13
      go_wp2_with fail
      refine (all_any _).mono ?_
      rintro en w6 ⟨rfl, hb6⟩
      have HB6 := Lib.hid (HB.out.trans (hb6.mono HB.out.size))
      clear g0 g1 g2 g3 g4 g5 h0 h1 h2 h3 h4 h5 i0 i1 i2 i3 i4 i5 j0 j1 j2 j3 j4 j5 k0 k1 k2 k3 k4 k5 l0 l1 l2 l3 l4 l5 hb6
      go_wp2_with fail
      refine (refOf_all _).mono ?_
      rintro en w7 ⟨rfl, hb7⟩
      have HB7 := Lib.hid (HB6.out.trans (hb7.mono HB6.out.size))
      clear hb7
      go_wp2_with fail
      refine (own_any _).mono ?_
      rintro en w8 ⟨rfl, hb8⟩
      have HB8 := Lib.hid (HB7.out.trans (hb8.mono HB7.out.size))
      clear hb8
      go_wp2_with fail
      refine (wakes2_any _).mono ?_
      rintro en w9 ⟨rfl, hb9⟩
      have HB9 := Lib.hid (HB8.out.trans (hb9.mono HB8.out.size))
      clear hb9
      go_wp2
      go_ret
      exact ⟨rfl, HB9.out⟩
  · by_cases h4 : n < 281474976710656
    · have hA2 : A = a := by omega
      have d1 : decide (7 < a) = false := by simpa using h8
      have d2 : decide (a < 8) = true := by simp; omega
      have hC : ∀ w, Calls Try.prog 21 #[.int .u8 a] w fun en w' => en = .returned (.tuple #[.agg #[.int .u8 1, .int .u8 128, .int .u8 194, .int .u8 0, .int .u8 0, .int .u8 (48 + A)], .bool true]) ∧ Below w.heap.size w w' := by
        intro w
        have h := Check_any a w (by omega) (by omega)
        unfold grpV at h
        rw [if_neg (by omega)] at h
        rw [hA2]; exact h
      have hT : ∀ w, Calls Try.prog 22 #[.int .u8 a] w fun en w' => en = .returned (.tuple #[.agg #[.int .u8 1, .int .u8 128, .int .u8 194, .int .u8 0, .int .u8 0, .int .u8 (56 + A)], .bool true]) ∧ Below w.heap.size w w' := by
        intro w
        have h := Trace_any a w (by omega) (by omega)
        unfold grpV at h
        rw [if_neg (by omega)] at h
        rw [hA2]; exact h
      have HC := Lib.hid hC
      have HT := Lib.hid hT
      clear hC hT hA2
      have d3 : decide (281474976710656 ≤ n) = false := by simp; omega
      have d4 : decide (n < 281474976710656) = true := by simp; omega
      have hbn : b = n := by omega
      obtain ⟨z0, z1, z2, z3, z4, z5, hO, hR⟩ : ∃ z0 z1 z2 z3 z4 z5 : Int, (∀ w, Calls Try.prog 35 #[.int .u64 n] w fun en w' => en = .returned (.tuple #[.agg #[.int .u8 z0, .int .u8 z1, .int .u8 z2, .int .u8 z3, .int .u8 z4, .int .u8 z5], .bool true]) ∧ Below w.heap.size w w') ∧ (∀ w, Calls Try.prog 36 #[.int .u64 b] w fun en w' => en = .returned (.agg #[.int .u8 z0, .int .u8 z1, .int .u8 z2, .int .u8 z3, .int .u8 z4, .int .u8 z5]) ∧ Below w.heap.size w w') := by
        refine ⟨n / 256 / 256 / 256 / 256 / 256 % 256, n / 256 / 256 / 256 / 256 % 256, n / 256 / 256 / 256 % 256, n / 256 / 256 % 256, n / 256 % 256, n % 256, fun w => ?_, fun w => ?_⟩
        · have h := of2_any n w n0 (by omega)
          unfold ofV at h
          rw [if_pos h4] at h
          exact h
        · rw [hbn]; exact refOf_any n w (by omega) (by omega)
      have HO := Lib.hid hO
      have HR := Lib.hid hR
      clear hO hR hbn
      go_enter Try.func7, Try.ntmps7
      go_wp2_with fail
      refine (HC.out _).mono ?_
      rintro en w1 ⟨rfl, hb1⟩
      go_wp2_with fail
      refine (HT.out _).mono ?_
      rintro en w2 ⟨rfl, hb2⟩
      have m1 := (MA.new w1 1 128 194 0 0 (48 + A)).later hb2
      obtain ⟨hB2, hz2⟩ := MA.put hb1 hb2
      clear hb1 hb2
      go_wp2_with fail
      refine (refLevels_any A _ A0 A1).mono ?_
      rintro en w3 ⟨rfl, hb3⟩
      have m2 := (MA.new w2 1 128 194 0 0 (56 + A)).later hb3
      obtain ⟨hB3, hz3⟩ := MA.put hB2 hb3
      have m1' := m1.later (((Below.refl _ _).alloc (Nat.le_refl _) _).trans (hb3.mono (by simp)))
      clear hB2 hb3 m1
      have kk : Below w3.heap.size w3 ((w3.alloc (.cells #[.int .u8 1, .int .u8 128, .int .u8 194, .int .u8 0, .int .u8 0, .int .u8 (48 + A)] 34)).alloc (.cells #[.int .u8 1, .int .u8 128, .int .u8 194, .int .u8 0, .int .u8 0, .int .u8 (56 + A)] 34)) := ((Below.refl _ _).alloc (Nat.le_refl _) _).alloc (by simp) _
      have X1 := Lib.hid (m1'.later kk)
      have X2 := Lib.hid (m2.later kk)
      have X3 : Hid (MA ((w3.alloc (.cells #[.int .u8 1, .int .u8 128, .int .u8 194, .int .u8 0, .int .u8 0, .int .u8 (48 + A)] 34)).alloc (.cells #[.int .u8 1, .int .u8 128, .int .u8 194, .int .u8 0, .int .u8 0, .int .u8 (56 + A)] 34)) w3.heap.size 1 128 194 0 0 (48 + A)) := (MA.new w3 1 128 194 0 0 (48 + A)).later ((Below.refl _ _).alloc (Nat.le_refl _) _)
      have X4 : Hid (MA ((w3.alloc (.cells #[.int .u8 1, .int .u8 128, .int .u8 194, .int .u8 0, .int .u8 0, .int .u8 (48 + A)] 34)).alloc (.cells #[.int .u8 1, .int .u8 128, .int .u8 194, .int .u8 0, .int .u8 0, .int .u8 (56 + A)] 34)) (w3.heap.size + 1) 1 128 194 0 0 (56 + A)) := by
        have h := MA.new (w3.alloc (.cells #[.int .u8 1, .int .u8 128, .int .u8 194, .int .u8 0, .int .u8 0, .int .u8 (48 + A)] 34)) 1 128 194 0 0 (56 + A)
        have e : (w3.alloc (.cells #[.int .u8 1, .int .u8 128, .int .u8 194, .int .u8 0, .int .u8 0, .int .u8 (48 + A)] 34)).heap.size = w3.heap.size + 1 := by simp
        rw [e] at h
        exact h
      have X5 := Lib.hid (hB3.trans (kk.mono hB3.size))
      have hz4 : w3.heap.size + 2 = ((w3.alloc (.cells #[.int .u8 1, .int .u8 128, .int .u8 194, .int .u8 0, .int .u8 0, .int .u8 (48 + A)] 34)).alloc (.cells #[.int .u8 1, .int .u8 128, .int .u8 194, .int .u8 0, .int .u8 0, .int .u8 (56 + A)] 34)).heap.size := by simp
      clear m1' m2 hB3 kk
      go_wp2_with fail
      refine (HO.out _).mono ?_
      rintro en w4 ⟨rfl, hb4⟩
      have Y1 := X1.out.later hb4
      have Y2 := X2.out.later hb4
      have Y3 := X3.out.later hb4
      have Y4 := X4.out.later hb4
      have Y5 := X5.out.trans (hb4.mono X5.out.size)
      clear X1 X2 X3 X4 X5 hb4
      go_wp2_with fail
      refine (HR.out _).mono ?_
      rintro en w5 ⟨rfl, hb5⟩
      have hz5 := hb5.size
      simp at hz5
      have kk : Below w4.heap.size w4 (w5.alloc (.cells #[.int .u8 z0, .int .u8 z1, .int .u8 z2, .int .u8 z3, .int .u8 z4, .int .u8 z5] 34)) := (((Below.refl _ _).alloc (Nat.le_refl _) _).trans (hb5.mono (by simp))).alloc (by omega) _
      have m11 : MA (w5.alloc (.cells #[.int .u8 z0, .int .u8 z1, .int .u8 z2, .int .u8 z3, .int .u8 z4, .int .u8 z5] 34)) w4.heap.size z0 z1 z2 z3 z4 z5 := ((MA.new w4 z0 z1 z2 z3 z4 z5).later hb5).later ((Below.refl _ _).alloc (Nat.le_refl _) _)
      have m13 : MA (w5.alloc (.cells #[.int .u8 z0, .int .u8 z1, .int .u8 z2, .int .u8 z3, .int .u8 z4, .int .u8 z5] 34)) w5.heap.size z0 z1 z2 z3 z4 z5 := MA.new w5 z0 z1 z2 z3 z4 z5
      have m5 := Y1.later kk
      have m7 := Y2.later kk
      have m9 := Y3.later kk
      have m10 := Y4.later kk
      have HB := Lib.hid (Y5.trans (kk.mono Y5.size))
      clear Y1 Y2 Y3 Y4 Y5 kk hb5
      obtain ⟨g0, g1, g2, g3, g4, g5⟩ := m5
      obtain ⟨h0, h1, h2, h3, h4, h5⟩ := m7
      obtain ⟨i0, i1, i2, i3, i4, i5⟩ := m9
      obtain ⟨j0, j1, j2, j3, j4, j5⟩ := m10
      obtain ⟨k0, k1, k2, k3, k4, k5⟩ := m11
      obtain ⟨l0, l1, l2, l3, l4, l5⟩ := m13
      go_wp2_with fail
      refine (all_any _).mono ?_
      rintro en w6 ⟨rfl, hb6⟩
      have HB6 := Lib.hid (HB.out.trans (hb6.mono HB.out.size))
      clear g0 g1 g2 g3 g4 g5 h0 h1 h2 h3 h4 h5 i0 i1 i2 i3 i4 i5 j0 j1 j2 j3 j4 j5 k0 k1 k2 k3 k4 k5 l0 l1 l2 l3 l4 l5 hb6
      go_wp2_with fail
      refine (refOf_all _).mono ?_
      rintro en w7 ⟨rfl, hb7⟩
      have HB7 := Lib.hid (HB6.out.trans (hb7.mono HB6.out.size))
      clear hb7
      go_wp2_with fail
      refine (own_any _).mono ?_
      rintro en w8 ⟨rfl, hb8⟩
      have HB8 := Lib.hid (HB7.out.trans (hb8.mono HB7.out.size))
      clear hb8
      go_wp2_with fail
      refine (wakes2_any _).mono ?_
      rintro en w9 ⟨rfl, hb9⟩
      have HB9 := Lib.hid (HB8.out.trans (hb9.mono HB8.out.size))
      clear hb9
      go_wp2
      go_ret
      exact ⟨rfl, HB9.out⟩
    · have hA2 : A = a := by omega
      have d1 : decide (7 < a) = false := by simpa using h8
      have d2 : decide (a < 8) = true := by simp; omega
      have hC : ∀ w, Calls Try.prog 21 #[.int .u8 a] w fun en w' => en = .returned (.tuple #[.agg #[.int .u8 1, .int .u8 128, .int .u8 194, .int .u8 0, .int .u8 0, .int .u8 (48 + A)], .bool true]) ∧ Below w.heap.size w w' := by
        intro w
        have h := Check_any a w (by omega) (by omega)
        unfold grpV at h
        rw [if_neg (by omega)] at h
        rw [hA2]; exact h
      have hT : ∀ w, Calls Try.prog 22 #[.int .u8 a] w fun en w' => en = .returned (.tuple #[.agg #[.int .u8 1, .int .u8 128, .int .u8 194, .int .u8 0, .int .u8 0, .int .u8 (56 + A)], .bool true]) ∧ Below w.heap.size w w' := by
        intro w
        have h := Trace_any a w (by omega) (by omega)
        unfold grpV at h
        rw [if_neg (by omega)] at h
        rw [hA2]; exact h
      have HC := Lib.hid hC
      have HT := Lib.hid hT
      clear hC hT hA2
      have d3 : decide (281474976710656 ≤ n) = true := by simp; omega
      have d4 : decide (n < 281474976710656) = false := by simp; omega
      have hO : ∀ w, Calls Try.prog 35 #[.int .u64 n] w fun en w' => en = .returned (.tuple #[.agg #[.int .u8 0, .int .u8 0, .int .u8 0, .int .u8 0, .int .u8 0, .int .u8 0], .bool false]) ∧ Below w.heap.size w w' := by
        intro w
        have h := of2_any n w n0 (by omega)
        unfold ofV at h
        rw [if_neg h4] at h
        exact h
      have hR : ∀ w, Calls Try.prog 36 #[.int .u64 b] w fun en w' => en = .returned (ofA b) ∧ Below w.heap.size w w' := fun w => refOf_any b w (by omega) (by omega)
      unfold ofA at hR
      have HO := Lib.hid hO
      have HR := Lib.hid hR
      clear hO hR
      go_enter Try.func7, Try.ntmps7
      go_wp2_with fail
      refine (HC.out _).mono ?_
      rintro en w1 ⟨rfl, hb1⟩
      go_wp2_with fail
      refine (HT.out _).mono ?_
      rintro en w2 ⟨rfl, hb2⟩
      have m1 := (MA.new w1 1 128 194 0 0 (48 + A)).later hb2
      obtain ⟨hB2, hz2⟩ := MA.put hb1 hb2
      clear hb1 hb2
      go_wp2_with fail
      refine (refLevels_any A _ A0 A1).mono ?_
      rintro en w3 ⟨rfl, hb3⟩
      have m2 := (MA.new w2 1 128 194 0 0 (56 + A)).later hb3
      obtain ⟨hB3, hz3⟩ := MA.put hB2 hb3
      have m1' := m1.later (((Below.refl _ _).alloc (Nat.le_refl _) _).trans (hb3.mono (by simp)))
      clear hB2 hb3 m1
      have kk : Below w3.heap.size w3 ((w3.alloc (.cells #[.int .u8 1, .int .u8 128, .int .u8 194, .int .u8 0, .int .u8 0, .int .u8 (48 + A)] 34)).alloc (.cells #[.int .u8 1, .int .u8 128, .int .u8 194, .int .u8 0, .int .u8 0, .int .u8 (56 + A)] 34)) := ((Below.refl _ _).alloc (Nat.le_refl _) _).alloc (by simp) _
      have X1 := Lib.hid (m1'.later kk)
      have X2 := Lib.hid (m2.later kk)
      have X3 : Hid (MA ((w3.alloc (.cells #[.int .u8 1, .int .u8 128, .int .u8 194, .int .u8 0, .int .u8 0, .int .u8 (48 + A)] 34)).alloc (.cells #[.int .u8 1, .int .u8 128, .int .u8 194, .int .u8 0, .int .u8 0, .int .u8 (56 + A)] 34)) w3.heap.size 1 128 194 0 0 (48 + A)) := (MA.new w3 1 128 194 0 0 (48 + A)).later ((Below.refl _ _).alloc (Nat.le_refl _) _)
      have X4 : Hid (MA ((w3.alloc (.cells #[.int .u8 1, .int .u8 128, .int .u8 194, .int .u8 0, .int .u8 0, .int .u8 (48 + A)] 34)).alloc (.cells #[.int .u8 1, .int .u8 128, .int .u8 194, .int .u8 0, .int .u8 0, .int .u8 (56 + A)] 34)) (w3.heap.size + 1) 1 128 194 0 0 (56 + A)) := by
        have h := MA.new (w3.alloc (.cells #[.int .u8 1, .int .u8 128, .int .u8 194, .int .u8 0, .int .u8 0, .int .u8 (48 + A)] 34)) 1 128 194 0 0 (56 + A)
        have e : (w3.alloc (.cells #[.int .u8 1, .int .u8 128, .int .u8 194, .int .u8 0, .int .u8 0, .int .u8 (48 + A)] 34)).heap.size = w3.heap.size + 1 := by simp
        rw [e] at h
        exact h
      have X5 := Lib.hid (hB3.trans (kk.mono hB3.size))
      have hz4 : w3.heap.size + 2 = ((w3.alloc (.cells #[.int .u8 1, .int .u8 128, .int .u8 194, .int .u8 0, .int .u8 0, .int .u8 (48 + A)] 34)).alloc (.cells #[.int .u8 1, .int .u8 128, .int .u8 194, .int .u8 0, .int .u8 0, .int .u8 (56 + A)] 34)).heap.size := by simp
      clear m1' m2 hB3 kk
      go_wp2_with fail
      refine (HO.out _).mono ?_
      rintro en w4 ⟨rfl, hb4⟩
      have Y1 := X1.out.later hb4
      have Y2 := X2.out.later hb4
      have Y3 := X3.out.later hb4
      have Y4 := X4.out.later hb4
      have Y5 := X5.out.trans (hb4.mono X5.out.size)
      clear X1 X2 X3 X4 X5 hb4
      go_wp2_with fail
      refine (HR.out _).mono ?_
      rintro en w5 ⟨rfl, hb5⟩
      have hz5 := hb5.size
      simp at hz5
      have kk : Below w4.heap.size w4 (w5.alloc (.cells #[.int .u8 0, .int .u8 0, .int .u8 0, .int .u8 0, .int .u8 0, .int .u8 0] 34)) := (((Below.refl _ _).alloc (Nat.le_refl _) _).trans (hb5.mono (by simp))).alloc (by omega) _
      have m11 : MA (w5.alloc (.cells #[.int .u8 0, .int .u8 0, .int .u8 0, .int .u8 0, .int .u8 0, .int .u8 0] 34)) w4.heap.size 0 0 0 0 0 0 := ((MA.new w4 0 0 0 0 0 0).later hb5).later ((Below.refl _ _).alloc (Nat.le_refl _) _)
      have m13 : MA (w5.alloc (.cells #[.int .u8 0, .int .u8 0, .int .u8 0, .int .u8 0, .int .u8 0, .int .u8 0] 34)) w5.heap.size 0 0 0 0 0 0 := MA.new w5 0 0 0 0 0 0
      have m5 := Y1.later kk
      have m7 := Y2.later kk
      have m9 := Y3.later kk
      have m10 := Y4.later kk
      have HB := Lib.hid (Y5.trans (kk.mono Y5.size))
      clear Y1 Y2 Y3 Y4 Y5 kk hb5
      obtain ⟨g0, g1, g2, g3, g4, g5⟩ := m5
      obtain ⟨h0, h1, h2, h3, h4, h5⟩ := m7
      obtain ⟨i0, i1, i2, i3, i4, i5⟩ := m9
      obtain ⟨j0, j1, j2, j3, j4, j5⟩ := m10
      obtain ⟨k0, k1, k2, k3, k4, k5⟩ := m11
      obtain ⟨l0, l1, l2, l3, l4, l5⟩ := m13
      go_wp2_with fail
      refine (all_any _).mono ?_
      rintro en w6 ⟨rfl, hb6⟩
      have HB6 := Lib.hid (HB.out.trans (hb6.mono HB.out.size))
      clear g0 g1 g2 g3 g4 g5 h0 h1 h2 h3 h4 h5 i0 i1 i2 i3 i4 i5 j0 j1 j2 j3 j4 j5 k0 k1 k2 k3 k4 k5 l0 l1 l2 l3 l4 l5 hb6
      go_wp2_with fail
      refine (refOf_all _).mono ?_
      rintro en w7 ⟨rfl, hb7⟩
      have HB7 := Lib.hid (HB6.out.trans (hb7.mono HB6.out.size))
      clear hb7
      go_wp2_with fail
      refine (own_any _).mono ?_
      rintro en w8 ⟨rfl, hb8⟩
      have HB8 := Lib.hid (HB7.out.trans (hb8.mono HB7.out.size))
      clear hb8
      go_wp2_with fail
      refine (wakes2_any _).mono ?_
      rintro en w9 ⟨rfl, hb9⟩
      have HB9 := Lib.hid (HB8.out.trans (hb9.mono HB8.out.size))
      clear hb9
      go_wp2
      go_ret
      exact ⟨rfl, HB9.out⟩
end Go.Proofs.Ytknahemnmboidaa
