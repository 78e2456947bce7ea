/- mac: the walk of MacTells. -/
import Derived.Test.YtknahemnmboidaaM16
set_option linter.unusedVariables false
namespace Go.Proofs.Ytknahemnmboidaa
open Go.RowKit

theorem lvl_form (a b c d e f : Int) : ∃ (x : Int) (q : Bool), lvlV a b c d e f = .tuple #[.int .u8 x, .bool q] := by
  unfold lvlV; split
  · exact ⟨_, _, rfl⟩
  · exact ⟨_, _, rfl⟩

set_option maxRecDepth 100000 in
set_option maxHeartbeats 4000000 in
theorem MacTells_walk (a b c d e f : Int) (w : World) (h : wfM a b c d e f) : Calls Try.prog 13 #[.agg #[.int .u8 a, .int .u8 b, .int .u8 c, .int .u8 d, .int .u8 e, .int .u8 f]] w fun en w' => en = .returned (.bool true) ∧ Below w.heap.size w w' := by
  obtain ⟨⟨a0, a1⟩, ⟨b0, b1⟩, ⟨c0, c1⟩, ⟨d0, d1⟩, ⟨e0, e1⟩, ⟨f0, f1⟩⟩ := id h
  obtain ⟨x, q, hL⟩ := lvl_form a b c d e f
  obtain ⟨G, hG⟩ : ∃ G : Bool, (a % 2 == 1) = G := ⟨_, rfl⟩
  obtain ⟨R, hR⟩ : ∃ R : Bool, resB a b c d e f = R := ⟨_, rfl⟩
  obtain ⟨N, hN⟩ : ∃ N : Int, numM a b c d e f = N := ⟨_, rfl⟩
  obtain ⟨T, hT⟩ : ∃ T : List UInt8, txt6 a b c d e f = T := ⟨_, rfl⟩
  have A2 : a.tmod 2 = a % 2 := Int.tmod_eq_emod_of_nonneg a0
  have C1 : Hid (∀ w, Calls Try.prog 23 #[.agg #[.int .u8 a, .int .u8 b, .int .u8 c, .int .u8 d, .int .u8 e, .int .u8 f]] w fun en w' => en = .returned (.tuple #[.int .u8 x, .bool q]) ∧ Below w.heap.size w w') := by
    rw [← hL]; exact fun w => level_any a b c d e f w f0 f1
  have C2 : Hid (∀ w, Calls Try.prog 58 #[.agg #[.int .u8 a, .int .u8 b, .int .u8 c, .int .u8 d, .int .u8 e, .int .u8 f]] w fun en w' => en = .returned (.tuple #[.int .u8 x, .bool q]) ∧ Below w.heap.size w w') := by
    rw [← hL]; exact fun w => refLevel_any a b c d e f w
  have C3 : Hid (∀ w, Calls Try.prog 24 #[.agg #[.int .u8 a, .int .u8 b, .int .u8 c, .int .u8 d, .int .u8 e, .int .u8 f]] w fun en w' => en = .returned (.bool G) ∧ Below w.heap.size w w') := by
    rw [← hG]; exact fun w => group_any a b c d e f w a0 a1
  have C4 : Hid (∀ w, Calls Try.prog 25 #[.agg #[.int .u8 a, .int .u8 b, .int .u8 c, .int .u8 d, .int .u8 e, .int .u8 f]] w fun en w' => en = .returned (.bool R) ∧ Below w.heap.size w w') := by
    rw [← hR]; exact fun w => reserved_any a b c d e f w
  have C5 : Hid (∀ w, Calls Try.prog 59 #[.agg #[.int .u8 a, .int .u8 b, .int .u8 c, .int .u8 d, .int .u8 e, .int .u8 f]] w fun en w' => en = .returned (.bool R) ∧ Below w.heap.size w w') := by
    rw [← hR]; exact fun w => refReserved_any a b c d e f w f0 f1
  have C6 : Hid (∀ w, Calls Try.prog 60 #[.agg #[.int .u8 a, .int .u8 b, .int .u8 c, .int .u8 d, .int .u8 e, .int .u8 f]] w fun en w' => en = .returned (.int .u64 N) ∧ Below w.heap.size w w') := by
    rw [← hN]; exact fun w => number_any a b c d e f w h
  have C7 : Hid (∀ w, Calls Try.prog 61 #[.agg #[.int .u8 a, .int .u8 b, .int .u8 c, .int .u8 d, .int .u8 e, .int .u8 f]] w fun en w' => en = .returned (.int .u64 N) ∧ Below w.heap.size w w') := by
    rw [← hN]; exact fun w => refNumber_any a b c d e f w h
  have C8 : Hid (∀ w, Calls Try.prog 62 #[.agg #[.int .u8 a, .int .u8 b, .int .u8 c, .int .u8 d, .int .u8 e, .int .u8 f]] w fun en w' => en = .returned (.string (bs T)) ∧ Below w.heap.size w w') := by
    rw [← hT]; exact fun w => text_of a b c d e f w ⟨a0, a1⟩ ⟨b0, b1⟩ ⟨c0, c1⟩ ⟨d0, d1⟩ ⟨e0, e1⟩ ⟨f0, f1⟩
  have C9 : Hid (∀ w, Calls Try.prog 63 #[.agg #[.int .u8 a, .int .u8 b, .int .u8 c, .int .u8 d, .int .u8 e, .int .u8 f]] w fun en w' => en = .returned (.string (bs T)) ∧ Below w.heap.size w w') := by
    rw [← hT]; exact fun w => refText_mac a b c d e f w h
  clear hL hR hN hT h
  have qq : ∀ z : Bool, (z == z) = true := fun z => by simp
  go_enter Try.func13, Try.ntmps13
  go_wp2_with fail
  refine (C1.out _).mono ?_
  rintro en w1 ⟨rfl, hb1⟩
  have m1 := (MA.new w a b c d e f).later hb1
  have HB1 := Lib.hid (((Below.refl _ _).alloc (Nat.le_refl _) (.cells #[.int .u8 a, .int .u8 b, .int .u8 c, .int .u8 d, .int .u8 e, .int .u8 f] 34)).trans (hb1.mono (by simp)))
  have M1 := Lib.hid m1
  obtain ⟨k0, k1, k2, k3, k4, k5⟩ := m1
  clear hb1
  go_wp2_with fail
  refine (C2.out _).mono ?_
  rintro en w2 ⟨rfl, hb2⟩
  have m2 := M1.out.later hb2
  have HB2 := Lib.hid (HB1.out.trans (hb2.mono HB1.out.size))
  clear k0 k1 k2 k3 k4 k5 M1 HB1 hb2
  have l2 := m2.held
  clear m2
  obtain ⟨k0, k1, k2, k3, k4, k5⟩ := l2
  go_wp2_with fail
  refine wp_region_later (by kernel_rfl) (by kernel_rfl) ?_
  repeat (go_big_quiet_step (first | (go_at_call 24; exact Calls.later (C3.out _)) | (go_at_call 25; exact Calls.later (C4.out _)) | (go_at_call 59; exact Calls.later (C5.out _)) | (go_at_call 60; exact Calls.later (C6.out _)) | (go_at_call 61; exact Calls.later (C7.out _)) | (go_at_call 62; exact Calls.later (C8.out _)) | (go_at_call 63; exact Calls.later (C9.out _)) | (go_at_call 27; exact Calls.later (wakes2_any _))))
  refine wpQuiet_nil ?_
  rintro _ ⟨K, rfl⟩
  go_wp2
  go_ret
  exact ⟨rfl, Later.bel HB2.out K⟩
end Go.Proofs.Ytknahemnmboidaa
