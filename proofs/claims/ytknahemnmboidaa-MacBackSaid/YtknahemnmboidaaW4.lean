/- wire: what is known, and no reader at all. -/
import Derived.Test.YtknahemnmboidaaW3
set_option linter.unusedVariables false
namespace Go.Proofs.Ytknahemnmboidaa
open Go.RowKit

set_option maxHeartbeats 1000000 in
theorem text_nil (n : Int) (w : World) : Calls Try.prog 52 #[.pointer none, .int .i64 n] w fun en w' => en = .returned (.string (bs [])) ∧ w = w' := by
  go_enter Try.func52, Try.ntmps52
  go_wp2
  go_ret
  exact ⟨rfl, rfl⟩
set_option maxHeartbeats 1000000 in
theorem left_nil (w : World) : Calls Try.prog 44 #[.pointer none] w fun en w' => en = .returned (.int .i64 0) ∧ w = w' := by
  go_enter Try.func44, Try.ntmps44
  go_wp2
  go_ret
  exact ⟨rfl, rfl⟩
set_option maxHeartbeats 1000000 in
theorem err_nil (w : World) : Calls Try.prog 42 #[.pointer none] w fun en w' => en = .returned (.int .i64 1) ∧ w = w' := by
  go_enter Try.func42, Try.ntmps42
  go_wp2
  go_ret
  exact ⟨rfl, rfl⟩
set_option maxHeartbeats 1000000 in
theorem bad_nil (w : World) : Calls Try.prog 55 #[.pointer none] w fun en w' => en = .returned (.tuple #[]) ∧ w = w' := by
  go_enter Try.func55, Try.ntmps55
  go_wp2
  go_end0
  exact ⟨rfl, rfl⟩
set_option maxHeartbeats 1000000 in
theorem rest_nil (w : World) : Calls Try.prog 54 #[.pointer none] w fun en w' => en = .returned (.string (bs [])) ∧ w = w' := by
  go_enter Try.func54, Try.ntmps54
  go_wp2_with (first | (go_at_call 44; refine (left_nil _).mono ?_; rintro en w' ⟨rfl, rfl⟩) | (go_at_call 52; refine (text_nil _ _).mono ?_; rintro en w' ⟨rfl, rfl⟩))
  go_ret
  exact ⟨rfl, rfl⟩
set_option maxHeartbeats 1000000 in
theorem end_nil (w : World) : Calls Try.prog 46 #[.pointer none] w fun en w' => en = .returned (.int .i64 1) ∧ w = w' := by
  go_enter Try.func46, Try.ntmps46
  go_wp2_with (first | (go_at_call 44; refine (left_nil _).mono ?_; rintro en w' ⟨rfl, rfl⟩) | (go_at_call 42; refine (err_nil _).mono ?_; rintro en w' ⟨rfl, rfl⟩))
  go_ret
  exact ⟨rfl, rfl⟩
set_option maxHeartbeats 1000000 in
theorem read_nil_uint8 (w : World) : Calls Try.prog 73 #[.pointer none] w fun en w' => en = .returned (.int .u8 0) ∧ w = w' := by
  have hsz : (bs []).size = 0 := rfl
  go_enter Try.func73, Try.ntmps73
  go_wp2_with (first | (go_at_call 67; refine (width_uint8 _).mono ?_; rintro en w' ⟨rfl, rfl⟩) | (go_at_call 52; refine (text_nil _ _).mono ?_; rintro en w' ⟨rfl, rfl⟩))
  refine wp_loop_rounds 1 ?_
  rw [rounds_succ]
  go_wp2
  go_ret
  exact ⟨rfl, rfl⟩
set_option maxHeartbeats 1000000 in
theorem U8_nil (w : World) : Calls Try.prog 47 #[.pointer none] w fun en w' => en = .returned (.int .u8 0) ∧ w = w' := by
  go_enter Try.func47, Try.ntmps47
  go_wp2_with (go_at_call 73; refine (read_nil_uint8 _).mono ?_; rintro en w' ⟨rfl, rfl⟩)
  go_ret
  exact ⟨rfl, rfl⟩
set_option maxHeartbeats 1000000 in
theorem read_nil_uint16 (w : World) : Calls Try.prog 74 #[.pointer none] w fun en w' => en = .returned (.int .u16 0) ∧ w = w' := by
  have hsz : (bs []).size = 0 := rfl
  go_enter Try.func74, Try.ntmps74
  go_wp2_with (first | (go_at_call 68; refine (width_uint16 _).mono ?_; rintro en w' ⟨rfl, rfl⟩) | (go_at_call 52; refine (text_nil _ _).mono ?_; rintro en w' ⟨rfl, rfl⟩))
  refine wp_loop_rounds 1 ?_
  rw [rounds_succ]
  go_wp2
  go_ret
  exact ⟨rfl, rfl⟩
set_option maxHeartbeats 1000000 in
theorem U16_nil (w : World) : Calls Try.prog 49 #[.pointer none] w fun en w' => en = .returned (.int .u16 0) ∧ w = w' := by
  go_enter Try.func49, Try.ntmps49
  go_wp2_with (go_at_call 74; refine (read_nil_uint16 _).mono ?_; rintro en w' ⟨rfl, rfl⟩)
  go_ret
  exact ⟨rfl, rfl⟩
set_option maxHeartbeats 1000000 in
theorem read_nil_uint32 (w : World) : Calls Try.prog 75 #[.pointer none] w fun en w' => en = .returned (.int .u32 0) ∧ w = w' := by
  have hsz : (bs []).size = 0 := rfl
  go_enter Try.func75, Try.ntmps75
  go_wp2_with (first | (go_at_call 69; refine (width_uint32 _).mono ?_; rintro en w' ⟨rfl, rfl⟩) | (go_at_call 52; refine (text_nil _ _).mono ?_; rintro en w' ⟨rfl, rfl⟩))
  refine wp_loop_rounds 1 ?_
  rw [rounds_succ]
  go_wp2
  go_ret
  exact ⟨rfl, rfl⟩
set_option maxHeartbeats 1000000 in
theorem U32_nil (w : World) : Calls Try.prog 50 #[.pointer none] w fun en w' => en = .returned (.int .u32 0) ∧ w = w' := by
  go_enter Try.func50, Try.ntmps50
  go_wp2_with (go_at_call 75; refine (read_nil_uint32 _).mono ?_; rintro en w' ⟨rfl, rfl⟩)
  go_ret
  exact ⟨rfl, rfl⟩
set_option maxHeartbeats 1000000 in
theorem read_nil_uint64 (w : World) : Calls Try.prog 76 #[.pointer none] w fun en w' => en = .returned (.int .u64 0) ∧ w = w' := by
  have hsz : (bs []).size = 0 := rfl
  go_enter Try.func76, Try.ntmps76
  go_wp2_with (first | (go_at_call 70; refine (width_uint64 _).mono ?_; rintro en w' ⟨rfl, rfl⟩) | (go_at_call 52; refine (text_nil _ _).mono ?_; rintro en w' ⟨rfl, rfl⟩))
  refine wp_loop_rounds 1 ?_
  rw [rounds_succ]
  go_wp2
  go_ret
  exact ⟨rfl, rfl⟩
set_option maxHeartbeats 1000000 in
theorem U64_nil (w : World) : Calls Try.prog 51 #[.pointer none] w fun en w' => en = .returned (.int .u64 0) ∧ w = w' := by
  go_enter Try.func51, Try.ntmps51
  go_wp2_with (go_at_call 76; refine (read_nil_uint64 _).mono ?_; rintro en w' ⟨rfl, rfl⟩)
  go_ret
  exact ⟨rfl, rfl⟩

set_option maxRecDepth 100000 in
set_option maxHeartbeats 2000000 in
theorem wakesW_any (w : World) : Calls Try.prog 28 #[] w fun en w' => en = .returned (.bool true) ∧ Below w.heap.size w w' := by
  go_enter Try.func28, Try.ntmps28
  go_wp2_with fail
  refine (of_any [1, 2, 3] w).mono ?_
  rintro en w1 ⟨rfl, hr, hb, hs⟩
  have HB := Lib.hid hb
  have HR := Lib.hid hr
  clear hb hr
  go_wp2_with fail
  refine (U16_any w.heap.size [1, 2, 3] 0 _ HR.out (by simp)).mono ?_
  rintro en w2 ⟨rfl, hr, ho⟩
  have HB2 := Lib.hid (HB.out.trans (ho.below (Nat.le_refl _) HB.out.size))
  have HR2 : Hid (Rd w2 w.heap.size [3] 0) := hr
  clear HB HR hr ho hs
  go_wp2_with fail
  refine (U16_any w.heap.size [3] 0 _ HR2.out (by simp)).mono ?_
  rintro en w3 ⟨rfl, hr, ho⟩
  have HB3 := Lib.hid (HB2.out.trans (ho.below (Nat.le_refl _) HB2.out.size))
  have HR3 : Hid (Rd w3 w.heap.size [] 3) := hr
  clear HB2 HR2 hr ho
  have v1 : numOf (rdText [1, 2, 3] 0 2).1 = 258 := by decide
  have v2 : numOf (rdText [3] 0 2).1 = 0 := by decide
  have v1' : (numOf (rdText [1, 2, 3] 0 2).1 == 258) = true := by rw [v1]; rfl
  have v2' : (numOf (rdText [3] 0 2).1 == 0) = true := by rw [v2]; rfl
  clear v1 v2
  go_wp2_with fail
  refine (put_uint16 w3.heap.size _ [] 258 _ (Nat.le_refl _) (Bys.none _ _) (by decide) (by decide) (by decide)).mono ?_
  rintro en w4 ⟨v, rfl, hown, hb⟩
  have hstr := run_string_bys hown
  rw [show bs ([] ++ be 2 258) = ⟨#[1, 2]⟩ by decide] at hstr
  have HB4 := Lib.hid (HB3.out.trans (hb.mono HB3.out.size))
  have HR4 := Lib.hid (HR3.out.later hb)
  clear HB3 HR3 hown hb
  go_wp2_with fail
  refine (put_uint64 w4.heap.size _ [9] 1 _ (by simp) (Bys.lit w4 w4.heap.size #[.int .u8 9] [9] (Nat.le_refl _) rfl (by decide)) (by decide) (by decide) (by decide)).mono ?_
  rintro en w5 ⟨v', rfl, hown, hb⟩
  clear hstr
  have hstr := run_string_bys hown
  rw [show bs ([9] ++ be 8 1) = ⟨#[9, 0, 0, 0, 0, 0, 0, 0, 1]⟩ by decide] at hstr
  have hb' : Below w4.heap.size w4 w5 := ((Below.refl _ _).alloc (Nat.le_refl _) _).trans hb
  have HB5 := Lib.hid (HB4.out.trans (hb'.mono HB4.out.size))
  have HR5 := Lib.hid (HR4.out.later hb')
  clear HB4 HR4 hown hb hb'
  go_wp2_with fail
  refine (err_any w.heap.size [] 3 _ HR5.out).mono ?_
  rintro en w6 ⟨rfl, rfl⟩
  go_wp2_with fail
  go_ret
  exact ⟨rfl, HB5.out⟩
end Go.Proofs.Ytknahemnmboidaa
