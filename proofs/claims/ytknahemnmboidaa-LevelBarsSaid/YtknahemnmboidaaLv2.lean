/- Layer 17: the reference's sets. -/
import Derived.Test.YtknahemnmboidaaLv1
set_option linter.unusedVariables false
namespace Go.Proofs.Ytknahemnmboidaa
open Go.RowKit

set_option maxRecDepth 100000 in
set_option maxHeartbeats 1000000 in
theorem levels_any (s : Int) (w : World) (hf : 0 ≤ s) (hf2 : s < 256)  :
    Calls Try.prog 15 #[.int .u8 s] w fun e w' => e = .returned (.agg #[.bool (hasB s 0), .bool (hasB s 1), .bool (hasB s 2), .bool (hasB s 3), .bool (hasB s 4), .bool (hasB s 5), .bool (hasB s 6), .bool (hasB s 7)]) ∧ Below w.heap.size w w' := by
  have h0 : hasB s 0 = (s % 2 == 1) := by simp [hasB]
  have h1 : hasB s 1 = (s / 2 % 2 == 1) := by simp [hasB]
  have h2 : hasB s 2 = (s / 2 / 2 % 2 == 1) := by have : s / 2 / 2 = s / 4 := by omega
                                                  rw [this]; rfl
  have h3 : hasB s 3 = (s / 2 / 2 / 2 % 2 == 1) := by have : s / 2 / 2 / 2 = s / 8 := by omega
                                                      rw [this]; rfl
  have h4 : hasB s 4 = (s / 2 / 2 / 2 / 2 % 2 == 1) := by have : s / 2 / 2 / 2 / 2 = s / 16 := by omega
                                                          rw [this]; rfl
  have h5 : hasB s 5 = (s / 2 / 2 / 2 / 2 / 2 % 2 == 1) := by have : s / 2 / 2 / 2 / 2 / 2 = s / 32 := by omega
                                                              rw [this]; rfl
  have h6 : hasB s 6 = (s / 2 / 2 / 2 / 2 / 2 / 2 % 2 == 1) := by have : s / 2 / 2 / 2 / 2 / 2 / 2 = s / 64 := by omega
                                                                  rw [this]; rfl
  have h7 : hasB s 7 = (s / 2 / 2 / 2 / 2 / 2 / 2 / 2 % 2 == 1) := by have : s / 2 / 2 / 2 / 2 / 2 / 2 / 2 = s / 128 := by omega
                                                                      rw [this]; rfl
  have H := Lib.hid (And.intro h0 (And.intro h1 (And.intro h2 (And.intro h3 (And.intro h4 (And.intro h5 (And.intro h6 h7)))))))
  clear h0 h1 h2 h3 h4 h5 h6 h7
  go_enter Try.func15, Try.ntmps15
  go_wp2
  refine wp_loop_rounds 9 ?_
  iterate 9 (rw [rounds_succ]; go_wp2)
  refine bodyPost_ret (v := .agg #[.bool (s % 2 == 1), .bool (s / 2 % 2 == 1), .bool (s / 2 / 2 % 2 == 1), .bool (s / 2 / 2 / 2 % 2 == 1), .bool (s / 2 / 2 / 2 / 2 % 2 == 1), .bool (s / 2 / 2 / 2 / 2 / 2 % 2 == 1), .bool (s / 2 / 2 / 2 / 2 / 2 / 2 % 2 == 1), .bool (s / 2 / 2 / 2 / 2 / 2 / 2 / 2 % 2 == 1)]) (by simp [results, Try.results15, go_sem]) rfl ⟨?_, ?_⟩
  · obtain ⟨h0, h1, h2, h3, h4, h5, h6, h7⟩ := H.out
    rw [h0, h1, h2, h3, h4, h5, h6, h7]
  · exact (((Below.refl _ _).alloc (by simp) _).alloc (by simp) _)
end Go.Proofs.Ytknahemnmboidaa
