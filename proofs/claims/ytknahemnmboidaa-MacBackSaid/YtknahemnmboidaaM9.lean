/- mac: the reference's Parse, any text. -/
import Derived.Test.YtknahemnmboidaaM8
set_option linter.unusedVariables false
namespace Go.Proofs.Ytknahemnmboidaa
open Go.RowKit

set_option maxRecDepth 100000 in
set_option maxHeartbeats 1000000 in
theorem refParse_any (l : List UInt8) (w : World) : Calls Try.prog 39 #[.string (bs l)] w fun en w' => en = .returned (prsV l) ∧ Below w.heap.size w w' := by
  by_cases hl : l.length = 17
  · match l, hl with
    | [c0, c1, c2, c3, c4, c5, c6, c7, c8, c9, c10, c11, c12, c13, c14, c15, c16], _ => exact refParse_17 c0 c1 c2 c3 c4 c5 c6 c7 c8 c9 c10 c11 c12 c13 c14 c15 c16 w
  · have hn : okP l = false := by unfold okP; rw [decide_eq_false hl]; rfl
    have hs := bs_size l
    have hd : ((l.length : Int) == 17) = false := beq_eq_false_iff_ne.2 (by omega)
    have hd2 : ((l.length : Int) != 17) = true := by unfold bne; rw [hd]; rfl
    rw [prs_no l hn]
    go_enter Try.func39, Try.ntmps39
    go_wp2
    refine bodyPost_ret (v := .tuple #[.agg #[.int .u8 0, .int .u8 0, .int .u8 0, .int .u8 0, .int .u8 0, .int .u8 0], .bool false]) (by simp [results, Try.results39, go_sem]) rfl ⟨rfl, ?_⟩
    refine Below.alloc ?_ (by simp) _
    exact (Below.refl _ _).alloc (by simp) _
end Go.Proofs.Ytknahemnmboidaa
