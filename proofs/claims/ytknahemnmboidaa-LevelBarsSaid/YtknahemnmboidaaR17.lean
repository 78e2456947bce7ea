/- The reader of a config.At. -/
import Derived.Test.YtknahemnmboidaaR0
set_option linter.unusedVariables false
namespace Go.Proofs.Ytknahemnmboidaa
open Go.ChangeShapes Go.WideShapes Go.ChangeAt Go.RowKit Go.Joins
set_option maxRecDepth 100000 in
theorem rd_at {H : Type} {enc : TypeId × Value → H} {w : World} {r : Reach} {b0 base : Nat} {spare : Nat → Bool} {held : Bool} {v : Value} {d : DataW H} {p : List MemPlace}
    (hv : Value.okWide Try.prog w r b0 23 v) (h : DataW.Trod enc Try.prog w base spare held 23 v d p) :
    ∃ a b c : Int, v = .agg #[.int .u8 a, .int .u8 b, .int .i64 c] ∧ ((Lit.int .u8 a).wf = true ∧ (Lit.int .u8 b).wf = true ∧ (Lit.int .i64 c).wf = true) := by
  obtain ⟨c0, c1, c2, y0, y1, y2, n, rfl, _, _, h0, h1, h2⟩ := open_agg3 (f0 := _) (f1 := _) (f2 := _) Try.underlying23 (by kernel_rfl) (by kernel_rfl) hv h
  obtain ⟨a, rfl, wa⟩ := trod_int1 Try.underlying5 h0 rfl
  obtain ⟨b, rfl, wb⟩ := trod_int1 Try.underlying5 h1 rfl
  obtain ⟨c, rfl, wc⟩ := trod_int1 Try.underlying3 h2 rfl
  exact ⟨a, b, c, rfl, wa, wb, wc⟩
end Go.Proofs.Ytknahemnmboidaa
