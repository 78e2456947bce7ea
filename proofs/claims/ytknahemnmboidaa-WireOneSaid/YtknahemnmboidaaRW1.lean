/- Readers of the laws of layer 1. -/
import Derived.Test.YtknahemnmboidaaR1
set_option linter.unusedVariables false
namespace Go.Proofs.Ytknahemnmboidaa
open Go.ChangeShapes Go.WideShapes Go.ChangeAt Go.RowKit
set_option maxRecDepth 100000 in
theorem rd_sl_law01_Ask {H : Type} {enc : TypeId × Value → H} {w : World} {r : Reach} {b0 base : Nat} {spare : Nat → Bool} {held : Bool} {v : Value} {d : DataW H} {p : List MemPlace}
    (hv : Value.okWide Try.prog w r b0 71 v) (h : DataW.Trod enc Try.prog w base spare held 71 v d p) : ∃ (l : List (Int × Int)), v = v ∧ Pairs .u8 .i64 w v l := by
  obtain ⟨l, hl⟩ := rd_pairs Try.underlying71 Try.underlying75 Try.underlying5 Try.underlying3 (by kernel_rfl) rfl rfl (by kernel_rfl) (by kernel_rfl) hv h
  exact ⟨l, rfl, hl⟩
set_option maxRecDepth 100000 in
theorem rd_sl_law01_Part {H : Type} {enc : TypeId × Value → H} {w : World} {r : Reach} {b0 base : Nat} {spare : Nat → Bool} {held : Bool} {v : Value} {d : DataW H} {p : List MemPlace}
    (hv : Value.okWide Try.prog w r b0 68 v) (h : DataW.Trod enc Try.prog w base spare held 68 v d p) : ∃ (l : List (Int × Int)), v = v ∧ Pairs .u8 .u64 w v l := by
  obtain ⟨l, hl⟩ := rd_pairs Try.underlying68 Try.underlying65 Try.underlying5 Try.underlying42 (by kernel_rfl) rfl rfl (by kernel_rfl) (by kernel_rfl) hv h
  exact ⟨l, rfl, hl⟩
end Go.Proofs.Ytknahemnmboidaa
