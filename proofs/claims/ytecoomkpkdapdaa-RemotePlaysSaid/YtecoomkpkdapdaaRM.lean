/- The reader of an address. -/
import Derived.Test.YtecoomkpkdapdaaR0
set_option linter.unusedVariables false
namespace Go.Proofs.Ytecoomkpkdapdaa
open Go.ChangeShapes Go.WideShapes Go.ChangeAt Go.RowKit Go.Joins
/-- An address's six numbers are bytes. -/
def wfM (a b c d e f : Int) : Prop := (0 ≤ a ∧ a < 256) ∧ (0 ≤ b ∧ b < 256) ∧ (0 ≤ c ∧ c < 256) ∧ (0 ≤ d ∧ d < 256) ∧ (0 ≤ e ∧ e < 256) ∧ (0 ≤ f ∧ f < 256)
theorem six_of_cells {H : Type} {enc : TypeId × Value → H} {P : Program} {w : World} {base : Nat} {spare : Nat → Bool} {held : Bool} {fuel : Nat} {t e : TypeId} {cs : List Value} {x : DataW H × List MemPlace}
    (ht : P.underlying t = some (.array 6 e)) (he : P.underlying e = some (.int .u8)) (hce : P.cellsOf e = 1) (hct : P.cellsOf t = 6)
    (h : DataW.trod enc P w base spare held fuel t cs = some x) :
    ∃ a b c d e f : Int, cs = [.int .u8 a, .int .u8 b, .int .u8 c, .int .u8 d, .int .u8 e, .int .u8 f] ∧ wfM a b c d e f := by
  obtain ⟨xs, m, _, _, hl, hxs, hi⟩ := DataW.trod_array ht h
  rw [hct] at hl
  match cs, hl with
  | [c0, c1, c2, c3, c4, c5], _ =>
    have g : ∀ (i : Nat), i < 6 → (xs[i]?).isSome = true := fun i h => by simp [hxs, h]
    have h0 := hi 0 (by omega)
    have h1 := hi 1 (by omega)
    have h2 := hi 2 (by omega)
    have h3 := hi 3 (by omega)
    have h4 := hi 4 (by omega)
    have h5 := hi 5 (by omega)
    rw [hce] at h0 h1 h2 h3 h4 h5
    obtain ⟨a0, rfl, w0⟩ := trod_int1 he (by simpa using h0) (g 0 (by omega))
    obtain ⟨a1, rfl, w1⟩ := trod_int1 he (by simpa using h1) (g 1 (by omega))
    obtain ⟨a2, rfl, w2⟩ := trod_int1 he (by simpa using h2) (g 2 (by omega))
    obtain ⟨a3, rfl, w3⟩ := trod_int1 he (by simpa using h3) (g 3 (by omega))
    obtain ⟨a4, rfl, w4⟩ := trod_int1 he (by simpa using h4) (g 4 (by omega))
    obtain ⟨a5, rfl, w5⟩ := trod_int1 he (by simpa using h5) (g 5 (by omega))
    refine ⟨a0, a1, a2, a3, a4, a5, rfl, ?_⟩
    have := bounds_u8 w0; have := bounds_u8 w1; have := bounds_u8 w2; have := bounds_u8 w3; have := bounds_u8 w4; have := bounds_u8 w5
    unfold wfM; omega
set_option maxRecDepth 100000 in
theorem rd_mac {H : Type} {enc : TypeId × Value → H} {w : World} {r : Reach} {b0 base : Nat} {spare : Nat → Bool} {held : Bool} {v : Value} {d : DataW H} {p : List MemPlace}
    (hv : Value.okWide Try.prog w r b0 24 v) (h : DataW.Trod enc Try.prog w base spare held 24 v d p) :
    ∃ a b c d e f : Int, v = .agg #[.int .u8 a, .int .u8 b, .int .u8 c, .int .u8 d, .int .u8 e, .int .u8 f] ∧ wfM a b c d e f := by
  obtain ⟨cs, rfl, hsz⟩ := okWide_arr Try.underlying24 hv
  obtain ⟨fuel, hf⟩ := h
  obtain ⟨a, b, c, d, e, f, hcs, hw⟩ := six_of_cells Try.underlying24 Try.underlying5 (by kernel_rfl) (by kernel_rfl) hf
  refine ⟨a, b, c, d, e, f, ?_, hw⟩
  simp [Value.cells] at hcs
  rw [show cs = cs.toList.toArray from rfl, hcs]
end Go.Proofs.Ytecoomkpkdapdaa
