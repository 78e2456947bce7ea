/- The reader of a row of acts. -/
import Derived.Test.YtecoomkpkdapdaaRRW
import Derived.Test.YtecoomkpkdapdaaQ13
import Derived.Deep.Slices
set_option linter.unusedVariables false
namespace Go.Proofs.Ytecoomkpkdapdaa
open Go.ChangeShapes Go.WideShapes Go.ChangeAt Go.RowKit Go.Deep

theorem list5 {α : Type} (l : List α) (h : l.length = 5) : ∃ c0 c1 c2 c3 c4, l = [c0, c1, c2, c3, c4] := by
  match l, h with
  | [c0, c1, c2, c3, c4], _ => exact ⟨c0, c1, c2, c3, c4, rfl⟩
instance : Inhabited Ac := ⟨⟨0, 0, 0, 0, 0⟩⟩
set_option maxRecDepth 100000 in
set_option maxHeartbeats 4000000 in
theorem rd_sl_law07_Act {H : Type} {enc : TypeId × Value → H} {w : World} {r : Reach} {b0 base : Nat} {spare : Nat → Bool} {held : Bool} {v : Value} {d : DataW H} {p : List MemPlace}
    (hv : Value.okWide Try.prog w r b0 39 v) (h : DataW.Trod enc Try.prog w base spare held 39 v d p) : ∃ (l : List Ac), v = v ∧ (Rw 5 acC w v l ∧ l.length ≤ maxLen ∧ ∀ x ∈ l, x.Ok) := by
  refine rd_rows Try.underlying39 (by kernel_rfl) acC_len (by decide) (fun n cs y hl ht => ?_) hv h
  obtain ⟨xs, n', _, _, _, hlen, hi⟩ := DataW.trod_struct Try.underlying116 ht
  obtain ⟨y0, y1, y2, y3, y4, rfl⟩ := list5 xs hlen
  obtain ⟨c0, c1, c2, c3, c4, rfl⟩ := list5 cs hl
  have k8 : Try.prog.cellsOf 5 = 1 := by kernel_rfl
  have k16 : Try.prog.cellsOf 22 = 1 := by kernel_rfl
  have h0 : DataW.trod enc Try.prog w base spare held n' 5 (([c0, c1, c2, c3, c4].drop 0).take (Try.prog.cellsOf 5)) = some y0 := hi 0 _ rfl
  have h1 : DataW.trod enc Try.prog w base spare held n' 22 (([c0, c1, c2, c3, c4].drop 1).take (Try.prog.cellsOf 22)) = some y1 := hi 1 _ rfl
  have h2 : DataW.trod enc Try.prog w base spare held n' 5 (([c0, c1, c2, c3, c4].drop 2).take (Try.prog.cellsOf 5)) = some y2 := hi 2 _ rfl
  have h3 : DataW.trod enc Try.prog w base spare held n' 5 (([c0, c1, c2, c3, c4].drop 3).take (Try.prog.cellsOf 5)) = some y3 := hi 3 _ rfl
  have h4 : DataW.trod enc Try.prog w base spare held n' 5 (([c0, c1, c2, c3, c4].drop 4).take (Try.prog.cellsOf 5)) = some y4 := hi 4 _ rfl
  rw [k8] at h0 h2 h3 h4
  rw [k16] at h1
  obtain ⟨a0, e0, w0⟩ := trod_int1 Try.underlying5 h0 rfl
  obtain ⟨a1, e1, w1⟩ := trod_int1 Try.underlying22 h1 rfl
  obtain ⟨a2, e2, w2⟩ := trod_int1 Try.underlying5 h2 rfl
  obtain ⟨a3, e3, w3⟩ := trod_int1 Try.underlying5 h3 rfl
  obtain ⟨a4, e4, w4⟩ := trod_int1 Try.underlying5 h4 rfl
  subst e0 e1 e2 e3 e4
  have b0 := bounds_u8 w0; have b1 := bounds_u16 w1; have b2 := bounds_u8 w2; have b3 := bounds_u8 w3; have b4 := bounds_u8 w4
  obtain ⟨P, rfl⟩ : ∃ P : Nat, a4 = P := ⟨a4.toNat, by omega⟩
  exact ⟨⟨a0, a1, a2, a3, P⟩, rfl, ⟨by show 0 ≤ a0 ∧ a0 < 256; omega, by show 0 ≤ a1 ∧ a1 < 65536; omega, by show 0 ≤ a2 ∧ a2 < 256; omega, by show 0 ≤ a3 ∧ a3 < 256; omega, by show P < 256; omega⟩⟩
end Go.Proofs.Ytecoomkpkdapdaa
