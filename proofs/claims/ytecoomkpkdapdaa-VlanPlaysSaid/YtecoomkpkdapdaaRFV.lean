/- The reader of a frame. -/
import Derived.Test.YtecoomkpkdapdaaRM
import Derived.Test.YtecoomkpkdapdaaVF
set_option linter.unusedVariables false
namespace Go.Proofs.Ytecoomkpkdapdaa
open Go.ChangeShapes Go.WideShapes Go.ChangeAt Go.RowKit Go.Joins

theorem list17 {α : Type} (l : List α) (h : l.length = 17) : ∃ c0 c1 c2 c3 c4 c5 c6 c7 c8 c9 c10 c11 c12 c13 c14 c15 c16, l = [c0, c1, c2, c3, c4, c5, c6, c7, c8, c9, c10, c11, c12, c13, c14, c15, c16] := by
  match l, h with
  | [c0, c1, c2, c3, c4, c5, c6, c7, c8, c9, c10, c11, c12, c13, c14, c15, c16], _ => exact ⟨c0, c1, c2, c3, c4, c5, c6, c7, c8, c9, c10, c11, c12, c13, c14, c15, c16, rfl⟩
theorem list7 {α : Type} (l : List α) (h : l.length = 7) : ∃ c0 c1 c2 c3 c4 c5 c6, l = [c0, c1, c2, c3, c4, c5, c6] := by
  match l, h with
  | [c0, c1, c2, c3, c4, c5, c6], _ => exact ⟨c0, c1, c2, c3, c4, c5, c6, rfl⟩
set_option maxRecDepth 100000 in
set_option maxHeartbeats 4000000 in
theorem rd_frame {H : Type} {enc : TypeId × Value → H} {w : World} {r : Reach} {b0 base : Nat} {spare : Nat → Bool} {held : Bool} {v : Value} {d : DataW H} {p : List MemPlace}
    (hv : Value.okWide Try.prog w r b0 26 v) (h : DataW.Trod enc Try.prog w base spare held 26 v d p) :
    ∃ A : Array Value, v = .agg A ∧ Fr A := by
  obtain ⟨cs, rfl, hsz⟩ := okWide_struct Try.underlying26 hv
  rw [show Try.prog.cellsOf 26 = 17 by kernel_rfl] at hsz
  obtain ⟨fuel, hf⟩ := h
  obtain ⟨xs, n, _, _, _, hlen, hi⟩ := DataW.trod_struct Try.underlying26 hf
  obtain ⟨y0, y1, y2, y3, y4, y5, y6, rfl⟩ := list7 xs hlen
  obtain ⟨c0, c1, c2, c3, c4, c5, c6, c7, c8, c9, c10, c11, c12, c13, c14, c15, c16, hcs⟩ := list17 cs.toList (by rw [Array.length_toList, hsz])
  have k6 : Try.prog.cellsOf 24 = 6 := by kernel_rfl
  have kb : Try.prog.cellsOf 4 = 1 := by kernel_rfl
  have k8 : Try.prog.cellsOf 5 = 1 := by kernel_rfl
  have k16 : Try.prog.cellsOf 22 = 1 := by kernel_rfl
  have ks : Try.prog.cellsOf 9 = 1 := by kernel_rfl
  have h0 : DataW.trod enc Try.prog w base spare held n 24 ((cs.toList.drop 0).take (Try.prog.cellsOf 24)) = some y0 := hi 0 _ rfl
  have h1 : DataW.trod enc Try.prog w base spare held n 24 ((cs.toList.drop 6).take (Try.prog.cellsOf 24)) = some y1 := hi 1 _ rfl
  have h2 : DataW.trod enc Try.prog w base spare held n 4 ((cs.toList.drop 12).take (Try.prog.cellsOf 4)) = some y2 := hi 2 _ rfl
  have h3 : DataW.trod enc Try.prog w base spare held n 5 ((cs.toList.drop 13).take (Try.prog.cellsOf 5)) = some y3 := hi 3 _ rfl
  have h4 : DataW.trod enc Try.prog w base spare held n 22 ((cs.toList.drop 14).take (Try.prog.cellsOf 22)) = some y4 := hi 4 _ rfl
  have h5 : DataW.trod enc Try.prog w base spare held n 22 ((cs.toList.drop 15).take (Try.prog.cellsOf 22)) = some y5 := hi 5 _ rfl
  have h6 : DataW.trod enc Try.prog w base spare held n 9 ((cs.toList.drop 16).take (Try.prog.cellsOf 9)) = some y6 := hi 6 _ rfl
  rw [hcs, k6] at h0
  rw [hcs, k6] at h1
  rw [hcs, kb] at h2
  rw [hcs, k8] at h3
  rw [hcs, k16] at h4
  rw [hcs, k16] at h5
  rw [hcs, ks] at h6
  obtain ⟨x0, x1, x2, x3, x4, x5, e0, w0⟩ := six_of_cells Try.underlying24 Try.underlying5 k8 k6 h0
  obtain ⟨x6, x7, x8, x9, x10, x11, e1, w1⟩ := six_of_cells Try.underlying24 Try.underlying5 k8 k6 h1
  obtain ⟨t, e2, _⟩ := DataW.trod_bool Try.underlying4 h2
  obtain ⟨a3, e3, w3⟩ := trod_int1 Try.underlying5 h3 rfl
  obtain ⟨a4, e4, w4⟩ := trod_int1 Try.underlying22 h4 rfl
  obtain ⟨a5, e5, w5⟩ := trod_int1 Try.underlying22 h5 rfl
  obtain ⟨s, e6, _, w6⟩ := DataW.trod_string Try.underlying9 h6
  refine ⟨cs, rfl, x0, x1, x2, x3, x4, x5, x6, x7, x8, x9, x10, x11, t, a3, a4, a5, s.data.toList, ?_, ?_, ?_⟩
  · rw [← bs_of s]
    simp only [List.drop, List.take, List.cons.injEq, and_true] at e0 e1 e2 e6
    obtain ⟨rfl, rfl, rfl, rfl, rfl, rfl⟩ := e0
    obtain ⟨rfl, rfl, rfl, rfl, rfl, rfl⟩ := e1
    subst e2 e3 e4 e5 e6
    rw [show cs = cs.toList.toArray from rfl, hcs]
  · have := bounds_u8 w3; have := bounds_u16 w4; have := bounds_u16 w5
    unfold wfF
    exact ⟨w0, w1, by omega, by omega, by omega⟩
  · have := bs_size s.data.toList
    rw [← bs_of s] at this
    omega
end Go.Proofs.Ytecoomkpkdapdaa
