/- The reader of a check. -/
import Derived.Test.YtecoomkpkdapdaaR0
import Derived.Test.YtecoomkpkdapdaaK1
set_option linter.unusedVariables false
namespace Go.Proofs.Ytecoomkpkdapdaa
open Go.ChangeShapes Go.WideShapes Go.ChangeAt Go.RowKit Go.Joins

theorem list6 {α : Type} (l : List α) (h : l.length = 6) : ∃ c0 c1 c2 c3 c4 c5, l = [c0, c1, c2, c3, c4, c5] := by
  match l, h with
  | [c0, c1, c2, c3, c4, c5], _ => exact ⟨c0, c1, c2, c3, c4, c5, rfl⟩
/-- What is known of a check that is an argument. -/
def CkA (lv iv sq me : Int) (m : List UInt8) : Prop := (0 ≤ lv ∧ lv < 256) ∧ (0 ≤ iv ∧ iv < 256) ∧ (0 ≤ sq ∧ sq < 4294967296) ∧ (0 ≤ me ∧ me < 65536) ∧ m.length ≤ maxLen
set_option maxRecDepth 100000 in
theorem rd_ref13_Check {H : Type} {enc : TypeId × Value → H} {w : World} {r : Reach} {b0 base : Nat} {spare : Nat → Bool} {held : Bool} {v : Value} {d : DataW H} {p : List MemPlace}
    (hv : Value.okWide Try.prog w r b0 69 v) (h : DataW.Trod enc Try.prog w base spare held 69 v d p) :
    ∃ (xlv : Int) (xrd : Bool) (xiv xsq xme : Int) (xm : List UInt8), v = .agg #[.int .u8 xlv, .bool xrd, .int .u8 xiv, .int .u32 xsq, .int .u16 xme, .string (bs xm)] ∧ CkA xlv xiv xsq xme xm := by
  obtain ⟨cs, rfl, hsz⟩ := okWide_struct Try.underlying69 hv
  rw [show Try.prog.cellsOf 69 = 6 by kernel_rfl] at hsz
  obtain ⟨fuel, hf⟩ := h
  obtain ⟨xs, n, _, _, _, hlen, hi⟩ := DataW.trod_struct Try.underlying69 hf
  obtain ⟨y0, y1, y2, y3, y4, y5, rfl⟩ := list6 xs hlen
  obtain ⟨c0, c1, c2, c3, c4, c5, hcs⟩ := list6 cs.toList (by rw [Array.length_toList, hsz])
  have kb : Try.prog.cellsOf 4 = 1 := by kernel_rfl
  have k8 : Try.prog.cellsOf 5 = 1 := by kernel_rfl
  have k16 : Try.prog.cellsOf 22 = 1 := by kernel_rfl
  have k32 : Try.prog.cellsOf 67 = 1 := by kernel_rfl
  have ks : Try.prog.cellsOf 9 = 1 := by kernel_rfl
  have h0 : DataW.trod enc Try.prog w base spare held n 5 ((cs.toList.drop 0).take (Try.prog.cellsOf 5)) = some y0 := hi 0 _ rfl
  have h1 : DataW.trod enc Try.prog w base spare held n 4 ((cs.toList.drop 1).take (Try.prog.cellsOf 4)) = some y1 := hi 1 _ rfl
  have h2 : DataW.trod enc Try.prog w base spare held n 5 ((cs.toList.drop 2).take (Try.prog.cellsOf 5)) = some y2 := hi 2 _ rfl
  have h3 : DataW.trod enc Try.prog w base spare held n 67 ((cs.toList.drop 3).take (Try.prog.cellsOf 67)) = some y3 := hi 3 _ rfl
  have h4 : DataW.trod enc Try.prog w base spare held n 22 ((cs.toList.drop 4).take (Try.prog.cellsOf 22)) = some y4 := hi 4 _ rfl
  have h5 : DataW.trod enc Try.prog w base spare held n 9 ((cs.toList.drop 5).take (Try.prog.cellsOf 9)) = some y5 := hi 5 _ rfl
  rw [hcs, k8] at h0 h2
  rw [hcs, kb] at h1
  rw [hcs, k32] at h3
  rw [hcs, k16] at h4
  rw [hcs, ks] at h5
  obtain ⟨a0, e0, w0⟩ := trod_int1 Try.underlying5 h0 rfl
  obtain ⟨a1, e1, _⟩ := DataW.trod_bool Try.underlying4 h1
  obtain ⟨a2, e2, w2⟩ := trod_int1 Try.underlying5 h2 rfl
  obtain ⟨a3, e3, w3⟩ := trod_int1 Try.underlying67 h3 rfl
  obtain ⟨a4, e4, w4⟩ := trod_int1 Try.underlying22 h4 rfl
  obtain ⟨s, e5, _, w5⟩ := DataW.trod_string Try.underlying9 h5
  refine ⟨a0, a1, a2, a3, a4, s.data.toList, ?_, ?_⟩
  · rw [← bs_of s]
    simp only [List.drop, List.take, List.cons.injEq, and_true] at e1 e5
    subst e0 e1 e2 e3 e4 e5
    rw [show cs = cs.toList.toArray from rfl, hcs]
  · have := bounds_u8 w0; have := bounds_u8 w2; have := bounds_u32 w3; have := bounds_u16 w4
    have h6 := bs_size s.data.toList
    rw [← bs_of s] at h6
    unfold CkA
    exact ⟨by omega, by omega, by omega, by omega, by omega⟩
set_option maxRecDepth 100000 in
theorem rd_ccm_Check {H : Type} {enc : TypeId × Value → H} {w : World} {r : Reach} {b0 base : Nat} {spare : Nat → Bool} {held : Bool} {v : Value} {d : DataW H} {p : List MemPlace}
    (hv : Value.okWide Try.prog w r b0 73 v) (h : DataW.Trod enc Try.prog w base spare held 73 v d p) :
    ∃ (xlv : Int) (xrd : Bool) (xiv xsq xme : Int) (xm : List UInt8), v = .agg #[.int .u8 xlv, .bool xrd, .int .u8 xiv, .int .u32 xsq, .int .u16 xme, .string (bs xm)] ∧ CkA xlv xiv xsq xme xm := by
  obtain ⟨cs, rfl, hsz⟩ := okWide_struct Try.underlying73 hv
  rw [show Try.prog.cellsOf 73 = 6 by kernel_rfl] at hsz
  obtain ⟨fuel, hf⟩ := h
  obtain ⟨xs, n, _, _, _, hlen, hi⟩ := DataW.trod_struct Try.underlying73 hf
  obtain ⟨y0, y1, y2, y3, y4, y5, rfl⟩ := list6 xs hlen
  obtain ⟨c0, c1, c2, c3, c4, c5, hcs⟩ := list6 cs.toList (by rw [Array.length_toList, hsz])
  have kb : Try.prog.cellsOf 4 = 1 := by kernel_rfl
  have k8 : Try.prog.cellsOf 5 = 1 := by kernel_rfl
  have k16 : Try.prog.cellsOf 22 = 1 := by kernel_rfl
  have k32 : Try.prog.cellsOf 67 = 1 := by kernel_rfl
  have ks : Try.prog.cellsOf 9 = 1 := by kernel_rfl
  have h0 : DataW.trod enc Try.prog w base spare held n 5 ((cs.toList.drop 0).take (Try.prog.cellsOf 5)) = some y0 := hi 0 _ rfl
  have h1 : DataW.trod enc Try.prog w base spare held n 4 ((cs.toList.drop 1).take (Try.prog.cellsOf 4)) = some y1 := hi 1 _ rfl
  have h2 : DataW.trod enc Try.prog w base spare held n 5 ((cs.toList.drop 2).take (Try.prog.cellsOf 5)) = some y2 := hi 2 _ rfl
  have h3 : DataW.trod enc Try.prog w base spare held n 67 ((cs.toList.drop 3).take (Try.prog.cellsOf 67)) = some y3 := hi 3 _ rfl
  have h4 : DataW.trod enc Try.prog w base spare held n 22 ((cs.toList.drop 4).take (Try.prog.cellsOf 22)) = some y4 := hi 4 _ rfl
  have h5 : DataW.trod enc Try.prog w base spare held n 9 ((cs.toList.drop 5).take (Try.prog.cellsOf 9)) = some y5 := hi 5 _ rfl
  rw [hcs, k8] at h0 h2
  rw [hcs, kb] at h1
  rw [hcs, k32] at h3
  rw [hcs, k16] at h4
  rw [hcs, ks] at h5
  obtain ⟨a0, e0, w0⟩ := trod_int1 Try.underlying5 h0 rfl
  obtain ⟨a1, e1, _⟩ := DataW.trod_bool Try.underlying4 h1
  obtain ⟨a2, e2, w2⟩ := trod_int1 Try.underlying5 h2 rfl
  obtain ⟨a3, e3, w3⟩ := trod_int1 Try.underlying67 h3 rfl
  obtain ⟨a4, e4, w4⟩ := trod_int1 Try.underlying22 h4 rfl
  obtain ⟨s, e5, _, w5⟩ := DataW.trod_string Try.underlying9 h5
  refine ⟨a0, a1, a2, a3, a4, s.data.toList, ?_, ?_⟩
  · rw [← bs_of s]
    simp only [List.drop, List.take, List.cons.injEq, and_true] at e1 e5
    subst e0 e1 e2 e3 e4 e5
    rw [show cs = cs.toList.toArray from rfl, hcs]
  · have := bounds_u8 w0; have := bounds_u8 w2; have := bounds_u32 w3; have := bounds_u16 w4
    have h6 := bs_size s.data.toList
    rw [← bs_of s] at h6
    unfold CkA
    exact ⟨by omega, by omega, by omega, by omega, by omega⟩
end Go.Proofs.Ytecoomkpkdapdaa
