/- The reader of a loop. -/
import Derived.Test.YtcbbocdmmehphaaR0
import Derived.Test.YtcbbocdmmehphaaK1
set_option linter.unusedVariables false
namespace Go.Proofs.Ytcbbocdmmehphaa
open Go.ChangeShapes Go.WideShapes Go.ChangeAt Go.RowKit Go.Joins

theorem list4L {α : Type} (l : List α) (h : l.length = 4) : ∃ c0 c1 c2 c3, l = [c0, c1, c2, c3] := by
  match l, h with
  | [c0, c1, c2, c3], _ => exact ⟨c0, c1, c2, c3, rfl⟩
/-- What is known of a loop that is an argument. -/
def LpA (lv nm : Int) (dt : List UInt8) : Prop := (0 ≤ lv ∧ lv < 256) ∧ (0 ≤ nm ∧ nm < 4294967296) ∧ dt.length ≤ maxLen
set_option maxRecDepth 100000 in
theorem rd_ref14_Loop {H : Type} {enc : TypeId × Value → H} {w : World} {r : Reach} {b0 base : Nat} {spare : Nat → Bool} {held : Bool} {v : Value} {d : DataW H} {p : List MemPlace}
    (hv : Value.okWide Try.prog w r b0 52 v) (h : DataW.Trod enc Try.prog w base spare held 52 v d p) :
    ∃ (xlv : Int) (xrp : Bool) (xnm : Int) (xdt : List UInt8), v = .agg #[.int .u8 xlv, .bool xrp, .int .u32 xnm, .string (bs xdt)] ∧ LpA xlv xnm xdt := by
  obtain ⟨cs, rfl, hsz⟩ := okWide_struct Try.underlying52 hv
  rw [show Try.prog.cellsOf 52 = 4 by kernel_rfl] at hsz
  obtain ⟨fuel, hf⟩ := h
  obtain ⟨xs, n, _, _, _, hlen, hi⟩ := DataW.trod_struct Try.underlying52 hf
  obtain ⟨y0, y1, y2, y3, rfl⟩ := list4L xs hlen
  obtain ⟨c0, c1, c2, c3, hcs⟩ := list4L cs.toList (by rw [Array.length_toList, hsz])
  have kb : Try.prog.cellsOf 4 = 1 := by kernel_rfl
  have k8 : Try.prog.cellsOf 5 = 1 := by kernel_rfl
  have k32 : Try.prog.cellsOf 50 = 1 := by kernel_rfl
  have ks : Try.prog.cellsOf 9 = 1 := by kernel_rfl
  have h0 : DataW.trod enc Try.prog w base spare held n 5 ((cs.toList.drop 0).take (Try.prog.cellsOf 5)) = some y0 := hi 0 _ rfl
  have h1 : DataW.trod enc Try.prog w base spare held n 4 ((cs.toList.drop 1).take (Try.prog.cellsOf 4)) = some y1 := hi 1 _ rfl
  have h2 : DataW.trod enc Try.prog w base spare held n 50 ((cs.toList.drop 2).take (Try.prog.cellsOf 50)) = some y2 := hi 2 _ rfl
  have h3 : DataW.trod enc Try.prog w base spare held n 9 ((cs.toList.drop 3).take (Try.prog.cellsOf 9)) = some y3 := hi 3 _ rfl
  rw [hcs, k8] at h0
  rw [hcs, kb] at h1
  rw [hcs, k32] at h2
  rw [hcs, ks] at h3
  obtain ⟨a0, e0, w0⟩ := trod_int1 Try.underlying5 h0 rfl
  obtain ⟨a1, e1, _⟩ := DataW.trod_bool Try.underlying4 h1
  obtain ⟨a2, e2, w2⟩ := trod_int1 Try.underlying50 h2 rfl
  obtain ⟨s, e3, _, w3⟩ := DataW.trod_string Try.underlying9 h3
  refine ⟨a0, a1, a2, s.data.toList, ?_, ?_⟩
  · rw [← bs_of s]
    simp only [List.drop, List.take, List.cons.injEq, and_true] at e1 e3
    subst e0 e1 e2 e3
    rw [show cs = cs.toList.toArray from rfl, hcs]
  · have := bounds_u8 w0; have := bounds_u32 w2
    have h6 := bs_size s.data.toList
    rw [← bs_of s] at h6
    unfold LpA
    exact ⟨by omega, by omega, by omega⟩
set_option maxRecDepth 100000 in
theorem rd_lbm_Loop {H : Type} {enc : TypeId × Value → H} {w : World} {r : Reach} {b0 base : Nat} {spare : Nat → Bool} {held : Bool} {v : Value} {d : DataW H} {p : List MemPlace}
    (hv : Value.okWide Try.prog w r b0 54 v) (h : DataW.Trod enc Try.prog w base spare held 54 v d p) :
    ∃ (xlv : Int) (xrp : Bool) (xnm : Int) (xdt : List UInt8), v = .agg #[.int .u8 xlv, .bool xrp, .int .u32 xnm, .string (bs xdt)] ∧ LpA xlv xnm xdt := by
  obtain ⟨cs, rfl, hsz⟩ := okWide_struct Try.underlying54 hv
  rw [show Try.prog.cellsOf 54 = 4 by kernel_rfl] at hsz
  obtain ⟨fuel, hf⟩ := h
  obtain ⟨xs, n, _, _, _, hlen, hi⟩ := DataW.trod_struct Try.underlying54 hf
  obtain ⟨y0, y1, y2, y3, rfl⟩ := list4L xs hlen
  obtain ⟨c0, c1, c2, c3, hcs⟩ := list4L cs.toList (by rw [Array.length_toList, hsz])
  have kb : Try.prog.cellsOf 4 = 1 := by kernel_rfl
  have k8 : Try.prog.cellsOf 5 = 1 := by kernel_rfl
  have k32 : Try.prog.cellsOf 50 = 1 := by kernel_rfl
  have ks : Try.prog.cellsOf 9 = 1 := by kernel_rfl
  have h0 : DataW.trod enc Try.prog w base spare held n 5 ((cs.toList.drop 0).take (Try.prog.cellsOf 5)) = some y0 := hi 0 _ rfl
  have h1 : DataW.trod enc Try.prog w base spare held n 4 ((cs.toList.drop 1).take (Try.prog.cellsOf 4)) = some y1 := hi 1 _ rfl
  have h2 : DataW.trod enc Try.prog w base spare held n 50 ((cs.toList.drop 2).take (Try.prog.cellsOf 50)) = some y2 := hi 2 _ rfl
  have h3 : DataW.trod enc Try.prog w base spare held n 9 ((cs.toList.drop 3).take (Try.prog.cellsOf 9)) = some y3 := hi 3 _ rfl
  rw [hcs, k8] at h0
  rw [hcs, kb] at h1
  rw [hcs, k32] at h2
  rw [hcs, ks] at h3
  obtain ⟨a0, e0, w0⟩ := trod_int1 Try.underlying5 h0 rfl
  obtain ⟨a1, e1, _⟩ := DataW.trod_bool Try.underlying4 h1
  obtain ⟨a2, e2, w2⟩ := trod_int1 Try.underlying50 h2 rfl
  obtain ⟨s, e3, _, w3⟩ := DataW.trod_string Try.underlying9 h3
  refine ⟨a0, a1, a2, s.data.toList, ?_, ?_⟩
  · rw [← bs_of s]
    simp only [List.drop, List.take, List.cons.injEq, and_true] at e1 e3
    subst e0 e1 e2 e3
    rw [show cs = cs.toList.toArray from rfl, hcs]
  · have := bounds_u8 w0; have := bounds_u32 w2
    have h6 := bs_size s.data.toList
    rw [← bs_of s] at h6
    unfold LpA
    exact ⟨by omega, by omega, by omega⟩
end Go.Proofs.Ytcbbocdmmehphaa
