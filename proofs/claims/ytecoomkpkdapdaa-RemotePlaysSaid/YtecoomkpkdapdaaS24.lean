/- The readers of RemotePlays' arguments. -/
import Derived.Test.YtecoomkpkdapdaaRRW
import Derived.Test.YtecoomkpkdapdaaSC
import Derived.Deep.Slices
set_option linter.unusedVariables false
namespace Go.Proofs.Ytecoomkpkdapdaa
open Go.ChangeShapes Go.WideShapes Go.ChangeAt Go.RowKit Go.Deep

theorem list4 {α : Type} (l : List α) (h : l.length = 4) : ∃ c0 c1 c2 c3, l = [c0, c1, c2, c3] := by
  match l, h with
  | [c0, c1, c2, c3], _ => exact ⟨c0, c1, c2, c3, rfl⟩
theorem list2 {α : Type} (l : List α) (h : l.length = 2) : ∃ c0 c1, l = [c0, c1] := by
  match l, h with
  | [c0, c1], _ => exact ⟨c0, c1, rfl⟩
theorem list7 {α : Type} (l : List α) (h : l.length = 7) : ∃ c0 c1 c2 c3 c4 c5 c6, l = [c0, c1, c2, c3, c4, c5, c6] := by
  match l, h with
  | [c0, c1, c2, c3, c4, c5, c6], _ => exact ⟨c0, c1, c2, c3, c4, c5, c6, rfl⟩
instance : Inhabited Ak := ⟨⟨0, ⟨0, false, 0, 0, 0, []⟩⟩⟩
instance : Inhabited Int := ⟨0⟩
def OwA (a : Ow8) : Prop := (0 ≤ a.lv ∧ a.lv < 256) ∧ (0 ≤ a.mp ∧ a.mp < 65536) ∧ (0 ≤ a.iv ∧ a.iv < 256) ∧ a.md.length ≤ maxLen
set_option maxRecDepth 100000 in
theorem rd_ref18_Own {H : Type} {enc : TypeId × Value → H} {w : World} {r : Reach} {b0 base : Nat} {spare : Nat → Bool} {held : Bool} {v : Value} {d : DataW H} {p : List MemPlace}
    (hv : Value.okWide Try.prog w r b0 56 v) (h : DataW.Trod enc Try.prog w base spare held 56 v d p) : ∃ a : Ow8, v = .agg (ow8A a) ∧ OwA a := by
  obtain ⟨cs, rfl, hsz⟩ := okWide_struct Try.underlying56 hv
  rw [show Try.prog.cellsOf 56 = 4 by kernel_rfl] at hsz
  obtain ⟨fuel, hf⟩ := h
  obtain ⟨xs, n, _, _, _, hlen, hi⟩ := DataW.trod_struct Try.underlying56 hf
  obtain ⟨y0, y1, y2, y3, rfl⟩ := list4 xs hlen
  obtain ⟨c0, c1, c2, c3, hcs⟩ := list4 cs.toList (by rw [Array.length_toList, hsz])
  have k8 : Try.prog.cellsOf 5 = 1 := by kernel_rfl
  have k16 : Try.prog.cellsOf 22 = 1 := by kernel_rfl
  have ks : Try.prog.cellsOf 9 = 1 := by kernel_rfl
  have h0 : DataW.trod enc Try.prog w base spare held n 5 ((cs.toList.drop 0).take (Try.prog.cellsOf 5)) = some y0 := hi 0 _ rfl
  have h1 : DataW.trod enc Try.prog w base spare held n 22 ((cs.toList.drop 1).take (Try.prog.cellsOf 22)) = some y1 := hi 1 _ rfl
  have h2 : DataW.trod enc Try.prog w base spare held n 5 ((cs.toList.drop 2).take (Try.prog.cellsOf 5)) = some y2 := hi 2 _ rfl
  have h3 : DataW.trod enc Try.prog w base spare held n 9 ((cs.toList.drop 3).take (Try.prog.cellsOf 9)) = some y3 := hi 3 _ rfl
  rw [hcs, k8] at h0 h2
  rw [hcs, k16] at h1
  rw [hcs, ks] at h3
  obtain ⟨a0, e0, w0⟩ := trod_int1 Try.underlying5 h0 rfl
  obtain ⟨a1, e1, w1⟩ := trod_int1 Try.underlying22 h1 rfl
  obtain ⟨a2, e2, w2⟩ := trod_int1 Try.underlying5 h2 rfl
  obtain ⟨s, e3, _, w3⟩ := DataW.trod_string Try.underlying9 h3
  refine ⟨⟨a0, a1, a2, s.data.toList⟩, ?_, ?_⟩
  · unfold ow8A
    simp only [← bs_of s]
    simp only [List.drop, List.take, List.cons.injEq, and_true] at e3
    subst e0 e1 e2 e3
    rw [show cs = cs.toList.toArray from rfl, hcs]
  · have := bounds_u8 w0; have := bounds_u16 w1; have := bounds_u8 w2
    have h6 := bs_size s.data.toList
    rw [← bs_of s] at h6
    unfold OwA
    exact ⟨by show 0 ≤ a0 ∧ a0 < 256; omega, by show 0 ≤ a1 ∧ a1 < 65536; omega, by show 0 ≤ a2 ∧ a2 < 256; omega, by show s.data.toList.length ≤ maxLen; omega⟩
set_option maxRecDepth 100000 in
set_option maxHeartbeats 4000000 in
theorem rd_sl_uint16 {H : Type} {enc : TypeId × Value → H} {w : World} {r : Reach} {b0 base : Nat} {spare : Nat → Bool} {held : Bool} {v : Value} {d : DataW H} {p : List MemPlace}
    (hv : Value.okWide Try.prog w r b0 46 v) (h : DataW.Trod enc Try.prog w base spare held 46 v d p) : ∃ (l : List Int), v = v ∧ (Rw 1 u1 w v l ∧ l.length ≤ maxLen ∧ ∀ x ∈ l, 0 ≤ x ∧ x < 65536) := by
  refine rd_rows (Ok := fun x : Int => 0 ≤ x ∧ x < 65536) Try.underlying46 (by kernel_rfl) u1_len (by decide) (fun n cs y hl ht => ?_) hv h
  obtain ⟨c, rfl⟩ := List.length_eq_one_iff.1 hl
  obtain ⟨a0, e0, w0⟩ := trod_int1 Try.underlying22 ht rfl
  have b0 := bounds_u16 w0
  subst e0
  exact ⟨a0, rfl, by omega⟩
set_option maxRecDepth 100000 in
set_option maxHeartbeats 4000000 in
theorem rd_sl_law18_Act {H : Type} {enc : TypeId × Value → H} {w : World} {r : Reach} {b0 base : Nat} {spare : Nat → Bool} {held : Bool} {v : Value} {d : DataW H} {p : List MemPlace}
    (hv : Value.okWide Try.prog w r b0 57 v) (h : DataW.Trod enc Try.prog w base spare held 57 v d p) : ∃ (l : List Ak), v = v ∧ (Rw 7 akC w v l ∧ l.length ≤ maxLen ∧ ∀ x ∈ l, x.Ok) := by
  refine rd_rows Try.underlying57 (by kernel_rfl) akC_len (by decide) (fun n cs y hl ht => ?_) hv h
  obtain ⟨xs, n', _, _, _, hlen, hi⟩ := DataW.trod_struct Try.underlying71 ht
  obtain ⟨y0, y1, rfl⟩ := list2 xs hlen
  obtain ⟨q0, c0, c1, c2, c3, c4, c5, rfl⟩ := list7 cs hl
  have kb : Try.prog.cellsOf 4 = 1 := by kernel_rfl
  have k8 : Try.prog.cellsOf 5 = 1 := by kernel_rfl
  have k16 : Try.prog.cellsOf 22 = 1 := by kernel_rfl
  have k32 : Try.prog.cellsOf 67 = 1 := by kernel_rfl
  have ks : Try.prog.cellsOf 9 = 1 := by kernel_rfl
  have kc : Try.prog.cellsOf 69 = 6 := by kernel_rfl
  have hq : DataW.trod enc Try.prog w base spare held n' 5 (([q0, c0, c1, c2, c3, c4, c5].drop 0).take (Try.prog.cellsOf 5)) = some y0 := hi 0 _ rfl
  have hc : DataW.trod enc Try.prog w base spare held n' 69 (([q0, c0, c1, c2, c3, c4, c5].drop 1).take (Try.prog.cellsOf 69)) = some y1 := hi 1 _ rfl
  rw [k8] at hq
  rw [kc] at hc
  obtain ⟨aq, eq, wq⟩ := trod_int1 Try.underlying5 hq rfl
  obtain ⟨xs2, n2, _, _, _, hlen2, hi2⟩ := DataW.trod_struct Try.underlying69 hc
  obtain ⟨z0, z1, z2, z3, z4, z5, rfl⟩ := list6 xs2 hlen2
  have h0 : DataW.trod enc Try.prog w base spare held n2 5 (([c0, c1, c2, c3, c4, c5].drop 0).take (Try.prog.cellsOf 5)) = some z0 := hi2 0 _ rfl
  have h1 : DataW.trod enc Try.prog w base spare held n2 4 (([c0, c1, c2, c3, c4, c5].drop 1).take (Try.prog.cellsOf 4)) = some z1 := hi2 1 _ rfl
  have h2 : DataW.trod enc Try.prog w base spare held n2 5 (([c0, c1, c2, c3, c4, c5].drop 2).take (Try.prog.cellsOf 5)) = some z2 := hi2 2 _ rfl
  have h3 : DataW.trod enc Try.prog w base spare held n2 67 (([c0, c1, c2, c3, c4, c5].drop 3).take (Try.prog.cellsOf 67)) = some z3 := hi2 3 _ rfl
  have h4 : DataW.trod enc Try.prog w base spare held n2 22 (([c0, c1, c2, c3, c4, c5].drop 4).take (Try.prog.cellsOf 22)) = some z4 := hi2 4 _ rfl
  have h5 : DataW.trod enc Try.prog w base spare held n2 9 (([c0, c1, c2, c3, c4, c5].drop 5).take (Try.prog.cellsOf 9)) = some z5 := hi2 5 _ rfl
  rw [k8] at h0 h2
  rw [kb] at h1
  rw [k32] at h3
  rw [k16] at h4
  rw [ks] at h5
  obtain ⟨a0, e0, w0⟩ := trod_int1 Try.underlying5 h0 rfl
  obtain ⟨a1, e1, _⟩ := DataW.trod_bool Try.underlying4 h1
  obtain ⟨a2, e2, w2⟩ := trod_int1 Try.underlying5 h2 rfl
  obtain ⟨a3, e3, w3⟩ := trod_int1 Try.underlying67 h3 rfl
  obtain ⟨a4, e4, w4⟩ := trod_int1 Try.underlying22 h4 rfl
  obtain ⟨s, e5, _, w5⟩ := DataW.trod_string Try.underlying9 h5
  refine ⟨⟨aq, ⟨a0, a1, a2, a3, a4, s.data.toList⟩⟩, ?_, ?_⟩
  · unfold akC ckC
    simp only [← bs_of s]
    simp only [List.drop, List.take, List.cons.injEq, and_true] at e1 e5
    subst eq e0 e1 e2 e3 e4 e5
    rfl
  · have := bounds_u8 wq; have := bounds_u8 w0; have := bounds_u8 w2; have := bounds_u32 w3; have := bounds_u16 w4
    have h6 := bs_size s.data.toList
    rw [← bs_of s] at h6
    unfold Ak.Ok CkA
    exact ⟨by show 0 ≤ aq ∧ aq < 256; omega, by show 0 ≤ a0 ∧ a0 < 256; omega, by show 0 ≤ a2 ∧ a2 < 256; omega, by show 0 ≤ a3 ∧ a3 < 4294967296; omega, by show 0 ≤ a4 ∧ a4 < 65536; omega, by show s.data.toList.length ≤ maxLen; omega⟩
end Go.Proofs.Ytecoomkpkdapdaa
