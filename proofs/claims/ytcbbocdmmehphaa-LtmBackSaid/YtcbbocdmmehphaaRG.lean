/- The readers of a trace and of a reply. -/
import Derived.Test.YtcbbocdmmehphaaRM
import Derived.Test.YtcbbocdmmehphaaG0
set_option linter.unusedVariables false
namespace Go.Proofs.Ytcbbocdmmehphaa
open Go.ChangeShapes Go.WideShapes Go.ChangeAt Go.RowKit Go.Joins

theorem b8G {i : Int} (h : (Lit.int .u8 i).wf = true) : 0 ≤ i ∧ i < 256 := by have := bounds_u8 h; omega
theorem b32G {i : Int} (h : (Lit.int .u32 i).wf = true) : 0 ≤ i ∧ i < 4294967296 := by have := bounds_u32 h; omega
theorem list15G {α : Type} (l : List α) (h : l.length = 15) : ∃ c0 c1 c2 c3 c4 c5 c6 c7 c8 c9 c10 c11 c12 c13 c14, l = [c0, c1, c2, c3, c4, c5, c6, c7, c8, c9, c10, c11, c12, c13, c14] := by
  match l, h with
  | [c0, c1, c2, c3, c4, c5, c6, c7, c8, c9, c10, c11, c12, c13, c14], _ => exact ⟨c0, c1, c2, c3, c4, c5, c6, c7, c8, c9, c10, c11, c12, c13, c14, rfl⟩
theorem list17G {α : Type} (l : List α) (h : l.length = 17) : ∃ c0 c1 c2 c3 c4 c5 c6 c7 c8 c9 c10 c11 c12 c13 c14 c15 c16, l = [c0, c1, c2, c3, c4, c5, c6, c7, c8, c9, c10, c11, c12, c13, c14, c15, c16] := by
  match l, h with
  | [c0, c1, c2, c3, c4, c5, c6, c7, c8, c9, c10, c11, c12, c13, c14, c15, c16], _ => exact ⟨c0, c1, c2, c3, c4, c5, c6, c7, c8, c9, c10, c11, c12, c13, c14, c15, c16, rfl⟩
theorem list5G {α : Type} (l : List α) (h : l.length = 5) : ∃ c0 c1 c2 c3 c4, l = [c0, c1, c2, c3, c4] := by
  match l, h with
  | [c0, c1, c2, c3, c4], _ => exact ⟨c0, c1, c2, c3, c4, rfl⟩
theorem list7G {α : Type} (l : List α) (h : l.length = 7) : ∃ c0 c1 c2 c3 c4 c5 c6, l = [c0, c1, c2, c3, c4, c5, c6] := by
  match l, h with
  | [c0, c1, c2, c3, c4, c5, c6], _ => exact ⟨c0, c1, c2, c3, c4, c5, c6, rfl⟩
set_option maxRecDepth 100000 in
set_option maxHeartbeats 4000000 in
theorem rd_ref15_Trace {H : Type} {enc : TypeId × Value → H} {w : World} {r : Reach} {b0 base : Nat} {spare : Nat → Bool} {held : Bool} {v : Value} {d : DataW H} {p : List MemPlace}
    (hv : Value.okWide Try.prog w r b0 68 v) (h : DataW.Trod enc Try.prog w base spare held 68 v d p) :
    ∃ t : Tr, v = .agg #[.int .u8 t.lv, .int .u32 t.nm, .int .u8 t.tl, .int .u8 t.fr.a, .int .u8 t.fr.b, .int .u8 t.fr.c, .int .u8 t.fr.d, .int .u8 t.fr.e, .int .u8 t.fr.f, .int .u8 t.tt.a, .int .u8 t.tt.b, .int .u8 t.tt.c, .int .u8 t.tt.d, .int .u8 t.tt.e, .int .u8 t.tt.f] ∧ t.Ok := by
  obtain ⟨cs, rfl, hsz⟩ := okWide_struct Try.underlying68 hv
  rw [show Try.prog.cellsOf 68 = 15 by kernel_rfl] at hsz
  obtain ⟨fuel, hf⟩ := h
  obtain ⟨xs, n, _, _, _, hlen, hi⟩ := DataW.trod_struct Try.underlying68 hf
  obtain ⟨y0, y1, y2, y3, y4, rfl⟩ := list5G xs hlen
  obtain ⟨c0, c1, c2, c3, c4, c5, c6, c7, c8, c9, c10, c11, c12, c13, c14, hcs⟩ := list15G cs.toList (by rw [Array.length_toList, hsz])
  have k6 : Try.prog.cellsOf 46 = 6 := by kernel_rfl
  have kb : Try.prog.cellsOf 4 = 1 := by kernel_rfl
  have k8 : Try.prog.cellsOf 5 = 1 := by kernel_rfl
  have k32 : Try.prog.cellsOf 50 = 1 := by kernel_rfl
  have h0 : DataW.trod enc Try.prog w base spare held n 5 ((cs.toList.drop 0).take (Try.prog.cellsOf 5)) = some y0 := hi 0 _ rfl
  have h1 : DataW.trod enc Try.prog w base spare held n 50 ((cs.toList.drop 1).take (Try.prog.cellsOf 50)) = some y1 := hi 1 _ rfl
  have h2 : DataW.trod enc Try.prog w base spare held n 5 ((cs.toList.drop 2).take (Try.prog.cellsOf 5)) = some y2 := hi 2 _ rfl
  have h3 : DataW.trod enc Try.prog w base spare held n 46 ((cs.toList.drop 3).take (Try.prog.cellsOf 46)) = some y3 := hi 3 _ rfl
  have h4 : DataW.trod enc Try.prog w base spare held n 46 ((cs.toList.drop 9).take (Try.prog.cellsOf 46)) = some y4 := hi 4 _ rfl
  rw [hcs, k8] at h0
  rw [hcs, k32] at h1
  rw [hcs, k8] at h2
  rw [hcs, k6] at h3
  rw [hcs, k6] at h4
  obtain ⟨a0, e0, w0⟩ := trod_int1 Try.underlying5 h0 rfl
  obtain ⟨a1, e1, w1⟩ := trod_int1 Try.underlying50 h1 rfl
  obtain ⟨a2, e2, w2⟩ := trod_int1 Try.underlying5 h2 rfl
  obtain ⟨m3a, m3b, m3c, m3d, m3e, m3f, e3, w3⟩ := six_of_cells Try.underlying46 Try.underlying5 k8 k6 h3
  obtain ⟨m4a, m4b, m4c, m4d, m4e, m4f, e4, w4⟩ := six_of_cells Try.underlying46 Try.underlying5 k8 k6 h4
  refine ⟨⟨a0, a1, a2, ⟨m3a, m3b, m3c, m3d, m3e, m3f⟩, ⟨m4a, m4b, m4c, m4d, m4e, m4f⟩⟩, ?_, ?_⟩
  · simp only [List.drop, List.take, List.cons.injEq, and_true] at e3 e4
    obtain ⟨rfl, rfl, rfl, rfl, rfl, rfl⟩ := e3
    obtain ⟨rfl, rfl, rfl, rfl, rfl, rfl⟩ := e4
    subst e0 e1 e2
    rw [show cs = cs.toList.toArray from rfl, hcs]
  · exact ⟨b8G w0, b32G w1, b8G w2, ⟨w3.1, w3.2.1, w3.2.2.1, w3.2.2.2.1, w3.2.2.2.2.1, w3.2.2.2.2.2⟩, ⟨w4.1, w4.2.1, w4.2.2.1, w4.2.2.2.1, w4.2.2.2.2.1, w4.2.2.2.2.2⟩⟩
set_option maxRecDepth 100000 in
set_option maxHeartbeats 4000000 in
theorem rd_ltm_Trace {H : Type} {enc : TypeId × Value → H} {w : World} {r : Reach} {b0 base : Nat} {spare : Nat → Bool} {held : Bool} {v : Value} {d : DataW H} {p : List MemPlace}
    (hv : Value.okWide Try.prog w r b0 72 v) (h : DataW.Trod enc Try.prog w base spare held 72 v d p) :
    ∃ t : Tr, v = .agg #[.int .u8 t.lv, .int .u32 t.nm, .int .u8 t.tl, .int .u8 t.fr.a, .int .u8 t.fr.b, .int .u8 t.fr.c, .int .u8 t.fr.d, .int .u8 t.fr.e, .int .u8 t.fr.f, .int .u8 t.tt.a, .int .u8 t.tt.b, .int .u8 t.tt.c, .int .u8 t.tt.d, .int .u8 t.tt.e, .int .u8 t.tt.f] ∧ t.Ok := by
  obtain ⟨cs, rfl, hsz⟩ := okWide_struct Try.underlying72 hv
  rw [show Try.prog.cellsOf 72 = 15 by kernel_rfl] at hsz
  obtain ⟨fuel, hf⟩ := h
  obtain ⟨xs, n, _, _, _, hlen, hi⟩ := DataW.trod_struct Try.underlying72 hf
  obtain ⟨y0, y1, y2, y3, y4, rfl⟩ := list5G xs hlen
  obtain ⟨c0, c1, c2, c3, c4, c5, c6, c7, c8, c9, c10, c11, c12, c13, c14, hcs⟩ := list15G cs.toList (by rw [Array.length_toList, hsz])
  have k6 : Try.prog.cellsOf 46 = 6 := by kernel_rfl
  have kb : Try.prog.cellsOf 4 = 1 := by kernel_rfl
  have k8 : Try.prog.cellsOf 5 = 1 := by kernel_rfl
  have k32 : Try.prog.cellsOf 50 = 1 := by kernel_rfl
  have h0 : DataW.trod enc Try.prog w base spare held n 5 ((cs.toList.drop 0).take (Try.prog.cellsOf 5)) = some y0 := hi 0 _ rfl
  have h1 : DataW.trod enc Try.prog w base spare held n 50 ((cs.toList.drop 1).take (Try.prog.cellsOf 50)) = some y1 := hi 1 _ rfl
  have h2 : DataW.trod enc Try.prog w base spare held n 5 ((cs.toList.drop 2).take (Try.prog.cellsOf 5)) = some y2 := hi 2 _ rfl
  have h3 : DataW.trod enc Try.prog w base spare held n 46 ((cs.toList.drop 3).take (Try.prog.cellsOf 46)) = some y3 := hi 3 _ rfl
  have h4 : DataW.trod enc Try.prog w base spare held n 46 ((cs.toList.drop 9).take (Try.prog.cellsOf 46)) = some y4 := hi 4 _ rfl
  rw [hcs, k8] at h0
  rw [hcs, k32] at h1
  rw [hcs, k8] at h2
  rw [hcs, k6] at h3
  rw [hcs, k6] at h4
  obtain ⟨a0, e0, w0⟩ := trod_int1 Try.underlying5 h0 rfl
  obtain ⟨a1, e1, w1⟩ := trod_int1 Try.underlying50 h1 rfl
  obtain ⟨a2, e2, w2⟩ := trod_int1 Try.underlying5 h2 rfl
  obtain ⟨m3a, m3b, m3c, m3d, m3e, m3f, e3, w3⟩ := six_of_cells Try.underlying46 Try.underlying5 k8 k6 h3
  obtain ⟨m4a, m4b, m4c, m4d, m4e, m4f, e4, w4⟩ := six_of_cells Try.underlying46 Try.underlying5 k8 k6 h4
  refine ⟨⟨a0, a1, a2, ⟨m3a, m3b, m3c, m3d, m3e, m3f⟩, ⟨m4a, m4b, m4c, m4d, m4e, m4f⟩⟩, ?_, ?_⟩
  · simp only [List.drop, List.take, List.cons.injEq, and_true] at e3 e4
    obtain ⟨rfl, rfl, rfl, rfl, rfl, rfl⟩ := e3
    obtain ⟨rfl, rfl, rfl, rfl, rfl, rfl⟩ := e4
    subst e0 e1 e2
    rw [show cs = cs.toList.toArray from rfl, hcs]
  · exact ⟨b8G w0, b32G w1, b8G w2, ⟨w3.1, w3.2.1, w3.2.2.1, w3.2.2.2.1, w3.2.2.2.2.1, w3.2.2.2.2.2⟩, ⟨w4.1, w4.2.1, w4.2.2.1, w4.2.2.2.1, w4.2.2.2.2.1, w4.2.2.2.2.2⟩⟩
set_option maxRecDepth 100000 in
set_option maxHeartbeats 4000000 in
theorem rd_ref15_Reply {H : Type} {enc : TypeId × Value → H} {w : World} {r : Reach} {b0 base : Nat} {spare : Nat → Bool} {held : Bool} {v : Value} {d : DataW H} {p : List MemPlace}
    (hv : Value.okWide Try.prog w r b0 70 v) (h : DataW.Trod enc Try.prog w base spare held 70 v d p) :
    ∃ t : Rp, v = .agg #[.int .u8 t.lv, .int .u32 t.nm, .int .u8 t.tl, .bool t.st, .bool t.en, .int .u8 t.mi.a, .int .u8 t.mi.b, .int .u8 t.mi.c, .int .u8 t.mi.d, .int .u8 t.mi.e, .int .u8 t.mi.f, .int .u8 t.mo.a, .int .u8 t.mo.b, .int .u8 t.mo.c, .int .u8 t.mo.d, .int .u8 t.mo.e, .int .u8 t.mo.f] ∧ t.Ok := by
  obtain ⟨cs, rfl, hsz⟩ := okWide_struct Try.underlying70 hv
  rw [show Try.prog.cellsOf 70 = 17 by kernel_rfl] at hsz
  obtain ⟨fuel, hf⟩ := h
  obtain ⟨xs, n, _, _, _, hlen, hi⟩ := DataW.trod_struct Try.underlying70 hf
  obtain ⟨y0, y1, y2, y3, y4, y5, y6, rfl⟩ := list7G xs hlen
  obtain ⟨c0, c1, c2, c3, c4, c5, c6, c7, c8, c9, c10, c11, c12, c13, c14, c15, c16, hcs⟩ := list17G cs.toList (by rw [Array.length_toList, hsz])
  have k6 : Try.prog.cellsOf 46 = 6 := by kernel_rfl
  have kb : Try.prog.cellsOf 4 = 1 := by kernel_rfl
  have k8 : Try.prog.cellsOf 5 = 1 := by kernel_rfl
  have k32 : Try.prog.cellsOf 50 = 1 := by kernel_rfl
  have h0 : DataW.trod enc Try.prog w base spare held n 5 ((cs.toList.drop 0).take (Try.prog.cellsOf 5)) = some y0 := hi 0 _ rfl
  have h1 : DataW.trod enc Try.prog w base spare held n 50 ((cs.toList.drop 1).take (Try.prog.cellsOf 50)) = some y1 := hi 1 _ rfl
  have h2 : DataW.trod enc Try.prog w base spare held n 5 ((cs.toList.drop 2).take (Try.prog.cellsOf 5)) = some y2 := hi 2 _ rfl
  have h3 : DataW.trod enc Try.prog w base spare held n 4 ((cs.toList.drop 3).take (Try.prog.cellsOf 4)) = some y3 := hi 3 _ rfl
  have h4 : DataW.trod enc Try.prog w base spare held n 4 ((cs.toList.drop 4).take (Try.prog.cellsOf 4)) = some y4 := hi 4 _ rfl
  have h5 : DataW.trod enc Try.prog w base spare held n 46 ((cs.toList.drop 5).take (Try.prog.cellsOf 46)) = some y5 := hi 5 _ rfl
  have h6 : DataW.trod enc Try.prog w base spare held n 46 ((cs.toList.drop 11).take (Try.prog.cellsOf 46)) = some y6 := hi 6 _ rfl
  rw [hcs, k8] at h0
  rw [hcs, k32] at h1
  rw [hcs, k8] at h2
  rw [hcs, kb] at h3
  rw [hcs, kb] at h4
  rw [hcs, k6] at h5
  rw [hcs, k6] at h6
  obtain ⟨a0, e0, w0⟩ := trod_int1 Try.underlying5 h0 rfl
  obtain ⟨a1, e1, w1⟩ := trod_int1 Try.underlying50 h1 rfl
  obtain ⟨a2, e2, w2⟩ := trod_int1 Try.underlying5 h2 rfl
  obtain ⟨a3, e3, _⟩ := DataW.trod_bool Try.underlying4 h3
  obtain ⟨a4, e4, _⟩ := DataW.trod_bool Try.underlying4 h4
  obtain ⟨m5a, m5b, m5c, m5d, m5e, m5f, e5, w5⟩ := six_of_cells Try.underlying46 Try.underlying5 k8 k6 h5
  obtain ⟨m6a, m6b, m6c, m6d, m6e, m6f, e6, w6⟩ := six_of_cells Try.underlying46 Try.underlying5 k8 k6 h6
  refine ⟨⟨a0, a1, a2, a3, a4, ⟨m5a, m5b, m5c, m5d, m5e, m5f⟩, ⟨m6a, m6b, m6c, m6d, m6e, m6f⟩⟩, ?_, ?_⟩
  · simp only [List.drop, List.take, List.cons.injEq, and_true] at e3 e4 e5 e6
    obtain ⟨rfl, rfl, rfl, rfl, rfl, rfl⟩ := e5
    obtain ⟨rfl, rfl, rfl, rfl, rfl, rfl⟩ := e6
    subst e0 e1 e2 e3 e4
    rw [show cs = cs.toList.toArray from rfl, hcs]
  · exact ⟨b8G w0, b32G w1, b8G w2, ⟨w5.1, w5.2.1, w5.2.2.1, w5.2.2.2.1, w5.2.2.2.2.1, w5.2.2.2.2.2⟩, ⟨w6.1, w6.2.1, w6.2.2.1, w6.2.2.2.1, w6.2.2.2.2.1, w6.2.2.2.2.2⟩⟩
set_option maxRecDepth 100000 in
set_option maxHeartbeats 4000000 in
theorem rd_ltm_Reply {H : Type} {enc : TypeId × Value → H} {w : World} {r : Reach} {b0 base : Nat} {spare : Nat → Bool} {held : Bool} {v : Value} {d : DataW H} {p : List MemPlace}
    (hv : Value.okWide Try.prog w r b0 76 v) (h : DataW.Trod enc Try.prog w base spare held 76 v d p) :
    ∃ t : Rp, v = .agg #[.int .u8 t.lv, .int .u32 t.nm, .int .u8 t.tl, .bool t.st, .bool t.en, .int .u8 t.mi.a, .int .u8 t.mi.b, .int .u8 t.mi.c, .int .u8 t.mi.d, .int .u8 t.mi.e, .int .u8 t.mi.f, .int .u8 t.mo.a, .int .u8 t.mo.b, .int .u8 t.mo.c, .int .u8 t.mo.d, .int .u8 t.mo.e, .int .u8 t.mo.f] ∧ t.Ok := by
  obtain ⟨cs, rfl, hsz⟩ := okWide_struct Try.underlying76 hv
  rw [show Try.prog.cellsOf 76 = 17 by kernel_rfl] at hsz
  obtain ⟨fuel, hf⟩ := h
  obtain ⟨xs, n, _, _, _, hlen, hi⟩ := DataW.trod_struct Try.underlying76 hf
  obtain ⟨y0, y1, y2, y3, y4, y5, y6, rfl⟩ := list7G xs hlen
  obtain ⟨c0, c1, c2, c3, c4, c5, c6, c7, c8, c9, c10, c11, c12, c13, c14, c15, c16, hcs⟩ := list17G cs.toList (by rw [Array.length_toList, hsz])
  have k6 : Try.prog.cellsOf 46 = 6 := by kernel_rfl
  have kb : Try.prog.cellsOf 4 = 1 := by kernel_rfl
  have k8 : Try.prog.cellsOf 5 = 1 := by kernel_rfl
  have k32 : Try.prog.cellsOf 50 = 1 := by kernel_rfl
  have h0 : DataW.trod enc Try.prog w base spare held n 5 ((cs.toList.drop 0).take (Try.prog.cellsOf 5)) = some y0 := hi 0 _ rfl
  have h1 : DataW.trod enc Try.prog w base spare held n 50 ((cs.toList.drop 1).take (Try.prog.cellsOf 50)) = some y1 := hi 1 _ rfl
  have h2 : DataW.trod enc Try.prog w base spare held n 5 ((cs.toList.drop 2).take (Try.prog.cellsOf 5)) = some y2 := hi 2 _ rfl
  have h3 : DataW.trod enc Try.prog w base spare held n 4 ((cs.toList.drop 3).take (Try.prog.cellsOf 4)) = some y3 := hi 3 _ rfl
  have h4 : DataW.trod enc Try.prog w base spare held n 4 ((cs.toList.drop 4).take (Try.prog.cellsOf 4)) = some y4 := hi 4 _ rfl
  have h5 : DataW.trod enc Try.prog w base spare held n 46 ((cs.toList.drop 5).take (Try.prog.cellsOf 46)) = some y5 := hi 5 _ rfl
  have h6 : DataW.trod enc Try.prog w base spare held n 46 ((cs.toList.drop 11).take (Try.prog.cellsOf 46)) = some y6 := hi 6 _ rfl
  rw [hcs, k8] at h0
  rw [hcs, k32] at h1
  rw [hcs, k8] at h2
  rw [hcs, kb] at h3
  rw [hcs, kb] at h4
  rw [hcs, k6] at h5
  rw [hcs, k6] at h6
  obtain ⟨a0, e0, w0⟩ := trod_int1 Try.underlying5 h0 rfl
  obtain ⟨a1, e1, w1⟩ := trod_int1 Try.underlying50 h1 rfl
  obtain ⟨a2, e2, w2⟩ := trod_int1 Try.underlying5 h2 rfl
  obtain ⟨a3, e3, _⟩ := DataW.trod_bool Try.underlying4 h3
  obtain ⟨a4, e4, _⟩ := DataW.trod_bool Try.underlying4 h4
  obtain ⟨m5a, m5b, m5c, m5d, m5e, m5f, e5, w5⟩ := six_of_cells Try.underlying46 Try.underlying5 k8 k6 h5
  obtain ⟨m6a, m6b, m6c, m6d, m6e, m6f, e6, w6⟩ := six_of_cells Try.underlying46 Try.underlying5 k8 k6 h6
  refine ⟨⟨a0, a1, a2, a3, a4, ⟨m5a, m5b, m5c, m5d, m5e, m5f⟩, ⟨m6a, m6b, m6c, m6d, m6e, m6f⟩⟩, ?_, ?_⟩
  · simp only [List.drop, List.take, List.cons.injEq, and_true] at e3 e4 e5 e6
    obtain ⟨rfl, rfl, rfl, rfl, rfl, rfl⟩ := e5
    obtain ⟨rfl, rfl, rfl, rfl, rfl, rfl⟩ := e6
    subst e0 e1 e2 e3 e4
    rw [show cs = cs.toList.toArray from rfl, hcs]
  · exact ⟨b8G w0, b32G w1, b8G w2, ⟨w5.1, w5.2.1, w5.2.2.1, w5.2.2.2.1, w5.2.2.2.2.1, w5.2.2.2.2.2⟩, ⟨w6.1, w6.2.1, w6.2.2.1, w6.2.2.2.1, w6.2.2.2.2.1, w6.2.2.2.2.2⟩⟩
end Go.Proofs.Ytcbbocdmmehphaa
