/- The reader of a word. -/
import Derived.Test.YtecoomkpkdapdaaDoorR0
import Derived.Test.YtecoomkpkdapdaaDoorH0
set_option linter.unusedVariables false
namespace Go.Proofs.YtecoomkpkdapdaaDoor
open Go.ChangeShapes Go.WideShapes Go.ChangeAt Go.RowKit Go.Joins

theorem list11B {α : Type} (l : List α) (h : l.length = 11) : ∃ c0 c1 c2 c3 c4 c5 c6 c7 c8 c9 c10, l = [c0, c1, c2, c3, c4, c5, c6, c7, c8, c9, c10] := by
  match l, h with
  | [c0, c1, c2, c3, c4, c5, c6, c7, c8, c9, c10], _ => exact ⟨c0, c1, c2, c3, c4, c5, c6, c7, c8, c9, c10, rfl⟩
theorem list8B {α : Type} (l : List α) (h : l.length = 8) : ∃ c0 c1 c2 c3 c4 c5 c6 c7, l = [c0, c1, c2, c3, c4, c5, c6, c7] := by
  match l, h with
  | [c0, c1, c2, c3, c4, c5, c6, c7], _ => exact ⟨c0, c1, c2, c3, c4, c5, c6, c7, rfl⟩
theorem list4B {α : Type} (l : List α) (h : l.length = 4) : ∃ c0 c1 c2 c3, l = [c0, c1, c2, c3] := by
  match l, h with
  | [c0, c1, c2, c3], _ => exact ⟨c0, c1, c2, c3, rfl⟩
theorem b8B {i : Int} (h : (Lit.int .u8 i).wf = true) : 0 ≤ i ∧ i < 256 := by have := bounds_u8 h; omega
theorem b32B {i : Int} (h : (Lit.int .u32 i).wf = true) : 0 ≤ i ∧ i < 4294967296 := by have := bounds_u32 h; omega
theorem bounds_u64' {i : Int} (h : (Lit.int .u64 i).wf = true) : 0 ≤ i ∧ i < 18446744073709551616 := by
  simp [Lit.wf, IntKind.min, IntKind.max, IntKind.bits, IntKind.signed] at h; omega
set_option maxRecDepth 100000 in
set_option maxHeartbeats 4000000 in
theorem rd_ref05_Bpdu {H : Type} {enc : TypeId × Value → H} {w : World} {r : Reach} {b0 base : Nat} {spare : Nat → Bool} {held : Bool} {v : Value} {d : DataW H} {p : List MemPlace}
    (hv : Value.okWide Tryd.prog w r b0 27 v) (h : DataW.Trod enc Tryd.prog w base spare held 27 v d p) :
    ∃ b : Bp, v = .agg #[.int .u64 b.rt, .int .u32 b.co, .int .u64 b.br, .int .u8 b.po, .int .u8 b.ho, .int .u64 b.ve, .int .u8 b.ro, .bool b.pr, .bool b.ag, .bool b.tp, .int .u64 b.ec] ∧ b.Ok := by
  obtain ⟨cs, rfl, hsz⟩ := okWide_struct Tryd.underlying27 hv
  rw [show Tryd.prog.cellsOf 27 = 11 by kernel_rfl] at hsz
  obtain ⟨fuel, hf⟩ := h
  obtain ⟨xs, n, _, _, _, hlen, hi⟩ := DataW.trod_struct Tryd.underlying27 hf
  obtain ⟨y0, y1, y2, y3, y4, y5, y6, y7, rfl⟩ := list8B xs hlen
  obtain ⟨c0, c1, c2, c3, c4, c5, c6, c7, c8, c9, c10, hcs⟩ := list11B cs.toList (by rw [Array.length_toList, hsz])
  have kv : Tryd.prog.cellsOf 25 = 4 := by kernel_rfl
  have kb : Tryd.prog.cellsOf 4 = 1 := by kernel_rfl
  have k8 : Tryd.prog.cellsOf 5 = 1 := by kernel_rfl
  have k32 : Tryd.prog.cellsOf 23 = 1 := by kernel_rfl
  have k64 : Tryd.prog.cellsOf 22 = 1 := by kernel_rfl
  have h0 : DataW.trod enc Tryd.prog w base spare held n 25 ((cs.toList.drop 0).take (Tryd.prog.cellsOf 25)) = some y0 := hi 0 _ rfl
  have h1 : DataW.trod enc Tryd.prog w base spare held n 5 ((cs.toList.drop 4).take (Tryd.prog.cellsOf 5)) = some y1 := hi 1 _ rfl
  have h2 : DataW.trod enc Tryd.prog w base spare held n 22 ((cs.toList.drop 5).take (Tryd.prog.cellsOf 22)) = some y2 := hi 2 _ rfl
  have h3 : DataW.trod enc Tryd.prog w base spare held n 5 ((cs.toList.drop 6).take (Tryd.prog.cellsOf 5)) = some y3 := hi 3 _ rfl
  have h4 : DataW.trod enc Tryd.prog w base spare held n 4 ((cs.toList.drop 7).take (Tryd.prog.cellsOf 4)) = some y4 := hi 4 _ rfl
  have h5 : DataW.trod enc Tryd.prog w base spare held n 4 ((cs.toList.drop 8).take (Tryd.prog.cellsOf 4)) = some y5 := hi 5 _ rfl
  have h6 : DataW.trod enc Tryd.prog w base spare held n 4 ((cs.toList.drop 9).take (Tryd.prog.cellsOf 4)) = some y6 := hi 6 _ rfl
  have h7 : DataW.trod enc Tryd.prog w base spare held n 22 ((cs.toList.drop 10).take (Tryd.prog.cellsOf 22)) = some y7 := hi 7 _ rfl
  rw [hcs, kv] at h0
  rw [hcs, k8] at h1 h3
  rw [hcs, k64] at h2 h7
  rw [hcs, kb] at h4 h5 h6
  obtain ⟨zs, n', _, _, _, hlen', hi'⟩ := DataW.trod_struct Tryd.underlying25 h0
  obtain ⟨z0, z1, z2, z3, rfl⟩ := list4B zs hlen'
  have g0 : DataW.trod enc Tryd.prog w base spare held n' 22 ((([c0, c1, c2, c3] : List Value).drop 0).take (Tryd.prog.cellsOf 22)) = some z0 := hi' 0 _ rfl
  have g1 : DataW.trod enc Tryd.prog w base spare held n' 23 ((([c0, c1, c2, c3] : List Value).drop 1).take (Tryd.prog.cellsOf 23)) = some z1 := hi' 1 _ rfl
  have g2 : DataW.trod enc Tryd.prog w base spare held n' 22 ((([c0, c1, c2, c3] : List Value).drop 2).take (Tryd.prog.cellsOf 22)) = some z2 := hi' 2 _ rfl
  have g3 : DataW.trod enc Tryd.prog w base spare held n' 5 ((([c0, c1, c2, c3] : List Value).drop 3).take (Tryd.prog.cellsOf 5)) = some z3 := hi' 3 _ rfl
  rw [k64] at g0 g2
  rw [k32] at g1
  rw [k8] at g3
  obtain ⟨a0, e0, w0⟩ := trod_int1 Tryd.underlying22 g0 rfl
  obtain ⟨a1, e1, w1⟩ := trod_int1 Tryd.underlying23 g1 rfl
  obtain ⟨a2, e2, w2⟩ := trod_int1 Tryd.underlying22 g2 rfl
  obtain ⟨a3, e3, w3⟩ := trod_int1 Tryd.underlying5 g3 rfl
  obtain ⟨a4, e4, w4⟩ := trod_int1 Tryd.underlying5 h1 rfl
  obtain ⟨a5, e5, w5⟩ := trod_int1 Tryd.underlying22 h2 rfl
  obtain ⟨a6, e6, w6⟩ := trod_int1 Tryd.underlying5 h3 rfl
  obtain ⟨a7, e7, _⟩ := DataW.trod_bool Tryd.underlying4 h4
  obtain ⟨a8, e8, _⟩ := DataW.trod_bool Tryd.underlying4 h5
  obtain ⟨a9, e9, _⟩ := DataW.trod_bool Tryd.underlying4 h6
  obtain ⟨a10, e10, w10⟩ := trod_int1 Tryd.underlying22 h7 rfl
  refine ⟨⟨a0, a1, a2, a3, a4, a5, a6, a7, a8, a9, a10⟩, ?_, ?_⟩
  · simp only [List.drop, List.take, List.cons.injEq, and_true] at e7 e8 e9
    subst e0 e1 e2 e3 e4 e5 e6 e7 e8 e9 e10
    rw [show cs = cs.toList.toArray from rfl, hcs]
  · exact ⟨bounds_u64' w0, b32B w1, bounds_u64' w2, b8B w3, b8B w4, bounds_u64' w5, b8B w6, bounds_u64' w10⟩
set_option maxRecDepth 100000 in
set_option maxHeartbeats 4000000 in
theorem rd_bpdu_Bpdu {H : Type} {enc : TypeId × Value → H} {w : World} {r : Reach} {b0 base : Nat} {spare : Nat → Bool} {held : Bool} {v : Value} {d : DataW H} {p : List MemPlace}
    (hv : Value.okWide Tryd.prog w r b0 33 v) (h : DataW.Trod enc Tryd.prog w base spare held 33 v d p) :
    ∃ b : Bp, v = .agg #[.int .u64 b.rt, .int .u32 b.co, .int .u64 b.br, .int .u8 b.po, .int .u8 b.ho, .int .u64 b.ve, .int .u8 b.ro, .bool b.pr, .bool b.ag, .bool b.tp, .int .u64 b.ec] ∧ b.Ok := by
  obtain ⟨cs, rfl, hsz⟩ := okWide_struct Tryd.underlying33 hv
  rw [show Tryd.prog.cellsOf 33 = 11 by kernel_rfl] at hsz
  obtain ⟨fuel, hf⟩ := h
  obtain ⟨xs, n, _, _, _, hlen, hi⟩ := DataW.trod_struct Tryd.underlying33 hf
  obtain ⟨y0, y1, y2, y3, y4, y5, y6, y7, rfl⟩ := list8B xs hlen
  obtain ⟨c0, c1, c2, c3, c4, c5, c6, c7, c8, c9, c10, hcs⟩ := list11B cs.toList (by rw [Array.length_toList, hsz])
  have kv : Tryd.prog.cellsOf 31 = 4 := by kernel_rfl
  have kb : Tryd.prog.cellsOf 4 = 1 := by kernel_rfl
  have k8 : Tryd.prog.cellsOf 5 = 1 := by kernel_rfl
  have k32 : Tryd.prog.cellsOf 23 = 1 := by kernel_rfl
  have k64 : Tryd.prog.cellsOf 22 = 1 := by kernel_rfl
  have h0 : DataW.trod enc Tryd.prog w base spare held n 31 ((cs.toList.drop 0).take (Tryd.prog.cellsOf 31)) = some y0 := hi 0 _ rfl
  have h1 : DataW.trod enc Tryd.prog w base spare held n 5 ((cs.toList.drop 4).take (Tryd.prog.cellsOf 5)) = some y1 := hi 1 _ rfl
  have h2 : DataW.trod enc Tryd.prog w base spare held n 22 ((cs.toList.drop 5).take (Tryd.prog.cellsOf 22)) = some y2 := hi 2 _ rfl
  have h3 : DataW.trod enc Tryd.prog w base spare held n 5 ((cs.toList.drop 6).take (Tryd.prog.cellsOf 5)) = some y3 := hi 3 _ rfl
  have h4 : DataW.trod enc Tryd.prog w base spare held n 4 ((cs.toList.drop 7).take (Tryd.prog.cellsOf 4)) = some y4 := hi 4 _ rfl
  have h5 : DataW.trod enc Tryd.prog w base spare held n 4 ((cs.toList.drop 8).take (Tryd.prog.cellsOf 4)) = some y5 := hi 5 _ rfl
  have h6 : DataW.trod enc Tryd.prog w base spare held n 4 ((cs.toList.drop 9).take (Tryd.prog.cellsOf 4)) = some y6 := hi 6 _ rfl
  have h7 : DataW.trod enc Tryd.prog w base spare held n 22 ((cs.toList.drop 10).take (Tryd.prog.cellsOf 22)) = some y7 := hi 7 _ rfl
  rw [hcs, kv] at h0
  rw [hcs, k8] at h1 h3
  rw [hcs, k64] at h2 h7
  rw [hcs, kb] at h4 h5 h6
  obtain ⟨zs, n', _, _, _, hlen', hi'⟩ := DataW.trod_struct Tryd.underlying31 h0
  obtain ⟨z0, z1, z2, z3, rfl⟩ := list4B zs hlen'
  have g0 : DataW.trod enc Tryd.prog w base spare held n' 22 ((([c0, c1, c2, c3] : List Value).drop 0).take (Tryd.prog.cellsOf 22)) = some z0 := hi' 0 _ rfl
  have g1 : DataW.trod enc Tryd.prog w base spare held n' 23 ((([c0, c1, c2, c3] : List Value).drop 1).take (Tryd.prog.cellsOf 23)) = some z1 := hi' 1 _ rfl
  have g2 : DataW.trod enc Tryd.prog w base spare held n' 22 ((([c0, c1, c2, c3] : List Value).drop 2).take (Tryd.prog.cellsOf 22)) = some z2 := hi' 2 _ rfl
  have g3 : DataW.trod enc Tryd.prog w base spare held n' 5 ((([c0, c1, c2, c3] : List Value).drop 3).take (Tryd.prog.cellsOf 5)) = some z3 := hi' 3 _ rfl
  rw [k64] at g0 g2
  rw [k32] at g1
  rw [k8] at g3
  obtain ⟨a0, e0, w0⟩ := trod_int1 Tryd.underlying22 g0 rfl
  obtain ⟨a1, e1, w1⟩ := trod_int1 Tryd.underlying23 g1 rfl
  obtain ⟨a2, e2, w2⟩ := trod_int1 Tryd.underlying22 g2 rfl
  obtain ⟨a3, e3, w3⟩ := trod_int1 Tryd.underlying5 g3 rfl
  obtain ⟨a4, e4, w4⟩ := trod_int1 Tryd.underlying5 h1 rfl
  obtain ⟨a5, e5, w5⟩ := trod_int1 Tryd.underlying22 h2 rfl
  obtain ⟨a6, e6, w6⟩ := trod_int1 Tryd.underlying5 h3 rfl
  obtain ⟨a7, e7, _⟩ := DataW.trod_bool Tryd.underlying4 h4
  obtain ⟨a8, e8, _⟩ := DataW.trod_bool Tryd.underlying4 h5
  obtain ⟨a9, e9, _⟩ := DataW.trod_bool Tryd.underlying4 h6
  obtain ⟨a10, e10, w10⟩ := trod_int1 Tryd.underlying22 h7 rfl
  refine ⟨⟨a0, a1, a2, a3, a4, a5, a6, a7, a8, a9, a10⟩, ?_, ?_⟩
  · simp only [List.drop, List.take, List.cons.injEq, and_true] at e7 e8 e9
    subst e0 e1 e2 e3 e4 e5 e6 e7 e8 e9 e10
    rw [show cs = cs.toList.toArray from rfl, hcs]
  · exact ⟨bounds_u64' w0, b32B w1, bounds_u64' w2, b8B w3, b8B w4, bounds_u64' w5, b8B w6, bounds_u64' w10⟩
end Go.Proofs.YtecoomkpkdapdaaDoor
