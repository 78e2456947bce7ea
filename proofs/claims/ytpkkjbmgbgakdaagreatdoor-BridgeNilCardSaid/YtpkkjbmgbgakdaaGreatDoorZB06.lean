/- ZB06: the texts GX as one. -/
import Derived.Test.YtpkkjbmgbgakdaaGreatDoorZB05
import Derived.Deep.MidRow
import Derived.Laws.ResultCell
import Derived.Laws.CopyRow
import Derived.Lib.LazyBuf
import Derived.Laws.StructEq
import Derived.Deep.RegionHeld3
import Derived.Deep.DeepCutAuto
import Derived.Deep.CutBlock
/- Blocks of given cells, stored and handed back whole (a piece of G0, for the seat of vlan). -/
set_option linter.unusedVariables false
namespace Go.Proofs.YtpkkjbmgbgakdaaGreatDoor
open Go.RowKit

/-- A block of these cells. -/
def GB (T : TypeId) (W : World) (q : Nat) (A : Array Value) : Prop := W.heap[q]? = some (.cells A T (0, 0))
section
variable {T : TypeId} {W W' : World} {q : Nat} {A : Array Value}
theorem GB.lt (h : GB T W q A) : q < W.heap.size := by
  rcases Nat.lt_or_ge q W.heap.size with h1 | h1
  · exact h1
  · unfold GB at h; rw [Array.getElem?_eq_none h1] at h; cases h
theorem GB.below {B : Nat} (h : GB T W q A) (hq : q < B) (hb : Below B W W') : GB T W' q A := by
  unfold GB; rw [hb.block q hq]; exact h
theorem GB.later (h : GB T W q A) (hb : Below W.heap.size W W') : GB T W' q A := h.below h.lt hb
theorem GB.c (h : GB T W q A) (j : Nat) (v : Value) (hv : A[j]? = some v) : W.cell? ⟨q, j, none⟩ = some v := by
  unfold GB at h; simp [World.cell?, h, hv]
theorem GB.fr (h : GB T W q A) (j : Nat) : W.frozen? ⟨q, j, none⟩ = false := by unfold GB at h; simp [World.frozen?, h]
theorem GB.range (h : GB T W q A) : W.rangeAt q 0 A.toList := fun j v hv => by
  rw [Nat.zero_add]; exact h.c j v (by simpa using hv)
theorem GB.new (T : TypeId) (W : World) (A : Array Value) : GB T (W.alloc (.cells A T)) W.heap.size A := heap_alloc_new W _
theorem GB.other {t o : Nat} (h : GB T W q A) (ht : t ≠ q) (u : Value) : GB T (W.setCell ⟨t, o, none⟩ u) q A := by
  unfold GB; rw [Below.heap_setCell _ _ _ _ (by intro e; simp at e; omega)]; exact h
theorem GB.only {p : Nat} (h : GB T W q A) (ho : Only p W W') (hne : q ≠ p) : GB T W' q A := by
  unfold GB; rw [ho.block q h.lt (by simpa using hne)]; exact h
theorem GB.drew (h : GB T W q A) : GB T W.drew q A := by unfold GB at *; exact h
end
theorem GB.there {T : TypeId} {W : World} {q : Nat} {A : Array Value} {n : Nat} (h : GB T W q A) (hn : n ≤ A.size) : W.there q 0 n := fun j hj => by
  rw [Nat.zero_add]
  refine ⟨?_, h.fr j⟩
  rw [h.c j A[j] (by simp [show j < A.size by omega])]; rfl
theorem GB.cellsOther {T : TypeId} {q t : Nat} {A : Array Value} (ht : t ≠ q) : ∀ (vs : List Value) (o : Nat) (W : World), GB T W q A → GB T (W.setCells t o vs) q A
  | [], _, _, h => h
  | v :: r, o, W, h => GB.cellsOther ht r (o + 1) _ (h.other ht v)
theorem below_cellsG {B t : Nat} {w : World} (ht : B ≤ t) : ∀ (vs : List Value) (o : Nat) (W : World), Below B w W → Below B w (W.setCells t o vs)
  | [], _, _, h => h
  | v :: r, o, W, h => below_cellsG ht r (o + 1) _ (below_set h ht v)
/-- A whole block is stored. -/
theorem GB.store {T : TypeId} {W : World} {b : Nat} {B A : Array Value} (h : GB T W b B) (hs : B.size = A.size) (h1 : A.all (·.oneCell') = true) : GB T (W.setCells b 0 A.toList) b A := by
  have ht := h.there (n := A.size) (by omega)
  have r1 := run_storeCells_at Tryz.prog b 0 T A.toList 0 B W h (by simp; omega) (fun v hv => (Array.all_eq_true_iff_forall_mem.1 h1) v (by simpa using hv))
  have r2 := run_storeCells_cells (P := Tryz.prog) b 0 A.toList 0 W (fun j hj => by simpa using (ht j (by simpa using hj)).1) (fun j hj => by simpa using (ht j (by simpa using hj)).2)
    (fun v hv => (Array.all_eq_true_iff_forall_mem.1 h1) v (by simpa using hv))
  simp only [Nat.add_zero] at r1 r2
  rw [r1] at r2
  have e : W.setRow b (B.toList.take 0 ++ A.toList ++ B.toList.drop (0 + A.toList.length)).toArray = W.setCells b 0 A.toList := by
    injection r2
  unfold GB
  rw [← e]
  have e2 : (B.toList.take 0 ++ A.toList ++ B.toList.drop (0 + A.toList.length)).toArray = A := by
    rw [List.drop_of_length_le (by simp; omega)]; simp
  rw [e2]
  exact setRow_heap W b _ _ _ _ h
/-- A result that is a block and a number. -/
theorem res_two {fn : Func} {ty : TypeId} {d : TypeDesc} {p u : Nat} (hf : fn.results = #[.cell p ty, .tmp u]) (hd : (match d with | .struct _ | .array _ _ => true | _ => false) = true) (hu : Tryz.prog.underlying ty = some d) (tmps : Array Value) (W : World) (b : Nat) (A : Array Value) (h2 : tmps.getD p undef = .pointer (some ⟨b, 0, none⟩)) (hg : GB ty W b A)
    (hi : (Tryz.prog.info? ty).map (·.size) = some A.size) : (results fn tmps).run Tryz.prog W = .ok (.tuple #[.agg A, tmps.getD u undef]) W := by
  rw [results_cell_tmp (p := p) (u := u) (ty := ty) hf, h2]
  simp [asAddr, run_loadVar_row W b ty ty A (0, 0) _ hg hu (by cases d <;> first | rfl | exact hd) hi]
/-- A result that is a block. -/
theorem res_one {fn : Func} {ty : TypeId} {d : TypeDesc} {p : Nat} (hf : fn.results = #[.cell p ty]) (hd : (match d with | .struct _ | .array _ _ => true | _ => false) = true) (hu : Tryz.prog.underlying ty = some d) (tmps : Array Value) (W : World) (b : Nat) (A : Array Value) (h2 : tmps.getD p undef = .pointer (some ⟨b, 0, none⟩)) (hg : GB ty W b A)
    (hi : (Tryz.prog.info? ty).map (·.size) = some A.size) : (results fn tmps).run Tryz.prog W = .ok (.agg A) W := by
  have h3 : tmps[p]?.getD undef = .pointer (some ⟨b, 0, none⟩) := by simpa using h2
  simp only [results, hf]
  simp [h3, asAddr, run_loadVar_row W b ty ty A (0, 0) _ hg hu (by cases d <;> first | rfl | exact hd) hi]
/-- A guarded load of a whole variable, its guard met. -/
theorem wpList_load_gH {P : Program} {ops : Array Oper} {rest : List Oper} {op : Oper} {a : Act} {w : World} {Q : Exit → Act → World → Prop} (hw : Region.wanted op (yielded ops a.tmps) = true) (ty : TypeId) (x : Operand) (ho : op.op = .load ty x)
    (b o : Nat) (hx : a.eval x = .pointer (some ⟨b, o, none⟩)) (cs : List Value) (d : TypeDesc) (hc : w.rangeAt b o cs)
    (hu : P.underlying ty = some d) (hd : d.isRow = true) (hi : (P.info? ty).map (·.size) = some cs.length)
    (h : wpList P ops Q rest (a.put op.dst (.agg cs.toArray)) w) : wpList P ops Q (op :: rest) a w :=
  wpList_step fun _ hK => by rw [if_pos hw]; exact wp_load_mid ty x ho b o hx cs d hc hu hd hi (hK _ _ h)
end Go.Proofs.YtpkkjbmgbgakdaaGreatDoor
