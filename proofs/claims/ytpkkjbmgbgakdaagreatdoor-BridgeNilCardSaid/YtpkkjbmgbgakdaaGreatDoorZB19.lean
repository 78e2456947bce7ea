/- ZB19: the texts F6a as one. -/
import Derived.Test.YtpkkjbmgbgakdaaGreatDoorZB18
/- frame: a frame's block, stored whole. -/
set_option linter.unusedVariables false
namespace Go.Proofs.YtpkkjbmgbgakdaaGreatDoor
open Go.RowKit

theorem TK.set {w W : World} {q b o : Nat} {l : List UInt8} {e : Int} (h : TK w q W l e) (hb : w.heap.size < b) (hq : b ≠ q) (v : Value) : TK w q (W.setCell ⟨b, o, none⟩ v) l e := by
  obtain ⟨h1, h2, h3, h4, h5⟩ := h
  refine ⟨h1.setOther (by omega) v, ?_, below_set h3 (Nat.le_of_lt hb) v, by simpa [World.setCell] using h4, h5⟩
  have e1 : (W.setCell ⟨b, o, none⟩ v).heap[q]? = W.heap[q]? := Below.heap_setCell _ _ _ _ (by intro e; simp at e; omega)
  have e2 : (W.setCell ⟨b, o, none⟩ v).cell? ⟨q, 0, none⟩ = W.cell? ⟨q, 0, none⟩ := by simp only [World.cell?, e1]
  rw [e2]; exact h2
theorem TK.belowF {w W W' : World} {q : Nat} {l : List UInt8} {e : Int} (h : TK w q W l e) (hb : Below (q + 1) W W') : TK w q W' l e := by
  obtain ⟨h1, h2, h3, h4, h5⟩ := h
  refine ⟨?_, (hb.cell (p := ⟨q, 0, none⟩) (Nat.lt_succ_self q)).trans h2, h3.trans (hb.mono (by omega)), Nat.lt_of_lt_of_le h4 hb.size, h5⟩
  unfold Rd; rw [hb.block _ (by omega)]; exact h1
theorem TK.alloc {w W : World} {q : Nat} {l : List UInt8} {e : Int} (h : TK w q W l e) (o : Obj) : TK w q (W.alloc o) l e :=
  TK.belowF h ((Below.refl _ _).alloc h.lt o)
theorem FB.alloc {W : World} {b : Nat} {A : Array Value} (h : FB W b A) (o : Obj) : FB (W.alloc o) b A := h.later ((Below.refl _ _).alloc (Nat.le_refl _) o)

theorem TK.cells {w : World} {q b : Nat} {l : List UInt8} {e : Int} (hb : w.heap.size < b) (hq : b ≠ q) : ∀ (vs : List Value) (o : Nat) (W : World), TK w q W l e → TK w q (W.setCells b o vs) l e
  | [], _, _, h => h
  | v :: r, o, W, h => TK.cells hb hq r (o + 1) _ (h.set hb hq v)
theorem FB.cellsOther {b t : Nat} {A : Array Value} (ht : t ≠ b) : ∀ (vs : List Value) (o : Nat) (W : World), FB W b A → FB (W.setCells t o vs) b A
  | [], _, _, h => h
  | v :: r, o, W, h => FB.cellsOther ht r (o + 1) _ (h.other ht v)
theorem FB.there {W : World} {b : Nat} {A : Array Value} {n : Nat} (h : FB W b A) (hn : n ≤ A.size) : W.there b 0 n := fun j hj => by
  rw [Nat.zero_add]
  refine ⟨?_, h.free j⟩
  rw [h.c j A[j] (by simp [show j < A.size by omega])]; rfl
/-- A whole frame is stored. -/
theorem FB.store {W : World} {b : Nat} {B A : Array Value} (h : FB W b B) (hs : B.size = A.size) (h1 : A.all (·.oneCell') = true) : FB (W.setCells b 0 A.toList) b A := by
  have ht := h.there (n := A.size) (by omega)
  have r1 := run_storeCells_at Tryz.prog b 0 68 A.toList 0 B W h (by simp; omega) (fun v hv => (Array.all_eq_true_iff_forall_mem.1 h1) v (by simpa using hv))
  have r2 := run_storeCells_cells (P := Tryz.prog) b 0 A.toList 0 W (fun j hj => by simpa using (ht j (by simpa using hj)).1) (fun j hj => by simpa using (ht j (by simpa using hj)).2)
    (fun v hv => (Array.all_eq_true_iff_forall_mem.1 h1) v (by simpa using hv))
  simp only [Nat.add_zero] at r1 r2
  rw [r1] at r2
  have e : W.setRow b (B.toList.take 0 ++ A.toList ++ B.toList.drop (0 + A.toList.length)).toArray = W.setCells b 0 A.toList := by
    injection r2
  rw [← e]
  have e2 : (B.toList.take 0 ++ A.toList ++ B.toList.drop (0 + A.toList.length)).toArray = A := by
    rw [List.drop_of_length_le (by simp; omega)]; simp
  rw [e2]
  exact setRow_heap W b _ _ _ _ h
/-- What Take hands back. -/
theorem res_frame (tmps : Array Value) (W : World) (b : Nat) (A : Array Value) (h2 : tmps.getD 2 undef = .pointer (some ⟨b, 0, none⟩)) (hf : FB W b A) (hs : A.size = 17) :
    (results Tryz.f16 tmps).run Tryz.prog W = .ok (.tuple #[.agg A, tmps.getD 3 undef]) W := by
  have hi : (Tryz.prog.info? 68).map (·.size) = some A.size := by rw [hs]; kernel_rfl
  rw [results_cell_tmp (p := 2) (u := 3) (ty := 68) rfl, h2]
  simp [asAddr, run_loadVar_row W b 68 68 A (0, 0) _ hf Tryz.underlying68 rfl hi]
end Go.Proofs.YtpkkjbmgbgakdaaGreatDoor
