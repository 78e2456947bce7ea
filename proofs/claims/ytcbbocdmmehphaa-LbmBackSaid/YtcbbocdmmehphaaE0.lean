/- lbm: loops; the law's own 'of'. -/
import Derived.Test.YtcbbocdmmehphaaC0
set_option linter.unusedVariables false
namespace Go.Proofs.Ytcbbocdmmehphaa
open Go.RowKit

/-- A loop's block. -/
def LB (T : TypeId) (W : World) (q : Nat) (xlv : Int) (xrp : Bool) (xnm : Int) (xdt : List UInt8) : Prop := W.heap[q]? = some (.cells #[.int .u8 xlv, .bool xrp, .int .u32 xnm, .string (bs xdt)] T (0, 0))
section
variable {T : TypeId} {W W' : World} {q : Nat} {xlv : Int} {xrp : Bool} {xnm : Int} {xdt : List UInt8}
theorem LB.lt (h : LB T W q xlv xrp xnm xdt) : q < W.heap.size := by
  rcases Nat.lt_or_ge q W.heap.size with h1 | h1
  · exact h1
  · unfold LB at h; rw [Array.getElem?_eq_none h1] at h; cases h
theorem LB.later (h : LB T W q xlv xrp xnm xdt) (hb : Below W.heap.size W W') : LB T W' q xlv xrp xnm xdt := by
  unfold LB; rw [hb.block q h.lt]; exact h
theorem LB.below {B : Nat} (h : LB T W q xlv xrp xnm xdt) (hq : q < B) (hb : Below B W W') : LB T W' q xlv xrp xnm xdt := by
  unfold LB; rw [hb.block q hq]; exact h
theorem LB.c0 (h : LB T W q xlv xrp xnm xdt) : W.cell? ⟨q, 0, none⟩ = some (.int .u8 xlv) := by unfold LB at h; simp [World.cell?, h]
theorem LB.c1 (h : LB T W q xlv xrp xnm xdt) : W.cell? ⟨q, 1, none⟩ = some (.bool xrp) := by unfold LB at h; simp [World.cell?, h]
theorem LB.c2 (h : LB T W q xlv xrp xnm xdt) : W.cell? ⟨q, 2, none⟩ = some (.int .u32 xnm) := by unfold LB at h; simp [World.cell?, h]
theorem LB.c3 (h : LB T W q xlv xrp xnm xdt) : W.cell? ⟨q, 3, none⟩ = some (.string (bs xdt)) := by unfold LB at h; simp [World.cell?, h]
theorem LB.fr (h : LB T W q xlv xrp xnm xdt) (o : Nat) : W.frozen? ⟨q, o, none⟩ = false := by unfold LB at h; simp [World.frozen?, h]
theorem LB.new (T : TypeId) (W : World) (xlv : Int) (xrp : Bool) (xnm : Int) (xdt : List UInt8) : LB T (W.alloc (.cells #[.int .u8 xlv, .bool xrp, .int .u32 xnm, .string (bs xdt)] T)) W.heap.size xlv xrp xnm xdt := heap_alloc_new W _
end
set_option maxRecDepth 100000 in
set_option maxHeartbeats 4000000 in
theorem of14_any (xlv : Int) (xrp : Bool) (xnm : Int) (xdt : List UInt8) (w : World) : Calls Try.prog 28 #[.agg #[.int .u8 xlv, .bool xrp, .int .u32 xnm, .string (bs xdt)]] w fun en w' => en = .returned (.agg #[.int .u8 xlv, .bool xrp, .int .u32 xnm, .string (bs xdt)]) ∧ Below w.heap.size w w' := by
  go_enter Try.func28, Try.ntmps28
  go_wp2
  refine bodyPost_ret (v := .agg #[.int .u8 xlv, .bool xrp, .int .u32 xnm, .string (bs xdt)]) (by simp [results, Try.results28, go_sem]) rfl ⟨rfl, ((Below.refl _ _).alloc (Nat.le_refl _) _).alloc (by simp) _⟩
end Go.Proofs.Ytcbbocdmmehphaa
