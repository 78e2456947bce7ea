/- ZP05: the texts S0 as one. -/
import Derived.Test.YtlkdfofpnmpidaaGreatZP04
/- remote: the map of the others; the machine's block. -/
set_option linter.unusedVariables false
namespace Go.Proofs.YtlkdfofpnmpidaaGreat
open Go.RowKit
open Go.Maps (Keyed int_keyed keyOf_int_mk)

/-- How another one reads: its number, for how long it lasts, whether it tells of a defect (1: it does). -/
def rEl (v : Value) : Option (DataW Unit × List MemPlace) :=
  match v with
  | .agg cs => match cs.toList with
    | [.int .i64 a, .bool b] => some (vElD a (if b = true then 1 else 0), [])
    | _ => none
  | _ => none
theorem rEl_mk (a : Int) (b : Bool) : rEl (.agg #[.int .i64 a, .bool b]) = some (vElD a (if b = true then 1 else 0), []) := rfl
theorem rEl_inv {v : Value} {a b : Int} {ps : List MemPlace} (hb : b = 0 ∨ b = 1) (h : rEl v = some (vElD a b, ps)) : v = .agg #[.int .i64 a, .bool (decide (b = 1))] := by
  unfold rEl at h
  split at h
  · rename_i cs
    split at h
    · rename_i a' b' hcs
      injection h with h; injection h with h _; unfold vElD at h; injection h with h; injection h with _ h
      rw [show cs = cs.toList.toArray from rfl, hcs]
      cases b'
      · rw [if_neg (by decide)] at h
        have e1 : a' = a := by omega
        have e2 : b = 0 := by omega
        subst e1 e2; rfl
      · rw [if_pos rfl] at h
        have e1 : a' = a := by omega
        have e2 : b = 1 := by omega
        subst e1 e2; rfl
    · cases h
  · cases h
/-- A map of others. -/
structure OM (W : World) (m : Nat) (V : List Vn) : Prop where
  own : W.ownsMap Tryz.prog 22 rEl m V.length (vD V)
  wf : ∀ x ∈ V, x.2.2 = 0 ∨ x.2.2 = 1
theorem own_tightR {W : World} {m n : Nat} {V : List Vn} (h : W.ownsMap Tryz.prog 22 rEl m n (vD V)) : W.ownsMap Tryz.prog 22 rEl m V.length (vD V) := by
  obtain ⟨es, clock, hb, F, hs, hD⟩ := h
  refine ⟨es, clock, hb, F, ?_, hD⟩
  have := congrArg Maps.size hD
  rw [vD_size] at this
  simp only [Maps.size, length_sorted, List.length_map, Array.length_toList] at this
  omega
theorem vGet_wfR {V : List Vn} (h : ∀ x ∈ V, x.2.2 = 0 ∨ x.2.2 = 1) (k : Int) : (vGet V k).2 = 0 ∨ (vGet V k).2 = 1 := by
  unfold vGet
  induction V with
  | nil => exact .inl rfl
  | cons x r ih =>
    unfold vFind
    split
    · exact h x (List.mem_cons_self ..)
    · exact ih fun y hy => h y (List.mem_cons_of_mem _ hy)
theorem zeroOther (W : World) : (zeroValue 166).run Tryz.prog W = .ok (.agg #[.int .i64 0, .bool false]) W := by kernel_rfl
section
variable {W W' : World} {m : Nat} {V : List Vn}
theorem OM.lt (h : OM W m V) : m < W.heap.size := h.own.lt
theorem OM.later (h : OM W m V) (hb : Below W.heap.size W W') : OM W' m V := by
  obtain ⟨es, clock, hb1, r⟩ := h.own
  exact ⟨⟨es, clock, (hb.block m h.lt).trans hb1, r⟩, h.wf⟩
theorem OM.blk (h : OM W m V) (e : W'.heap[m]? = W.heap[m]?) : OM W' m V := by
  obtain ⟨es, clock, hb1, r⟩ := h.own
  exact ⟨⟨es, clock, e.trans hb1, r⟩, h.wf⟩
theorem OM.made (W : World) : OM (W.alloc (.map #[] 0)) W.heap.size [] := ⟨World.ownsMap_made W Tryz.prog 22 rEl, by simp⟩
theorem OM.look (h : OM W m V) (k : Int) (hk : 0 ≤ k ∧ k < 65536) :
    (Instr.lookup 162 (.map (some m)) (.int .u16 k) true).run Tryz.prog W = .ok (.tuple #[.agg #[.int .i64 (vGet V k).1, .bool (decide ((vGet V k).2 = 1))], .bool (vFind V k).isSome]) W := by
  obtain ⟨v, ps, hrun, hv⟩ := h.own.look_ok u16_keyed Tryz.underlying162 (zeroOther W) (rEl_mk 0 false) (keyOf_int_mk Tryz.underlying22 (u16_wf hk))
  rw [show vElD 0 (if (false : Bool) = true then 1 else 0) = vElD 0 0 from rfl, atGet] at hv
  rw [hrun, rEl_inv (vGet_wfR h.wf k) hv, vD_has]
theorem OM.look1 (h : OM W m V) (k : Int) (hk : 0 ≤ k ∧ k < 65536) :
    (Instr.lookup 162 (.map (some m)) (.int .u16 k) false).run Tryz.prog W = .ok (.agg #[.int .i64 (vGet V k).1, .bool (decide ((vGet V k).2 = 1))]) W := by
  obtain ⟨v, ps, hrun, hv⟩ := h.own.lookup u16_keyed Tryz.underlying162 (zeroOther W) (rEl_mk 0 false) (keyOf_int_mk Tryz.underlying22 (u16_wf hk))
  rw [show vElD 0 (if (false : Bool) = true then 1 else 0) = vElD 0 0 from rfl, atGet] at hv
  rw [hrun, rEl_inv (vGet_wfR h.wf k) hv]
theorem OM.update (h : OM W m V) (hl : V.length ≤ 1000) (k a : Int) (b : Bool) (hk : 0 ≤ k ∧ k < 65536) :
    ∃ W', (Instr.mapUpdate 162 (.map (some m)) (.int .u16 k) (.agg #[.int .i64 a, .bool b])).run Tryz.prog W = .ok () W' ∧ OM W' m (vPut V (k, a, if b = true then 1 else 0)) ∧ W.grownBy W' (some m) := by
  obtain ⟨w', h1, h2, h3⟩ := h.own.update u16_keyed Tryz.underlying162 (Nat.lt_of_le_of_lt hl (by decide)) (key := .int .u16 k) (val := .agg #[.int .i64 a, .bool b]) (keyOf_int_mk Tryz.underlying22 (u16_wf hk)) (rEl_mk a b)
  have e := vD_put V (k, a, if b = true then 1 else 0)
  simp only at e
  rw [e] at h2
  refine ⟨w', h1, ⟨own_tightR h2, fun x hx => ?_⟩, h3⟩
  rcases vPut_mem hx with rfl | hx
  · cases b
    · exact .inl rfl
    · exact .inr rfl
  · exact h.wf x hx
end
/-- A point. -/
structure Ow8 where
  lv : Int
  mp : Int
  iv : Int
  md : List UInt8
structure Ow8.Ok (a : Ow8) : Prop where
  lv : 0 ≤ a.lv ∧ a.lv < 256
  mp : 0 ≤ a.mp ∧ a.mp < 65536
  iv : 0 ≤ a.iv ∧ a.iv < 256
  md : a.md.length ≤ 1000
/-- A machine's cells. -/
def mcA (a : Ow8) (m : Nat) (bd cr : Int) : Array Value := #[.int .u8 a.lv, .int .u16 a.mp, .int .u8 a.iv, .string (bs a.md), .map (some m), .int .i64 bd, .int .i64 cr]
/-- A machine: its block, its map. -/
structure MC (W : World) (q : Nat) (a : Ow8) (m : Nat) (V : List Vn) (bd cr : Int) : Prop where
  b : W.heap[q]? = some (.cells (mcA a m bd cr) 164 (0, 0))
  om : OM W m V
  ne : q ≠ m
  vl : V.length ≤ 8
  ri : Rising V
section
variable {W W' : World} {q m : Nat} {a : Ow8} {V : List Vn} {bd cr : Int}
theorem MC.lt (h : MC W q a m V bd cr) : q < W.heap.size := (Array.getElem?_eq_some_iff.1 h.b).1
theorem MC.later (h : MC W q a m V bd cr) (hb : Below W.heap.size W W') : MC W' q a m V bd cr := ⟨(hb.block q h.lt).trans h.b, h.om.later hb, h.ne, h.vl, h.ri⟩
theorem MC.blk (h : MC W q a m V bd cr) (e : W'.heap[q]? = W.heap[q]?) (e2 : W'.heap[m]? = W.heap[m]?) : MC W' q a m V bd cr := ⟨e.trans h.b, h.om.blk e2, h.ne, h.vl, h.ri⟩
theorem MC.c0 (h : MC W q a m V bd cr) : W.cell? ⟨q, 0, none⟩ = some (.int .u8 a.lv) := by simp [World.cell?, h.b, mcA]
theorem MC.c1 (h : MC W q a m V bd cr) : W.cell? ⟨q, 1, none⟩ = some (.int .u16 a.mp) := by simp [World.cell?, h.b, mcA]
theorem MC.c2 (h : MC W q a m V bd cr) : W.cell? ⟨q, 2, none⟩ = some (.int .u8 a.iv) := by simp [World.cell?, h.b, mcA]
theorem MC.c3 (h : MC W q a m V bd cr) : W.cell? ⟨q, 3, none⟩ = some (.string (bs a.md)) := by simp [World.cell?, h.b, mcA]
theorem MC.c4 (h : MC W q a m V bd cr) : W.cell? ⟨q, 4, none⟩ = some (.map (some m)) := by simp [World.cell?, h.b, mcA]
theorem MC.c5 (h : MC W q a m V bd cr) : W.cell? ⟨q, 5, none⟩ = some (.int .i64 bd) := by simp [World.cell?, h.b, mcA]
theorem MC.c6 (h : MC W q a m V bd cr) : W.cell? ⟨q, 6, none⟩ = some (.int .i64 cr) := by simp [World.cell?, h.b, mcA]
theorem MC.fr (h : MC W q a m V bd cr) (j : Nat) : W.frozen? ⟨q, j, none⟩ = false := by simp [World.frozen?, h.b]
theorem MC.s5 (h : MC W q a m V bd cr) (x : Int) : MC (W.setCell ⟨q, 5, none⟩ (.int .i64 x)) q a m V x cr := by
  refine ⟨?_, h.om.blk (Below.heap_setCell _ _ _ _ (by intro e; exact h.ne e.symm)), h.ne, h.vl, h.ri⟩
  simp [World.setCell, Array.getElem?_modify, h.b, mcA]
theorem MC.s6 (h : MC W q a m V bd cr) (x : Int) : MC (W.setCell ⟨q, 6, none⟩ (.int .i64 x)) q a m V bd x := by
  refine ⟨?_, h.om.blk (Below.heap_setCell _ _ _ _ (by intro e; exact h.ne e.symm)), h.ne, h.vl, h.ri⟩
  simp [World.setCell, Array.getElem?_modify, h.b, mcA]
end
/-- How long a check of an interval lasts. -/
def lastC (n : Int) : Int := if n = 4 then 4 else if n = 5 then 35 else 0
end Go.Proofs.YtlkdfofpnmpidaaGreat
