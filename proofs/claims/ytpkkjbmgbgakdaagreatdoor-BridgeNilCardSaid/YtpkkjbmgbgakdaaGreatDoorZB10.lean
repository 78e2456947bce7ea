/- ZB10: the texts V0 as one. -/
import Derived.Test.YtpkkjbmgbgakdaaGreatDoorZB05
import Derived.Maps.OwnSet
/- vlan: tables and their maps, plain. -/
set_option linter.unusedVariables false
namespace Go.Proofs.YtpkkjbmgbgakdaaGreatDoor
open Go.RowKit
open Go.Maps (Keyed int_keyed keyOf_int_mk)

/-- A VLAN: its number, its members, its untagged ones; rows of them, rising. -/
abbrev Vn := Int × Int × Int
def vElD (a b : Int) : DataW Unit := .lit (.int .i64 (a * 256 + b))
def vD (V : List Vn) : DataW Unit := .map (V.map fun x => (.int .u16 x.1, vElD x.2.1 x.2.2))
def vFind : List Vn → Int → Option (Int × Int)
  | [], _ => none
  | x :: r, k => if x.1 = k then some x.2 else vFind r k
def vGet (V : List Vn) (k : Int) : Int × Int := (vFind V k).getD (0, 0)
def vIns (x : Vn) : List Vn → List Vn
  | [] => [x]
  | y :: r => if x.1 < y.1 then x :: y :: r else y :: vIns x r
def vDel (V : List Vn) (k : Int) : List Vn := V.filter fun y => !decide (y.1 = k)
def vPut (V : List Vn) (x : Vn) : List Vn := vIns x (vDel V x.1)
theorem same_u16 (a b : Int) : (Lit.int .u16 a).sameKey (.int .u16 b) = decide (a = b) := by simp [Lit.sameKey]
theorem vD_at (V : List Vn) (k : Int) (z : DataW Unit) : (vD V).atKey (.int .u16 k) z = match vFind V k with | some x => vElD x.1 x.2 | none => z := by
  induction V with
  | nil => rfl
  | cons x r ih =>
    unfold vD DataW.atKey at ih ⊢
    simp only [List.map_cons, List.find?_cons, vFind, same_u16]
    by_cases h : x.1 = k
    · rw [decide_eq_true h, if_pos h]
    · rw [decide_eq_false h, if_neg h]; exact ih
theorem vD_has (V : List Vn) (k : Int) : Maps.has (vD V) (.int .u16 k) = (vFind V k).isSome := by
  induction V with
  | nil => rfl
  | cons x r ih =>
    unfold vD Maps.has at ih ⊢
    simp only [List.map_cons, List.any_cons, vFind, same_u16]
    by_cases h : x.1 = k
    · rw [decide_eq_true h, if_pos h]; rfl
    · rw [decide_eq_false h, if_neg h, Bool.false_or]; exact ih
theorem vD_size (V : List Vn) : Maps.size (vD V) = V.length := by simp [vD, Maps.size]
theorem vIns_map (x : Vn) : ∀ V : List Vn, DataW.insert (Lit.int .u16 x.1, vElD x.2.1 x.2.2) (V.map fun x => (Lit.int .u16 x.1, vElD x.2.1 x.2.2)) = (vIns x V).map fun x => (Lit.int .u16 x.1, vElD x.2.1 x.2.2)
  | [] => rfl
  | y :: r => by
    simp only [List.map_cons, DataW.insert, vIns]
    by_cases h : x.1 < y.1
    · have h2 : (Lit.int .u16 x.1).before (Lit.int .u16 y.1) = true := decide_eq_true h
      rw [if_pos h2, if_pos h]; rfl
    · have h2 : ¬ (Lit.int .u16 x.1).before (Lit.int .u16 y.1) = true := by rw [show (Lit.int .u16 x.1).before (Lit.int .u16 y.1) = decide (x.1 < y.1) from rfl, decide_eq_false h]; decide
      rw [if_neg h2, if_neg h, List.map_cons, vIns_map x r]
theorem vDel_map (V : List Vn) (k : Int) : (V.map fun x => (Lit.int .u16 x.1, vElD x.2.1 x.2.2)).filter (fun p => !p.1.sameKey (.int .u16 k)) = (vDel V k).map fun x => (Lit.int .u16 x.1, vElD x.2.1 x.2.2) := by
  unfold vDel
  rw [List.filter_map]
  congr 1
  apply List.filter_congr
  intro x _
  simp only [Function.comp, same_u16]
theorem vD_put (V : List Vn) (x : Vn) : (vD V).put (.int .u16 x.1) (vElD x.2.1 x.2.2) = vD (vPut V x) := by
  unfold vD vPut
  simp only [DataW.put]
  rw [vDel_map, vIns_map]
theorem vD_del (V : List Vn) (k : Int) : (vD V).del (.int .u16 k) = vD (vDel V k) := by
  unfold vD
  simp only [DataW.del]
  rw [vDel_map]
theorem vIns_mem {x z : Vn} : ∀ {V : List Vn}, z ∈ vIns x V → z = x ∨ z ∈ V
  | [], h => Or.inl (by simpa [vIns] using h)
  | y :: r, h => by
    unfold vIns at h
    split at h
    · rcases List.mem_cons.1 h with h | h
      · exact Or.inl h
      · exact Or.inr h
    · rcases List.mem_cons.1 h with h | h
      · exact Or.inr (h ▸ List.mem_cons_self ..)
      · rcases vIns_mem h with h | h
        · exact Or.inl h
        · exact Or.inr (List.mem_cons_of_mem _ h)
theorem vDel_mem {V : List Vn} {k : Int} {z : Vn} (h : z ∈ vDel V k) : z ∈ V := (List.mem_filter.1 h).1
theorem vPut_mem {V : List Vn} {x z : Vn} (h : z ∈ vPut V x) : z = x ∨ z ∈ V := (vIns_mem h).imp id vDel_mem
theorem vIns_len (x : Vn) : ∀ V : List Vn, (vIns x V).length = V.length + 1
  | [] => rfl
  | y :: r => by unfold vIns; split <;> simp [vIns_len x r]
theorem vPut_len (V : List Vn) (x : Vn) : (vPut V x).length ≤ V.length + 1 := by
  unfold vPut vDel; rw [vIns_len]; exact Nat.succ_le_succ (List.length_filter_le _ _)
/-- How a VLAN's ports read. -/
def vEl (v : Value) : Option (DataW Unit × List MemPlace) :=
  match v with
  | .agg cs => match cs.toList with
    | [.int .u8 a, .int .u8 b] => if 0 ≤ b ∧ b < 256 then some (vElD a b, []) else none
    | _ => none
  | _ => none
theorem vEl_mk (a b : Int) (h : 0 ≤ b ∧ b < 256) : vEl (.agg #[.int .u8 a, .int .u8 b]) = some (vElD a b, []) := by simp [vEl, h]
theorem vEl_inv {v : Value} {a b : Int} {ps : List MemPlace} (hb : 0 ≤ b ∧ b < 256) (h : vEl v = some (vElD a b, ps)) : v = .agg #[.int .u8 a, .int .u8 b] := by
  unfold vEl at h
  split at h
  · rename_i cs
    split at h
    · rename_i a' b' hcs
      split at h
      · rename_i hb'
        injection h with h; injection h with h _; unfold vElD at h; injection h with h; injection h with _ h
        have e1 : a' = a := by omega
        have e2 : b' = b := by omega
        subst e1 e2
        rw [show cs = cs.toList.toArray from rfl, hcs]
      · cases h
    · cases h
  · cases h
theorem u16_keyed : Keyed Tryz.prog 39 := int_keyed Tryz.underlying39
/-- A map's block. -/
structure VM (W : World) (m : Nat) (V : List Vn) : Prop where
  own : W.ownsMap Tryz.prog 39 vEl m V.length (vD V)
  wf : ∀ x ∈ V, (0 ≤ x.2.1 ∧ x.2.1 < 256) ∧ (0 ≤ x.2.2 ∧ x.2.2 < 256)
theorem own_tight {W : World} {m n : Nat} {V : List Vn} (h : W.ownsMap Tryz.prog 39 vEl m n (vD V)) : W.ownsMap Tryz.prog 39 vEl m V.length (vD V) := by
  obtain ⟨es, clock, hb, F, hs, hD⟩ := h
  refine ⟨es, clock, hb, F, ?_, hD⟩
  have := congrArg Maps.size hD
  rw [vD_size] at this
  simp only [Maps.size, length_sorted, List.length_map, Array.length_toList] at this
  omega
theorem vGet_wf2 {V : List Vn} (h : ∀ x ∈ V, (0 ≤ x.2.1 ∧ x.2.1 < 256) ∧ (0 ≤ x.2.2 ∧ x.2.2 < 256)) (k : Int) : (0 ≤ (vGet V k).1 ∧ (vGet V k).1 < 256) ∧ (0 ≤ (vGet V k).2 ∧ (vGet V k).2 < 256) := by
  unfold vGet
  induction V with
  | nil => exact ⟨⟨Int.le_refl 0, (by decide : (0 : Int) < 256)⟩, ⟨Int.le_refl 0, (by decide : (0 : Int) < 256)⟩⟩
  | cons x r ih =>
    unfold vFind
    split
    · exact h x (List.mem_cons_self ..)
    · exact ih fun y hy => h y (List.mem_cons_of_mem _ hy)
theorem vGet_wf {V : List Vn} (h : ∀ x ∈ V, (0 ≤ x.2.1 ∧ x.2.1 < 256) ∧ (0 ≤ x.2.2 ∧ x.2.2 < 256)) (k : Int) : 0 ≤ (vGet V k).2 ∧ (vGet V k).2 < 256 := (vGet_wf2 h k).2
section
variable {W W' : World} {m : Nat} {V : List Vn}
theorem VM.lt (h : VM W m V) : m < W.heap.size := h.own.lt
theorem VM.kept (h : VM W m V) {row : Option Nat} (hg : W.grownBy W' row) (hne : some m ≠ row) : VM W' m V := ⟨h.own.kept hg hne, h.wf⟩
theorem VM.later (h : VM W m V) (hb : Below W.heap.size W W') : VM W' m V := by
  obtain ⟨es, clock, hb1, r⟩ := h.own
  exact ⟨⟨es, clock, (hb.block m h.lt).trans hb1, r⟩, h.wf⟩
theorem VM.blk (h : VM W m V) (e : W'.heap[m]? = W.heap[m]?) : VM W' m V := by
  obtain ⟨es, clock, hb1, r⟩ := h.own
  exact ⟨⟨es, clock, e.trans hb1, r⟩, h.wf⟩
theorem VM.made (W : World) : VM (W.alloc (.map #[] 0)) W.heap.size [] := ⟨World.ownsMap_made W Tryz.prog 39 vEl, by simp⟩
theorem u16_wf {k : Int} (h : 0 ≤ k ∧ k < 65536) : (Lit.int .u16 k).wf = true := by simp [Lit.wf, IntKind.min, IntKind.max, IntKind.bits, IntKind.signed]; omega
theorem zeroPorts (W : World) : (zeroValue 218).run Tryz.prog W = .ok (.agg #[.int .u8 0, .int .u8 0]) W := by kernel_rfl
theorem atGet (V : List Vn) (k : Int) : (vD V).atKey (.int .u16 k) (vElD 0 0) = vElD (vGet V k).1 (vGet V k).2 := by
  rw [vD_at]; unfold vGet; cases vFind V k <;> rfl
theorem VM.look (h : VM W m V) (k : Int) (hk : 0 ≤ k ∧ k < 65536) :
    (Instr.lookup 111 (.map (some m)) (.int .u16 k) true).run Tryz.prog W = .ok (.tuple #[.agg #[.int .u8 (vGet V k).1, .int .u8 (vGet V k).2], .bool (vFind V k).isSome]) W := by
  obtain ⟨v, ps, hrun, hv⟩ := h.own.look_ok u16_keyed Tryz.underlying111 (zeroPorts W) (vEl_mk 0 0 (by decide)) (keyOf_int_mk Tryz.underlying39 (u16_wf hk))
  rw [atGet] at hv
  rw [hrun, vEl_inv (vGet_wf h.wf k) hv, vD_has]
theorem VM.look1 (h : VM W m V) (k : Int) (hk : 0 ≤ k ∧ k < 65536) :
    (Instr.lookup 111 (.map (some m)) (.int .u16 k) false).run Tryz.prog W = .ok (.agg #[.int .u8 (vGet V k).1, .int .u8 (vGet V k).2]) W := by
  obtain ⟨v, ps, hrun, hv⟩ := h.own.lookup u16_keyed Tryz.underlying111 (zeroPorts W) (vEl_mk 0 0 (by decide)) (keyOf_int_mk Tryz.underlying39 (u16_wf hk))
  rw [atGet] at hv
  rw [hrun, vEl_inv (vGet_wf h.wf k) hv]
theorem VM.len (h : VM W m V) (ty : TypeId) : (Builtin.len_ #[111] ty #[.map (some m)]).run Tryz.prog W = .ok (.int .i64 (V.length : Int)) W := by
  have := h.own.len Tryz.underlying111 ty
  rw [vD_size] at this; exact this
theorem VM.update (h : VM W m V) (hl : V.length ≤ 1000) (k a b : Int) (hk : 0 ≤ k ∧ k < 65536) (ha : 0 ≤ a ∧ a < 256) (hb : 0 ≤ b ∧ b < 256) :
    ∃ W', (Instr.mapUpdate 111 (.map (some m)) (.int .u16 k) (.agg #[.int .u8 a, .int .u8 b])).run Tryz.prog W = .ok () W' ∧ VM W' m (vPut V (k, a, b)) ∧ W.grownBy W' (some m) := by
  obtain ⟨w', h1, h2, h3⟩ := h.own.update u16_keyed Tryz.underlying111 (Nat.lt_of_le_of_lt hl (by decide)) (key := .int .u16 k) (val := .agg #[.int .u8 a, .int .u8 b]) (keyOf_int_mk Tryz.underlying39 (u16_wf hk)) (vEl_mk a b hb)
  have e := vD_put V (k, a, b)
  simp only at e
  rw [e] at h2
  refine ⟨w', h1, ⟨own_tight h2, fun x hx => ?_⟩, h3⟩
  rcases vPut_mem hx with rfl | hx
  · exact ⟨ha, hb⟩
  · exact h.wf x hx
theorem VM.drop (h : VM W m V) (k : Int) (hk : 0 ≤ k ∧ k < 65536) (ty : TypeId) :
    ∃ W', (Builtin.delete_ #[111, 39] ty #[.map (some m), .int .u16 k]).run Tryz.prog W = .ok (.tuple #[]) W' ∧ VM W' m (vDel V k) ∧ W.grownBy W' (some m) := by
  obtain ⟨w', h1, h2, h3⟩ := h.own.drop u16_keyed Tryz.underlying111 (key := .int .u16 k) (keyOf_int_mk Tryz.underlying39 (u16_wf hk)) ty
  rw [vD_del] at h2
  exact ⟨w', h1, ⟨own_tight h2, fun x hx => h.wf x (vDel_mem hx)⟩, h3.grown⟩
end
/-- A table's cells. -/
def tabA (n : Int) (m : Nat) (o : List Int) : Array Value := (.int .i64 n :: .map (some m) :: o.map (Value.int .u16)).toArray
def TB (W : World) (q : Nat) (n : Int) (m : Nat) (o : List Int) : Prop := W.heap[q]? = some (.cells (tabA n m o) 114 (0, 0))
section
variable {W W' : World} {q m : Nat} {n : Int} {o : List Int}
theorem TB.lt (h : TB W q n m o) : q < W.heap.size := by
  rcases Nat.lt_or_ge q W.heap.size with h1 | h1
  · exact h1
  · unfold TB at h; rw [Array.getElem?_eq_none h1] at h; cases h
theorem TB.blk (h : TB W q n m o) (e : W'.heap[q]? = W.heap[q]?) : TB W' q n m o := by unfold TB at *; rw [e]; exact h
theorem TB.later (h : TB W q n m o) (hb : Below W.heap.size W W') : TB W' q n m o := h.blk (hb.block q h.lt)
theorem TB.c0 (h : TB W q n m o) : W.cell? ⟨q, 0, none⟩ = some (.int .i64 n) := by unfold TB at h; simp [World.cell?, h, tabA]
theorem TB.c1 (h : TB W q n m o) : W.cell? ⟨q, 1, none⟩ = some (.map (some m)) := by unfold TB at h; simp [World.cell?, h, tabA]
theorem TB.co (h : TB W q n m o) (p : Nat) (x : Int) (hp : o[p]? = some x) : W.cell? ⟨q, 2 + p, none⟩ = some (.int .u16 x) := by
  unfold TB at h
  rw [Nat.add_comm]
  simp [World.cell?, h, tabA, hp]
theorem TB.fr (h : TB W q n m o) (j : Nat) : W.frozen? ⟨q, j, none⟩ = false := by unfold TB at h; simp [World.frozen?, h]
theorem TB.set (h : TB W q n m o) (p : Nat) (x : Int) : TB (W.setCell ⟨q, 2 + p, none⟩ (.int .u16 x)) q n m (o.set p x) := by
  unfold TB at *
  rw [setCell_eq_setRow W q (2 + p) (tabA n m o) _ _ _ h]
  have e : (tabA n m o).setIfInBounds (2 + p) (.int .u16 x) = tabA n m (o.set p x) := by
    unfold tabA
    rw [Nat.add_comm]
    simp [List.setIfInBounds_toArray, List.set_cons_succ, List.map_set]
  have := setRow_heap W q _ ((tabA n m o).setIfInBounds (2 + p) (.int .u16 x)) _ _ h
  rw [e] at this ⊢
  exact this
end
/-- A table and its map. -/
structure TS (W : World) (q : Nat) (n : Int) (m : Nat) (o : List Int) (V : List Vn) : Prop where
  tb : TB W q n m o
  vm : VM W m V
  ne : q ≠ m
  ol : o.length = 8
  n1 : 1 ≤ n ∧ n ≤ 8
  vl : V.length ≤ 8
  ow : ∀ x ∈ o, 0 ≤ x ∧ x < 65536
section
variable {W W' : World} {q m : Nat} {n : Int} {o : List Int} {V : List Vn}
theorem TS.later (h : TS W q n m o V) (hb : Below W.heap.size W W') : TS W' q n m o V := ⟨h.tb.later hb, h.vm.later hb, h.ne, h.ol, h.n1, h.vl, h.ow⟩
theorem TS.blk (h : TS W q n m o V) (e : W'.heap[q]? = W.heap[q]?) (e2 : W'.heap[m]? = W.heap[m]?) : TS W' q n m o V := ⟨h.tb.blk e, h.vm.blk e2, h.ne, h.ol, h.n1, h.vl, h.ow⟩
theorem TS.own (h : TS W q n m o V) (p : Nat) (hp : p < 8) : ∃ x, o[p]? = some x ∧ 0 ≤ x ∧ x < 65536 := by
  have hl : p < o.length := by rw [h.ol]; exact hp
  exact ⟨o[p], List.getElem?_eq_getElem hl, h.ow _ (List.getElem_mem hl)⟩
end
/-- Is a port in a set? -/
def memB (a : Int) (p : Nat) : Bool := decide (p < 8) && decide (a / 2 ^ p % 2 = 1)
theorem nat_and1 (m : Nat) : m &&& 1 = m % 2 := Nat.and_one_is_mod m
theorem and_1 (n : Int) (h0 : 0 ≤ n) (h1 : n < 256) : bits .and .u8 n 1 = n % 2 := by
  obtain ⟨m, rfl⟩ : ∃ m : Nat, n = m := ⟨n.toNat, by omega⟩
  rw [u8_and (m : Int) 1 (by omega) (by omega) (by omega) (by omega)]
  have e : (m : Int).toNat &&& (1 : Int).toNat = m % 2 := nat_and1 m
  rw [e]; omega
theorem shr_bd (a : Int) (p : Nat) (h : 0 ≤ a ∧ a < 256) : 0 ≤ a / 2 ^ p ∧ a / 2 ^ p < 256 := by
  have hp : (0 : Int) < 2 ^ p := Int.pow_pos (by decide)
  refine ⟨Int.ediv_nonneg h.1 (Int.le_of_lt hp), ?_⟩
  have := Int.ediv_le_self (2 ^ p) h.1
  omega
/-- 'a >> p & 1 == 1'. -/
theorem and_shr (a : Int) (p : Nat) (h : 0 ≤ a ∧ a < 256) : (bits .and .u8 (a / 2 ^ p) 1 == 1) = decide (a / 2 ^ p % 2 = 1) := by
  rw [and_1 _ (shr_bd a p h).1 (shr_bd a p h).2]; rfl
theorem and_shr0 (a : Int) (p : Nat) (h : 0 ≤ a ∧ a < 256) : (bits .and .u8 (a / 2 ^ p) 1 == 0) = !decide (a / 2 ^ p % 2 = 1) := by
  rw [and_1 _ (shr_bd a p h).1 (shr_bd a p h).2]
  have h2 : a / 2 ^ p % 2 = 0 ∨ a / 2 ^ p % 2 = 1 := by omega
  rcases h2 with h2 | h2 <;> rw [h2] <;> rfl
end Go.Proofs.YtpkkjbmgbgakdaaGreatDoor
