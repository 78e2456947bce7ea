/- ZP04: the texts V0, QR as one. -/
import Derived.Test.YtlkdfofpnmpidaaGreatZP03
import Derived.Maps.OwnSet
/- vlan: tables and their maps, plain. -/
set_option linter.unusedVariables false
namespace Go.Proofs.YtlkdfofpnmpidaaGreat
open Go.RowKit
open Go.Maps (Keyed int_keyed keyOf_int_mk)

/-- A VLAN: its number, its members, its untagged ones; rows of them, rising. -/
abbrev Vn := Int × Int × Int
def vElD (a b : Int) : DataW Unit := .lit (.int .i64 (a * 256 + b))
def vD (V : List Vn) : DataW Unit := .map (V.map fun x => (.int .u16 x.1, vElD x.2.1 x.2.2))
def vFind : List Vn → Int → Option (Int × Int)
  | [], _ => none
  | x :: r, k => if x.1 = k then some x.2 else vFind r k
def vGet (V : List Vn) (k : Int) : Int × Int := (vFind V k).getD (0, 0)
def vIns (x : Vn) : List Vn → List Vn
  | [] => [x]
  | y :: r => if x.1 < y.1 then x :: y :: r else y :: vIns x r
def vDel (V : List Vn) (k : Int) : List Vn := V.filter fun y => !decide (y.1 = k)
def vPut (V : List Vn) (x : Vn) : List Vn := vIns x (vDel V x.1)
theorem same_u16 (a b : Int) : (Lit.int .u16 a).sameKey (.int .u16 b) = decide (a = b) := by simp [Lit.sameKey]
theorem vD_at (V : List Vn) (k : Int) (z : DataW Unit) : (vD V).atKey (.int .u16 k) z = match vFind V k with | some x => vElD x.1 x.2 | none => z := by
  induction V with
  | nil => rfl
  | cons x r ih =>
    unfold vD DataW.atKey at ih ⊢
    simp only [List.map_cons, List.find?_cons, vFind, same_u16]
    by_cases h : x.1 = k
    · rw [decide_eq_true h, if_pos h]
    · rw [decide_eq_false h, if_neg h]; exact ih
theorem vD_has (V : List Vn) (k : Int) : Maps.has (vD V) (.int .u16 k) = (vFind V k).isSome := by
  induction V with
  | nil => rfl
  | cons x r ih =>
    unfold vD Maps.has at ih ⊢
    simp only [List.map_cons, List.any_cons, vFind, same_u16]
    by_cases h : x.1 = k
    · rw [decide_eq_true h, if_pos h]; rfl
    · rw [decide_eq_false h, if_neg h, Bool.false_or]; exact ih
theorem vD_size (V : List Vn) : Maps.size (vD V) = V.length := by simp [vD, Maps.size]
theorem vIns_map (x : Vn) : ∀ V : List Vn, DataW.insert (Lit.int .u16 x.1, vElD x.2.1 x.2.2) (V.map fun x => (Lit.int .u16 x.1, vElD x.2.1 x.2.2)) = (vIns x V).map fun x => (Lit.int .u16 x.1, vElD x.2.1 x.2.2)
  | [] => rfl
  | y :: r => by
    simp only [List.map_cons, DataW.insert, vIns]
    by_cases h : x.1 < y.1
    · have h2 : (Lit.int .u16 x.1).before (Lit.int .u16 y.1) = true := decide_eq_true h
      rw [if_pos h2, if_pos h]; rfl
    · have h2 : ¬ (Lit.int .u16 x.1).before (Lit.int .u16 y.1) = true := by rw [show (Lit.int .u16 x.1).before (Lit.int .u16 y.1) = decide (x.1 < y.1) from rfl, decide_eq_false h]; decide
      rw [if_neg h2, if_neg h, List.map_cons, vIns_map x r]
theorem vDel_map (V : List Vn) (k : Int) : (V.map fun x => (Lit.int .u16 x.1, vElD x.2.1 x.2.2)).filter (fun p => !p.1.sameKey (.int .u16 k)) = (vDel V k).map fun x => (Lit.int .u16 x.1, vElD x.2.1 x.2.2) := by
  unfold vDel
  rw [List.filter_map]
  congr 1
  apply List.filter_congr
  intro x _
  simp only [Function.comp, same_u16]
theorem vD_put (V : List Vn) (x : Vn) : (vD V).put (.int .u16 x.1) (vElD x.2.1 x.2.2) = vD (vPut V x) := by
  unfold vD vPut
  simp only [DataW.put]
  rw [vDel_map, vIns_map]
theorem vD_del (V : List Vn) (k : Int) : (vD V).del (.int .u16 k) = vD (vDel V k) := by
  unfold vD
  simp only [DataW.del]
  rw [vDel_map]
theorem vIns_mem {x z : Vn} : ∀ {V : List Vn}, z ∈ vIns x V → z = x ∨ z ∈ V
  | [], h => Or.inl (by simpa [vIns] using h)
  | y :: r, h => by
    unfold vIns at h
    split at h
    · rcases List.mem_cons.1 h with h | h
      · exact Or.inl h
      · exact Or.inr h
    · rcases List.mem_cons.1 h with h | h
      · exact Or.inr (h ▸ List.mem_cons_self ..)
      · rcases vIns_mem h with h | h
        · exact Or.inl h
        · exact Or.inr (List.mem_cons_of_mem _ h)
theorem vDel_mem {V : List Vn} {k : Int} {z : Vn} (h : z ∈ vDel V k) : z ∈ V := (List.mem_filter.1 h).1
theorem vPut_mem {V : List Vn} {x z : Vn} (h : z ∈ vPut V x) : z = x ∨ z ∈ V := (vIns_mem h).imp id vDel_mem
theorem vIns_len (x : Vn) : ∀ V : List Vn, (vIns x V).length = V.length + 1
  | [] => rfl
  | y :: r => by unfold vIns; split <;> simp [vIns_len x r]
theorem vPut_len (V : List Vn) (x : Vn) : (vPut V x).length ≤ V.length + 1 := by
  unfold vPut vDel; rw [vIns_len]; exact Nat.succ_le_succ (List.length_filter_le _ _)
/-- How a VLAN's ports read. -/
def vEl (v : Value) : Option (DataW Unit × List MemPlace) :=
  match v with
  | .agg cs => match cs.toList with
    | [.int .u8 a, .int .u8 b] => if 0 ≤ b ∧ b < 256 then some (vElD a b, []) else none
    | _ => none
  | _ => none
theorem vEl_mk (a b : Int) (h : 0 ≤ b ∧ b < 256) : vEl (.agg #[.int .u8 a, .int .u8 b]) = some (vElD a b, []) := by simp [vEl, h]
theorem vEl_inv {v : Value} {a b : Int} {ps : List MemPlace} (hb : 0 ≤ b ∧ b < 256) (h : vEl v = some (vElD a b, ps)) : v = .agg #[.int .u8 a, .int .u8 b] := by
  unfold vEl at h
  split at h
  · rename_i cs
    split at h
    · rename_i a' b' hcs
      split at h
      · rename_i hb'
        injection h with h; injection h with h _; unfold vElD at h; injection h with h; injection h with _ h
        have e1 : a' = a := by omega
        have e2 : b' = b := by omega
        subst e1 e2
        rw [show cs = cs.toList.toArray from rfl, hcs]
      · cases h
    · cases h
  · cases h
theorem u16_keyed : Keyed Tryz.prog 22 := int_keyed Tryz.underlying22
/-- A map's block. -/
structure VM (W : World) (m : Nat) (V : List Vn) : Prop where
  own : W.ownsMap Tryz.prog 22 vEl m V.length (vD V)
  wf : ∀ x ∈ V, (0 ≤ x.2.1 ∧ x.2.1 < 256) ∧ (0 ≤ x.2.2 ∧ x.2.2 < 256)
theorem own_tight {W : World} {m n : Nat} {V : List Vn} (h : W.ownsMap Tryz.prog 22 vEl m n (vD V)) : W.ownsMap Tryz.prog 22 vEl m V.length (vD V) := by
  obtain ⟨es, clock, hb, F, hs, hD⟩ := h
  refine ⟨es, clock, hb, F, ?_, hD⟩
  have := congrArg Maps.size hD
  rw [vD_size] at this
  simp only [Maps.size, length_sorted, List.length_map, Array.length_toList] at this
  omega
theorem vGet_wf2 {V : List Vn} (h : ∀ x ∈ V, (0 ≤ x.2.1 ∧ x.2.1 < 256) ∧ (0 ≤ x.2.2 ∧ x.2.2 < 256)) (k : Int) : (0 ≤ (vGet V k).1 ∧ (vGet V k).1 < 256) ∧ (0 ≤ (vGet V k).2 ∧ (vGet V k).2 < 256) := by
  unfold vGet
  induction V with
  | nil => exact ⟨⟨Int.le_refl 0, (by decide : (0 : Int) < 256)⟩, ⟨Int.le_refl 0, (by decide : (0 : Int) < 256)⟩⟩
  | cons x r ih =>
    unfold vFind
    split
    · exact h x (List.mem_cons_self ..)
    · exact ih fun y hy => h y (List.mem_cons_of_mem _ hy)
theorem vGet_wf {V : List Vn} (h : ∀ x ∈ V, (0 ≤ x.2.1 ∧ x.2.1 < 256) ∧ (0 ≤ x.2.2 ∧ x.2.2 < 256)) (k : Int) : 0 ≤ (vGet V k).2 ∧ (vGet V k).2 < 256 := (vGet_wf2 h k).2
section
variable {W W' : World} {m : Nat} {V : List Vn}
theorem VM.lt (h : VM W m V) : m < W.heap.size := h.own.lt
theorem VM.kept (h : VM W m V) {row : Option Nat} (hg : W.grownBy W' row) (hne : some m ≠ row) : VM W' m V := ⟨h.own.kept hg hne, h.wf⟩
theorem VM.later (h : VM W m V) (hb : Below W.heap.size W W') : VM W' m V := by
  obtain ⟨es, clock, hb1, r⟩ := h.own
  exact ⟨⟨es, clock, (hb.block m h.lt).trans hb1, r⟩, h.wf⟩
theorem VM.blk (h : VM W m V) (e : W'.heap[m]? = W.heap[m]?) : VM W' m V := by
  obtain ⟨es, clock, hb1, r⟩ := h.own
  exact ⟨⟨es, clock, e.trans hb1, r⟩, h.wf⟩
theorem VM.made (W : World) : VM (W.alloc (.map #[] 0)) W.heap.size [] := ⟨World.ownsMap_made W Tryz.prog 22 vEl, by simp⟩
theorem u16_wf {k : Int} (h : 0 ≤ k ∧ k < 65536) : (Lit.int .u16 k).wf = true := by simp [Lit.wf, IntKind.min, IntKind.max, IntKind.bits, IntKind.signed]; omega
theorem atGet (V : List Vn) (k : Int) : (vD V).atKey (.int .u16 k) (vElD 0 0) = vElD (vGet V k).1 (vGet V k).2 := by
  rw [vD_at]; unfold vGet; cases vFind V k <;> rfl
end
/-- Is a port in a set? -/
def memB (a : Int) (p : Nat) : Bool := decide (p < 8) && decide (a / 2 ^ p % 2 = 1)
theorem nat_and1 (m : Nat) : m &&& 1 = m % 2 := Nat.and_one_is_mod m
theorem and_1 (n : Int) (h0 : 0 ≤ n) (h1 : n < 256) : bits .and .u8 n 1 = n % 2 := by
  obtain ⟨m, rfl⟩ : ∃ m : Nat, n = m := ⟨n.toNat, by omega⟩
  rw [u8_and (m : Int) 1 (by omega) (by omega) (by omega) (by omega)]
  have e : (m : Int).toNat &&& (1 : Int).toNat = m % 2 := nat_and1 m
  rw [e]; omega
theorem shr_bd (a : Int) (p : Nat) (h : 0 ≤ a ∧ a < 256) : 0 ≤ a / 2 ^ p ∧ a / 2 ^ p < 256 := by
  have hp : (0 : Int) < 2 ^ p := Int.pow_pos (by decide)
  refine ⟨Int.ediv_nonneg h.1 (Int.le_of_lt hp), ?_⟩
  have := Int.ediv_le_self (2 ^ p) h.1
  omega
/-- 'a >> p & 1 == 1'. -/
theorem and_shr (a : Int) (p : Nat) (h : 0 ≤ a ∧ a < 256) : (bits .and .u8 (a / 2 ^ p) 1 == 1) = decide (a / 2 ^ p % 2 = 1) := by
  rw [and_1 _ (shr_bd a p h).1 (shr_bd a p h).2]; rfl
theorem and_shr0 (a : Int) (p : Nat) (h : 0 ≤ a ∧ a < 256) : (bits .and .u8 (a / 2 ^ p) 1 == 0) = !decide (a / 2 ^ p % 2 = 1) := by
  rw [and_1 _ (shr_bd a p h).1 (shr_bd a p h).2]
  have h2 : a / 2 ^ p % 2 = 0 ∨ a / 2 ^ p % 2 = 1 := by omega
  rcases h2 with h2 | h2 <;> rw [h2] <;> rfl
end Go.Proofs.YtlkdfofpnmpidaaGreat

/- Rising rows of numbers. -/
set_option linter.unusedVariables false
namespace Go.Proofs.YtlkdfofpnmpidaaGreat
open Go.RowKit

/-- The VLANs are rising. -/
def Rising (V : List Vn) : Prop := (V.map (·.1)).Pairwise (· < ·)
theorem vFind_mem : ∀ (V : List Vn) (x : Int), (vFind V x).isSome = true ↔ x ∈ V.map (·.1)
  | [], _ => by simp [vFind]
  | y :: r, x => by
    unfold vFind
    by_cases h : y.1 = x
    · rw [if_pos h]; simp [h]
    · rw [if_neg h, vFind_mem r x, List.map_cons, List.mem_cons]
      exact ⟨Or.inr, fun h2 => h2.elim (fun e => absurd e.symm h) id⟩
theorem Rising.nodup {V : List Vn} (h : Rising V) : (V.map (·.1)).Nodup := h.imp (fun {a b} hab => by omega)
theorem keys_perm {V : List Vn} (h : Rising V) {ss : List Int} (h1 : ss.Nodup) (h2 : ∀ x, x ∈ ss ↔ Maps.has (vD V) (.int .u16 x) = true) : ss.Perm (V.map (·.1)) :=
  (List.perm_ext_iff_of_nodup h1 h.nodup).2 fun x => by rw [h2 x, vD_has, vFind_mem]
theorem keys_eq {V : List Vn} (h : Rising V) {ss s : List Int} (h1 : ss.Nodup) (h2 : ∀ x, x ∈ ss ↔ Maps.has (vD V) (.int .u16 x) = true) (h3 : s.Perm ss) (h4 : s.Pairwise (· ≤ ·)) : s = V.map (·.1) := by
  refine List.Perm.eq_of_pairwise (le := (· ≤ ·)) (fun a b _ _ h1 h2 => Int.le_antisymm h1 h2) h4 (h.imp (fun {a b} hab => by omega)) (h3.trans (keys_perm h h1 h2))
theorem Rising.del {V : List Vn} (h : Rising V) (k : Int) : Rising (vDel V k) := by
  unfold Rising vDel
  exact List.Pairwise.sublist (List.Sublist.map _ List.filter_sublist) h
theorem vIns_fst {x : Vn} : ∀ {L : List Vn} {y : Int}, y ∈ (vIns x L).map (·.1) → y = x.1 ∨ y ∈ L.map (·.1)
  | L, y, h => by
    obtain ⟨z, hz, rfl⟩ := List.mem_map.1 h
    rcases vIns_mem hz with rfl | hz
    · exact .inl rfl
    · exact .inr (List.mem_map_of_mem hz)
theorem Rising.ins {x : Vn} : ∀ {V : List Vn}, Rising V → x.1 ∉ V.map (·.1) → Rising (vIns x V)
  | [], _, _ => by simp [Rising, vIns]
  | y :: r, h, hn => by
    unfold Rising at h ⊢
    rw [List.map_cons, List.pairwise_cons] at h
    unfold vIns
    by_cases hc : x.1 < y.1
    · rw [if_pos hc, List.map_cons, List.map_cons, List.pairwise_cons, List.pairwise_cons]
      refine ⟨fun z hz => ?_, h.1, h.2⟩
      rcases List.mem_cons.1 hz with rfl | hz
      · exact hc
      · have := h.1 z hz; omega
    · rw [if_neg hc, List.map_cons, List.pairwise_cons]
      have hxy : x.1 ≠ y.1 := fun e => hn (by rw [e]; simp)
      refine ⟨fun z hz => ?_, Rising.ins (V := r) h.2 (fun hm => hn (by rw [List.map_cons]; exact List.mem_cons_of_mem _ hm))⟩
      rcases vIns_fst hz with rfl | hz
      · omega
      · exact h.1 z hz
theorem Rising.put {V : List Vn} (h : Rising V) (x : Vn) : Rising (vPut V x) := by
  unfold vPut
  refine (h.del x.1).ins fun hm => ?_
  obtain ⟨y, hy, e⟩ := List.mem_map.1 hm
  have := (List.mem_filter.1 hy).2
  simp at this
  exact this e
theorem vFind_at : ∀ {V : List Vn} {j : Nat} (hj : j < V.length), Rising V → vFind V V[j].1 = some V[j].2
  | x :: r, 0, _, _ => by unfold vFind; simp
  | x :: r, j + 1, hj, h => by
    unfold Rising at h
    rw [List.map_cons, List.pairwise_cons] at h
    have hj' : j < r.length := by simpa using hj
    have h2 := h.1 r[j].1 (List.mem_map_of_mem (List.getElem_mem hj'))
    unfold vFind
    have e : (x :: r)[j + 1] = r[j] := rfl
    rw [e, if_neg (by omega)]
    exact vFind_at hj' h.2
end Go.Proofs.YtlkdfofpnmpidaaGreat
