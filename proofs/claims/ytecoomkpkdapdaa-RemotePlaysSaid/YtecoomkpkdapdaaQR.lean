/- Rising rows of numbers. -/
import Derived.Test.YtecoomkpkdapdaaV0
set_option linter.unusedVariables false
namespace Go.Proofs.Ytecoomkpkdapdaa
open Go.RowKit

/-- The VLANs are rising. -/
def Rising (V : List Vn) : Prop := (V.map (·.1)).Pairwise (· < ·)
theorem vFind_mem : ∀ (V : List Vn) (x : Int), (vFind V x).isSome = true ↔ x ∈ V.map (·.1)
  | [], _ => by simp [vFind]
  | y :: r, x => by
    unfold vFind
    by_cases h : y.1 = x
    · rw [if_pos h]; simp [h]
    · rw [if_neg h, vFind_mem r x, List.map_cons, List.mem_cons]
      exact ⟨Or.inr, fun h2 => h2.elim (fun e => absurd e.symm h) id⟩
theorem Rising.nodup {V : List Vn} (h : Rising V) : (V.map (·.1)).Nodup := h.imp (fun {a b} hab => by omega)
theorem keys_perm {V : List Vn} (h : Rising V) {ss : List Int} (h1 : ss.Nodup) (h2 : ∀ x, x ∈ ss ↔ Maps.has (vD V) (.int .u16 x) = true) : ss.Perm (V.map (·.1)) :=
  (List.perm_ext_iff_of_nodup h1 h.nodup).2 fun x => by rw [h2 x, vD_has, vFind_mem]
theorem keys_eq {V : List Vn} (h : Rising V) {ss s : List Int} (h1 : ss.Nodup) (h2 : ∀ x, x ∈ ss ↔ Maps.has (vD V) (.int .u16 x) = true) (h3 : s.Perm ss) (h4 : s.Pairwise (· ≤ ·)) : s = V.map (·.1) := by
  refine List.Perm.eq_of_pairwise (le := (· ≤ ·)) (fun a b _ _ h1 h2 => Int.le_antisymm h1 h2) h4 (h.imp (fun {a b} hab => by omega)) (h3.trans (keys_perm h h1 h2))
theorem Rising.del {V : List Vn} (h : Rising V) (k : Int) : Rising (vDel V k) := by
  unfold Rising vDel
  exact List.Pairwise.sublist (List.Sublist.map _ List.filter_sublist) h
theorem vIns_fst {x : Vn} : ∀ {L : List Vn} {y : Int}, y ∈ (vIns x L).map (·.1) → y = x.1 ∨ y ∈ L.map (·.1)
  | L, y, h => by
    obtain ⟨z, hz, rfl⟩ := List.mem_map.1 h
    rcases vIns_mem hz with rfl | hz
    · exact .inl rfl
    · exact .inr (List.mem_map_of_mem hz)
theorem Rising.ins {x : Vn} : ∀ {V : List Vn}, Rising V → x.1 ∉ V.map (·.1) → Rising (vIns x V)
  | [], _, _ => by simp [Rising, vIns]
  | y :: r, h, hn => by
    unfold Rising at h ⊢
    rw [List.map_cons, List.pairwise_cons] at h
    unfold vIns
    by_cases hc : x.1 < y.1
    · rw [if_pos hc, List.map_cons, List.map_cons, List.pairwise_cons, List.pairwise_cons]
      refine ⟨fun z hz => ?_, h.1, h.2⟩
      rcases List.mem_cons.1 hz with rfl | hz
      · exact hc
      · have := h.1 z hz; omega
    · rw [if_neg hc, List.map_cons, List.pairwise_cons]
      have hxy : x.1 ≠ y.1 := fun e => hn (by rw [e]; simp)
      refine ⟨fun z hz => ?_, Rising.ins (V := r) h.2 (fun hm => hn (by rw [List.map_cons]; exact List.mem_cons_of_mem _ hm))⟩
      rcases vIns_fst hz with rfl | hz
      · omega
      · exact h.1 z hz
theorem Rising.put {V : List Vn} (h : Rising V) (x : Vn) : Rising (vPut V x) := by
  unfold vPut
  refine (h.del x.1).ins fun hm => ?_
  obtain ⟨y, hy, e⟩ := List.mem_map.1 hm
  have := (List.mem_filter.1 hy).2
  simp at this
  exact this e
theorem vFind_at : ∀ {V : List Vn} {j : Nat} (hj : j < V.length), Rising V → vFind V V[j].1 = some V[j].2
  | x :: r, 0, _, _ => by unfold vFind; simp
  | x :: r, j + 1, hj, h => by
    unfold Rising at h
    rw [List.map_cons, List.pairwise_cons] at h
    have hj' : j < r.length := by simpa using hj
    have h2 := h.1 r[j].1 (List.mem_map_of_mem (List.getElem_mem hj'))
    unfold vFind
    have e : (x :: r)[j + 1] = r[j] := rfl
    rw [e, if_neg (by omega)]
    exact vFind_at hj' h.2
end Go.Proofs.Ytecoomkpkdapdaa
