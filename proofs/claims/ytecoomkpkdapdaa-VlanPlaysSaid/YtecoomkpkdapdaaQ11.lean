/- vlan: Drop, Vlans. -/
import Derived.Test.YtecoomkpkdapdaaV2
import Derived.Test.YtecoomkpkdapdaaQ4
import Derived.Test.YtecoomkpkdapdaaQ7
set_option linter.unusedVariables false
namespace Go.Proofs.Ytecoomkpkdapdaa
open Go.RowKit Go.Shelf

/-- The VLANs are rising. -/
def Rising (V : List Vn) : Prop := (V.map (·.1)).Pairwise (· < ·)
theorem vFind_mem : ∀ (V : List Vn) (x : Int), (vFind V x).isSome = true ↔ x ∈ V.map (·.1)
  | [], _ => by simp [vFind]
  | y :: r, x => by
    unfold vFind
    by_cases h : y.1 = x
    · rw [if_pos h]; simp [h]
    · rw [if_neg h, vFind_mem r x, List.map_cons, List.mem_cons]
      exact ⟨Or.inr, fun h2 => h2.elim (fun e => absurd e.symm h) id⟩
theorem Rising.nodup {V : List Vn} (h : Rising V) : (V.map (·.1)).Nodup := h.imp (fun {a b} hab => by omega)
theorem keys_perm {V : List Vn} (h : Rising V) {ss : List Int} (h1 : ss.Nodup) (h2 : ∀ x, x ∈ ss ↔ Maps.has (vD V) (.int .u16 x) = true) : ss.Perm (V.map (·.1)) :=
  (List.perm_ext_iff_of_nodup h1 h.nodup).2 fun x => by rw [h2 x, vD_has, vFind_mem]
theorem keys_eq {V : List Vn} (h : Rising V) {ss s : List Int} (h1 : ss.Nodup) (h2 : ∀ x, x ∈ ss ↔ Maps.has (vD V) (.int .u16 x) = true) (h3 : s.Perm ss) (h4 : s.Pairwise (· ≤ ·)) : s = V.map (·.1) := by
  refine List.Perm.eq_of_pairwise (le := (· ≤ ·)) (fun a b _ _ h1 h2 => Int.le_antisymm h1 h2) h4 (h.imp (fun {a b} hab => by omega)) (h3.trans (keys_perm h h1 h2))
theorem Rising.del {V : List Vn} (h : Rising V) (k : Int) : Rising (vDel V k) := by
  unfold Rising vDel
  exact List.Pairwise.sublist (List.Sublist.map _ List.filter_sublist) h
theorem vIns_fst {x : Vn} : ∀ {L : List Vn} {y : Int}, y ∈ (vIns x L).map (·.1) → y = x.1 ∨ y ∈ L.map (·.1)
  | L, y, h => by
    obtain ⟨z, hz, rfl⟩ := List.mem_map.1 h
    rcases vIns_mem hz with rfl | hz
    · exact .inl rfl
    · exact .inr (List.mem_map_of_mem hz)
theorem Rising.ins {x : Vn} : ∀ {V : List Vn}, Rising V → x.1 ∉ V.map (·.1) → Rising (vIns x V)
  | [], _, _ => by simp [Rising, vIns]
  | y :: r, h, hn => by
    unfold Rising at h ⊢
    rw [List.map_cons, List.pairwise_cons] at h
    unfold vIns
    by_cases hc : x.1 < y.1
    · rw [if_pos hc, List.map_cons, List.map_cons, List.pairwise_cons, List.pairwise_cons]
      refine ⟨fun z hz => ?_, h.1, h.2⟩
      rcases List.mem_cons.1 hz with rfl | hz
      · exact hc
      · have := h.1 z hz; omega
    · rw [if_neg hc, List.map_cons, List.pairwise_cons]
      have hxy : x.1 ≠ y.1 := fun e => hn (by rw [e]; simp)
      refine ⟨fun z hz => ?_, Rising.ins (V := r) h.2 (fun hm => hn (by rw [List.map_cons]; exact List.mem_cons_of_mem _ hm))⟩
      rcases vIns_fst hz with rfl | hz
      · omega
      · exact h.1 z hz
theorem Rising.put {V : List Vn} (h : Rising V) (x : Vn) : Rising (vPut V x) := by
  unfold vPut
  refine (h.del x.1).ins fun hm => ?_
  obtain ⟨y, hy, e⟩ := List.mem_map.1 hm
  have := (List.mem_filter.1 hy).2
  simp at this
  exact this e
set_option maxRecDepth 100000 in
set_option maxHeartbeats 4000000 in
theorem vlans_any (q m : Nat) (n : Int) (o : List Int) (V : List Vn) (w : World) (hs : TS w q n m o V) (hV : Rising V) :
    Calls Try.prog 18 #[.pointer (some ⟨q, 0, none⟩)] w fun en w' => ∃ v, en = .returned v ∧ Us w' w.heap.size v (V.map (·.1)) ∧ Below w.heap.size w w' := by
  have c1 := hs.tb.c1
  have hb1 : Below w.heap.size w (w.alloc (.cells #[.map (some m)] 104)) := (Below.refl _ _).alloc (Nat.le_refl _) _
  have hsz : (w.alloc (.cells #[.map (some m)] 104)).heap.size = w.heap.size + 1 := by simp
  have hm : (w.alloc (.cells #[.map (some m)] 104)).cell? ⟨w.heap.size, 0, none⟩ = some (.map (some m)) := by simp only [World.cell?, heap_alloc_new]; rfl
  have hown := (hs.vm.later hb1).own
  have ST := sorted_U 93 #[.pointer (some ⟨w.heap.size, 0, none⟩)] (enters_of Try.func93 (by kernel_rfl) rfl)
    (fun ss => ss.Nodup ∧ ∀ x, x ∈ ss ↔ Maps.has (vD V) (.int .u16 x) = true) (fun _ => True) (Maps.size (vD V)) (by rw [vD_size]; have := hs.vl; omega)
    (fun ss h => by have := (keys_perm hV h.1 h.2).length_eq; rw [List.length_map] at this; have := hs.vl; omega)
    _ _ (Below.refl _ _) (keysStops_V Fence.wide 2 trivial rfl (by decide) w.heap.size m V.length (vD V) (w.alloc (.cells #[.map (some m)] 104)) (by rw [hsz]; omega) hm hown)
  have HS := Lib.hid hs
  clear hs hm hown
  go_enter Try.func18, Try.ntmps18
  go_wp2_with (first
    | (go_at_call 66; refine (keys_V (some m) _).mono ?_; rintro e w' ⟨rfl, rfl⟩)
    | (go_at_call 65; refine ST.mono ?_; rintro e w2 ⟨v, ss, s, rfl, hss, hp, hw, hu, hnil, hb2⟩))
  go_ret
  have e := keys_eq hV hss.1 hss.2 hp hw
  subst e
  exact ⟨_, rfl, World.ownsRow.mono hu (by rw [hsz]; omega), hb1.trans (hb2.mono (by rw [hsz]; omega))⟩
end Go.Proofs.Ytecoomkpkdapdaa
