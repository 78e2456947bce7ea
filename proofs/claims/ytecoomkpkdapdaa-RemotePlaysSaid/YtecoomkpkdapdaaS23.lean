/- law18: New and May agree: the plain law. -/
import Derived.Test.YtecoomkpkdapdaaSD
set_option linter.unusedVariables false
set_option linter.unusedSimpArgs false
namespace Go.Proofs.Ytecoomkpkdapdaa

theorem mayC_other {a : Ow8} (h : mayC a.lv a.iv a.mp a.md = true) (k : Int) : mayC a.lv a.iv k a.md = (decide (1 ≤ k) && decide (k ≤ 8191)) := by
  unfold mayC at h ⊢
  simp only [Bool.and_eq_true] at h
  obtain ⟨h1, h2, h3, h4, h5⟩ := h
  rw [h1, h2, h5]
  simp
theorem okX_eq {a : Ow8} (h : mayC a.lv a.iv a.mp a.md = true) (pre : List Int) (k : Int) (f : Bool) (hf : f = pre.contains k) : (f || (k == a.mp || !mayC a.lv a.iv k a.md)) = !okX a pre k := by
  rw [mayC_other h, hf]
  unfold okX
  have e1 : decide (1 ≤ k) = !decide (k < 1) := by
    by_cases h : k < 1
    · rw [decide_eq_true h, decide_eq_false (by omega)]; rfl
    · rw [decide_eq_false h, decide_eq_true (by omega)]; rfl
  have e2 : decide (k ≤ 8191) = !decide (8191 < k) := by
    by_cases h : 8191 < k
    · rw [decide_eq_true h, decide_eq_false (by omega)]; rfl
    · rw [decide_eq_false h, decide_eq_true (by omega)]; rfl
  rw [e1, e2]
  cases decide (k < 1) <;> cases decide (8191 < k) <;> cases (k == a.mp) <;> cases pre.contains k <;> rfl
theorem vIns_keys (x : Vn) (k : Int) : ∀ V : List Vn, k ∈ (vIns x V).map (·.1) ↔ k = x.1 ∨ k ∈ V.map (·.1)
  | [] => by unfold vIns; simp
  | y :: r => by
    unfold vIns
    split
    · simp
    · rw [List.map_cons, List.mem_cons, vIns_keys x k r, List.map_cons, List.mem_cons]
      constructor
      · rintro (h | h | h)
        · exact .inr (.inl h)
        · exact .inl h
        · exact .inr (.inr h)
      · rintro (h | h | h)
        · exact .inr (.inl h)
        · exact .inl h
        · exact .inr (.inr h)
theorem vPut_keys (V : List Vn) (x : Vn) (k : Int) : k ∈ (vPut V x).map (·.1) ↔ k = x.1 ∨ k ∈ V.map (·.1) := by
  unfold vPut
  rw [vIns_keys]
  constructor
  · rintro (h | h)
    · exact .inl h
    · obtain ⟨y, hy, rfl⟩ := List.mem_map.1 h
      exact .inr (List.mem_map_of_mem (vDel_mem hy))
  · rintro (h | h)
    · exact .inl h
    · by_cases hk : k = x.1
      · exact .inl hk
      · obtain ⟨y, hy, rfl⟩ := List.mem_map.1 h
        exact .inr (List.mem_map_of_mem (List.mem_filter.2 ⟨hy, by simp [hk]⟩))
theorem newGo_ok {a : Ow8} (h : mayC a.lv a.iv a.mp a.md = true) : ∀ (r : List Int) (V : List Vn) (pre : List Int), Rising V → (∀ k, (vFind V k).isSome = pre.contains k) → (∀ x ∈ V, x.2 = (lastC a.iv, 0)) → pre.Nodup → (∀ x ∈ pre, 1 ≤ x ∧ x ≤ 8191) →
    (okL a pre r = false ∧ newGo a r V = none) ∨ (okL a pre r = true ∧ ∃ V', newGo a r V = some V' ∧ Rising V' ∧ (∀ k, k ∈ V'.map (·.1) ↔ k ∈ pre ++ r) ∧ (∀ x ∈ V', x.2 = (lastC a.iv, 0)) ∧ (pre ++ r).Nodup ∧ ∀ x ∈ pre ++ r, 1 ≤ x ∧ x ≤ 8191)
  | [], V, pre, hr, hm, hv, hn, hb => by
    refine .inr ⟨rfl, V, rfl, hr, fun k => ?_, hv, by simpa using hn, by simpa using hb⟩
    rw [← vFind_mem, hm, List.append_nil, List.contains_iff_mem]
  | k :: r, V, pre, hr, hm, hv, hn, hb => by
    have e := okX_eq h pre k _ (hm k)
    cases hx : okX a pre k
    · rw [hx] at e
      refine .inl ⟨by unfold okL; rw [hx]; rfl, ?_⟩
      unfold newGo
      rw [e]; rfl
    · rw [hx] at e
      have hkp : k ∉ pre ∧ 1 ≤ k ∧ k ≤ 8191 := by
        unfold okX at hx
        simp only [Bool.and_eq_true, Bool.not_eq_true', decide_eq_false_iff_not] at hx
        obtain ⟨h1, h2, _, h4⟩ := hx
        refine ⟨fun hm => ?_, by omega, by omega⟩
        rw [List.contains_iff_mem.2 hm] at h4; cases h4
      have hm2 : ∀ k', (vFind (vPut V (k, lastC a.iv, 0)) k').isSome = (pre ++ [k]).contains k' := by
        intro k'
        rw [Bool.eq_iff_iff, vFind_mem, List.contains_iff_mem]
        have := vPut_keys V (k, lastC a.iv, 0) k'
        have hp : k' ∈ V.map (·.1) ↔ k' ∈ pre := by rw [← vFind_mem, hm k', List.contains_iff_mem]
        rw [this, hp, List.mem_append, List.mem_singleton]
        constructor
        · rintro (h | h)
          · exact .inr h
          · exact .inl h
        · rintro (h | h)
          · exact .inr h
          · exact .inl h
      have hv2 : ∀ x ∈ vPut V (k, lastC a.iv, 0), x.2 = (lastC a.iv, 0) := by
        intro x hx
        rcases vPut_mem hx with rfl | hx
        · rfl
        · exact hv x hx
      have hn2 : (pre ++ [k]).Nodup := by
        rw [List.nodup_append]
        exact ⟨hn, by simp, fun a ha b hb => by rw [List.mem_singleton.1 hb]; rintro rfl; exact hkp.1 ha⟩
      have hb2 : ∀ x ∈ pre ++ [k], 1 ≤ x ∧ x ≤ 8191 := by
        intro x hx
        rcases List.mem_append.1 hx with hx | hx
        · exact hb x hx
        · rw [List.mem_singleton.1 hx]; exact hkp.2
      have en : newGo a (k :: r) V = newGo a r (vPut V (k, lastC a.iv, 0)) := by
        conv => lhs; unfold newGo
        rw [e]; rfl
      have eo : okL a pre (k :: r) = okL a (pre ++ [k]) r := by
        conv => lhs; unfold okL
        rw [hx, Bool.true_and]
      rw [en, eo]
      rcases newGo_ok h r _ (pre ++ [k]) (hr.put _) hm2 hv2 hn2 hb2 with ⟨h1, h2⟩ | ⟨h1, V', h2, h3, h4, h5, h6, h7⟩
      · exact .inl ⟨h1, h2⟩
      · refine .inr ⟨h1, V', h2, h3, ?_, h5, ?_, ?_⟩
        · intro k'; rw [h4 k', List.append_assoc]; rfl
        · rw [List.append_assoc] at h6; exact h6
        · rw [List.append_assoc] at h7; exact h7
theorem riseN_mem (ks : List Int) (x : Int) : ∀ n, x ∈ riseN ks n ↔ x ∈ ks ∧ 0 ≤ x ∧ x < n
  | 0 => by unfold riseN; simp
  | n + 1 => by
    unfold riseN
    rw [List.mem_append, riseN_mem ks x n, List.mem_filter]
    unfold eqN
    simp only [beq_iff_eq]
    constructor
    · rintro (⟨h1, h2, h3⟩ | ⟨h1, h2⟩)
      · exact ⟨h1, h2, by omega⟩
      · exact ⟨h1, by omega, by omega⟩
    · rintro ⟨h1, h2, h3⟩
      by_cases h : x = n
      · exact .inr ⟨h1, h⟩
      · exact .inl ⟨h1, h2, by omega⟩
theorem riseN_sorted (ks : List Int) : ∀ n, (riseN ks n).Pairwise (· ≤ ·)
  | 0 => List.Pairwise.nil
  | n + 1 => by
    unfold riseN
    rw [List.pairwise_append]
    refine ⟨riseN_sorted ks n, ?_, fun x hx y hy => ?_⟩
    · refine List.Pairwise.imp_of_mem (fun {x y} hx hy _ => ?_) (List.pairwise_of_forall (l := ks.filter (eqN n)) (R := fun _ _ => True) (fun _ _ => trivial))
      have h1 := (List.mem_filter.1 hx).2
      have h2 := (List.mem_filter.1 hy).2
      unfold eqN at h1 h2
      simp only [beq_iff_eq] at h1 h2
      omega
    · have h1 := (riseN_mem ks x n).1 hx
      have h2 := (List.mem_filter.1 hy).2
      unfold eqN at h2
      simp only [beq_iff_eq] at h2
      omega
theorem riseN_nodup {ks : List Int} (h : ks.Nodup) : ∀ n, (riseN ks n).Nodup
  | 0 => List.nodup_nil
  | n + 1 => by
    unfold riseN
    rw [List.nodup_append]
    refine ⟨riseN_nodup h n, h.filter _, fun x hx y hy => ?_⟩
    have h1 := (riseN_mem ks x n).1 hx
    have h2 := (List.mem_filter.1 hy).2
    unfold eqN at h2
    simp only [beq_iff_eq] at h2
    omega
/-- New and May agree; the others' numbers are the rising ones; the start. -/
theorem new_may (a : Ow8) (ks : List Int) : (mayR a ks = false ∧ newV a ks = none) ∨ (mayR a ks = true ∧ ∃ V, newV a ks = some V ∧ V.map (·.1) = riseN ks 8192 ∧ Inv a (riseN ks 8192) V 0 0 [] 0) := by
  unfold mayR newV
  by_cases h8 : 8 < ks.length
  · rw [decide_eq_true h8, if_pos (.inr h8)]; exact .inl ⟨rfl, rfl⟩
  rw [decide_eq_false h8]
  cases hm : mayC a.lv a.iv a.mp a.md
  · rw [if_pos (.inl rfl)]; exact .inl ⟨rfl, rfl⟩
  rw [if_neg (by rintro (h | h); cases h; exact h8 h)]
  simp only [Bool.not_false, Bool.true_and]
  rcases newGo_ok hm ks [] [] (by simp [Rising]) (by intro k; rfl) (by simp) List.nodup_nil (by simp) with ⟨h1, h2⟩ | ⟨h1, V, h2, h3, h4, h5, h6, h7⟩
  · exact .inl ⟨h1, h2⟩
  · rw [List.nil_append] at h6 h7
    have hmem : ∀ x, x ∈ riseN ks 8192 ↔ x ∈ V.map (·.1) := fun x => by
      rw [h4 x, List.nil_append, riseN_mem]
      constructor
      · exact fun h => h.1
      · intro h
        have := h7 x h
        exact ⟨h, by omega, by omega⟩
    have hk : V.map (·.1) = riseN ks 8192 := (keys_eq h3 (riseN_nodup h6 8192) (fun x => by rw [hmem x, vD_has, vFind_mem]) (List.Perm.refl _) (riseN_sorted ks 8192)).symm
    have hl := lastC_b a.iv
    refine .inr ⟨h1, V, h2, hk, rfl, rfl, fun x hx => ?_, hk, by simp, Int.le_refl _, fun x hx => ?_, fun x hx => ?_, by decide, by decide⟩
    · have e := h5 x hx
      constructor
      · rw [e]
        show lastC a.iv = leftC a _ [] 1 x.1 0
        unfold leftC
        rw [show mostC a (riseN ks 8192) [] 1 x.1 0 = 0 from rfl]
        split <;> omega
      · rw [e]; rfl
    · rw [h5 x hx]; show 0 ≤ lastC a.iv ∧ lastC a.iv ≤ 1000; omega
    · have h := (h4 x.1).1 (List.mem_map_of_mem hx)
      rw [List.nil_append] at h
      have := h7 x.1 h
      omega
end Go.Proofs.Ytecoomkpkdapdaa
