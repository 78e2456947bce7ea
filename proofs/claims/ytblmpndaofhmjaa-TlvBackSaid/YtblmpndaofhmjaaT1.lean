/- tlv: a law's own 'same'; Find. -/
import Derived.Test.YtblmpndaofhmjaaT0
import Derived.Lib.SmallJoins
set_option linter.unusedVariables false
namespace Go.Proofs.Ytblmpndaofhmjaa
open Go.RowKit

set_option maxRecDepth 100000 in
set_option maxHeartbeats 4000000 in
theorem same_any (u v : Value) (l m : List Th) (w : World) (hu : Tls w u l) (hv : Tls w v m) (hl : l.length ≤ 100000) (hm : m.length ≤ 100000) : Calls Try.prog 29 #[u, v] w fun en w' => en = .returned (.bool (decide (l = m))) ∧ Below w.heap.size w w' := by
  obtain ⟨a, c, rfl, hc⟩ := hu.shape
  obtain ⟨a', c', rfl, hc'⟩ := hv.shape
  have HC := Lib.hid hc
  have HC' := Lib.hid hc'
  clear hc hc' hu hv
  obtain ⟨R, hR⟩ : ∃ R, decide (l = m) = R := ⟨_, rfl⟩
  have HR := Lib.hid hR
  rw [hR]; clear hR
  by_cases hlen : l.length = m.length
  rotate_left
  · have d0 : ((l.length : Int) != (m.length : Int)) = true := by simp; omega
    have hRf : R = false := by rw [← HR.out]; exact decide_eq_false (fun h => hlen (by rw [h]))
    clear hlen
    go_enter Try.func29, Try.ntmps29
    go_wp2
    go_ret
    exact ⟨by first | rfl | (rw [hRf]; rfl), Below.refl _ _⟩
  obtain ⟨n, hn⟩ : ∃ n, l.length = n := ⟨_, rfl⟩
  have hn' : m.length = n := by omega
  have HN := Lib.hid hn
  have HN' := Lib.hid hn'
  rw [hn, hn']
  clear hlen hn hn'
  have hn1 : n ≤ 100000 := by have := HN.out; omega
  go_enter Try.func29, Try.ntmps29
  go_wp2_with fail
  go_loopw [5] (fun i wr => ∃ k : Nat, k ≤ n ∧ i = .int .i64 k ∧ l.take k = m.take k ∧ Below w.heap.size w wr) (fun i _ => n - (intOf i).toNat)
  case atStart => exact ⟨0, by omega, rfl, rfl, Below.refl _ _⟩
  case round =>
    obtain ⟨k, hk, rfl, heq, hb⟩ := hrel
    by_cases hlt : k < n
    · have dk : decide ((k : Int) < (n : Int)) = true := decide_eq_true (by omega)
      have hkl : k < l.length := by have := HN.out; omega
      have hkm : k < m.length := by have := HN'.out; omega
      obtain ⟨b, off, rfl, hcc⟩ := HC.out.resolve_left (by intro h; rw [h] at hkl; simp at hkl)
      obtain ⟨b', off', rfl, hcc'⟩ := HC'.out.resolve_left (by intro h; rw [h] at hkm; simp at hkm)
      have c0 := (hb.cell (World.block_lt_of_cell? w _ (hcc k hkl).1)).trans (hcc k hkl).1
      have c1 := (hb.cell (World.block_lt_of_cell? w _ (hcc k hkl).2)).trans (hcc k hkl).2
      have c2 := (hb.cell (World.block_lt_of_cell? w _ (hcc' k hkm).1)).trans (hcc' k hkm).1
      have c3 := (hb.cell (World.block_lt_of_cell? w _ (hcc' k hkm).2)).trans (hcc' k hkm).2
      have hnl : l.take (k + 1) = l.take k ++ [l[k]] := List.take_succ_eq_append_getElem hkl
      have hnm : m.take (k + 1) = m.take k ++ [m[k]] := List.take_succ_eq_append_getElem hkm
      have hne : l = m → l[k] = m[k] := fun h => by subst h; rfl
      obtain ⟨x, hx⟩ : ∃ x, l[k] = x := ⟨_, rfl⟩
      obtain ⟨y, hy⟩ : ∃ y, m[k] = y := ⟨_, rfl⟩
      rw [hx] at c0 c1 hnl hne
      rw [hy] at c2 c3 hnm hne
      obtain ⟨x0, hx0⟩ : ∃ x0, (x.1.toNat : Int) = x0 := ⟨_, rfl⟩
      obtain ⟨y0, hy0⟩ : ∃ y0, (y.1.toNat : Int) = y0 := ⟨_, rfl⟩
      rw [hx0] at c0
      rw [hy0] at c2
      have l0 := Later.cell c0
      have l1 := Later.cell c1
      have l2 := Later.cell c2
      have l3 := Later.cell c3
      have hst := bs_tl_eq x.2 y.2
      have HB := Lib.hid hb
      have HEQ := Lib.hid heq
      have HNL := Lib.hid hnl
      have HNM := Lib.hid hnm
      have HNE := Lib.hid hne
      have HX0 := Lib.hid hx0
      have HY0 := Lib.hid hy0
      clear hb hcc hcc' hx hy hnl hnm hne heq hx0 hy0 c0 c1 c2 c3
      by_cases h1 : x0 = y0
      · have d1 : (x0 == y0) = true := by simpa using h1
        have H1 := Lib.hid h1
        clear h1
        by_cases h2 : x.2 = y.2
        · have d2 : ((bs x.2).toList == (bs y.2).toList) = true := by rw [hst]; exact decide_eq_true h2
          have hxy : x = y := by
            have : x.1 = y.1 := UInt8.toNat_inj.1 (by have := HX0.out; have := HY0.out; have := H1.out; omega)
            exact Prod.ext this h2
          have HXY := Lib.hid hxy
          clear h2 hst hxy
          go_wp2_with fail
          refine wp_region_later (by kernel_rfl) (by kernel_rfl) ?_
          repeat (go_big_quiet_step (fail))
          refine wpQuiet_nil ?_
          rintro _ ⟨K, rfl⟩
          go_wp2
          exact ⟨⟨k + 1, by omega, by go_num, by rw [HNL.out, HNM.out, HEQ.out, HXY.out], Later.bel HB.out K⟩, by simp [intOf]; omega⟩
        · have d2 : ((bs x.2).toList == (bs y.2).toList) = false := by rw [hst]; exact decide_eq_false h2
          have hRf : R = false := by rw [← HR.out]; exact decide_eq_false (fun h => h2 (by rw [HNE.out h]))
          clear h2 hst
          go_wp2_with fail
          refine wp_region_later (by kernel_rfl) (by kernel_rfl) ?_
          repeat (go_big_quiet_step (fail))
          refine wpQuiet_nil ?_
          rintro _ ⟨K, rfl⟩
          go_wp2
          go_ret
          exact ⟨by first | rfl | (rw [hRf]; rfl), Later.bel HB.out K⟩
      · have d1 : (x0 == y0) = false := by simpa using h1
        have hRf : R = false := by rw [← HR.out]; exact decide_eq_false (fun h => h1 (by rw [← HX0.out, ← HY0.out, HNE.out h]))
        clear h1 hst
        go_wp2_with fail
        refine wp_region_later (by kernel_rfl) (by kernel_rfl) ?_
        repeat (go_big_quiet_step (fail))
        refine wpQuiet_nil ?_
        rintro _ ⟨K, rfl⟩
        go_wp2
        go_ret
        exact ⟨by first | rfl | (rw [hRf]; rfl), Later.bel HB.out K⟩
    · have dk : decide ((k : Int) < (n : Int)) = false := decide_eq_false (by omega)
      have hRt : R = true := by
        rw [← HR.out]; refine decide_eq_true ?_
        rw [List.take_of_length_le (by have := HN.out; omega), List.take_of_length_le (by have := HN'.out; omega)] at heq
        exact heq
      have HB := Lib.hid hb
      clear heq hb
      go_wp2
      go_ret
      exact ⟨by first | rfl | (rw [hRt]; rfl), HB.out⟩
end Go.Proofs.Ytblmpndaofhmjaa
