/- cfm: the law's own 'Same'. -/
import Derived.Test.YtcbbocdmmehphaaC0
set_option linter.unusedVariables false
namespace Go.Proofs.Ytcbbocdmmehphaa
open Go.RowKit

set_option maxRecDepth 100000 in
set_option maxHeartbeats 4000000 in
theorem same12_any (u v : Value) (a b c a' b' c' : Int) (f f' : List UInt8) (l m : List Th) (w : World) (hu : Tls w u l) (hv : Tls w v m) (hl : l.length ≤ 100000) (hm : m.length ≤ 100000) : Calls Try.prog 21 #[.agg #[.int .u8 a, .int .u8 b, .int .u8 c, .string (bs f), u], .agg #[.int .u8 a', .int .u8 b', .int .u8 c', .string (bs f'), v]] w fun en w' => en = .returned (.bool (decide (a = a' ∧ b = b' ∧ c = c' ∧ f = f' ∧ l = m))) ∧ Below w.heap.size w w' := by
  have HU := Lib.hid hu
  have HV := Lib.hid hv
  obtain ⟨ad, cp, rfl, _⟩ := hu.shape
  obtain ⟨ad', cp', rfl, _⟩ := hv.shape
  clear hu hv
  obtain ⟨R, hR⟩ : ∃ R, decide (a = a' ∧ b = b' ∧ c = c' ∧ f = f' ∧ l = m) = R := ⟨_, rfl⟩
  have HR := Lib.hid hR
  rw [hR]; clear hR
  have hst := bs_tl_eq f f'
  go_enter Try.func21, Try.ntmps21
  go_upto_region 1 with fail
  have pb0 := (PB.new 32 w a b c f (.slice ad l.length cp)).later ((Below.refl _ _).alloc (Nat.le_refl _) (.cells #[.int .u8 a', .int .u8 b', .int .u8 c', .string (bs f'), .slice ad' m.length cp'] 32))
  have pb1 : PB 32 ((w.alloc (.cells #[.int .u8 a, .int .u8 b, .int .u8 c, .string (bs f), .slice ad l.length cp] 32)).alloc (.cells #[.int .u8 a', .int .u8 b', .int .u8 c', .string (bs f'), .slice ad' m.length cp'] 32)) (w.heap.size + 1) a' b' c' f' (.slice ad' m.length cp') := by
    have := PB.new 32 (w.alloc (.cells #[.int .u8 a, .int .u8 b, .int .u8 c, .string (bs f), .slice ad l.length cp] 32)) a' b' c' f' (.slice ad' m.length cp')
    rw [show (w.alloc (.cells #[.int .u8 a, .int .u8 b, .int .u8 c, .string (bs f), .slice ad l.length cp] 32)).heap.size = w.heap.size + 1 by simp] at this
    exact this
  have hb0 : Below w.heap.size w ((w.alloc (.cells #[.int .u8 a, .int .u8 b, .int .u8 c, .string (bs f), .slice ad l.length cp] 32)).alloc (.cells #[.int .u8 a', .int .u8 b', .int .u8 c', .string (bs f'), .slice ad' m.length cp'] 32)) := ((Below.refl _ _).alloc (Nat.le_refl _) _).alloc (by simp) _
  obtain ⟨w2, hw2⟩ : ∃ k, (w.alloc (.cells #[.int .u8 a, .int .u8 b, .int .u8 c, .string (bs f), .slice ad l.length cp] 32)).alloc (.cells #[.int .u8 a', .int .u8 b', .int .u8 c', .string (bs f'), .slice ad' m.length cp'] 32) = k := ⟨_, rfl⟩
  rw [hw2] at pb0 pb1 hb0 ⊢
  have p0 := pb0.c0
  have p1 := pb0.c1
  have p2 := pb0.c2
  have p3 := pb0.c3
  have p4 := pb0.c4
  have q0 := pb1.c0
  have q1 := pb1.c1
  have q2 := pb1.c2
  have q3 := pb1.c3
  have q4 := pb1.c4
  have P0 := Lib.hid pb0
  have P1 := Lib.hid pb1
  have HB0 := Lib.hid hb0
  obtain ⟨_, _, hsh, hc⟩ := (HU.out.later hb0).shape
  injection hsh with e1 _ _
  subst e1
  obtain ⟨_, _, hsh, hc'⟩ := (HV.out.later hb0).shape
  injection hsh with e1 _ _
  subst e1
  have HC := Lib.hid hc
  have HC' := Lib.hid hc'
  clear hw2 pb0 pb1 hb0 hc hc'
  by_cases hh : a = a'
  rotate_left
  · have d : (a != a') = true := by rw [bne_iff_ne]; exact hh
    have d2 : (a == a') = false := by rw [beq_eq_false_iff_ne]; exact hh
    have hRf : R = false := by rw [← HR.out]; exact decide_eq_false (fun h => hh h.1)
    have HRR := Lib.hid hRf
    clear hh hRf hst
    go_wp2
    go_ret
    exact ⟨by rw [HRR.out]; rfl, HB0.out⟩
  have da : (a != a') = false := by rw [hh]; simp
  have ea : (a == a') = true := by rw [hh]; simp
  have Ha := Lib.hid hh
  clear hh
  by_cases hh : b = b'
  rotate_left
  · have d : (b != b') = true := by rw [bne_iff_ne]; exact hh
    have d2 : (b == b') = false := by rw [beq_eq_false_iff_ne]; exact hh
    have hRf : R = false := by rw [← HR.out]; exact decide_eq_false (fun h => hh h.2.1)
    have HRR := Lib.hid hRf
    clear hh hRf hst
    go_wp2
    go_ret
    exact ⟨by rw [HRR.out]; rfl, HB0.out⟩
  have db : (b != b') = false := by rw [hh]; simp
  have eb : (b == b') = true := by rw [hh]; simp
  have Hb := Lib.hid hh
  clear hh
  by_cases hh : c = c'
  rotate_left
  · have d : (c != c') = true := by rw [bne_iff_ne]; exact hh
    have d2 : (c == c') = false := by rw [beq_eq_false_iff_ne]; exact hh
    have hRf : R = false := by rw [← HR.out]; exact decide_eq_false (fun h => hh h.2.2.1)
    have HRR := Lib.hid hRf
    clear hh hRf hst
    go_wp2
    go_ret
    exact ⟨by rw [HRR.out]; rfl, HB0.out⟩
  have dc : (c != c') = false := by rw [hh]; simp
  have ec : (c == c') = true := by rw [hh]; simp
  have Hc := Lib.hid hh
  clear hh
  by_cases hh : f = f'
  rotate_left
  · have d2 : ((bs f).toList == (bs f').toList) = false := by rw [hst]; exact decide_eq_false hh
    have d : ((bs f).toList != (bs f').toList) = true := by unfold bne; rw [d2]; rfl
    have hRf : R = false := by rw [← HR.out]; exact decide_eq_false (fun h => hh h.2.2.2.1)
    have HRR := Lib.hid hRf
    clear hh hRf hst
    go_wp2
    go_ret
    exact ⟨by rw [HRR.out]; rfl, HB0.out⟩
  have ef : ((bs f).toList == (bs f').toList) = true := by rw [hst]; exact decide_eq_true hh
  have df : ((bs f).toList != (bs f').toList) = false := by unfold bne; rw [ef]; rfl
  have Hf := Lib.hid hh
  clear hh hst
  by_cases hlen : l.length = m.length
  rotate_left
  · have d0 : ((l.length : Int) != (m.length : Int)) = true := by simp; omega
    have hRf : R = false := by rw [← HR.out]; exact decide_eq_false (fun h => hlen (by rw [h.2.2.2.2]))
    have HRR := Lib.hid hRf
    clear hlen hRf
    go_wp2
    go_ret
    exact ⟨by rw [HRR.out]; rfl, HB0.out⟩
  have hR2 : R = decide (l = m) := by
    rw [← HR.out]
    by_cases h : l = m
    · rw [decide_eq_true h]; exact decide_eq_true ⟨Ha.out, Hb.out, Hc.out, Hf.out, h⟩
    · rw [decide_eq_false h]; exact decide_eq_false (fun k => h k.2.2.2.2)
  have HRR := Lib.hid hR2
  have dl : ((l.length : Int) != (m.length : Int)) = false := by rw [hlen]; simp
  have HL := Lib.hid hlen
  clear hlen hR2
  go_wp2_with fail
  go_loopw [5] (fun i wr => ∃ k : Nat, k ≤ l.length ∧ i = .int .i64 k ∧ l.take k = m.take k ∧ Below w2.heap.size w2 wr) (fun i _ => l.length - (intOf i).toNat)
  case atStart => exact ⟨0, by omega, rfl, rfl, Below.refl _ _⟩
  case round =>
    clear p0 p1 p2 p3 p4 q0 q1 q2 q3 q4
    obtain ⟨k, hk, rfl, heq, hb⟩ := hrel
    have p4 := (P0.out.later hb).c4
    have q4 := (P1.out.later hb).c4
    by_cases hlt : k < l.length
    · have dk : decide ((k : Int) < (l.length : Int)) = true := decide_eq_true (by omega)
      have hkl : k < l.length := hlt
      have hkm : k < m.length := by have := HL.out; omega
      obtain ⟨b1, off, rfl, hcc⟩ := HC.out.resolve_left (by intro h; rw [h] at hkl; simp at hkl)
      obtain ⟨b1', off', rfl, hcc'⟩ := HC'.out.resolve_left (by intro h; rw [h] at hkm; simp at hkm)
      have c0 := (hb.cell (World.block_lt_of_cell? w2 _ (hcc k hkl).1)).trans (hcc k hkl).1
      have c1 := (hb.cell (World.block_lt_of_cell? w2 _ (hcc k hkl).2)).trans (hcc k hkl).2
      have c2 := (hb.cell (World.block_lt_of_cell? w2 _ (hcc' k hkm).1)).trans (hcc' k hkm).1
      have c3 := (hb.cell (World.block_lt_of_cell? w2 _ (hcc' k hkm).2)).trans (hcc' k hkm).2
      have pl4 := Later.cell p4
      have ql4 := Later.cell q4
      have hnl : l.take (k + 1) = l.take k ++ [l[k]] := List.take_succ_eq_append_getElem hkl
      have hnm : m.take (k + 1) = m.take k ++ [m[k]] := List.take_succ_eq_append_getElem hkm
      have hne : l = m → l[k] = m[k] := fun h => by subst h; rfl
      obtain ⟨x, hx⟩ : ∃ x, l[k] = x := ⟨_, rfl⟩
      obtain ⟨y, hy⟩ : ∃ y, m[k] = y := ⟨_, rfl⟩
      rw [hx] at c0 c1 hnl hne
      rw [hy] at c2 c3 hnm hne
      obtain ⟨x0, hx0⟩ : ∃ x0, (x.1.toNat : Int) = x0 := ⟨_, rfl⟩
      obtain ⟨y0, hy0⟩ : ∃ y0, (y.1.toNat : Int) = y0 := ⟨_, rfl⟩
      rw [hx0] at c0
      rw [hy0] at c2
      have l0 := Later.cell c0
      have l1 := Later.cell c1
      have l2 := Later.cell c2
      have l3 := Later.cell c3
      have hst := bs_tl_eq x.2 y.2
      have HB := Lib.hid hb
      have HEQ := Lib.hid heq
      have HNL := Lib.hid hnl
      have HNM := Lib.hid hnm
      have HNE := Lib.hid hne
      have HX0 := Lib.hid hx0
      have HY0 := Lib.hid hy0
      clear hb hcc hcc' hx hy hnl hnm hne heq hx0 hy0 c0 c1 c2 c3
      by_cases h1 : x0 = y0
      · have d1 : (x0 == y0) = true := by simpa using h1
        have H1 := Lib.hid h1
        clear h1
        by_cases h2 : x.2 = y.2
        · have d2 : ((bs x.2).toList == (bs y.2).toList) = true := by rw [hst]; exact decide_eq_true h2
          have hxy : x = y := by
            have : x.1 = y.1 := UInt8.toNat_inj.1 (by have := HX0.out; have := HY0.out; have := H1.out; omega)
            exact Prod.ext this h2
          have HXY := Lib.hid hxy
          clear h2 hst hxy
          go_wp2_with fail
          refine wp_region_later (by kernel_rfl) (by kernel_rfl) ?_
          repeat (go_big_quiet_step (fail))
          refine wpQuiet_nil ?_
          rintro _ ⟨K, rfl⟩
          go_wp2
          exact ⟨⟨k + 1, by omega, by go_num, by rw [HNL.out, HNM.out, HEQ.out, HXY.out], Later.bel HB.out K⟩, by simp [intOf]; omega⟩
        · have d2 : ((bs x.2).toList == (bs y.2).toList) = false := by rw [hst]; exact decide_eq_false h2
          have hRf : R = false := by rw [HRR.out]; exact decide_eq_false (fun h => h2 (by rw [HNE.out h]))
          have RF := Lib.hid hRf
          clear h2 hst hRf
          go_wp2_with fail
          refine wp_region_later (by kernel_rfl) (by kernel_rfl) ?_
          repeat (go_big_quiet_step (fail))
          refine wpQuiet_nil ?_
          rintro _ ⟨K, rfl⟩
          go_wp2
          go_ret
          exact ⟨by rw [RF.out]; rfl, HB0.out.trans ((Later.bel HB.out K).mono HB0.out.size)⟩
      · have d1 : (x0 == y0) = false := by simpa using h1
        have hRf : R = false := by rw [HRR.out]; exact decide_eq_false (fun h => h1 (by rw [← HX0.out, ← HY0.out, HNE.out h]))
        have RF := Lib.hid hRf
        clear h1 hst hRf
        go_wp2_with fail
        refine wp_region_later (by kernel_rfl) (by kernel_rfl) ?_
        repeat (go_big_quiet_step (fail))
        refine wpQuiet_nil ?_
        rintro _ ⟨K, rfl⟩
        go_wp2
        go_ret
        exact ⟨by rw [RF.out]; rfl, HB0.out.trans ((Later.bel HB.out K).mono HB0.out.size)⟩
    · have dk : decide ((k : Int) < (l.length : Int)) = false := decide_eq_false (by omega)
      have hRt : R = true := by
        rw [HRR.out]; apply decide_eq_true
        have e1 : l.take k = l := List.take_of_length_le (by omega)
        have e2 : m.take k = m := List.take_of_length_le (by have := HL.out; omega)
        rw [← e1, heq, e2]
      have RT := Lib.hid hRt
      have HB := Lib.hid hb
      clear hRt heq hb
      go_wp2
      go_ret
      exact ⟨by rw [RT.out]; rfl, HB0.out.trans (HB.out.mono HB0.out.size)⟩
end Go.Proofs.Ytcbbocdmmehphaa
