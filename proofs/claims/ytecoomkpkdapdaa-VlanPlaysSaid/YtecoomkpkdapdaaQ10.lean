/- ref07: the walk of Set. -/
import Derived.Test.YtecoomkpkdapdaaQ9
set_option linter.unusedVariables false
namespace Go.Proofs.Ytecoomkpkdapdaa
open Go.RowKit

set_option maxRecDepth 100000 in
set_option maxHeartbeats 16000000 in
theorem refSet_any (n : Int) (s : Value) (o : List Int) (V : List Vn) (k a b : Int) (w : World) (hV : Vs w s V) (hl : V.length ≤ 100) (ho : o.length = 8) (hn : 1 ≤ n ∧ n ≤ 8) (hk : 0 ≤ k ∧ k < 65536) (ha : 0 ≤ a ∧ a < 256) (hb : 0 ≤ b ∧ b < 256) : Calls Try.prog 64 #[.agg (RA n s o), .int .u16 k, .int .u8 a, .int .u8 b] w fun en w' => ∃ s', en = .returned (.tuple #[.agg (RA n s' o), .int .i64 (setErr n V k a b)]) ∧ Vs w' s' (setV n V k a b) ∧ Below w.heap.size w w' := by
  obtain ⟨A, hA⟩ : ∃ A, RA n s o = A := ⟨_, rfl⟩
  obtain ⟨Z, hZ⟩ : ∃ Z, rZ = Z := ⟨_, rfl⟩
  have hZ' : #[.int .i64 0, .slice none 0 0, .int .u16 0, .int .u16 0, .int .u16 0, .int .u16 0, .int .u16 0, .int .u16 0, .int .u16 0, .int .u16 0] = Z := hZ
  have HZS : Hid (Z.size = 10) := Lib.hid (by rw [← hZ]; rfl)
  have HAR := Lib.hid (RA_AR (n := n) (s := s) ho hV.one)
  rw [hA] at HAR
  have HA := Lib.hid hA
  rw [hA]
  have HI := Lib.hid HAR.out.i
  have HIL := Lib.hid HAR.out.il
  have OC := Lib.hid HAR.out.o
  have HV := Lib.hid hV
  clear hA hZ hV
  have a0 : Hid (A[0]? = some (.int .i64 n)) := Lib.hid (by rw [← HA.out]; rfl)
  have a1 : Hid (A[1]? = some s) := Lib.hid (by rw [← HA.out]; rfl)
  have FD : Hid (∀ w1, Below w.heap.size w w1 → Calls Try.prog 67 #[.agg A, .int .u16 k] w1 fun en w' => en = .returned (.int .i64 (vIdx V k)) ∧ Below w1.heap.size w1 w') := Lib.hid fun w1 hb => by
    rw [← HA.out]; exact find_any n s o V k w1 (HV.out.later vnC_len hb) hl
  have WO : Hid (∀ w1, Below w.heap.size w w1 → Calls Try.prog 90 #[.agg A, .int .u16 k] w1 fun en w' => ∃ s', en = .returned (.agg (RA n s' o)) ∧ VO w' w1.heap.size s' (vDel V k) ∧ Below w1.heap.size w1 w') := Lib.hid fun w1 hb => by
    rw [← HA.out]; exact without_any n s o V k w1 (HV.out.later vnC_len hb) hl ho
  have HSa : Hid (∀ (p : Nat) (w : World), p < 256 → Calls Try.prog 68 #[.int .u8 a, .int .u8 (p : Int)] w fun en w' => en = .returned (.bool (memB a p)) ∧ w' = w) := Lib.hid fun p w hp => has_any a p w ha hp
  have HSb : Hid (∀ (p : Nat) (w : World), p < 256 → Calls Try.prog 68 #[.int .u8 b, .int .u8 (p : Int)] w fun en w' => en = .returned (.bool (memB b p)) ∧ w' = w) := Lib.hid fun p w hp => has_any b p w hb hp
  obtain ⟨R, hR⟩ : ∃ R, setErr n V k a b = R := ⟨_, rfl⟩
  rw [hR]
  have HR := Lib.hid hR
  have BAD := Lib.hid (badP_iff n a b hn ha hb)
  clear hR
  by_cases hr : 1 ≤ k ∧ k ≤ 4094
  · have d1 : decide (k < 1) = false := decide_eq_false (by omega)
    have d2 : decide (4094 < k) = false := decide_eq_false (by omega)
    have HRR := Lib.hid hr
    clear hr
    go_enter Try.func64, Try.ntmps64
    go_upto_region 1 with fail
    have t0 := BX.new w A Z
    clear hZ'
    obtain ⟨w0, hw0⟩ : ∃ k, (w.alloc (.cells A 43)).alloc (.cells Z 43) = k := ⟨_, rfl⟩
    rw [hw0] at t0 ⊢
    have T := Lib.hid t0
    clear hw0 t0
    have TH := Lib.hid (T.out.th (n := A.size) (by rw [HZS.out, HAR.out.s]; exact Nat.le_refl _))
    have c0 := T.out.g.c 0 _ a0.out
    go_wp2_with fail
    go_loop [10] (fun i => ∃ p : Nat, p ≤ 8 ∧ i = .int .u8 p ∧ ∀ q, q < p → badP n a b q = false) (fun i => 8 - (intOf i).toNat)
    case atStart => exact ⟨0, by omega, rfl, fun q hq => absurd hq (Nat.not_lt_zero q)⟩
    case round =>
      obtain ⟨p, hp, rfl, hno⟩ := hrel
      by_cases hlt : p < 8
      · have dk : decide ((p : Int) < 8) = true := decide_eq_true (by omega)
        have hpi : (p : Int) < 8 := by omega
        have hwp : wrap64 (p : Int) = (p : Int) := by unfold wrap64; omega
        have Ca := Lib.hid (fun w => HSa.out p w (by omega))
        have Cb := Lib.hid (fun w => HSb.out p w (by omega))
        obtain ⟨m1, hm1⟩ : ∃ m, memB a p = m := ⟨_, rfl⟩
        obtain ⟨m2, hm2⟩ : ∃ m, memB b p = m := ⟨_, rfl⟩
        obtain ⟨m3, hm3⟩ : ∃ m, decide (n ≤ (p : Int)) = m := ⟨_, rfl⟩
        have HBP : Hid (badP n a b p = ((m1 && m3) || (m2 && !m1))) := Lib.hid (by unfold badP; rw [hm1, hm2, hm3])
        rw [hm1] at Ca
        rw [hm2] at Cb
        have HNO := Lib.hid hno
        have HGO : badP n a b p = false → Hid (∀ q, q < p + 1 → badP n a b q = false) := fun h => Lib.hid fun q hq => by
          rcases Nat.lt_succ_iff_lt_or_eq.1 hq with h2 | h2
          · exact HNO.out q h2
          · rw [h2]; exact h
        have HBAD : badP n a b p = true → Hid (R = 2 ∧ setV n V k a b = V) := fun h => by
          have h2 := BAD.out.1 ⟨p, hlt, h⟩
          have h3 : setErr n V k a b = 2 := by
            unfold setErr
            rw [if_neg (by have := HRR.out; omega)]
            rcases h2 with h2 | h2
            · rw [if_pos h2]
            · by_cases h4 : a / 2 ^ n.toNat ≠ 0
              · rw [if_pos h4]
              · rw [if_neg h4, if_pos h2]
          exact Lib.hid ⟨HR.out.symm.trans h3, by unfold setV; rw [h3]; rfl⟩
        clear hm1 hm2 hno
        go_upto_region 6 with fail
        go_cut [45] (fun s45 wx => s45 = .bool (badP n a b p) ∧ wx = w0)
        case first =>
          have HX := HBP.out
          obtain ⟨G, hG⟩ : ∃ G, badP n a b p = G := ⟨_, rfl⟩
          rw [hG] at HX
          have HG := Lib.hid hG
          clear hG HGO HBAD
          cases m1 <;> cases m2 <;> cases m3
          all_goals
            go_wp2_with (first
              | (go_at_call 68; with_reducible refine (Ca.out _).mono ?_; rintro e' w' ⟨rfl, rfl⟩)
              | (go_at_call 68; with_reducible refine (Cb.out _).mono ?_; rintro e' w' ⟨rfl, rfl⟩))
            go_meet
            exact ⟨by rw [HG.out, HX]; rfl, rfl⟩
        case rest =>
          obtain ⟨rfl, rfl⟩ := hcut
          cases hbp : badP n a b p
          · have HG := HGO hbp
            clear HGO HBAD
            go_wp2
            exact ⟨⟨p + 1, by omega, by go_num, HG.out⟩, by simp [intOf]; omega⟩
          · have HB := HBAD hbp
            clear HGO HBAD
            have HR2 := Lib.hid HB.out.1
            have HSV := Lib.hid HB.out.2
            go_upto_region 7 with fail
            clear c0
            go_wp2_with (first | ((with_reducible refine wpList_load_mid rfl 43 (.tmp 4) rfl w.heap.size 0 ?hx A.toList _ T.out.g.range Try.underlying43 ?hu HIL.out ?_); (case hx => rfl); (case hu => rfl)) | ((with_reducible refine wpList_store_mid rfl 43 (.tmp 8) (.tmp 46) rfl (w.heap.size + 1) 0 A ?hx ?hy TH.out HI.out OC.out ?_); (case hx => rfl); (case hy => rfl)))
            have T2 := T.out.store (A' := A) (by rw [HZS.out, HAR.out.s]) OC.out
            exact bodyPost_ret (v := .tuple #[.agg A, .int .i64 2]) (res_two (d := _) (p := 8) (u := 9) rfl rfl Try.underlying43 _ _ (w.heap.size + 1) _ rfl T2.z HI.out) rfl ⟨s, by rw [← HA.out, HR2.out], by rw [HSV.out]; exact HV.out.later vnC_len T2.bel, T2.bel⟩
      · obtain rfl : p = 8 := by omega
        have hok : ¬ (a / 2 ^ n.toNat ≠ 0 ∨ bits .andNot .u8 b a ≠ 0) := fun h => by
          obtain ⟨q, hq, h2⟩ := BAD.out.2 h
          rw [hno q hq] at h2; cases h2
        have h1k : 1 ≤ k ∧ k ≤ 4094 := HRR.out
        have HSE : Hid (setErr n V k a b = if (vFind V k).isSome = false ∧ 8 ≤ V.length then 6 else 0) := Lib.hid (by
          unfold setErr
          rw [if_neg (by omega), if_neg (fun h => hok (.inl h)), if_neg (fun h => hok (.inr h))])
        have hx := vIdx_neg V k
        obtain ⟨X, hX⟩ : ∃ X, vIdx V k = X := ⟨_, rfl⟩
        rw [hX] at hx FD
        obtain ⟨F, hF⟩ : ∃ F, (vFind V k).isSome = F := ⟨_, rfl⟩
        rw [hF] at hx HSE
        have HDX := Lib.hid hx
        clear hX hF hx hok hno h1k hp hlt BAD
        go_upto_region 8 with fail
        clear c0
        go_cut [56] (fun s56 wx => s56 = .bool (decide (F = false ∧ 8 ≤ V.length)) ∧ Hid (BX w wx A Z))
        case first =>
          have hdd : (F = true ∧ decide (X < 0) = false ∧ decide (F = false ∧ 8 ≤ V.length) = false) ∨ (decide (X < 0) = true ∧ decide ((8 : Int) ≤ (V.length : Int)) = decide (F = false ∧ 8 ≤ V.length)) := by
            rw [HDX.out]
            cases F
            · refine .inr ⟨rfl, ?_⟩
              rw [decide_eq_decide]
              constructor
              · intro h; exact ⟨rfl, by omega⟩
              · intro h; have := h.2; omega
            · exact .inl ⟨rfl, rfl, by simp⟩
          obtain ⟨G, hG⟩ : ∃ G, decide (F = false ∧ 8 ≤ V.length) = G := ⟨_, rfl⟩
          rw [hG] at hdd
          have HG := Lib.hid hG
          clear hG
          go_wp2_with ((with_reducible refine wpList_load_mid rfl 43 (.tmp 4) rfl w.heap.size 0 ?hx A.toList _ T.out.g.range Try.underlying43 ?hu HIL.out ?_); (case hx => rfl); (case hu => rfl))
          with_reducible refine (FD.out _ T.out.bel).mono ?_
          rintro en w1 ⟨rfl, hb1⟩
          have T := Lib.hid (T.out.later hb1)
          clear hb1
          obtain ⟨sa, sc, hse, _⟩ := (HV.out.later vnC_len T.out.bel).shape
          have c1 := T.out.g.c 1 _ a1.out
          rw [hse] at c1
          obtain ⟨N, hN⟩ : ∃ N, V.length = N := ⟨_, rfl⟩
          rw [hN] at c1 hdd
          rcases hdd with ⟨_, dX, dG⟩ | ⟨dX, dN⟩
          · go_wp2_with fail
            go_meet
            exact ⟨by rw [HG.out, dG], T⟩
          · go_wp2_with fail
            go_meet
            exact ⟨by rw [HG.out], T⟩
        case rest =>
        obtain ⟨rfl, T⟩ := hcut
        clear HDX
        by_cases hfull : F = false ∧ 8 ≤ V.length
        · have HR2 : Hid (R = 6) := Lib.hid (by rw [← HR.out, HSE.out, if_pos hfull])
          have HSV : Hid (setV n V k a b = V) := Lib.hid (by unfold setV; rw [HR.out, HR2.out]; rfl)
          have dF := decide_eq_true hfull
          rw [dF]
          clear hfull dF
          have TH := Lib.hid (T.out.th (n := A.size) (by rw [HZS.out, HAR.out.s]; exact Nat.le_refl _))
          go_upto_region 9 with fail
          go_wp2_with (first | ((with_reducible refine wpList_load_mid rfl 43 (.tmp 4) rfl w.heap.size 0 ?hx A.toList _ T.out.g.range Try.underlying43 ?hu HIL.out ?_); (case hx => rfl); (case hu => rfl)) | ((with_reducible refine wpList_store_mid rfl 43 (.tmp 8) (.tmp 57) rfl (w.heap.size + 1) 0 A ?hx ?hy TH.out HI.out OC.out ?_); (case hx => rfl); (case hy => rfl)))
          have T2 := T.out.store (A' := A) (by rw [HZS.out, HAR.out.s]) OC.out
          exact bodyPost_ret (v := .tuple #[.agg A, .int .i64 6]) (res_two (d := _) (p := 8) (u := 9) rfl rfl Try.underlying43 _ _ (w.heap.size + 1) _ rfl T2.z HI.out) rfl ⟨s, by rw [← HA.out, HR2.out], by rw [HSV.out]; exact HV.out.later vnC_len T2.bel, T2.bel⟩
        · have HR2 : Hid (R = 0) := Lib.hid (by rw [← HR.out, HSE.out, if_neg hfull])
          have HSV : Hid (setV n V k a b = vIns (k, a, b) (vDel V k)) := Lib.hid (by unfold setV; rw [HR.out, HR2.out]; rfl)
          have dF := decide_eq_false hfull
          rw [dF]
          clear hfull dF
          go_upto_region 10 with fail
          have HK0 := Lib.hid (show w.heap.size < wc.heap.size from T.out.g.lt)
          go_wp2_with ((with_reducible refine wpList_load_mid rfl 43 (.tmp 4) rfl w.heap.size 0 ?hx A.toList _ T.out.g.range Try.underlying43 ?hu HIL.out ?_); (case hx => rfl); (case hu => rfl))
          with_reducible refine (WO.out _ T.out.bel).mono ?_
          rintro en w2 ⟨s', rfl, hvo, hb2⟩
          have T := Lib.hid (T.out.later hb2)
          clear hb2
          obtain ⟨A', hA'⟩ : ∃ A', RA n s' o = A' := ⟨_, rfl⟩
          have HAR' := Lib.hid (RA_AR (n := n) (s := s') ho (Vs.one (hvo.rw vnC_len)))
          rw [hA'] at HAR' ⊢
          have b1 : Hid (A'[1]? = some s') := Lib.hid (by rw [← hA']; rfl)
          have HA' := Lib.hid hA'
          have HI' := Lib.hid HAR'.out.i
          have OC' := Lib.hid HAR'.out.o
          have TH := Lib.hid (T.out.g.there (n := A'.size) (by rw [HAR.out.s, HAR'.out.s]; exact Nat.le_refl _))
          have t4 : BX w (w2.setCells w.heap.size 0 A'.toList) A' Z := ⟨T.out.g.store (by rw [HAR.out.s, HAR'.out.s]) OC'.out, T.out.z.cellsOther (by omega) A'.toList 0 w2, below_cellsG (Nat.le_refl _) A'.toList 0 w2 T.out.bel⟩
          have hvs : Vs (w2.setCells w.heap.size 0 A'.toList) s' (vDel V k) := (hvo.only (Only.setCells w.heap.size A'.toList 0 w2) HK0.out).rw vnC_len
          have hdl : (vDel V k).length ≤ 100 := Nat.le_trans (List.length_filter_le _ _) hl
          clear hvo hA'
          go_upto_region 11 with ((with_reducible refine wpList_store_mid rfl 43 (.tmp 4) (.tmp 60) rfl w.heap.size 0 A' ?hx ?hy TH.out HI'.out OC'.out ?_); (case hx => rfl); (case hy => rfl))
          obtain ⟨w4, hw4⟩ : ∃ K, w2.setCells w.heap.size 0 A'.toList = K := ⟨_, rfl⟩
          rw [hw4] at t4 hvs ⊢
          have T := Lib.hid t4
          clear hw4 t4
          obtain ⟨D, hD⟩ : ∃ D, vDel V k = D := ⟨_, rfl⟩
          rw [hD] at hvs hdl HSV
          obtain ⟨ra, rc, rfl, hrc⟩ := hvs.shape
          have HRC := Lib.hid hrc
          have HDL := Lib.hid hdl
          clear hrc hvs hD hdl
          go_wp2_with fail
          go_loopw [11, 12, 13] (fun v d i wr => ∃ (j : Nat) (out : List Vn) (dn : Bool), j ≤ D.length ∧ i = .int .i64 j ∧ d = .bool dn ∧ VO wr w4.heap.size v out ∧ Below w4.heap.size w4 wr ∧ Hid (InsR (k, a, b) D j out dn)) (fun _ _ i _ => D.length - (intOf i).toNat)
          case atStart => exact ⟨0, [], false, by omega, rfl, rfl, Ow.none _ _, Below.refl _ _, Lib.hid (.inl ⟨rfl, by simp, rfl⟩)⟩
          case round =>
            obtain ⟨j, out, dn, hj, rfl, rfl, hown, hbw, HIN⟩ := hrel
            have TW := Lib.hid (T.out.later hbw)
            have c1 := TW.out.g.c 1 _ b1.out
            have hol : out.length ≤ 101 := Nat.le_trans HIN.out.len (by have := HDL.out; omega)
            have hws := hbw.size
            by_cases hlt : j < D.length
            · have dk : decide ((j : Int) < (D.length : Int)) = true := decide_eq_true (by omega)
              obtain ⟨bb, off, rfl, hcc⟩ := HRC.out.resolve_left (by intro h; rw [h] at hlt; simp at hlt)
              have hnx : D.take (j + 1) = D.take j ++ [D[j]] := List.take_succ_eq_append_getElem hlt
              have hc0 := hcc j hlt
              obtain ⟨x, hx⟩ : ∃ x, D[j] = x := ⟨_, rfl⟩
              rw [hx] at hc0 hnx
              obtain ⟨x1, x2, x3⟩ := x
              have r0 : w4.cell? ⟨bb, off + j * 3, none⟩ = some (.int .u16 x1) := hc0 0 (by decide)
              have r1 : w4.cell? ⟨bb, off + j * 3 + 1, none⟩ = some (.int .u8 x2) := hc0 1 (by decide)
              have r2 : w4.cell? ⟨bb, off + j * 3 + 2, none⟩ = some (.int .u8 x3) := hc0 2 (by decide)
              have R012 := Lib.hid (And.intro r0 (And.intro r1 r2))
              replace r0 := (hbw.cell (World.block_lt_of_cell? w4 _ r0)).trans r0
              replace r1 := (hbw.cell (World.block_lt_of_cell? w4 _ r1)).trans r1
              replace r2 := (hbw.cell (World.block_lt_of_cell? w4 _ r2)).trans r2
              have HO := Lib.hid hown
              have HW := Lib.hid hbw
              have HOL := Lib.hid hol
              have HWS := Lib.hid hws
              have HNX := Lib.hid hnx
              have HJ : (j : Int) < D.length := by omega
              have hjb : (j : Int) < 1000 := by have := HDL.out; omega
              clear hown hbw hol hws hnx hcc hc0 hx
              cases dn
              · by_cases hgt : k < x1
                · have dg : decide (k < x1) = true := decide_eq_true hgt
                  have HI2 := Lib.hid (HIN.out.now HNX.out hgt)
                  obtain ⟨N2, hN2⟩ : ∃ N2, D.length = N2 := ⟨_, rfl⟩
                  rw [hN2] at dk HJ hlt hj c1 ⊢
                  clear hgt HIN
                  go_wp2_with (first
                    | (at_builtin; refine wpList_append_rw vnC_len vnC_one 50 40 (.agg #[.int .u16 0, .int .u8 0, .int .u8 0]) 4 Try.underlying40 info_vn rfl (by decide) (by decide) rfl (.tmp 80) (.tmp 85) rfl w4.heap.size _ out rfl (HO.out.later ((Below.refl _ _).alloc (Nat.le_refl _) _)) _ [(k, a, b)] rfl (VO.lit _ 0 (k, a, b) (Nat.zero_le _)) (by have := HOL.out; simp; omega) (by have := HW.out.size; simp; omega) ?_; intro v_ w_ hown_ hb_; have HOX := Lib.hid hown_; have HBX := Lib.hid ((HW.out.alloc (by have := HW.out.size; omega) _).trans hb_); clear hown_ hb_; have cx := (T.out.later HBX.out).g.c 1 _ b1.out; rw [hN2] at cx; have rx0 := (HBX.out.cell (World.block_lt_of_cell? w4 _ R012.out.1)).trans R012.out.1; have rx1 := (HBX.out.cell (World.block_lt_of_cell? w4 _ R012.out.2.1)).trans R012.out.2.1; have rx2 := (HBX.out.cell (World.block_lt_of_cell? w4 _ R012.out.2.2)).trans R012.out.2.2)
                    | (at_builtin; refine wpList_append_rw vnC_len vnC_one 50 40 (.agg #[.int .u16 0, .int .u8 0, .int .u8 0]) 4 Try.underlying40 info_vn rfl (by decide) (by decide) rfl (.tmp 87) (.tmp 93) rfl w4.heap.size _ (out ++ [(k, a, b)]) rfl (HOX.out.later ((Below.refl _ _).alloc (Nat.le_refl _) _)) _ [(x1, x2, x3)] rfl (VO.lit _ 0 (x1, x2, x3) (Nat.zero_le _)) (by have := HOL.out; simp; omega) (by have := HBX.out.size; simp; omega) ?_; intro v_ w_ hown_ hb_; have HO1 := Lib.hid hown_; have HB1 := Lib.hid ((HBX.out.alloc (by have := HBX.out.size; omega) _).trans hb_); clear hown_ hb_))
                  exact ⟨⟨j + 1, _, _, by omega, by go_num, rfl, HO1.out, HB1.out, HI2⟩, by simp [intOf]; omega⟩
                · have dg : decide (k < x1) = false := decide_eq_false hgt
                  have HI2 := Lib.hid (HIN.out.go HNX.out hgt)
                  obtain ⟨N2, hN2⟩ : ∃ N2, D.length = N2 := ⟨_, rfl⟩
                  rw [hN2] at dk HJ hlt hj c1 ⊢
                  clear hgt HIN
                  go_wp2_with (at_builtin; refine wpList_append_rw vnC_len vnC_one 50 40 (.agg #[.int .u16 0, .int .u8 0, .int .u8 0]) 4 Try.underlying40 info_vn rfl (by decide) (by decide) rfl (.tmp 87) (.tmp 93) rfl w4.heap.size _ out rfl (HO.out.later ((Below.refl _ _).alloc (Nat.le_refl _) _)) _ [(x1, x2, x3)] rfl (VO.lit _ 0 (x1, x2, x3) (Nat.zero_le _)) (by have := HOL.out; simp; omega) (by have := HW.out.size; simp; omega) ?_; intro v_ w_ hown_ hb_; have HO1 := Lib.hid hown_; have HB1 := Lib.hid ((HW.out.alloc (by have := HW.out.size; omega) _).trans hb_); clear hown_ hb_)
                  exact ⟨⟨j + 1, _, _, by omega, by go_num, rfl, HO1.out, HB1.out, HI2⟩, by simp [intOf]; omega⟩
              · have HI2 := Lib.hid (HIN.out.old HNX.out)
                obtain ⟨N2, hN2⟩ : ∃ N2, D.length = N2 := ⟨_, rfl⟩
                rw [hN2] at dk HJ hlt hj c1 ⊢
                clear HIN
                go_wp2_with (at_builtin; refine wpList_append_rw vnC_len vnC_one 50 40 (.agg #[.int .u16 0, .int .u8 0, .int .u8 0]) 4 Try.underlying40 info_vn rfl (by decide) (by decide) rfl (.tmp 87) (.tmp 93) rfl w4.heap.size _ out rfl (HO.out.later ((Below.refl _ _).alloc (Nat.le_refl _) _)) _ [(x1, x2, x3)] rfl (VO.lit _ 0 (x1, x2, x3) (Nat.zero_le _)) (by have := HOL.out; simp; omega) (by have := HW.out.size; simp; omega) ?_; intro v_ w_ hown_ hb_; have HO1 := Lib.hid hown_; have HB1 := Lib.hid ((HW.out.alloc (by have := HW.out.size; omega) _).trans hb_); clear hown_ hb_)
                exact ⟨⟨j + 1, _, _, by omega, by go_num, rfl, HO1.out, HB1.out, HI2⟩, by simp [intOf]; omega⟩
            · obtain rfl : j = D.length := by omega
              have dk : decide ((D.length : Int) < (D.length : Int)) = false := decide_eq_false (by omega)
              have HFIN := Lib.hid HIN.out.fin
              have HO := Lib.hid hown
              have HW := Lib.hid hbw
              have HOL := Lib.hid hol
              have HDO : Hid (D.length = D.length) := Lib.hid rfl
              obtain ⟨N2, hN2⟩ : ∃ N2, D.length = N2 := ⟨_, rfl⟩
              rw [hN2] at dk c1 ⊢
              clear hown hbw hol hlt hj HIN
              cases dn
              · have HFIN : Hid (out ++ [(k, a, b)] = vIns (k, a, b) D) := Lib.hid HFIN.out
                go_upto_region 22 with (at_builtin; refine wpList_append_rw vnC_len vnC_one 50 40 (.agg #[.int .u16 0, .int .u8 0, .int .u8 0]) 4 Try.underlying40 info_vn rfl (by decide) (by decide) rfl (.tmp 97) (.tmp 102) rfl w4.heap.size _ out rfl (HO.out.later ((Below.refl _ _).alloc (Nat.le_refl _) _)) _ [(k, a, b)] rfl (VO.lit _ 0 (k, a, b) (Nat.zero_le _)) (by have := HOL.out; simp; omega) (by have := HW.out.size; simp; omega) ?_; intro v_ w_ hown_ hb_; have HOX := Lib.hid hown_; have HBX := Lib.hid ((HW.out.alloc (by have := HW.out.size; omega) _).trans hb_); clear hown_ hb_)
                clear c1
                obtain ⟨a', c', rfl, _⟩ := (HOX.out.rw vnC_len).shape
                obtain ⟨M, hM⟩ : ∃ M, (out ++ [(k, a, b)]).length = M := ⟨_, rfl⟩
                rw [hM] at HOX ⊢
                have h1 := (T.out.later HBX.out)
                have f1 := h1.g.fr 1
                have c1 := h1.g.c 1 _ b1.out
                have t5 := h1.set 1 (.slice a' M c')
                rw [← HA'.out, RA_put] at t5
                have HO2 := Lib.hid (HOX.out.only (Only.set w.heap.size w_ 1 (.slice a' M c')) (by have := T.out.g.lt; omega))
                obtain ⟨A5, hA5⟩ : ∃ A5, RA n (.slice a' M c') o = A5 := ⟨_, rfl⟩
                rw [hA5] at t5
                have HAR5 := Lib.hid (RA_AR (n := n) (s := .slice a' M c') ho rfl)
                rw [hA5] at HAR5
                have HA5 := Lib.hid hA5
                have HI5 := Lib.hid HAR5.out.i
                have HIL5 := Lib.hid HAR5.out.il
                have OC5 := Lib.hid HAR5.out.o
                clear hA5 h1
                go_upto_region 23 with fail
                obtain ⟨w5, hw5⟩ : ∃ K, w_.setCell ⟨w.heap.size, 1, none⟩ (.slice a' M c') = K := ⟨_, rfl⟩
                rw [hw5] at t5 HO2 ⊢
                have T5 := Lib.hid t5
                clear hw5 t5 f1 c1
                have TH := Lib.hid (T5.out.th (n := A5.size) (by rw [HZS.out, HAR5.out.s]; exact Nat.le_refl _))
                go_wp2_with (first | ((with_reducible refine wpList_load_mid rfl 43 (.tmp 4) rfl w.heap.size 0 ?hx A5.toList _ T5.out.g.range Try.underlying43 ?hu HIL5.out ?_); (case hx => rfl); (case hu => rfl)) | ((with_reducible refine wpList_store_mid rfl 43 (.tmp 8) (.tmp 106) rfl (w.heap.size + 1) 0 A5 ?hx ?hy TH.out HI5.out OC5.out ?_); (case hx => rfl); (case hy => rfl)))
                have T2 := T5.out.store (A' := A5) (by rw [HZS.out, HAR5.out.s]) OC5.out
                have hv2 := (HO2.out.only (Only.setCells (w.heap.size + 1) A5.toList 0 w5) (by have := T.out.z.lt; omega)).rw vnC_len
                exact bodyPost_ret (v := .tuple #[.agg A5, .int .i64 0]) (res_two (d := _) (p := 8) (u := 9) rfl rfl Try.underlying43 _ _ (w.heap.size + 1) _ rfl T2.z HI5.out) rfl ⟨.slice a' M c', by rw [HA5.out, HR2.out], by rw [HSV.out, ← HFIN.out]; exact hv2, T2.bel⟩
              · have HFIN : Hid (out = vIns (k, a, b) D) := Lib.hid HFIN.out
                go_upto_region 22 with fail
                clear c1
                obtain ⟨a', c', rfl, _⟩ := (HO.out.rw vnC_len).shape
                obtain ⟨M, hM⟩ : ∃ M, out.length = M := ⟨_, rfl⟩
                rw [hM] at HO ⊢
                have h1 := (T.out.later HW.out)
                have f1 := h1.g.fr 1
                have c1 := h1.g.c 1 _ b1.out
                have t5 := h1.set 1 (.slice a' M c')
                rw [← HA'.out, RA_put] at t5
                have HO2 := Lib.hid (HO.out.only (Only.set w.heap.size wr 1 (.slice a' M c')) (by have := T.out.g.lt; omega))
                obtain ⟨A5, hA5⟩ : ∃ A5, RA n (.slice a' M c') o = A5 := ⟨_, rfl⟩
                rw [hA5] at t5
                have HAR5 := Lib.hid (RA_AR (n := n) (s := .slice a' M c') ho rfl)
                rw [hA5] at HAR5
                have HA5 := Lib.hid hA5
                have HI5 := Lib.hid HAR5.out.i
                have HIL5 := Lib.hid HAR5.out.il
                have OC5 := Lib.hid HAR5.out.o
                clear hA5 h1
                go_upto_region 23 with fail
                obtain ⟨w5, hw5⟩ : ∃ K, wr.setCell ⟨w.heap.size, 1, none⟩ (.slice a' M c') = K := ⟨_, rfl⟩
                rw [hw5] at t5 HO2 ⊢
                have T5 := Lib.hid t5
                clear hw5 t5 f1 c1
                have TH := Lib.hid (T5.out.th (n := A5.size) (by rw [HZS.out, HAR5.out.s]; exact Nat.le_refl _))
                go_wp2_with (first | ((with_reducible refine wpList_load_mid rfl 43 (.tmp 4) rfl w.heap.size 0 ?hx A5.toList _ T5.out.g.range Try.underlying43 ?hu HIL5.out ?_); (case hx => rfl); (case hu => rfl)) | ((with_reducible refine wpList_store_mid rfl 43 (.tmp 8) (.tmp 106) rfl (w.heap.size + 1) 0 A5 ?hx ?hy TH.out HI5.out OC5.out ?_); (case hx => rfl); (case hy => rfl)))
                have T2 := T5.out.store (A' := A5) (by rw [HZS.out, HAR5.out.s]) OC5.out
                have hv2 := (HO2.out.only (Only.setCells (w.heap.size + 1) A5.toList 0 w5) (by have := T.out.z.lt; omega)).rw vnC_len
                exact bodyPost_ret (v := .tuple #[.agg A5, .int .i64 0]) (res_two (d := _) (p := 8) (u := 9) rfl rfl Try.underlying43 _ _ (w.heap.size + 1) _ rfl T2.z HI5.out) rfl ⟨.slice a' M c', by rw [HA5.out, HR2.out], by rw [HSV.out, ← HFIN.out]; exact hv2, T2.bel⟩
  · have HR2 : Hid (R = 2) := Lib.hid (by rw [← HR.out]; unfold setErr; rw [if_pos hr])
    have HSV : Hid (setV n V k a b = V) := Lib.hid (by unfold setV; rw [HR.out, HR2.out]; rfl)
    have hd : decide (k < 1) = true ∨ (decide (k < 1) = false ∧ decide (4094 < k) = true) := by
      by_cases h1 : k < 1
      · exact .inl (decide_eq_true h1)
      · exact .inr ⟨decide_eq_false h1, decide_eq_true (by omega)⟩
    clear hr
    rcases hd with d1 | ⟨d1, d2⟩
    all_goals
      go_enter Try.func64, Try.ntmps64
      go_upto_region 1 with fail
      have t0 := BX.new w A Z
      clear hZ'
      obtain ⟨w0, hw0⟩ : ∃ k, (w.alloc (.cells A 43)).alloc (.cells Z 43) = k := ⟨_, rfl⟩
      rw [hw0] at t0 ⊢
      have T := Lib.hid t0
      clear hw0 t0
      have TH := Lib.hid (T.out.th (n := A.size) (by rw [HZS.out, HAR.out.s]; exact Nat.le_refl _))
      go_wp2_with (first | ((with_reducible refine wpList_load_mid rfl 43 (.tmp 4) rfl w.heap.size 0 ?hx A.toList _ T.out.g.range Try.underlying43 ?hu HIL.out ?_); (case hx => rfl); (case hu => rfl)) | ((with_reducible refine wpList_store_mid rfl 43 (.tmp 8) (.tmp 20) rfl (w.heap.size + 1) 0 A ?hx ?hy TH.out HI.out OC.out ?_); (case hx => rfl); (case hy => rfl)))
      have T2 := T.out.store (A' := A) (by rw [HZS.out, HAR.out.s]) OC.out
      exact bodyPost_ret (v := .tuple #[.agg A, .int .i64 2]) (res_two (d := _) (p := 8) (u := 9) rfl rfl Try.underlying43 _ _ (w.heap.size + 1) _ rfl T2.z HI.out) rfl ⟨s, by rw [← HA.out, HR2.out], by rw [HSV.out]; exact HV.out.later vnC_len T2.bel, T2.bel⟩
end Go.Proofs.Ytecoomkpkdapdaa
