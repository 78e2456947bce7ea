/- frame: the reference's Take, walked. -/
import Derived.Test.YtblmpndaofhmjaaF7
set_option linter.unusedVariables false
namespace Go.Proofs.Ytblmpndaofhmjaa
open Go.RowKit

theorem list14 (s : List UInt8) (h : 14 ≤ s.length) : ∃ a0 a1 a2 a3 a4 a5 b0 b1 b2 b3 b4 b5 c d t, s = a0 :: a1 :: a2 :: a3 :: a4 :: a5 :: b0 :: b1 :: b2 :: b3 :: b4 :: b5 :: c :: d :: t := by
  match s, h with
  | a0 :: a1 :: a2 :: a3 :: a4 :: a5 :: b0 :: b1 :: b2 :: b3 :: b4 :: b5 :: c :: d :: t, _ => exact ⟨a0, a1, a2, a3, a4, a5, b0, b1, b2, b3, b4, b5, c, d, t, rfl⟩
theorem res_frameR (tmps : Array Value) (W : World) (b : Nat) (A : Array Value) (h2 : tmps.getD 2 undef = .pointer (some ⟨b, 0, none⟩)) (hf : FB W b A) (hs : A.size = 17) :
    (results Try.f35 tmps).run Try.prog W = .ok (.tuple #[.agg A, tmps.getD 3 undef]) W := by
  have hi : (Try.prog.info? 51).map (·.size) = some A.size := by rw [hs]; kernel_rfl
  rw [results_cell_tmp (p := 2) (u := 3) (ty := 51) rfl, h2]
  simp [asAddr, run_loadVar_row W b 51 51 A (0, 0) _ hf Try.underlying51 rfl hi]
/-- A string's byte, as a number. -/
theorem bsAt (s : List UInt8) (j : Nat) (c : UInt8) (x : Int) (h : s[j]? = some c) (hx : (c.toNat : Int) = x) : ∀ h' : j < (bs s).size, (((bs s)[j]'h').toNat : Int) = x := fun h' => by
  obtain ⟨hj, hc⟩ := List.getElem?_eq_some_iff.1 h
  rw [bs_get s j h' hj, hc, hx]
theorem FB.drew {W : World} {b : Nat} {A : Array Value} (h : FB W b A) : FB W.drew b A := by unfold FB at *; exact h
set_option maxRecDepth 100000 in
set_option maxHeartbeats 8000000 in
theorem refTake_any (s : List UInt8) (w : World) (hl : s.length ≤ 100000) : Calls Try.prog 35 #[.string (bs s)] w fun en w' => en = .returned (.tuple #[.agg (tkF s).1, .int .i64 (tkF s).2]) ∧ Below w.heap.size w w' := by
  have hsz := bs_size s
  obtain ⟨R, hR⟩ : ∃ R, tkF s = R := ⟨_, rfl⟩
  have HR := Lib.hid hR
  rw [hR]; clear hR
  have HI : ∀ A : Array Value, A.size = 17 → (Try.prog.info? 51).map (·.size) = some A.size := fun A hA => by rw [hA]; kernel_rfl
  by_cases h15 : 1522 < s.length
  · have d15 : decide ((1522 : Int) < (s.length : Int)) = true := decide_eq_true (by omega)
    have hRR : R = (frZ, 5) := by rw [← HR.out]; exact tkF_long s h15
    have HRR := Lib.hid hRR
    clear hRR h15
    go_enter Try.func35, Try.ntmps35
    go_wp2_with fail
    refine bodyPost_ret (v := .tuple #[.agg frZ, .int .i64 5]) (res_frameR _ _ w.heap.size frZ rfl (FB.new w frZ) rfl) rfl ⟨by rw [HRR.out], (Below.refl _ _).alloc (Nat.le_refl _) _⟩
  have d15 : decide ((1522 : Int) < (s.length : Int)) = false := decide_eq_false (by omega)
  by_cases h14 : s.length < 14
  · have d14 : decide ((s.length : Int) < 14) = true := decide_eq_true (by omega)
    have hRR : R = (frZ, 3) := by rw [← HR.out]; exact tkF_short s h14
    have HRR := Lib.hid hRR
    clear hRR h15
    go_enter Try.func35, Try.ntmps35
    go_wp2_with fail
    refine bodyPost_ret (v := .tuple #[.agg frZ, .int .i64 3]) (res_frameR _ _ w.heap.size frZ rfl (FB.new w frZ) rfl) rfl ⟨by rw [HRR.out], (Below.refl _ _).alloc (Nat.le_refl _) _⟩
  have d14 : decide ((s.length : Int) < 14) = false := decide_eq_false (by omega)
  obtain ⟨a0, a1, a2, a3, a4, a5, b0, b1, b2, b3, b4, b5, c, d, t, hs⟩ := list14 s (by omega)
  obtain ⟨x0, ex0⟩ : ∃ x : Int, (a0.toNat : Int) = x := ⟨_, rfl⟩
  have gx0 := bsAt s 0 a0 x0 (by rw [hs]; rfl) ex0
  have Ex0 := Lib.hid ex0
  clear ex0
  obtain ⟨x1, ex1⟩ : ∃ x : Int, (a1.toNat : Int) = x := ⟨_, rfl⟩
  have gx1 := bsAt s 1 a1 x1 (by rw [hs]; rfl) ex1
  have Ex1 := Lib.hid ex1
  clear ex1
  obtain ⟨x2, ex2⟩ : ∃ x : Int, (a2.toNat : Int) = x := ⟨_, rfl⟩
  have gx2 := bsAt s 2 a2 x2 (by rw [hs]; rfl) ex2
  have Ex2 := Lib.hid ex2
  clear ex2
  obtain ⟨x3, ex3⟩ : ∃ x : Int, (a3.toNat : Int) = x := ⟨_, rfl⟩
  have gx3 := bsAt s 3 a3 x3 (by rw [hs]; rfl) ex3
  have Ex3 := Lib.hid ex3
  clear ex3
  obtain ⟨x4, ex4⟩ : ∃ x : Int, (a4.toNat : Int) = x := ⟨_, rfl⟩
  have gx4 := bsAt s 4 a4 x4 (by rw [hs]; rfl) ex4
  have Ex4 := Lib.hid ex4
  clear ex4
  obtain ⟨x5, ex5⟩ : ∃ x : Int, (a5.toNat : Int) = x := ⟨_, rfl⟩
  have gx5 := bsAt s 5 a5 x5 (by rw [hs]; rfl) ex5
  have Ex5 := Lib.hid ex5
  clear ex5
  obtain ⟨y0, ey0⟩ : ∃ x : Int, (b0.toNat : Int) = x := ⟨_, rfl⟩
  have gy0 := bsAt s 6 b0 y0 (by rw [hs]; rfl) ey0
  have Ey0 := Lib.hid ey0
  clear ey0
  obtain ⟨y1, ey1⟩ : ∃ x : Int, (b1.toNat : Int) = x := ⟨_, rfl⟩
  have gy1 := bsAt s 7 b1 y1 (by rw [hs]; rfl) ey1
  have Ey1 := Lib.hid ey1
  clear ey1
  obtain ⟨y2, ey2⟩ : ∃ x : Int, (b2.toNat : Int) = x := ⟨_, rfl⟩
  have gy2 := bsAt s 8 b2 y2 (by rw [hs]; rfl) ey2
  have Ey2 := Lib.hid ey2
  clear ey2
  obtain ⟨y3, ey3⟩ : ∃ x : Int, (b3.toNat : Int) = x := ⟨_, rfl⟩
  have gy3 := bsAt s 9 b3 y3 (by rw [hs]; rfl) ey3
  have Ey3 := Lib.hid ey3
  clear ey3
  obtain ⟨y4, ey4⟩ : ∃ x : Int, (b4.toNat : Int) = x := ⟨_, rfl⟩
  have gy4 := bsAt s 10 b4 y4 (by rw [hs]; rfl) ey4
  have Ey4 := Lib.hid ey4
  clear ey4
  obtain ⟨y5, ey5⟩ : ∃ x : Int, (b5.toNat : Int) = x := ⟨_, rfl⟩
  have gy5 := bsAt s 11 b5 y5 (by rw [hs]; rfl) ey5
  have Ey5 := Lib.hid ey5
  clear ey5
  obtain ⟨y, ey⟩ : ∃ x : Int, (c.toNat : Int) = x := ⟨_, rfl⟩
  have gy := bsAt s 12 c y (by rw [hs]; rfl) ey
  have Ey := Lib.hid ey
  clear ey
  obtain ⟨z, ez⟩ : ∃ x : Int, (d.toNat : Int) = x := ⟨_, rfl⟩
  have gz := bsAt s 13 d z (by rw [hs]; rfl) ez
  have Ez := Lib.hid ez
  clear ez
  have L14 : 14 ≤ s.length := by omega
  have HS := Lib.hid hs
  have H15 := Lib.hid h15
  clear hs h15 h14
  go_enter Try.func35, Try.ntmps35
  go_wp2_with fail
  refine wp_loop_rounds 7 ?_
  iterate 6 (rw [rounds_succ]; go_wp2_with fail)
  rw [rounds_succ]
  go_upto_region 11 with fail
  obtain ⟨w0, hw0⟩ : ∃ k, w.alloc (.cells frZ 51) = k := ⟨_, rfl⟩
  obtain ⟨A, hA⟩ : ∃ A, frC [a0, a1, a2, a3, a4, a5] [b0, b1, b2, b3, b4, b5] false 0 0 0 [] = A := ⟨_, rfl⟩
  have hA' : #[.int .u8 x0, .int .u8 x1, .int .u8 x2, .int .u8 x3, .int .u8 x4, .int .u8 x5, .int .u8 y0, .int .u8 y1, .int .u8 y2, .int .u8 y3, .int .u8 y4, .int .u8 y5, .bool false, .int .u8 0, .int .u16 0, .int .u16 0, .string { data := #[] }] = A := by
    rw [← hA, ← Ex0.out, ← Ex1.out, ← Ex2.out, ← Ex3.out, ← Ex4.out, ← Ex5.out, ← Ey0.out, ← Ey1.out, ← Ey2.out, ← Ey3.out, ← Ey4.out, ← Ey5.out]; rfl
  rw [hA']
  change Code.wp Try.prog _ _ _ ((w.alloc (.cells frZ 51)).alloc (.cells A 51))
  obtain ⟨W, hW⟩ : ∃ k, (w.alloc (.cells frZ 51)).alloc (.cells A 51) = k := ⟨_, rfl⟩
  have fz : FB W w.heap.size frZ := by rw [← hW]; exact (FB.new w frZ).alloc _
  have fa : FB W (w.heap.size + 1) A := by rw [← hW]; have := FB.new (w.alloc (.cells frZ 51)) A; simpa using this
  have hb : Below w.heap.size w W := by rw [← hW]; exact ((Below.refl _ _).alloc (Nat.le_refl _) _).alloc (by simp) _
  rw [hW]
  have HA := Lib.hid hA
  have FZ := Lib.hid fz
  have FA := Lib.hid fa
  have HB := Lib.hid hb
  have ON : Hid (A.all (·.oneCell') = true) := Lib.hid (by rw [← hA]; exact frC_one _ _ _ _ _ _ _)
  have yb : 0 ≤ y ∧ y < 256 := by have := Ey.out; have := c.toNat_lt; omega
  have zb : 0 ≤ z ∧ z < 256 := by have := Ez.out; have := d.toNat_lt; omega
  have YB := Lib.hid yb
  have ZB := Lib.hid zb
  have GY := Lib.hid gy
  have GZ := Lib.hid gz
  clear yb zb
  clear hW hw0 w0 hA hA' fz fa hb gx0 gx1 gx2 gx3 gx4 gx5 gy0 gy1 gy2 gy3 gy4 gy5
  obtain ⟨T, hT⟩ : ∃ b : Bool, decide (y = 129 ∧ z = 0) = b := ⟨_, rfl⟩
  have HTT := Lib.hid hT
  go_upto_region 12 with fail
  go_cut [39] (fun s39 wx => s39 = .bool T ∧ wx = W)
  case first =>
    by_cases hyy : y = 129
    · have dy : (y == 129) = true := by rw [beq_iff_eq]; exact hyy
      by_cases hzz : z = 0
      · have dz : (z == 0) = true := by rw [beq_iff_eq]; exact hzz
        have dT : T = true := by rw [← hT]; exact decide_eq_true ⟨hyy, hzz⟩
        have DT := Lib.hid dT
        clear hyy hzz dT hT
        go_wp2_with fail
        go_meet
        exact ⟨by rw [DT.out], rfl⟩
      · have dz : (z == 0) = false := by rw [beq_eq_false_iff_ne]; exact hzz
        have dT : T = false := by rw [← hT]; exact decide_eq_false (fun h => hzz h.2)
        have DT := Lib.hid dT
        clear hyy hzz dT hT
        go_wp2_with fail
        go_meet
        exact ⟨by rw [DT.out], rfl⟩
    · have dy : (y == 129) = false := by rw [beq_eq_false_iff_ne]; exact hyy
      have dT : T = false := by rw [← hT]; exact decide_eq_false (fun h => hyy h.1)
      have DT := Lib.hid dT
      clear hyy dT hT
      go_wp2_with fail
      go_meet
      exact ⟨by rw [DT.out], rfl⟩
  obtain ⟨rfl, hwc⟩ := hcut
  rw [hwc]
  clear hT hwc
  go_upto_if 39 with fail
  go_cut [6] (fun at6 wx => ∃ (k : Nat) (B : Array Value) (p q : Int) (t' : List UInt8), at6 = .int .i64 k ∧ (k = 12 ∨ k = 16) ∧ Hid (k + 2 ≤ s.length) ∧ Hid (∀ h' : k < (bs s).size, (((bs s)[k]'h').toNat : Int) = p) ∧ Hid (∀ h' : k + 1 < (bs s).size, (((bs s)[k + 1]'h').toNat : Int) = q) ∧ Hid ((0 ≤ p ∧ p < 256) ∧ (0 ≤ q ∧ q < 256)) ∧ Hid (s.drop (k + 2) = t') ∧ Hid (FB wx (w.heap.size + 1) B) ∧ Hid (FB wx w.heap.size frZ) ∧ Hid (Below w.heap.size w wx) ∧ Hid (B.size = 17) ∧ Hid (B[15]? = some (.int .u16 0)) ∧ Hid (B[16]? = some (.string { data := #[] })) ∧ Hid (B.all (·.oneCell') = true) ∧ Hid (R = ((B.setIfInBounds 15 (.int .u16 (p * 256 + q))).setIfInBounds 16 (.string (bs t')), 0)))
  case first =>
    cases T with
    | true =>
      have h3 : y = 129 ∧ z = 0 := of_decide_eq_true HTT.out
      have h33 : c.toNat = 129 ∧ d.toNat = 0 := by have := Ey.out; have := Ez.out; omega
      have H3 := Lib.hid h33
      clear h3 h33 gy gz
      by_cases h16 : s.length < 16
      · have d16 : decide ((s.length : Int) < 16) = true := decide_eq_true (by omega)
        have hRR : R = (frZ, 3) := by
          rw [← HR.out]; exact tkF_tag16 _ _ _ _ _ _ _ _ _ _ _ _ _ _ t s HS.out (by have := H15.out; omega) H3.out (by have := congrArg List.length HS.out; simp at this; omega)
        have HRR := Lib.hid hRR
        clear hRR h16
        have H16 : W.there w.heap.size 0 frZ.size := FZ.out.there (Nat.le_refl _)
        have HIZ := HI frZ rfl
        have hZ1 := frZ_one
        go_wp2_with ((with_reducible refine wpList_store_mid rfl 51 (.tmp 2) (.tmp 43) rfl w.heap.size 0 frZ ?hx ?hy H16 HIZ hZ1 ?_); (case hx => rfl); (case hy => rfl))
        refine bodyPost_ret (v := .tuple #[.agg frZ, .int .i64 3]) (res_frameR _ _ w.heap.size frZ rfl (FZ.out.store rfl hZ1) rfl) rfl ⟨by rw [HRR.out], below_cells (Nat.le_refl _) _ _ _ HB.out⟩
      have d16 : decide ((s.length : Int) < 16) = false := decide_eq_false (by omega)
      obtain ⟨p, r, t2, ht2⟩ : ∃ p r t2, t = p :: r :: t2 := by
        match t, HS.out with
        | [], h => exact absurd (congrArg List.length h) (by simp; omega)
        | [_], h => exact absurd (congrArg List.length h) (by simp; omega)
        | p :: r :: t2, _ => exact ⟨p, r, t2, rfl⟩
      rw [ht2] at HS
      have HS2 := HS
      obtain ⟨P, eP⟩ : ∃ x : Int, (p.toNat : Int) = x := ⟨_, rfl⟩
      obtain ⟨Q, eQ⟩ : ∃ x : Int, (r.toNat : Int) = x := ⟨_, rfl⟩
      have gP := bsAt s 14 p P (by rw [HS.out]; rfl) eP
      have gQ := bsAt s 15 r Q (by rw [HS.out]; rfl) eQ
      have pb : 0 ≤ P ∧ P < 256 := by have := p.toNat_lt; omega
      have qb : 0 ≤ Q ∧ Q < 256 := by have := r.toNat_lt; omega
      have EP := Lib.hid eP
      have EQ := Lib.hid eQ
      clear eP eQ
      have L16 : 16 ≤ s.length := by omega
      have wq : IntKind.u8.wrap (P.tdiv 16) = P / 16 := by rw [Int.tdiv_eq_ediv_of_nonneg pb.1]; exact IntWalk.u8_in _ (by omega)
      have wr : IntKind.u8.wrap ((P / 16).tmod 2) = P / 16 % 2 := by rw [Int.tmod_eq_emod_of_nonneg (by omega)]; exact IntWalk.u8_in _ (by omega)
      have wr2 : (P / 16).tmod 2 = P / 16 % 2 := Int.tmod_eq_emod_of_nonneg (by omega)
      have H16 : W.there w.heap.size 0 frZ.size := FZ.out.there (Nat.le_refl _)
      have HIZ := HI frZ rfl
      have hZ1 := frZ_one
      clear h16
      by_cases hf : P / 16 % 2 = 1
      · have df : (P / 16 % 2 == 1) = true := by rw [beq_iff_eq]; exact hf
        have hRR : R = (frZ, 4) := by
          rw [← HR.out]; exact tkF_tagF _ _ _ _ _ _ _ _ _ _ _ _ _ _ p r t2 s HS.out (by have := H15.out; omega) H3.out (by have := EP.out; omega)
        have HRR := Lib.hid hRR
        clear hRR hf
        go_wp2_with ((with_reducible refine wpList_store_mid rfl 51 (.tmp 2) (.tmp 49) rfl w.heap.size 0 frZ ?hx ?hy H16 HIZ hZ1 ?_); (case hx => rfl); (case hy => rfl))
        refine bodyPost_ret (v := .tuple #[.agg frZ, .int .i64 4]) (res_frameR _ _ w.heap.size frZ rfl (FZ.out.store rfl hZ1) rfl) rfl ⟨by rw [HRR.out], below_cells (Nat.le_refl _) _ _ _ HB.out⟩
      have df : (P / 16 % 2 == 1) = false := by rw [beq_eq_false_iff_ne]; exact hf
      have hfn : ¬ p.toNat / 16 % 2 = 1 := by have := EP.out; omega
      have HFN := Lib.hid hfn
      clear hfn hf
      by_cases h18 : s.length < 18
      · have d18 : decide ((s.length : Int) < 18) = true := decide_eq_true (by omega)
        have hRR : R = (frZ, 3) := by
          rw [← HR.out]; exact tkF_tag18 _ _ _ _ _ _ _ _ _ _ _ _ _ _ p r t2 s HS.out (by have := H15.out; omega) H3.out HFN.out (by have := congrArg List.length HS.out; simp at this; omega)
        have HRR := Lib.hid hRR
        clear hRR h18
        go_wp2_with ((with_reducible refine wpList_store_mid rfl 51 (.tmp 2) (.tmp 53) rfl w.heap.size 0 frZ ?hx ?hy H16 HIZ hZ1 ?_); (case hx => rfl); (case hy => rfl))
        refine bodyPost_ret (v := .tuple #[.agg frZ, .int .i64 3]) (res_frameR _ _ w.heap.size frZ rfl (FZ.out.store rfl hZ1) rfl) rfl ⟨by rw [HRR.out], below_cells (Nat.le_refl _) _ _ _ HB.out⟩
      have d18 : decide ((s.length : Int) < 18) = false := decide_eq_false (by omega)
      obtain ⟨u, v, t3, ht3⟩ : ∃ p r t3, t2 = p :: r :: t3 := by
        match t2, HS.out with
        | [], h => exact absurd (congrArg List.length h) (by simp; omega)
        | [_], h => exact absurd (congrArg List.length h) (by simp; omega)
        | p :: r :: t2, _ => exact ⟨p, r, t2, rfl⟩
      rw [ht3] at HS
      obtain ⟨U, eU⟩ : ∃ x : Int, (u.toNat : Int) = x := ⟨_, rfl⟩
      obtain ⟨V, eV⟩ : ∃ x : Int, (v.toNat : Int) = x := ⟨_, rfl⟩
      have gU := Lib.hid (bsAt s 16 u U (by rw [HS.out]; rfl) eU)
      have gV := Lib.hid (bsAt s 17 v V (by rw [HS.out]; rfl) eV)
      have ub : (0 ≤ U ∧ U < 256) ∧ (0 ≤ V ∧ V < 256) := by have := u.toNat_lt; have := v.toNat_lt; omega
      have UB := Lib.hid ub
      have EU := Lib.hid eU
      have EV := Lib.hid eV
      have L18 : 18 ≤ s.length := by omega
      clear eU eV ub
      have hRR : R = ((((( A.setIfInBounds 12 (.bool true)).setIfInBounds 13 (.int .u8 (P / 32))).setIfInBounds 14 (.int .u16 (P % 16 * 256 + Q))).setIfInBounds 15 (.int .u16 (U * 256 + V))).setIfInBounds 16 (.string (bs t3)), 0) := by
        rw [← HR.out, tkF_tagD _ _ _ _ _ _ _ _ _ _ _ _ _ _ p r u v t3 s HS.out (by have := H15.out; omega) H3.out HFN.out, ← HA.out, ← EP.out, ← EQ.out, ← EU.out, ← EV.out]; rfl
      have HRR := Lib.hid hRR
      have wd : IntKind.u8.wrap (P.tdiv 32) = P / 32 := by rw [Int.tdiv_eq_ediv_of_nonneg pb.1]; exact IntWalk.u8_in _ (by omega)
      have wm : IntKind.u8.wrap (P.tmod 16) = P % 16 := by rw [Int.tmod_eq_emod_of_nonneg pb.1]; exact IntWalk.u8_in _ (by omega)
      have wm2 : P.tmod 16 = P % 16 := Int.tmod_eq_emod_of_nonneg pb.1
      have wc : IntKind.u16.wrap (P % 16) = P % 16 := IntWalk.u16_in _ (by omega)
      have wx : IntKind.u16.wrap (P % 16 * 256) = P % 16 * 256 := IntWalk.u16_in _ (by omega)
      have wQ : IntKind.u16.wrap Q = Q := IntWalk.u16_in _ (by omega)
      have wS : IntKind.u16.wrap (P % 16 * 256 + Q) = P % 16 * 256 + Q := IntWalk.u16_in _ (by omega)
      have f12 := FA.out.free 12
      have f13 := FA.out.free 13
      have f14 := FA.out.free 14
      have c12 := FA.out.c 12 (.bool false) (by rw [← HA.out]; rfl)
      have c13 := FA.out.c 13 (.int .u8 0) (by rw [← HA.out]; rfl)
      have c14 := FA.out.c 14 (.int .u16 0) (by rw [← HA.out]; rfl)
      clear hRR h18 pb qb ht2 ht3
      go_wp2_with fail
      go_region
      all_goals go_wp2_with fail
      all_goals go_meet
      all_goals exact ⟨16, _, U, V, t3, rfl, Or.inr rfl, Lib.hid L18, gU, gV, UB, Lib.hid (by rw [HS.out]; rfl), Lib.hid (FB.drew (((FA.out.set 12 (.bool true)).set 13 (.int .u8 (P / 32))).set 14 (.int .u16 (P % 16 * 256 + Q)))), Lib.hid (FB.drew (((FZ.out.other (by omega) _).other (by omega) _).other (by omega) _)), Lib.hid ((below_set (below_set (below_set HB.out (by omega) _) (by omega) _) (by omega) _).drew), Lib.hid (by rw [← HA.out]; rfl), Lib.hid (by rw [← HA.out]; rfl), Lib.hid (by rw [← HA.out]; rfl), Lib.hid (all_setI _ _ (all_setI _ _ (all_setI _ _ ON.out _ _ rfl) _ _ rfl) _ _ rfl), HRR⟩
    | false =>
      have h3 : ¬ (y = 129 ∧ z = 0) := of_decide_eq_false HTT.out
      have h33 : ¬ (c.toNat = 129 ∧ d.toNat = 0) := by have := Ey.out; have := Ez.out; omega
      have hRR : R = ((A.setIfInBounds 15 (.int .u16 (y * 256 + z))).setIfInBounds 16 (.string (bs t)), 0) := by
        rw [← HR.out, tkF_plain _ _ _ _ _ _ _ _ _ _ _ _ _ _ t s HS.out (by have := H15.out; omega) h33, ← HA.out, ← Ey.out, ← Ez.out]; rfl
      have HRR := Lib.hid hRR
      clear hRR h3 h33 gy gz
      go_wp2_with fail
      go_meet
      exact ⟨12, A, y, z, t, rfl, Or.inl rfl, Lib.hid L14, GY, GZ, Lib.hid ⟨YB.out, ZB.out⟩, Lib.hid (by rw [HS.out]; rfl), FA, FZ, HB, Lib.hid (by rw [← HA.out]; rfl), Lib.hid (by rw [← HA.out]; rfl), Lib.hid (by rw [← HA.out]; rfl), ON, HRR⟩
  case rest =>
    obtain ⟨k, B, p, q, t', rfl, hk, KL, GP, GQ, PQ, HT, FBB, FBZ, HBB, SZ, C15, C16, ONB, HRR⟩ := hcut
    have gp := GP.out
    have gq := GQ.out
    obtain ⟨⟨p0, p1⟩, ⟨q0, q1⟩⟩ := PQ.out
    have w1 : IntKind.u16.wrap p = p := IntWalk.u16_in _ (by omega)
    have w2 : IntKind.u16.wrap (p * 256) = p * 256 := IntWalk.u16_in _ (by omega)
    have w3 : IntKind.u16.wrap q = q := IntWalk.u16_in _ (by omega)
    have w4_1 : IntKind.u16.wrap (p * 256 + q) = p * 256 + q := IntWalk.u16_in _ (by omega)
    have kl := KL.out
    have c15 := FBB.out.c 15 _ C15.out
    have f15 := FBB.out.free 15
    have HX : (bs s).extract (k + 2) s.length = bs t' := by rw [bs_drop _ _ _ (Nat.le_refl _), HT.out]
    clear PQ gy gz
    rcases hk with rfl | rfl
    all_goals go_wp2_with fail
    all_goals go_region
    all_goals go_upto_region 24 with fail
    all_goals
      have fb4 := FB.drew (FBB.out.set 15 (.int .u16 (p * 256 + q)))
      have fz4 := FB.drew (FBZ.out.other (t := w.heap.size + 1) (o := 15) (by omega) (.int .u16 (p * 256 + q)))
      have hb4 : Below w.heap.size w (wc.setCell ⟨w.heap.size + 1, 15, none⟩ (.int .u16 (p * 256 + q))).drew := (below_set HBB.out (by omega) _).drew
      obtain ⟨w4, hw4⟩ : ∃ k, (wc.setCell ⟨w.heap.size + 1, 15, none⟩ (.int .u16 (p * 256 + q))).drew = k := ⟨_, rfl⟩
      obtain ⟨B4, hB4⟩ : ∃ k, B.setIfInBounds 15 (.int .u16 (p * 256 + q)) = k := ⟨_, rfl⟩
      have on4 := all_setI B (·.oneCell') ONB.out 15 (.int .u16 (p * 256 + q)) rfl
      have c16' : B4[16]? = some (.string { data := #[] }) := by rw [← hB4, Array.getElem?_setIfInBounds_ne (by decide)]; exact C16.out
      have sz4 : B4.size = 17 := by rw [← hB4, Array.size_setIfInBounds]; exact SZ.out
      have hR4 := HRR.out
      rw [hB4] at fb4 on4 hR4
      rw [hw4] at fb4 fz4 hb4 ⊢
      have FB4 := Lib.hid fb4
      have FZ4 := Lib.hid fz4
      have HB4 := Lib.hid hb4
      have SZ4 := Lib.hid sz4
      have HR4 := Lib.hid hR4
      have ON4 := Lib.hid on4
      have c16 := fb4.c 16 _ c16'
      have f16 := fb4.free 16
      clear hw4 hB4 fb4 fz4 hb4 sz4 hR4 on4 c16' c15 f15 gp gq p0 p1 q0 q1 w1 w2 w3 w4_1
    all_goals go_upto_region 25 with fail
    all_goals
      have fb5 := FB4.out.set 16 (.string (bs t'))
      have fz5 := FZ4.out.other (t := w.heap.size + 1) (o := 16) (by omega) (.string (bs t'))
      have hb5 : Below w.heap.size w (w4.setCell ⟨w.heap.size + 1, 16, none⟩ (.string (bs t'))) := below_set HB4.out (by omega) _
      obtain ⟨w5, hw5⟩ : ∃ k, w4.setCell ⟨w.heap.size + 1, 16, none⟩ (.string (bs t')) = k := ⟨_, rfl⟩
      obtain ⟨B5, hB5⟩ : ∃ k, B4.setIfInBounds 16 (.string (bs t')) = k := ⟨_, rfl⟩
      have on5 := all_setI B4 (·.oneCell') ON4.out 16 (.string (bs t')) rfl
      have sz5 : B5.size = 17 := by rw [← hB5, Array.size_setIfInBounds]; exact SZ4.out
      have hR5 := HR4.out
      rw [hB5] at fb5 on5 hR5
      rw [hw5] at fb5 fz5 hb5 ⊢
      have HR5 := Lib.hid hR5
      have HIA := HI B5 sz5
      have HIL : (Try.prog.info? 51).map (·.size) = some B5.toList.length := by rw [Array.length_toList]; exact HIA
      have H17 : w5.there w.heap.size 0 B5.size := fz5.there (by rw [sz5]; exact Nat.le_refl _)
      have FZ5 := Lib.hid fz5
      have SZ5 := Lib.hid sz5
      have HB5 := Lib.hid hb5
      clear hw5 hB5 hR5 c16 f16 fz5 sz5 hb5
      go_wp2_with (first | ((with_reducible refine wpList_load_mid rfl 51 (.tmp 4) rfl (w.heap.size + 1) 0 ?hx B5.toList _ fb5.range Try.underlying51 ?hu HIL ?_); (case hx => rfl); (case hu => rfl)) | ((with_reducible refine wpList_store_mid rfl 51 (.tmp 2) (.tmp 86) rfl w.heap.size 0 B5 ?hx ?hy H17 HIA on5 ?_); (case hx => rfl); (case hy => rfl)))
      refine bodyPost_ret (v := .tuple #[.agg B5, .int .i64 0]) (res_frameR _ _ w.heap.size B5 rfl (FZ5.out.store (by rw [SZ5.out]; rfl) on5) SZ5.out) rfl ⟨by rw [HR5.out], below_cells (Nat.le_refl _) _ _ _ HB5.out⟩
end Go.Proofs.Ytblmpndaofhmjaa
