/- bpdu: the reference's Bytes. -/
import Derived.Test.YtecoomkpkdapdaaDoorH1
set_option linter.unusedVariables false
set_option linter.unusedSimpArgs false
namespace Go.Proofs.YtecoomkpkdapdaaDoor
open Go.RowKit

/-- The state: the word's block. -/
structure RB3 (w W : World) (b : Bp) : Prop where
  bb : BB 27 W w.heap.size b
  bel : Below w.heap.size w W
section
variable {w W W' : World} {b : Bp}
theorem RB3.later (h : RB3 w W b) (hb : Below W.heap.size W W') : RB3 w W' b := ⟨h.bb.later hb, h.bel.trans (hb.mono h.bel.size)⟩
theorem RB3.drew (h : RB3 w W b) : RB3 w W.drew b := h.later (Below.refl _ _).drew
theorem RB3.sat (h : RB3 w W b) : W.cell? ⟨w.heap.size, 0, none⟩ = some (.int .u64 b.rt) ∧ W.cell? ⟨w.heap.size, 1, none⟩ = some (.int .u32 b.co) ∧ W.cell? ⟨w.heap.size, 2, none⟩ = some (.int .u64 b.br) ∧ W.cell? ⟨w.heap.size, 3, none⟩ = some (.int .u8 b.po) ∧ W.cell? ⟨w.heap.size, 4, none⟩ = some (.int .u8 b.ho) ∧ W.cell? ⟨w.heap.size, 5, none⟩ = some (.int .u64 b.ve) ∧ W.cell? ⟨w.heap.size, 10, none⟩ = some (.int .u64 b.ec) :=
  ⟨h.bb.c0, h.bb.c1, h.bb.c2, h.bb.c3, h.bb.c4, h.bb.c5, h.bb.c10⟩
end
set_option maxRecDepth 100000 in
set_option maxHeartbeats 16000000 in
theorem refBytes05_any (b : Bp) (w : World) (hb : b.Ok) : Calls Tryd.prog 11 #[.agg #[.int .u64 b.rt, .int .u32 b.co, .int .u64 b.br, .int .u8 b.po, .int .u8 b.ho, .int .u64 b.ve, .int .u8 b.ro, .bool b.pr, .bool b.ag, .bool b.tp, .int .u64 b.ec]] w fun en w' => en = .returned (.string (bs (byB b))) ∧ Below w.heap.size w w' := by
  obtain ⟨R, hR⟩ : ∃ R, byB b = R := ⟨_, rfl⟩
  rw [hR]
  obtain ⟨F1, h1⟩ : ∃ n : Int, (if b.pr = true then (0 : Int) + 1 else 0) = n := ⟨_, rfl⟩
  obtain ⟨F2, h2⟩ : ∃ n : Int, (if b.ag = true then F1 + 2 else F1) = n := ⟨_, rfl⟩
  obtain ⟨F3, h3⟩ : ∃ n : Int, (if b.tp = true then F2 + 4 else F2) = n := ⟨_, rfl⟩
  have hf1 : 0 ≤ F1 ∧ F1 ≤ 1 := by rw [← h1]; split <;> omega
  have hf2 : 0 ≤ F2 ∧ F2 ≤ 3 := by rw [← h2]; split <;> omega
  have hf3 : 0 ≤ F3 ∧ F3 ≤ 7 := by rw [← h3]; split <;> omega
  have hfl : flB b = F3 := by rw [← h3, ← h2, ← h1]; unfold flB; cases b.pr <;> cases b.ag <;> cases b.tp <;> rfl
  have H1 := Lib.hid h1
  have H2 := Lib.hid h2
  have H3 := Lib.hid h3
  obtain ⟨Xr, hXr⟩ : ∃ X, be 1 b.ro = X := ⟨_, rfl⟩
  have lr : Xr.length = 1 := by rw [← hXr]; exact be_length _ _
  have Nr : Hid (∀ w, Calls Tryd.prog 19 #[.int .u64 b.ro, .int .i64 1] w fun e w' => e = .returned (.string (bs Xr)) ∧ Below w.heap.size w w') := Lib.hid fun w => by
    rw [← hXr]; exact num_be 1 b.ro w (by have := hb.ro; omega) (by have := hb.ro; omega) (by decide)
  obtain ⟨Xf, hXf⟩ : ∃ X, be 1 F3 = X := ⟨_, rfl⟩
  have lf : Xf.length = 1 := by rw [← hXf]; exact be_length _ _
  have Nf : Hid (∀ w, Calls Tryd.prog 19 #[.int .u64 F3, .int .i64 1] w fun e w' => e = .returned (.string (bs Xf)) ∧ Below w.heap.size w w') := Lib.hid fun w => by
    rw [← hXf]; exact num_be 1 F3 w (by omega) (by omega) (by decide)
  obtain ⟨Xa, hXa⟩ : ∃ X, be 8 b.rt = X := ⟨_, rfl⟩
  have la : Xa.length = 8 := by rw [← hXa]; exact be_length _ _
  have Na : Hid (∀ w, Calls Tryd.prog 19 #[.int .u64 b.rt, .int .i64 8] w fun e w' => e = .returned (.string (bs Xa)) ∧ Below w.heap.size w w') := Lib.hid fun w => by
    rw [← hXa]; exact num_be 8 b.rt w (by have := hb.rt; omega) (by have := hb.rt; omega) (by decide)
  obtain ⟨Xc, hXc⟩ : ∃ X, be 4 b.co = X := ⟨_, rfl⟩
  have lc : Xc.length = 4 := by rw [← hXc]; exact be_length _ _
  have Nc : Hid (∀ w, Calls Tryd.prog 19 #[.int .u64 b.co, .int .i64 4] w fun e w' => e = .returned (.string (bs Xc)) ∧ Below w.heap.size w w') := Lib.hid fun w => by
    rw [← hXc]; exact num_be 4 b.co w (by have := hb.co; omega) (by have := hb.co; omega) (by decide)
  obtain ⟨Xd, hXd⟩ : ∃ X, be 8 b.br = X := ⟨_, rfl⟩
  have ld : Xd.length = 8 := by rw [← hXd]; exact be_length _ _
  have Nd : Hid (∀ w, Calls Tryd.prog 19 #[.int .u64 b.br, .int .i64 8] w fun e w' => e = .returned (.string (bs Xd)) ∧ Below w.heap.size w w') := Lib.hid fun w => by
    rw [← hXd]; exact num_be 8 b.br w (by have := hb.br; omega) (by have := hb.br; omega) (by decide)
  obtain ⟨Xp, hXp⟩ : ∃ X, be 1 b.po = X := ⟨_, rfl⟩
  have lp : Xp.length = 1 := by rw [← hXp]; exact be_length _ _
  have Np : Hid (∀ w, Calls Tryd.prog 19 #[.int .u64 b.po, .int .i64 1] w fun e w' => e = .returned (.string (bs Xp)) ∧ Below w.heap.size w w') := Lib.hid fun w => by
    rw [← hXp]; exact num_be 1 b.po w (by have := hb.po; omega) (by have := hb.po; omega) (by decide)
  obtain ⟨Xh, hXh⟩ : ∃ X, be 1 b.ho = X := ⟨_, rfl⟩
  have lh : Xh.length = 1 := by rw [← hXh]; exact be_length _ _
  have Nh : Hid (∀ w, Calls Tryd.prog 19 #[.int .u64 b.ho, .int .i64 1] w fun e w' => e = .returned (.string (bs Xh)) ∧ Below w.heap.size w w') := Lib.hid fun w => by
    rw [← hXh]; exact num_be 1 b.ho w (by have := hb.ho; omega) (by have := hb.ho; omega) (by decide)
  obtain ⟨Xv, hXv⟩ : ∃ X, be 8 b.ve = X := ⟨_, rfl⟩
  have lv : Xv.length = 8 := by rw [← hXv]; exact be_length _ _
  have Nv : Hid (∀ w, Calls Tryd.prog 19 #[.int .u64 b.ve, .int .i64 8] w fun e w' => e = .returned (.string (bs Xv)) ∧ Below w.heap.size w w') := Lib.hid fun w => by
    rw [← hXv]; exact num_be 8 b.ve w (by have := hb.ve; omega) (by have := hb.ve; omega) (by decide)
  obtain ⟨Xe, hXe⟩ : ∃ X, be 8 b.ec = X := ⟨_, rfl⟩
  have le : Xe.length = 8 := by rw [← hXe]; exact be_length _ _
  have Ne : Hid (∀ w, Calls Tryd.prog 19 #[.int .u64 b.ec, .int .i64 8] w fun e w' => e = .returned (.string (bs Xe)) ∧ Below w.heap.size w w') := Lib.hid fun w => by
    rw [← hXe]; exact num_be 8 b.ec w (by have := hb.ec; omega) (by have := hb.ec; omega) (by decide)
  have HFIN : Hid (R = [67, 77] ++ Xr ++ Xf ++ Xa ++ Xc ++ Xd ++ Xp ++ Xh ++ Xv ++ Xe) := Lib.hid (by rw [← hR]; unfold byB; rw [hfl, hXr, hXf, hXa, hXc, hXd, hXp, hXh, hXv, hXe])
  have wro : IntKind.u64.wrap b.ro = b.ro := IntWalk.u64_in _ (by have := hb.ro; omega)
  have wco : IntKind.u64.wrap b.co = b.co := IntWalk.u64_in _ (by have := hb.co; omega)
  have wpo : IntKind.u64.wrap b.po = b.po := IntWalk.u64_in _ (by have := hb.po; omega)
  have who : IntKind.u64.wrap b.ho = b.ho := IntWalk.u64_in _ (by have := hb.ho; omega)
  have WW := Lib.hid (And.intro wro (And.intro wco (And.intro wpo who)))
  have a1 : IntKind.u64.wrap (F1 + 2) = F1 + 2 := IntWalk.u64_in _ (by omega)
  have a2 : IntKind.u64.wrap (F2 + 4) = F2 + 4 := IntWalk.u64_in _ (by omega)
  have AA := Lib.hid (And.intro a1 a2)
  obtain ⟨A, hA⟩ : ∃ A : Array Value, A = #[.int .u64 b.rt, .int .u32 b.co, .int .u64 b.br, .int .u8 b.po, .int .u8 b.ho, .int .u64 b.ve, .int .u8 b.ro, .bool b.pr, .bool b.ag, .bool b.tp, .int .u64 b.ec] := ⟨_, rfl⟩
  have HA := Lib.hid hA
  rw [← hA]
  clear hA hR h1 h2 h3 hf1 hf2 hf3 hfl hb wro wco wpo who a1 a2 hXr hXf hXa hXc hXd hXp hXh hXv hXe
  go_enter Tryd.func11, Tryd.ntmps11
  go_upto_region 1 with fail
  have bb : BB 27 (w.alloc (.cells A 27)) w.heap.size b := by rw [HA.out]; exact BB.new 27 w b
  have hbl : Below w.heap.size w (w.alloc (.cells A 27)) := (Below.refl _ _).alloc (Nat.le_refl _) _
  obtain ⟨w0, hw0⟩ : ∃ x, w.alloc (.cells A 27) = x := ⟨_, rfl⟩
  rw [hw0] at bb hbl ⊢
  have S0 : Hid (RB3 w w0 b) := Lib.hid ⟨bb, hbl⟩
  clear hw0 bb hbl
  have c_ := S0.out.bb.c7
  go_upto_if 6 with fail
  go_cut [3] (fun s3 wx => s3 = .int .u64 F1 ∧ Hid (RB3 w wx b))
  case first =>
    cases hx : b.pr with
    | true =>
      have hn : F1 = 0 + 1 := by rw [← H1.out, hx]; rfl
      rw [hx] at c_
      have HN := Lib.hid hn
      clear hn
      go_wp2_with fail
      go_meet
      exact ⟨by rw [HN.out]; rfl, S0⟩
    | false =>
      have hn : F1 = 0 := by rw [← H1.out, hx]; rfl
      rw [hx] at c_
      have HN := Lib.hid hn
      clear hn
      go_wp2_with fail
      go_meet
      exact ⟨by rw [HN.out], S0⟩
  case rest =>
    obtain ⟨rfl, S1⟩ := hcut
    clear c_ S0
    have c_ := S1.out.bb.c8
    go_upto_if 10 with fail
    go_cut [3] (fun s3 wx => s3 = .int .u64 F2 ∧ Hid (RB3 w wx b))
    case first =>
      cases hx : b.ag with
      | true =>
        have hn : F2 = F1 + 2 := by rw [← H2.out, hx]; rfl
        rw [hx] at c_
        have HN := Lib.hid hn
        have aw := AA.out.1
        clear hn
        go_wp2_with fail
        go_meet
        exact ⟨by rw [HN.out], S1⟩
      | false =>
        have hn : F2 = F1 := by rw [← H2.out, hx]; rfl
        rw [hx] at c_
        have HN := Lib.hid hn
        clear hn
        go_wp2_with fail
        go_meet
        exact ⟨by rw [HN.out], S1⟩
    case rest =>
      obtain ⟨rfl, S2⟩ := hcut
      clear c_ S1
      have c_ := S2.out.bb.c9
      go_upto_if 14 with fail
      go_cut [3] (fun s3 wx => s3 = .int .u64 F3 ∧ Hid (RB3 w wx b))
      case first =>
        cases hx : b.tp with
        | true =>
          have hn : F3 = F2 + 4 := by rw [← H3.out, hx]; rfl
          rw [hx] at c_
          have HN := Lib.hid hn
          have aw := AA.out.2
          clear hn
          go_wp2_with fail
          go_meet
          exact ⟨by rw [HN.out], S2⟩
        | false =>
          have hn : F3 = F2 := by rw [← H3.out, hx]; rfl
          rw [hx] at c_
          have HN := Lib.hid hn
          clear hn
          go_wp2_with fail
          go_meet
          exact ⟨by rw [HN.out], S2⟩
      case rest =>
        obtain ⟨rfl, S3⟩ := hcut
        clear c_ S2
        have c6 := S3.out.bb.c6
        obtain ⟨wro, wco, wpo, who⟩ := WW.out
        have ad1 := run_add_bs [67, 77] Xr (by rw [lr]; decide)
        obtain ⟨Y1, hY1⟩ : ∃ Y, [67, 77] ++ Xr = Y := ⟨_, rfl⟩
        have m1 : Y1.length = 3 := by rw [← hY1, List.length_append, lr]; rfl
        rw [hY1] at ad1 HFIN
        have ad1' : ∀ W : World, (Op.stringOp .add { data := #[67, 77] } (bs Xr)).run Tryd.prog W = .ok (.string (bs Y1)) W := ad1
        have ad2 := run_add_bs Y1 Xf (by rw [m1, lf]; decide)
        obtain ⟨L0, hL⟩ : ∃ L, Y1 ++ Xf = L := ⟨_, rfl⟩
        have n0 : L0.length = 4 := by rw [← hL, List.length_append, m1, lf]
        rw [hL] at ad2 HFIN
        clear ad1 hY1 hL m1
        go_wp2_with fail
        with_reducible refine (Nr.out _).mono ?_
        rintro en w1 ⟨rfl, hb1⟩
        have S4 := Lib.hid (S3.out.later hb1)
        clear hb1 S3 c6
        go_wp2_with fail
        with_reducible refine (Nf.out _).mono ?_
        rintro en w2 ⟨rfl, hb2⟩
        have S5 := Lib.hid (S4.out.later hb2)
        clear hb2 S4
        go_upto_region 9 with fail
        clear ad1' ad2 lr lf Nr Nf
        have ad1 := run_add_bs L0 Xa (by rw [n0, la]; decide)
        obtain ⟨Y0_0, hY⟩ : ∃ Y, L0 ++ Xa = Y := ⟨_, rfl⟩
        have m0_0 : Y0_0.length = 12 := by rw [← hY, List.length_append, n0, la]
        rw [hY] at ad1 HFIN
        clear hY
        have ad2 := run_add_bs Y0_0 Xc (by rw [m0_0, lc]; decide)
        obtain ⟨Y0_1, hY⟩ : ∃ Y, Y0_0 ++ Xc = Y := ⟨_, rfl⟩
        have m0_1 : Y0_1.length = 16 := by rw [← hY, List.length_append, m0_0, lc]
        rw [hY] at ad2 HFIN
        clear hY
        have ad3 := run_add_bs Y0_1 Xd (by rw [m0_1, ld]; decide)
        obtain ⟨L1, hY⟩ : ∃ Y, Y0_1 ++ Xd = Y := ⟨_, rfl⟩
        have n1 : L1.length = 24 := by rw [← hY, List.length_append, m0_1, ld]
        rw [hY] at ad3 HFIN
        clear hY
        go_cut [4] (fun sx wx => sx = .string (bs L1) ∧ Hid (RB3 w wx b))
        case first =>
          have SN := Lib.hid S5.out.drew
          refine wp_region_held_drew (S := fun W => W.cell? ⟨w.heap.size, 0, none⟩ = some (.int .u64 b.rt) ∧ W.cell? ⟨w.heap.size, 1, none⟩ = some (.int .u32 b.co) ∧ W.cell? ⟨w.heap.size, 2, none⟩ = some (.int .u64 b.br) ∧ W.cell? ⟨w.heap.size, 3, none⟩ = some (.int .u8 b.po) ∧ W.cell? ⟨w.heap.size, 4, none⟩ = some (.int .u8 b.ho) ∧ W.cell? ⟨w.heap.size, 5, none⟩ = some (.int .u64 b.ve) ∧ W.cell? ⟨w.heap.size, 10, none⟩ = some (.int .u64 b.ec)) (by kernel_rfl) SN.out.sat (fun hHeld => ?_)
          refine wpAnyH_take (i := 0) (v := ?_) rfl (by kernel_rfl) (by kernel_rfl) (by kernel_rfl) (fun _ _ _ h => h) (Or.inl ⟨by rfl, ?hy0⟩) (by assumption) ?_
          case hy0 => (intro w hSw; (try dsimp only at hSw); go_simp; try with_reducible rfl)
          try simp only [Act.put, List.setIfInBounds_toArray, List.set_cons_zero, List.set_cons_succ, List.getElem_toArray, List.getElem_cons_zero, List.getElem_cons_succ]
          refine wpAnyH_take (i := 1) (v := ?_) rfl (by kernel_rfl) (by kernel_rfl) (by kernel_rfl) (fun _ _ _ h => h) (Or.inl ⟨by rfl, ?hy1⟩) (by assumption) ?_
          case hy1 => (intro w hSw; (try dsimp only at hSw); go_simp; try with_reducible rfl)
          try simp only [Act.put, List.setIfInBounds_toArray, List.set_cons_zero, List.set_cons_succ, List.getElem_toArray, List.getElem_cons_zero, List.getElem_cons_succ]
          refine wpAnyH_take (i := 2) (v := ?_) rfl (by kernel_rfl) (by kernel_rfl) (by kernel_rfl) (fun _ _ _ h => h) (Or.inl ⟨by rfl, ?hy2⟩) (by assumption) ?_
          case hy2 => (intro w hSw; (try dsimp only at hSw); go_simp; try with_reducible rfl)
          try simp only [Act.put, List.setIfInBounds_toArray, List.set_cons_zero, List.set_cons_succ, List.getElem_toArray, List.getElem_cons_zero, List.getElem_cons_succ]
          refine wpAnyH_take (i := 3) (v := ?_) rfl (by kernel_rfl) (by kernel_rfl) (by kernel_rfl) (fun _ _ _ h => h) (Or.inl ⟨by rfl, ?hy3⟩) (by assumption) ?_
          case hy3 => (intro w hSw; (try dsimp only at hSw); go_simp; try with_reducible rfl)
          try simp only [Act.put, List.setIfInBounds_toArray, List.set_cons_zero, List.set_cons_succ, List.getElem_toArray, List.getElem_cons_zero, List.getElem_cons_succ]
          refine wpAnyH_take (i := 6) (v := ?_) rfl (by kernel_rfl) (by kernel_rfl) (by kernel_rfl) (fun _ _ _ h => h) (Or.inl ⟨by rfl, ?hy6⟩) (by assumption) ?_
          case hy6 => (intro w hSw; (try dsimp only at hSw); go_simp; try with_reducible rfl)
          try simp only [Act.put, List.setIfInBounds_toArray, List.set_cons_zero, List.set_cons_succ, List.getElem_toArray, List.getElem_cons_zero, List.getElem_cons_succ]
          refine wpAnyH_take (i := 7) (v := ?_) rfl (by kernel_rfl) (by kernel_rfl) (by kernel_rfl) (fun _ _ _ h => h) (Or.inl ⟨by rfl, ?hy7⟩) (by assumption) ?_
          case hy7 => (intro w hSw; (try dsimp only at hSw); go_simp; try with_reducible rfl)
          try simp only [Act.put, List.setIfInBounds_toArray, List.set_cons_zero, List.set_cons_succ, List.getElem_toArray, List.getElem_cons_zero, List.getElem_cons_succ]
          refine wpAnyH_take (i := 8) (v := ?_) rfl (by kernel_rfl) (by kernel_rfl) (by kernel_rfl) (fun _ _ _ h => h) (Or.inl ⟨by rfl, ?hy8⟩) (by assumption) ?_
          case hy8 => (intro w hSw; (try dsimp only at hSw); go_simp; try with_reducible rfl)
          try simp only [Act.put, List.setIfInBounds_toArray, List.set_cons_zero, List.set_cons_succ, List.getElem_toArray, List.getElem_cons_zero, List.getElem_cons_succ]
          refine wpAnyH_take (i := 9) (v := ?_) rfl (by kernel_rfl) (by kernel_rfl) (by kernel_rfl) (fun _ _ _ h => h) (Or.inl ⟨by rfl, ?hy9⟩) (by assumption) ?_
          case hy9 => (intro w hSw; (try dsimp only at hSw); go_simp; try with_reducible rfl)
          try simp only [Act.put, List.setIfInBounds_toArray, List.set_cons_zero, List.set_cons_succ, List.getElem_toArray, List.getElem_cons_zero, List.getElem_cons_succ]
          refine wpAnyH_take (i := 12) (v := ?_) rfl (by kernel_rfl) (by kernel_rfl) (by kernel_rfl) (fun _ _ _ h => h) (Or.inl ⟨by rfl, ?hy12⟩) (by assumption) ?_
          case hy12 => (intro w hSw; (try dsimp only at hSw); go_simp; try with_reducible rfl)
          try simp only [Act.put, List.setIfInBounds_toArray, List.set_cons_zero, List.set_cons_succ, List.getElem_toArray, List.getElem_cons_zero, List.getElem_cons_succ]
          refine wpAnyH_take (i := 13) (v := ?_) rfl (by kernel_rfl) (by kernel_rfl) (by kernel_rfl) (fun _ _ _ h => h) (Or.inl ⟨by rfl, ?hy13⟩) (by assumption) ?_
          case hy13 => (intro w hSw; (try dsimp only at hSw); go_simp; try with_reducible rfl)
          try simp only [Act.put, List.setIfInBounds_toArray, List.set_cons_zero, List.set_cons_succ, List.getElem_toArray, List.getElem_cons_zero, List.getElem_cons_succ]
          refine wpAnyH_take (i := 14) (v := ?_) rfl (by kernel_rfl) (by kernel_rfl) (by kernel_rfl) (fun _ _ _ h => h) (Or.inl ⟨by rfl, ?hy14⟩) (by assumption) ?_
          case hy14 => (intro w hSw; (try dsimp only at hSw); go_simp; try with_reducible rfl)
          try simp only [Act.put, List.setIfInBounds_toArray, List.set_cons_zero, List.set_cons_succ, List.getElem_toArray, List.getElem_cons_zero, List.getElem_cons_succ]
          refine wpAnyH_ready (rs := [4]) (by kernel_rfl) (by simp) (AllReadyH.cons rfl (fun K hK => ?_) AllReadyH.nil)
          (go_simp; go_at_call 19; (with_reducible refine (Na.out _).mono ?_); rintro en wx ⟨rfl, hb_⟩; have SN := Lib.hid (SN.out.later hb_); clear hb_; refine hK.out _ _ SN.out.sat (fun hHeld => ?_); clear hK K; try simp only [Act.put, List.setIfInBounds_toArray, List.set_cons_zero, List.set_cons_succ, List.getElem_toArray, List.getElem_cons_zero, List.getElem_cons_succ])
          refine wpAnyH_take (i := 5) (v := ?_) rfl (by kernel_rfl) (by kernel_rfl) (by kernel_rfl) (fun _ _ _ h => h) (Or.inl ⟨by rfl, ?hy5⟩) (by assumption) ?_
          case hy5 => (intro w hSw; (try dsimp only at hSw); go_simp; try with_reducible rfl)
          try simp only [Act.put, List.setIfInBounds_toArray, List.set_cons_zero, List.set_cons_succ, List.getElem_toArray, List.getElem_cons_zero, List.getElem_cons_succ]
          refine wpAnyH_ready (rs := [10]) (by kernel_rfl) (by simp) (AllReadyH.cons rfl (fun K hK => ?_) AllReadyH.nil)
          (go_simp; go_at_call 19; (with_reducible refine (Nc.out _).mono ?_); rintro en wx ⟨rfl, hb_⟩; have SN := Lib.hid (SN.out.later hb_); clear hb_; refine hK.out _ _ SN.out.sat (fun hHeld => ?_); clear hK K; try simp only [Act.put, List.setIfInBounds_toArray, List.set_cons_zero, List.set_cons_succ, List.getElem_toArray, List.getElem_cons_zero, List.getElem_cons_succ])
          refine wpAnyH_take (i := 11) (v := ?_) rfl (by kernel_rfl) (by kernel_rfl) (by kernel_rfl) (fun _ _ _ h => h) (Or.inl ⟨by rfl, ?hy11⟩) (by assumption) ?_
          case hy11 => (intro w hSw; (try dsimp only at hSw); go_simp; try with_reducible rfl)
          try simp only [Act.put, List.setIfInBounds_toArray, List.set_cons_zero, List.set_cons_succ, List.getElem_toArray, List.getElem_cons_zero, List.getElem_cons_succ]
          refine wpAnyH_ready (rs := [15]) (by kernel_rfl) (by simp) (AllReadyH.cons rfl (fun K hK => ?_) AllReadyH.nil)
          (go_simp; go_at_call 19; (with_reducible refine (Nd.out _).mono ?_); rintro en wx ⟨rfl, hb_⟩; have SN := Lib.hid (SN.out.later hb_); clear hb_; refine hK.out _ _ SN.out.sat (fun hHeld => ?_); clear hK K; try simp only [Act.put, List.setIfInBounds_toArray, List.set_cons_zero, List.set_cons_succ, List.getElem_toArray, List.getElem_cons_zero, List.getElem_cons_succ])
          refine wpAnyH_take (i := 16) (v := ?_) rfl (by kernel_rfl) (by kernel_rfl) (by kernel_rfl) (fun _ _ _ h => h) (Or.inl ⟨by rfl, ?hy16⟩) (by assumption) ?_
          case hy16 => (intro w hSw; (try dsimp only at hSw); go_simp; try with_reducible rfl)
          try simp only [Act.put, List.setIfInBounds_toArray, List.set_cons_zero, List.set_cons_succ, List.getElem_toArray, List.getElem_cons_zero, List.getElem_cons_succ]
          refine wpAnyH_take (i := 17) (v := ?_) rfl (by kernel_rfl) (by kernel_rfl) (by kernel_rfl) (fun _ _ _ h => h) (Or.inl ⟨by rfl, ?hy17⟩) (by assumption) ?_
          case hy17 => (intro w hSw; (try dsimp only at hSw); go_simp; try with_reducible rfl)
          try simp only [Act.put, List.setIfInBounds_toArray, List.set_cons_zero, List.set_cons_succ, List.getElem_toArray, List.getElem_cons_zero, List.getElem_cons_succ]
          refine wpAnyH_done (by kernel_rfl) ?_ _
          go_wp2_with fail
          go_meet
          exact ⟨rfl, SN⟩
        case rest =>
          obtain ⟨rfl, S6⟩ := hcut
          clear ad1 ad2 ad3 Na Nc Nd S5
          go_upto_region 10 with fail
          have ad1 := run_add_bs L1 Xp (by rw [n1, lp]; decide)
          obtain ⟨Y1_0, hY⟩ : ∃ Y, L1 ++ Xp = Y := ⟨_, rfl⟩
          have m1_0 : Y1_0.length = 25 := by rw [← hY, List.length_append, n1, lp]
          rw [hY] at ad1 HFIN
          clear hY
          have ad2 := run_add_bs Y1_0 Xh (by rw [m1_0, lh]; decide)
          obtain ⟨L2, hY⟩ : ∃ Y, Y1_0 ++ Xh = Y := ⟨_, rfl⟩
          have n2 : L2.length = 26 := by rw [← hY, List.length_append, m1_0, lh]
          rw [hY] at ad2 HFIN
          clear hY
          go_cut [4] (fun sx wx => sx = .string (bs L2) ∧ Hid (RB3 w wx b))
          case first =>
            have SN := Lib.hid S6.out.drew
            refine wp_region_held_drew (S := fun W => W.cell? ⟨w.heap.size, 0, none⟩ = some (.int .u64 b.rt) ∧ W.cell? ⟨w.heap.size, 1, none⟩ = some (.int .u32 b.co) ∧ W.cell? ⟨w.heap.size, 2, none⟩ = some (.int .u64 b.br) ∧ W.cell? ⟨w.heap.size, 3, none⟩ = some (.int .u8 b.po) ∧ W.cell? ⟨w.heap.size, 4, none⟩ = some (.int .u8 b.ho) ∧ W.cell? ⟨w.heap.size, 5, none⟩ = some (.int .u64 b.ve) ∧ W.cell? ⟨w.heap.size, 10, none⟩ = some (.int .u64 b.ec)) (by kernel_rfl) SN.out.sat (fun hHeld => ?_)
            refine wpAnyH_take (i := 0) (v := ?_) rfl (by kernel_rfl) (by kernel_rfl) (by kernel_rfl) (fun _ _ _ h => h) (Or.inl ⟨by rfl, ?hy0⟩) (by assumption) ?_
            case hy0 => (intro w hSw; (try dsimp only at hSw); go_simp; try with_reducible rfl)
            try simp only [Act.put, List.setIfInBounds_toArray, List.set_cons_zero, List.set_cons_succ, List.getElem_toArray, List.getElem_cons_zero, List.getElem_cons_succ]
            refine wpAnyH_take (i := 1) (v := ?_) rfl (by kernel_rfl) (by kernel_rfl) (by kernel_rfl) (fun _ _ _ h => h) (Or.inl ⟨by rfl, ?hy1⟩) (by assumption) ?_
            case hy1 => (intro w hSw; (try dsimp only at hSw); go_simp; try with_reducible rfl)
            try simp only [Act.put, List.setIfInBounds_toArray, List.set_cons_zero, List.set_cons_succ, List.getElem_toArray, List.getElem_cons_zero, List.getElem_cons_succ]
            refine wpAnyH_take (i := 2) (v := ?_) rfl (by kernel_rfl) (by kernel_rfl) (by kernel_rfl) (fun _ _ _ h => h) (Or.inl ⟨by rfl, ?hy2⟩) (by assumption) ?_
            case hy2 => (intro w hSw; (try dsimp only at hSw); go_simp; try with_reducible rfl)
            try simp only [Act.put, List.setIfInBounds_toArray, List.set_cons_zero, List.set_cons_succ, List.getElem_toArray, List.getElem_cons_zero, List.getElem_cons_succ]
            refine wpAnyH_take (i := 3) (v := ?_) rfl (by kernel_rfl) (by kernel_rfl) (by kernel_rfl) (fun _ _ _ h => h) (Or.inl ⟨by rfl, ?hy3⟩) (by assumption) ?_
            case hy3 => (intro w hSw; (try dsimp only at hSw); go_simp; try with_reducible rfl)
            try simp only [Act.put, List.setIfInBounds_toArray, List.set_cons_zero, List.set_cons_succ, List.getElem_toArray, List.getElem_cons_zero, List.getElem_cons_succ]
            refine wpAnyH_take (i := 4) (v := ?_) rfl (by kernel_rfl) (by kernel_rfl) (by kernel_rfl) (fun _ _ _ h => h) (Or.inl ⟨by rfl, ?hy4⟩) (by assumption) ?_
            case hy4 => (intro w hSw; (try dsimp only at hSw); go_simp; try with_reducible rfl)
            try simp only [Act.put, List.setIfInBounds_toArray, List.set_cons_zero, List.set_cons_succ, List.getElem_toArray, List.getElem_cons_zero, List.getElem_cons_succ]
            refine wpAnyH_take (i := 7) (v := ?_) rfl (by kernel_rfl) (by kernel_rfl) (by kernel_rfl) (fun _ _ _ h => h) (Or.inl ⟨by rfl, ?hy7⟩) (by assumption) ?_
            case hy7 => (intro w hSw; (try dsimp only at hSw); go_simp; try with_reducible rfl)
            try simp only [Act.put, List.setIfInBounds_toArray, List.set_cons_zero, List.set_cons_succ, List.getElem_toArray, List.getElem_cons_zero, List.getElem_cons_succ]
            refine wpAnyH_take (i := 8) (v := ?_) rfl (by kernel_rfl) (by kernel_rfl) (by kernel_rfl) (fun _ _ _ h => h) (Or.inl ⟨by rfl, ?hy8⟩) (by assumption) ?_
            case hy8 => (intro w hSw; (try dsimp only at hSw); go_simp; try with_reducible rfl)
            try simp only [Act.put, List.setIfInBounds_toArray, List.set_cons_zero, List.set_cons_succ, List.getElem_toArray, List.getElem_cons_zero, List.getElem_cons_succ]
            refine wpAnyH_take (i := 9) (v := ?_) rfl (by kernel_rfl) (by kernel_rfl) (by kernel_rfl) (fun _ _ _ h => h) (Or.inl ⟨by rfl, ?hy9⟩) (by assumption) ?_
            case hy9 => (intro w hSw; (try dsimp only at hSw); go_simp; try with_reducible rfl)
            try simp only [Act.put, List.setIfInBounds_toArray, List.set_cons_zero, List.set_cons_succ, List.getElem_toArray, List.getElem_cons_zero, List.getElem_cons_succ]
            refine wpAnyH_ready (rs := [5]) (by kernel_rfl) (by simp) (AllReadyH.cons rfl (fun K hK => ?_) AllReadyH.nil)
            (go_simp; go_at_call 19; (with_reducible refine (Np.out _).mono ?_); rintro en wx ⟨rfl, hb_⟩; have SN := Lib.hid (SN.out.later hb_); clear hb_; refine hK.out _ _ SN.out.sat (fun hHeld => ?_); clear hK K; try simp only [Act.put, List.setIfInBounds_toArray, List.set_cons_zero, List.set_cons_succ, List.getElem_toArray, List.getElem_cons_zero, List.getElem_cons_succ])
            refine wpAnyH_take (i := 6) (v := ?_) rfl (by kernel_rfl) (by kernel_rfl) (by kernel_rfl) (fun _ _ _ h => h) (Or.inl ⟨by rfl, ?hy6⟩) (by assumption) ?_
            case hy6 => (intro w hSw; (try dsimp only at hSw); go_simp; try with_reducible rfl)
            try simp only [Act.put, List.setIfInBounds_toArray, List.set_cons_zero, List.set_cons_succ, List.getElem_toArray, List.getElem_cons_zero, List.getElem_cons_succ]
            refine wpAnyH_ready (rs := [10]) (by kernel_rfl) (by simp) (AllReadyH.cons rfl (fun K hK => ?_) AllReadyH.nil)
            (go_simp; go_at_call 19; (with_reducible refine (Nh.out _).mono ?_); rintro en wx ⟨rfl, hb_⟩; have SN := Lib.hid (SN.out.later hb_); clear hb_; refine hK.out _ _ SN.out.sat (fun hHeld => ?_); clear hK K; try simp only [Act.put, List.setIfInBounds_toArray, List.set_cons_zero, List.set_cons_succ, List.getElem_toArray, List.getElem_cons_zero, List.getElem_cons_succ])
            refine wpAnyH_take (i := 11) (v := ?_) rfl (by kernel_rfl) (by kernel_rfl) (by kernel_rfl) (fun _ _ _ h => h) (Or.inl ⟨by rfl, ?hy11⟩) (by assumption) ?_
            case hy11 => (intro w hSw; (try dsimp only at hSw); go_simp; try with_reducible rfl)
            try simp only [Act.put, List.setIfInBounds_toArray, List.set_cons_zero, List.set_cons_succ, List.getElem_toArray, List.getElem_cons_zero, List.getElem_cons_succ]
            refine wpAnyH_take (i := 12) (v := ?_) rfl (by kernel_rfl) (by kernel_rfl) (by kernel_rfl) (fun _ _ _ h => h) (Or.inl ⟨by rfl, ?hy12⟩) (by assumption) ?_
            case hy12 => (intro w hSw; (try dsimp only at hSw); go_simp; try with_reducible rfl)
            try simp only [Act.put, List.setIfInBounds_toArray, List.set_cons_zero, List.set_cons_succ, List.getElem_toArray, List.getElem_cons_zero, List.getElem_cons_succ]
            refine wpAnyH_done (by kernel_rfl) ?_ _
            go_wp2_with fail
            go_meet
            exact ⟨rfl, SN⟩
          case rest =>
            obtain ⟨rfl, S7⟩ := hcut
            clear ad1 ad2 Np Nh S6
            go_upto_region 11 with fail
            have ad1 := run_add_bs L2 Xv (by rw [n2, lv]; decide)
            obtain ⟨Y2_0, hY⟩ : ∃ Y, L2 ++ Xv = Y := ⟨_, rfl⟩
            have m2_0 : Y2_0.length = 34 := by rw [← hY, List.length_append, n2, lv]
            rw [hY] at ad1 HFIN
            clear hY
            have ad2 := run_add_bs Y2_0 Xe (by rw [m2_0, le]; decide)
            obtain ⟨L3, hY⟩ : ∃ Y, Y2_0 ++ Xe = Y := ⟨_, rfl⟩
            have n3 : L3.length = 42 := by rw [← hY, List.length_append, m2_0, le]
            rw [hY] at ad2 HFIN
            clear hY
            go_cut [2] (fun sx wx => sx = .string (bs L3) ∧ Hid (RB3 w wx b))
            case first =>
              have SN := Lib.hid S7.out.drew
              refine wp_region_held_drew (S := fun W => W.cell? ⟨w.heap.size, 0, none⟩ = some (.int .u64 b.rt) ∧ W.cell? ⟨w.heap.size, 1, none⟩ = some (.int .u32 b.co) ∧ W.cell? ⟨w.heap.size, 2, none⟩ = some (.int .u64 b.br) ∧ W.cell? ⟨w.heap.size, 3, none⟩ = some (.int .u8 b.po) ∧ W.cell? ⟨w.heap.size, 4, none⟩ = some (.int .u8 b.ho) ∧ W.cell? ⟨w.heap.size, 5, none⟩ = some (.int .u64 b.ve) ∧ W.cell? ⟨w.heap.size, 10, none⟩ = some (.int .u64 b.ec)) (by kernel_rfl) SN.out.sat (fun hHeld => ?_)
              refine wpAnyH_take (i := 0) (v := ?_) rfl (by kernel_rfl) (by kernel_rfl) (by kernel_rfl) (fun _ _ _ h => h) (Or.inl ⟨by rfl, ?hy0⟩) (by assumption) ?_
              case hy0 => (intro w hSw; (try dsimp only at hSw); go_simp; try with_reducible rfl)
              try simp only [Act.put, List.setIfInBounds_toArray, List.set_cons_zero, List.set_cons_succ, List.getElem_toArray, List.getElem_cons_zero, List.getElem_cons_succ]
              refine wpAnyH_take (i := 1) (v := ?_) rfl (by kernel_rfl) (by kernel_rfl) (by kernel_rfl) (fun _ _ _ h => h) (Or.inl ⟨by rfl, ?hy1⟩) (by assumption) ?_
              case hy1 => (intro w hSw; (try dsimp only at hSw); go_simp; try with_reducible rfl)
              try simp only [Act.put, List.setIfInBounds_toArray, List.set_cons_zero, List.set_cons_succ, List.getElem_toArray, List.getElem_cons_zero, List.getElem_cons_succ]
              refine wpAnyH_take (i := 2) (v := ?_) rfl (by kernel_rfl) (by kernel_rfl) (by kernel_rfl) (fun _ _ _ h => h) (Or.inl ⟨by rfl, ?hy2⟩) (by assumption) ?_
              case hy2 => (intro w hSw; (try dsimp only at hSw); go_simp; try with_reducible rfl)
              try simp only [Act.put, List.setIfInBounds_toArray, List.set_cons_zero, List.set_cons_succ, List.getElem_toArray, List.getElem_cons_zero, List.getElem_cons_succ]
              refine wpAnyH_take (i := 5) (v := ?_) rfl (by kernel_rfl) (by kernel_rfl) (by kernel_rfl) (fun _ _ _ h => h) (Or.inl ⟨by rfl, ?hy5⟩) (by assumption) ?_
              case hy5 => (intro w hSw; (try dsimp only at hSw); go_simp; try with_reducible rfl)
              try simp only [Act.put, List.setIfInBounds_toArray, List.set_cons_zero, List.set_cons_succ, List.getElem_toArray, List.getElem_cons_zero, List.getElem_cons_succ]
              refine wpAnyH_take (i := 6) (v := ?_) rfl (by kernel_rfl) (by kernel_rfl) (by kernel_rfl) (fun _ _ _ h => h) (Or.inl ⟨by rfl, ?hy6⟩) (by assumption) ?_
              case hy6 => (intro w hSw; (try dsimp only at hSw); go_simp; try with_reducible rfl)
              try simp only [Act.put, List.setIfInBounds_toArray, List.set_cons_zero, List.set_cons_succ, List.getElem_toArray, List.getElem_cons_zero, List.getElem_cons_succ]
              refine wpAnyH_ready (rs := [3]) (by kernel_rfl) (by simp) (AllReadyH.cons rfl (fun K hK => ?_) AllReadyH.nil)
              (go_simp; go_at_call 19; (with_reducible refine (Nv.out _).mono ?_); rintro en wx ⟨rfl, hb_⟩; have SN := Lib.hid (SN.out.later hb_); clear hb_; refine hK.out _ _ SN.out.sat (fun hHeld => ?_); clear hK K; try simp only [Act.put, List.setIfInBounds_toArray, List.set_cons_zero, List.set_cons_succ, List.getElem_toArray, List.getElem_cons_zero, List.getElem_cons_succ])
              refine wpAnyH_take (i := 4) (v := ?_) rfl (by kernel_rfl) (by kernel_rfl) (by kernel_rfl) (fun _ _ _ h => h) (Or.inl ⟨by rfl, ?hy4⟩) (by assumption) ?_
              case hy4 => (intro w hSw; (try dsimp only at hSw); go_simp; try with_reducible rfl)
              try simp only [Act.put, List.setIfInBounds_toArray, List.set_cons_zero, List.set_cons_succ, List.getElem_toArray, List.getElem_cons_zero, List.getElem_cons_succ]
              refine wpAnyH_ready (rs := [7]) (by kernel_rfl) (by simp) (AllReadyH.cons rfl (fun K hK => ?_) AllReadyH.nil)
              (go_simp; go_at_call 19; (with_reducible refine (Ne.out _).mono ?_); rintro en wx ⟨rfl, hb_⟩; have SN := Lib.hid (SN.out.later hb_); clear hb_; refine hK.out _ _ SN.out.sat (fun hHeld => ?_); clear hK K; try simp only [Act.put, List.setIfInBounds_toArray, List.set_cons_zero, List.set_cons_succ, List.getElem_toArray, List.getElem_cons_zero, List.getElem_cons_succ])
              refine wpAnyH_take (i := 8) (v := ?_) rfl (by kernel_rfl) (by kernel_rfl) (by kernel_rfl) (fun _ _ _ h => h) (Or.inl ⟨by rfl, ?hy8⟩) (by assumption) ?_
              case hy8 => (intro w hSw; (try dsimp only at hSw); go_simp; try with_reducible rfl)
              try simp only [Act.put, List.setIfInBounds_toArray, List.set_cons_zero, List.set_cons_succ, List.getElem_toArray, List.getElem_cons_zero, List.getElem_cons_succ]
              refine wpAnyH_take (i := 9) (v := ?_) rfl (by kernel_rfl) (by kernel_rfl) (by kernel_rfl) (fun _ _ _ h => h) (Or.inl ⟨by rfl, ?hy9⟩) (by assumption) ?_
              case hy9 => (intro w hSw; (try dsimp only at hSw); go_simp; try with_reducible rfl)
              try simp only [Act.put, List.setIfInBounds_toArray, List.set_cons_zero, List.set_cons_succ, List.getElem_toArray, List.getElem_cons_zero, List.getElem_cons_succ]
              refine wpAnyH_done (by kernel_rfl) ?_ _
              go_wp2_with fail
              go_meet
              exact ⟨rfl, SN⟩
            case rest =>
              obtain ⟨rfl, S8⟩ := hcut
              clear ad1 ad2 Nv Ne S7
              have HF : Hid (R = L3) := HFIN
              go_wp2
              go_ret
              exact ⟨by rw [HF.out]; rfl, S8.out.bel⟩
end Go.Proofs.YtecoomkpkdapdaaDoor
