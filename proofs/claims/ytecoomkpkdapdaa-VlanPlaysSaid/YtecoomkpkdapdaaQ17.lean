/- ref07: Out. -/
import Derived.Test.YtecoomkpkdapdaaQ16
import Derived.Test.YtecoomkpkdapdaaV3
import Derived.Test.YtecoomkpkdapdaaF3
set_option linter.unusedVariables false
namespace Go.Proofs.Ytecoomkpkdapdaa
open Go.RowKit

theorem FB.set13' {W : World} {b : Nat} {A : Array Value} (h : FB W b A) (j : Nat) (v : Value) : FB (W.setCell ⟨b, j, none⟩ v) b (A.setIfInBounds j v) := h.set j v
theorem res_out2 (tmps : Array Value) (W : World) (b : Nat) (A : Array Value) (h2 : tmps.getD 8 undef = .pointer (some ⟨b, 0, none⟩)) (hf : FB W b A) (hs : A.size = 17) :
    (results Try.f22 tmps).run Try.prog W = .ok (.tuple #[.agg A, tmps.getD 9 undef]) W := by
  have hi : (Try.prog.info? 26).map (·.size) = some A.size := by rw [hs]; kernel_rfl
  rw [results_cell_tmp (p := 8) (u := 9) (ty := 26) rfl, h2]
  simp [asAddr, run_loadVar_row W b 26 26 A (0, 0) _ hf Try.underlying26 rfl hi]
/-- The state: the table's box, the frame's, the result's. -/
structure OR (w W : World) (T A : Array Value) : Prop where
  g : GB 43 W w.heap.size T
  f : FB W (w.heap.size + 1) A
  z : FB W (w.heap.size + 2) frZ
  bel : Below w.heap.size w W
theorem OR.later {w W W' : World} {T A : Array Value} (h : OR w W T A) (hb : Below W.heap.size W W') : OR w W' T A := ⟨h.g.later hb, h.f.later hb, h.z.later hb, h.bel.trans (hb.mono h.bel.size)⟩
theorem OR.set {w W : World} {T A : Array Value} (h : OR w W T A) (j : Nat) (v : Value) : OR w (W.setCell ⟨w.heap.size + 1, j, none⟩ v) T (A.setIfInBounds j v) :=
  ⟨h.g.other (by omega) v, h.f.set j v, h.z.other (by omega) v, below_set h.bel (Nat.le_succ _) v⟩
theorem outF_no (V : List Vn) (p : Nat) (k : Int) (x0 x1 x2 x3 x4 x5 x6 x7 x8 x9 x10 x11 xt xp xv xy xd) (h : memB (vGet V k).1 p = false) : outF V p k x0 x1 x2 x3 x4 x5 x6 x7 x8 x9 x10 x11 xt xp xv xy xd = (frZ, false) := by
  unfold outF; rw [h]; rfl
set_option maxRecDepth 100000 in
set_option maxHeartbeats 16000000 in
theorem refOut_any (n : Int) (s : Value) (o : List Int) (V : List Vn) (p : Nat) (k : Int) (x0 x1 x2 x3 x4 x5 x6 x7 x8 x9 x10 x11 xt xp xv xy xd) (w : World) (hV : Vs w s V) (hl : V.length ≤ 100) (hwf : ∀ x ∈ V, (0 ≤ x.2.1 ∧ x.2.1 < 256) ∧ (0 ≤ x.2.2 ∧ x.2.2 < 256)) (ho : o.length = 8) (hp : p < 256) (hk : 0 ≤ k ∧ k < 65536) (hw : wfF x0 x1 x2 x3 x4 x5 x6 x7 x8 x9 x10 x11 xp xv xy) (hd : xd.length ≤ 1000000) :
    Calls Try.prog 22 #[.agg (RA n s o), .int .u8 (p : Int), .int .u16 k, .agg (frA x0 x1 x2 x3 x4 x5 x6 x7 x8 x9 x10 x11 xt xp xv xy xd)] w fun en w' => en = .returned (.tuple #[.agg (outF V p k x0 x1 x2 x3 x4 x5 x6 x7 x8 x9 x10 x11 xt xp xv xy xd).1, .bool (outF V p k x0 x1 x2 x3 x4 x5 x6 x7 x8 x9 x10 x11 xt xp xv xy xd).2]) ∧ Below w.heap.size w w' := by
  obtain ⟨T, hT⟩ : ∃ T, RA n s o = T := ⟨_, rfl⟩
  have HAR := Lib.hid (RA_AR (n := n) (s := s) ho hV.one)
  rw [hT] at HAR
  have HTT := Lib.hid hT
  have HIT := Lib.hid HAR.out.il
  have a1 : Hid (T[1]? = some s) := Lib.hid (by rw [← hT]; rfl)
  have HV := Lib.hid hV
  have FD : Hid (∀ w1, Below w.heap.size w w1 → Calls Try.prog 67 #[.agg T, .int .u16 k] w1 fun en w' => en = .returned (.int .i64 (vIdx V k)) ∧ Below w1.heap.size w1 w') := Lib.hid fun w1 hb => by
    rw [← HTT.out]; exact find_any n s o V k w1 (HV.out.later vnC_len hb) hl
  have HAS : Hid (∀ (a : Int) w1, (0 ≤ a ∧ a < 256) → Calls Try.prog 68 #[.int .u8 a, .int .u8 (p : Int)] w1 fun en w' => en = .returned (.bool (memB a p)) ∧ w' = w1) := Lib.hid fun a w1 h => has_any a p w1 h hp
  obtain ⟨R, hR⟩ : ∃ R, outF V p k x0 x1 x2 x3 x4 x5 x6 x7 x8 x9 x10 x11 xt xp xv xy xd = R := ⟨_, rfl⟩
  rw [hR, hT]
  have HNO : Hid (memB (vGet V k).1 p = false → R = (frZ, false)) := Lib.hid fun h => by rw [← hR]; exact outF_no V p k x0 x1 x2 x3 x4 x5 x6 x7 x8 x9 x10 x11 xt xp xv xy xd h
  obtain ⟨U, hU⟩ : ∃ U, unB V p k = U := ⟨_, rfl⟩
  obtain ⟨FF, hFF⟩ : ∃ A, frA x0 x1 x2 x3 x4 x5 x6 x7 x8 x9 x10 x11 (outT U) (outP U xp) (outV U k) xy xd = A := ⟨_, rfl⟩
  obtain ⟨X, e, hX⟩ : ∃ X e, putF x0 x1 x2 x3 x4 x5 x6 x7 x8 x9 x10 x11 (outT U) (outP U xp) (outV U k) xy xd = (X, e) := ⟨_, _, rfl⟩
  have HRR : Hid (memB (vGet V k).1 p = true → R = if e = 0 then (FF, true) else (frZ, false)) := Lib.hid fun h => by
    rw [← hR]; unfold outF; rw [h, hU, hX, hFF]; rfl
  have hwo : wfF x0 x1 x2 x3 x4 x5 x6 x7 x8 x9 x10 x11 (outP U xp) (outV U k) xy := by
    obtain ⟨h1, h2, h3, h4, h5⟩ := hw
    refine ⟨h1, h2, ?_, ?_, h5⟩
    · unfold outP; split <;> omega
    · unfold outV; split <;> omega
  have P1 : Hid (∀ w, Calls Try.prog 69 #[.agg FF] w fun en w' => en = .returned (.tuple #[.string (bs X), .int .i64 e]) ∧ Below w.heap.size w w') := Lib.hid fun w => by
    have h := refPut_A FF x0 x1 x2 x3 x4 x5 x6 x7 x8 x9 x10 x11 (outT U) (outP U xp) (outV U k) xy xd hFF.symm w hwo hd
    rw [hX] at h; exact h
  obtain ⟨A, hA⟩ : ∃ A, frA x0 x1 x2 x3 x4 x5 x6 x7 x8 x9 x10 x11 xt xp xv xy xd = A := ⟨_, rfl⟩
  have isA : isFr A := by rw [← hA]; exact frA_is ..
  have isF : isFr FF := by rw [← hFF]; exact frA_is ..
  have sA := isA.size
  have iZ := Lib.hid (frame_info isFr_Z)
  have iF := Lib.hid (frame_info isF)
  have iFL := Lib.hid (frame_infoL isF)
  have oZ := Lib.hid isFr_Z.one
  have oF := Lib.hid isF.one
  have sF := Lib.hid isF.size
  have HUF : Hid ((U = true → ((A.setIfInBounds 12 (.bool false)).setIfInBounds 13 (.int .u8 0)).setIfInBounds 14 (.int .u16 0) = FF) ∧ (U = false → (A.setIfInBounds 12 (.bool true)).setIfInBounds 14 (.int .u16 k) = FF)) := Lib.hid (by
    rw [← hA, ← hFF]
    constructor
    · intro h; rw [h]; simp [frA, outT, outP, outV]
    · intro h; rw [h]; simp [frA, outT, outP, outV])
  have h12 : ∃ v, A[12]? = some v := ⟨_, by rw [← hA]; rfl⟩
  have h13 : ∃ v, A[13]? = some v := ⟨_, by rw [← hA]; rfl⟩
  have h14 : ∃ v, A[14]? = some v := ⟨_, by rw [← hA]; rfl⟩
  have hfind := vIdx_find V k
  obtain ⟨J, hJ⟩ : ∃ J, vIdx V k = J := ⟨_, rfl⟩
  rw [hJ] at FD hfind
  have HFI := Lib.hid hfind
  have HWF := Lib.hid (vGet_wf2 hwf k)
  have HUU : Hid (U = decide ((vGet V k).2 / 2 ^ p % 2 = 1)) := Lib.hid (by rw [← hU]; rfl)
  rw [hA]
  clear hR hU hFF hX hwo hw hd hk hA isA isF hT hV hfind hJ hwf
  go_enter Try.func22, Try.ntmps22
  go_upto_region 1 with fail
  have t0 : OR w (((w.alloc (.cells T 43)).alloc (.cells A 26)).alloc (.cells #[.int .u8 0, .int .u8 0, .int .u8 0, .int .u8 0, .int .u8 0, .int .u8 0, .int .u8 0, .int .u8 0, .int .u8 0, .int .u8 0, .int .u8 0, .int .u8 0, .bool false, .int .u8 0, .int .u16 0, .int .u16 0, .string { data := #[] }] 26)) T A := by
    have b1 : Below (w.alloc (.cells T 43)).heap.size (w.alloc (.cells T 43)) (((w.alloc (.cells T 43)).alloc (.cells A 26)).alloc (.cells #[.int .u8 0, .int .u8 0, .int .u8 0, .int .u8 0, .int .u8 0, .int .u8 0, .int .u8 0, .int .u8 0, .int .u8 0, .int .u8 0, .int .u8 0, .int .u8 0, .bool false, .int .u8 0, .int .u16 0, .int .u16 0, .string { data := #[] }] 26)) := ((Below.refl _ _).alloc (Nat.le_refl _) _).alloc (by simp) _
    have f := (FB.new (w.alloc (.cells T 43)) A).later ((Below.refl _ _).alloc (Nat.le_refl _) (.cells #[.int .u8 0, .int .u8 0, .int .u8 0, .int .u8 0, .int .u8 0, .int .u8 0, .int .u8 0, .int .u8 0, .int .u8 0, .int .u8 0, .int .u8 0, .int .u8 0, .bool false, .int .u8 0, .int .u16 0, .int .u16 0, .string { data := #[] }] 26))
    have z := FB.new ((w.alloc (.cells T 43)).alloc (.cells A 26)) frZ
    rw [show (w.alloc (.cells T 43)).heap.size = w.heap.size + 1 by simp] at f
    rw [show ((w.alloc (.cells T 43)).alloc (.cells A 26)).heap.size = w.heap.size + 2 by simp] at z
    exact ⟨(GB.new 43 w T).later b1, f, z, ((Below.refl _ _).alloc (Nat.le_refl _) _).trans (b1.mono (by simp))⟩
  obtain ⟨w0, hw0⟩ : ∃ K, ((w.alloc (.cells T 43)).alloc (.cells A 26)).alloc (.cells #[.int .u8 0, .int .u8 0, .int .u8 0, .int .u8 0, .int .u8 0, .int .u8 0, .int .u8 0, .int .u8 0, .int .u8 0, .int .u8 0, .int .u8 0, .int .u8 0, .bool false, .int .u8 0, .int .u16 0, .int .u16 0, .string { data := #[] }] 26) = K := ⟨_, rfl⟩
  rw [hw0] at t0 ⊢
  have S0 := Lib.hid t0
  clear hw0 t0
  go_wp2_with ((with_reducible refine wpList_load_mid rfl 43 (.tmp 4) rfl w.heap.size 0 ?hx T.toList _ S0.out.g.range Try.underlying43 ?hu HIT.out ?_); (case hx => rfl); (case hu => rfl))
  with_reducible refine (FD.out _ S0.out.bel).mono ?_
  rintro en w1 ⟨rfl, hb1⟩
  have S1 := Lib.hid (S0.out.later hb1)
  clear hb1 S0 FD
  go_upto_region 2 with fail
  have TH := Lib.hid (S1.out.z.there (n := frZ.size) (Nat.le_refl _))
  have GZ := Lib.hid (S1.out.z.store (A := frZ) rfl oZ.out)
  have HBZ := Lib.hid (below_cells (b := w.heap.size + 2) (Nat.le_add_right _ _) frZ.toList 0 w1 S1.out.bel)
  rcases HFI.out with ⟨hj, hn⟩ | ⟨j, hj, hJ, hf, hkk⟩
  · subst hj
    have hR0 : Hid (R = (frZ, false)) := Lib.hid (HNO.out (by unfold vGet; rw [hn]; unfold memB; simp))
    clear hn HFI
    go_wp2_with ((with_reducible refine wpList_store_mid rfl 26 (.tmp 8) (.tmp 33) rfl (w.heap.size + 2) 0 frZ ?hx ?hy TH.out iZ.out oZ.out ?_); (case hx => rfl); (case hy => rfl))
    exact bodyPost_ret (v := .tuple #[.agg frZ, .bool false]) (res_out2 _ _ (w.heap.size + 2) _ rfl GZ.out rfl) rfl ⟨by rw [hR0.out], HBZ.out⟩
  · subst hJ
    obtain ⟨sa, sc, rfl, hsc⟩ := (HV.out.later vnC_len S1.out.bel).shape
    obtain ⟨b, off, rfl, hcc⟩ := hsc.resolve_left (by intro h; rw [h] at hj; simp at hj)
    have hv := hcc j hj
    have hg : vGet V k = V[j].2 := by unfold vGet; rw [hf]; rfl
    have HJ : (j : Int) < (V.length : Int) := by omega
    have hjn : ¬ ((j : Int) < 0) := by omega
    have djn : decide ((j : Int) < 0) = false := decide_eq_false hjn
    obtain ⟨e1, he1⟩ : ∃ e, V[j].2.1 = e := ⟨_, rfl⟩
    obtain ⟨e2, he2⟩ : ∃ e, V[j].2.2 = e := ⟨_, rfl⟩
    rw [hg, he1] at HNO HRR
    rw [hg, he1, he2] at HWF
    rw [hg, he2] at HUU
    have r1 : w1.cell? ⟨b, off + j * 3 + 1, none⟩ = some (.int .u8 e1) := by rw [← he1]; exact hv 1 (by decide)
    have r2 : w1.cell? ⟨b, off + j * 3 + 2, none⟩ = some (.int .u8 e2) := by rw [← he2]; exact hv 2 (by decide)
    have c1 := S1.out.g.c 1 _ a1.out
    obtain ⟨N, hN⟩ : ∃ N, V.length = N := ⟨_, rfl⟩
    rw [hN] at c1 HJ
    have C1 := Lib.hid (fun w => HAS.out e1 w HWF.out.1)
    have C2 := Lib.hid (fun w => HAS.out e2 w HWF.out.2)
    obtain ⟨B, hB⟩ : ∃ B, memB e1 p = B := ⟨_, rfl⟩
    rw [hB] at HNO HRR C1
    clear hkk hcc hsc hv hg he1 he2 hf HFI hj
    have dp : decide ((7 : Int) < (p : Int)) = true ∨ decide ((7 : Int) < (p : Int)) = false := by cases decide ((7 : Int) < (p : Int)) <;> simp
    rcases dp with dp | dp
    · have hB0 : B = false := by
        rw [← hB]; unfold memB; rw [decide_eq_false (by have := of_decide_eq_true dp; omega)]; rfl
      have hR0 : Hid (R = (frZ, false)) := Lib.hid (HNO.out hB0)
      have hp7 : (7 : Int) < (p : Int) := of_decide_eq_true dp
      clear hB hB0
      go_wp2_with ((with_reducible refine wpList_store_mid rfl 26 (.tmp 8) (.tmp 33) rfl (w.heap.size + 2) 0 frZ ?hx ?hy TH.out iZ.out oZ.out ?_); (case hx => rfl); (case hy => rfl))
      exact bodyPost_ret (v := .tuple #[.agg frZ, .bool false]) (res_out2 _ _ (w.heap.size + 2) _ rfl GZ.out rfl) rfl ⟨by rw [hR0.out], HBZ.out⟩
    · have hp7 : ¬ (7 : Int) < (p : Int) := of_decide_eq_false dp
      have HU2 : Hid (memB e2 p = U) := Lib.hid (by unfold memB; rw [decide_eq_true (by omega), Bool.true_and, HUU.out])
      rw [HU2.out] at C2
      clear hB
      cases B
      · have hR0 : Hid (R = (frZ, false)) := Lib.hid (HNO.out rfl)
        go_wp2_with (first
          | (go_at_call 68; with_reducible refine (C1.out _).mono ?_; rintro e' w' ⟨rfl, rfl⟩)
          | ((with_reducible refine wpList_store_mid rfl 26 (.tmp 8) (.tmp 33) rfl (w.heap.size + 2) 0 frZ ?hx ?hy TH.out iZ.out oZ.out ?_); (case hx => rfl); (case hy => rfl)))
        exact bodyPost_ret (v := .tuple #[.agg frZ, .bool false]) (res_out2 _ _ (w.heap.size + 2) _ rfl GZ.out rfl) rfl ⟨by rw [hR0.out], HBZ.out⟩
      · have HRR1 := Lib.hid (HRR.out rfl)
        go_upto_region 4 with (go_at_call 68; with_reducible refine (C1.out _).mono ?_; rintro e' w' ⟨rfl, rfl⟩)
        clear TH GZ HBZ r1
        obtain ⟨v12, h12⟩ := h12
        obtain ⟨v13, h13⟩ := h13
        obtain ⟨v14, h14⟩ := h14
        have d12 := S1.out.f.c 12 _ h12
        have d13 := S1.out.f.c 13 _ h13
        have d14 := S1.out.f.c 14 _ h14
        have s12 := S1.out.f.free 12
        have s13 := S1.out.f.free 13
        have s14 := S1.out.f.free 14
        go_upto_if 41 with (go_at_call 68; with_reducible refine (C2.out _).mono ?_; rintro e' w' ⟨rfl, rfl⟩)
        go_cut [] (fun wx => Hid (OR w wx T FF))
        case first =>
          cases U
          · have hs := (S1.out.set 12 (.bool true)).set 14 (.int .u16 k)
            rw [HUF.out.2 rfl] at hs
            have HS := Lib.hid hs
            clear hs
            go_wp2_with fail
            go_meet
            exact HS
          · have hs := ((S1.out.set 12 (.bool false)).set 13 (.int .u8 0)).set 14 (.int .u16 0)
            rw [HUF.out.1 rfl] at hs
            have HS := Lib.hid hs
            clear hs
            go_wp2_with fail
            go_meet
            exact HS
        case rest =>
          have OSF := hcut
          clear hcut d12 d13 d14 s12 s13 s14 r2 c1 S1
          go_wp2_with ((with_reducible refine wpList_load_mid rfl 26 (.tmp 7) rfl (w.heap.size + 1) 0 ?hx FF.toList _ OSF.out.f.range Try.underlying26 ?hu iFL.out ?_); (case hx => rfl); (case hu => rfl))
          with_reducible refine (P1.out _).mono ?_
          rintro en w3 ⟨rfl, hb3⟩
          have OS3 := Lib.hid (OSF.out.later hb3)
          clear hb3 OSF
          by_cases he : e = 0
          · have de : (e != 0) = false := by rw [he]; rfl
            have hR0 : Hid (R = (FF, true)) := Lib.hid (by rw [HRR1.out, if_pos he])
            have TH := Lib.hid (OS3.out.z.there (n := FF.size) (by rw [sF.out]; exact Nat.le_refl _))
            have G1 := Lib.hid (OS3.out.z.store (A := FF) (by rw [sF.out]; rfl) oF.out)
            clear he
            go_wp2_with (first | ((with_reducible refine wpList_load_mid rfl 26 (.tmp 7) rfl (w.heap.size + 1) 0 ?hx FF.toList _ OS3.out.f.range Try.underlying26 ?hu iFL.out ?_); (case hx => rfl); (case hu => rfl)) | ((with_reducible refine wpList_store_mid rfl 26 (.tmp 8) (.tmp 56) rfl (w.heap.size + 2) 0 FF ?hx ?hy TH.out iF.out oF.out ?_); (case hx => rfl); (case hy => rfl)))
            exact bodyPost_ret (v := .tuple #[.agg FF, .bool true]) (res_out2 _ _ (w.heap.size + 2) _ rfl G1.out sF.out) rfl ⟨by rw [hR0.out], below_cells (by omega) _ _ _ OS3.out.bel⟩
          · have de : (e != 0) = true := by rw [bne_iff_ne]; exact he
            have hR0 : Hid (R = (frZ, false)) := Lib.hid (by rw [HRR1.out, if_neg he])
            have TH := Lib.hid (OS3.out.z.there (n := frZ.size) (Nat.le_refl _))
            have G1 := Lib.hid (OS3.out.z.store (A := frZ) rfl oZ.out)
            clear he
            go_wp2_with ((with_reducible refine wpList_store_mid rfl 26 (.tmp 8) (.tmp 55) rfl (w.heap.size + 2) 0 frZ ?hx ?hy TH.out iZ.out oZ.out ?_); (case hx => rfl); (case hy => rfl))
            exact bodyPost_ret (v := .tuple #[.agg frZ, .bool false]) (res_out2 _ _ (w.heap.size + 2) _ rfl G1.out rfl) rfl ⟨by rw [hR0.out], below_cells (by omega) _ _ _ OS3.out.bel⟩
end Go.Proofs.Ytecoomkpkdapdaa
