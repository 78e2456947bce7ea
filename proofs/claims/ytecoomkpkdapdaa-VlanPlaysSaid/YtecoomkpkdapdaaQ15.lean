/- law07: the walk of VlanApart. -/
import Derived.Test.YtecoomkpkdapdaaQ14
import Derived.Test.YtecoomkpkdapdaaV4
import Derived.Test.YtecoomkpkdapdaaRAC
import Derived.Test.YtecoomkpkdapdaaRFV
import Derived.BigQuiet
import Derived.Sort.KeysCollected
set_option linter.unusedVariables false
set_option linter.unusedSimpArgs false
namespace Go.Proofs.Ytecoomkpkdapdaa
open Go.RowKit

theorem Us.cells {w : World} {B : Nat} {v : Value} {l : List Int} (h : Us w B v l) : ∃ a c, v = .slice a l.length c ∧ (l = [] ∨ ∃ g, a = some ⟨g, 0, none⟩ ∧ ∀ j (hj : j < l.length), w.cell? ⟨g, j, none⟩ = some (.int .u16 l[j])) := by
  rcases h.shape with ⟨rfl, rfl⟩ | ⟨g, cap, t, rfl, hB, hr, _⟩
  · exact ⟨none, 0, rfl, .inl rfl⟩
  · refine ⟨_, cap, rfl, .inr ⟨g, rfl, fun j hj => ?_⟩⟩
    have e : l = l.take j ++ l[j] :: l.drop (j + 1) := by
      rw [List.getElem_cons_drop]; exact (List.take_append_drop j l).symm
    rw [e] at hr
    have := hr.cell (m := j) (by simp; omega)
    simpa using this
theorem inF_ok (n : Int) (o : List Int) (V : List Vn) (p : Nat) (t : Bool) (v : Int) : (inF n o V p t v = (0, false)) ∨ (∃ x, inF n o V p t v = (x, true) ∧ (p : Int) < n ∧ memB (vGet V x).1 p = true ∧ (t = true → v ≠ 0 → x = v)) := by
  unfold inF
  by_cases h1 : n ≤ (p : Int)
  · rw [if_pos h1]; exact .inl rfl
  · rw [if_neg h1]
    by_cases h2 : memB (vGet V (if t = true ∧ v ≠ 0 then v else o.getD p 0)).1 p = true
    · rw [if_pos h2]
      exact .inr ⟨_, rfl, by omega, h2, fun ht hv => if_pos ⟨ht, hv⟩⟩
    · rw [if_neg h2]; exact .inl rfl
theorem outF_is (V : List Vn) (p : Nat) (k : Int) (x0 x1 x2 x3 x4 x5 x6 x7 x8 x9 x10 x11 xt xp xv xy xd) : isFr (outF V p k x0 x1 x2 x3 x4 x5 x6 x7 x8 x9 x10 x11 xt xp xv xy xd).1 ∧ ((outF V p k x0 x1 x2 x3 x4 x5 x6 x7 x8 x9 x10 x11 xt xp xv xy xd).2 = true → memB (vGet V k).1 p = true) := by
  unfold outF
  split
  · rename_i h
    split
    · exact ⟨frA_is .., fun _ => h⟩
    · exact ⟨isFr_Z, fun h => by cases h⟩
  · exact ⟨isFr_Z, fun h => by cases h⟩
theorem inF_bd {n : Int} {o : List Int} {V : List Vn} {p : Nat} {t : Bool} {v x : Int} {b : Bool} (h : inF n o V p t v = (x, b)) (hv : 0 ≤ v ∧ v < 65536) (ho : ∀ x ∈ o, 0 ≤ x ∧ x < 65536) : 0 ≤ x ∧ x < 65536 := by
  have ho2 : 0 ≤ o.getD p 0 ∧ o.getD p 0 < 65536 := by
    rcases Nat.lt_or_ge p o.length with hp | hp
    · rw [List.getD_eq_getElem?_getD, List.getElem?_eq_getElem hp]; exact ho _ (List.getElem_mem hp)
    · rw [List.getD_eq_getElem?_getD, List.getElem?_eq_none hp]; decide
  unfold inF at h
  obtain ⟨y, hy⟩ : ∃ y, (if t = true ∧ v ≠ 0 then v else o.getD p 0) = y := ⟨_, rfl⟩
  rw [hy] at h
  have hy2 : 0 ≤ y ∧ y < 65536 := by rw [← hy]; split <;> assumption
  by_cases h1 : n ≤ (p : Int)
  · rw [if_pos h1] at h; obtain ⟨rfl, _⟩ := Prod.mk.inj h; decide
  · rw [if_neg h1] at h
    by_cases h2 : memB (vGet V y).1 p = true
    · rw [if_pos h2] at h; obtain ⟨rfl, _⟩ := Prod.mk.inj h; exact hy2
    · rw [if_neg h2] at h; obtain ⟨rfl, _⟩ := Prod.mk.inj h; decide
theorem VM.kb {W : World} {m : Nat} {V : List Vn} (h : VM W m V) : ∀ x ∈ V.map (·.1), 0 ≤ x ∧ x < 65536 := by
  intro x hx
  obtain ⟨y, hy, rfl⟩ := List.mem_map.1 hx
  obtain ⟨es, he, hk⟩ := h.own.keysOf
  have hes : V.map (fun x => ((Lit.int .u16 x.1 : Lit), vElD x.2.1 x.2.2)) = es := by
    have := he; unfold vD at this; exact DataW.map.inj this
  obtain ⟨v, hv⟩ := hk (Lit.int .u16 y.1, vElD y.2.1 y.2.2) (by rw [← hes]; exact List.mem_map.2 ⟨y, hy, rfl⟩)
  have hw : (Lit.int .u16 y.1).wf = true := by
    cases v <;> simp [keyOf, Try.underlying22, mapKey] at hv
    rename_i q a
    obtain ⟨⟨rfl, h1⟩, h2⟩ := hv
    rw [← h2]; exact h1
  have := bounds_u16 hw
  omega
/-- What the loop keeps. -/
structure AP (w W : World) (f q m g : Nat) (n : Int) (o : List Int) (V : List Vn) (FA : Array Value) : Prop where
  ts : TS W q n m o V
  fb : GB 26 W f FA
  c : ∀ j (hj : j < (V.map (·.1)).length), W.cell? ⟨g, j, none⟩ = some (.int .u16 (V.map (·.1))[j])
  bel : Below w.heap.size w W
theorem AP.later {w W W' : World} {f q m g : Nat} {n : Int} {o : List Int} {V : List Vn} {FA : Array Value} (h : AP w W f q m g n o V FA) (hb : Below W.heap.size W W') : AP w W' f q m g n o V FA :=
  ⟨h.ts.later hb, h.fb.later hb, fun j hj => (hb.cell (World.block_lt_of_cell? W _ (h.c j hj))).trans (h.c j hj), h.bel.trans (hb.mono h.bel.size)⟩
set_option maxRecDepth 100000 in
set_option maxHeartbeats 16000000 in
theorem VlanApart_walk (v : Value) (l : List Ac) (pt : Int) (FA : Array Value) (w : World) (hv : Rw 5 acC w v l ∧ l.length ≤ maxLen ∧ ∀ x ∈ l, x.Ok) (hpt : (Lit.int .u8 pt).wf = true) (hA : Fr FA) :
    Calls Try.prog 6 #[v, .int .u8 pt, .agg FA] w fun en w' => en = .returned (.bool true) ∧ Below w.heap.size w w' := by
  obtain ⟨hv, hml, ok⟩ := hv
  unfold maxLen at hml
  have hpt := bounds_u8 hpt
  have isA := hA.is
  obtain ⟨x0, x1, x2, x3, x4, x5, x6, x7, x8, x9, x10, x11, xt, xp, xv, xy, xd, hFA, hw, hd⟩ := hA
  unfold maxLen at hd
  have hFA' : FA = frA x0 x1 x2 x3 x4 x5 x6 x7 x8 x9 x10 x11 xt xp xv xy xd := hFA
  have WK := Lib.hid wakes07_any
  obtain ⟨P, rfl⟩ : ∃ P : Nat, pt = P := ⟨pt.toNat, by omega⟩
  have a16 : FA[16]? = some (.string (bs xd)) := by rw [hFA]; rfl
  have a12 : FA[12]? = some (.bool xt) := by rw [hFA]; rfl
  have a14 : FA[14]? = some (.int .u16 xv) := by rw [hFA]; rfl
  have HIL := Lib.hid (frame_infoL isA)
  have hsz := bs_size xd
  have hxv : 0 ≤ xv ∧ xv < 65536 := by obtain ⟨_, _, _, h4, _⟩ := hw; omega
  have HFA := Lib.hid hFA'
  have HWF := Lib.hid hw
  have HXV := Lib.hid hxv
  have hv0 := hv
  obtain ⟨va, vc, rfl, _⟩ := hv0.shape
  have HVV := Lib.hid hv
  have HOK := Lib.hid ok
  clear hFA hFA' isA hv hv0 ok hw
  go_enter Try.func6, Try.ntmps6
  go_upto_region 1 with fail
  have g0 := GB.new 26 w FA
  have b0 : Below w.heap.size w (w.alloc (.cells FA 26)) := (Below.refl _ _).alloc (Nat.le_refl _) _
  obtain ⟨w0, hw0⟩ : ∃ K, w.alloc (.cells FA 26) = K := ⟨_, rfl⟩
  rw [hw0] at g0 b0 ⊢
  obtain ⟨f, hf⟩ : ∃ K, w.heap.size = K := ⟨_, rfl⟩
  have G0 := Lib.hid (show GB 26 w0 f FA by rw [← hf]; exact g0)
  have B0 := Lib.hid b0
  rw [hf]
  clear hw0 g0 b0 hf
  have c16 := G0.out.c 16 _ a16
  by_cases h1 : 100 < l.length
  · have hL : (100 : Int) < (l.length : Int) := by omega
    obtain ⟨N, hN⟩ : ∃ N, l.length = N := ⟨_, rfl⟩
    rw [hN] at hL ⊢
    clear h1 hml
    go_wp2_with fail
    with_reducible refine (WK.out _).mono ?_
    rintro en w2 ⟨rfl, hb2⟩
    go_wp2
    go_ret
    exact ⟨rfl, B0.out.trans (hb2.mono B0.out.size)⟩
  · have hL : ¬ (100 : Int) < (l.length : Int) := by omega
    have HLL := Lib.hid h1
    have AFT := Lib.hid (after_any 8 (.slice va l.length vc) l w0 (by decide) (HVV.out.later acC_len B0.out) (by omega) HOK.out)
    obtain ⟨N, hN⟩ : ∃ N, l.length = N := ⟨_, rfl⟩
    rw [hN] at hL AFT hml ⊢
    have dL : decide ((100 : Int) < (N : Int)) = false := decide_eq_false hL
    clear h1
    by_cases h2 : 2000 < xd.length
    · have hX : (2000 : Int) < (xd.length : Int) := by omega
      clear h2
      go_wp2_with fail
      with_reducible refine (WK.out _).mono ?_
      rintro en w2 ⟨rfl, hb2⟩
      go_wp2
      go_ret
      exact ⟨rfl, B0.out.trans (hb2.mono B0.out.size)⟩
    · have hX : ¬ (2000 : Int) < (xd.length : Int) := by omega
      have HXD := Lib.hid h2
      clear h2
      go_wp2_with fail
      with_reducible refine AFT.out.mono ?_
      rintro en w1 ⟨q, m, s, o, V, rfl, hts, hvs, hri, hb1⟩
      have TS1 := Lib.hid hts
      have RI := Lib.hid hri
      have G1 := Lib.hid (G0.out.later hb1)
      have B1 := Lib.hid (B0.out.trans (hb1.mono B0.out.size))
      have HAR := Lib.hid (RA_AR (n := 8) (s := s) (o := o) hts.ol hvs.one)
      obtain ⟨A, hA⟩ : ∃ A, RA 8 s o = A := ⟨_, rfl⟩
      rw [hA] at HAR ⊢
      have HI := Lib.hid HAR.out.i
      have OC := Lib.hid HAR.out.o
      clear hts hvs hri hb1 hA AFT c16
      have hZ' : #[.int .i64 0, .slice none 0 0, .int .u16 0, .int .u16 0, .int .u16 0, .int .u16 0, .int .u16 0, .int .u16 0, .int .u16 0, .int .u16 0] = rZ := rfl
      have TH := Lib.hid ((GB.new 43 w1 rZ).there (n := A.size) (by rw [HAR.out.s]; exact Nat.le_refl _))
      go_upto_region 4 with ((with_reducible refine wpList_store_mid rfl 43 (.tmp 8) (.tmp 30) rfl w1.heap.size 0 A ?hx ?hy TH.out HI.out OC.out ?_); (case hx => rfl); (case hy => rfl))
      clear hZ'
      have bz : Below w1.heap.size w1 ((w1.alloc (.cells rZ 43)).setCells w1.heap.size 0 A.toList) := below_cellsG (Nat.le_refl _) _ _ _ ((Below.refl _ _).alloc (Nat.le_refl _) _)
      have TS2 := Lib.hid (TS1.out.later bz)
      have G2 := Lib.hid (G1.out.later bz)
      have B2 := Lib.hid (B1.out.trans (bz.mono B1.out.size))
      obtain ⟨w2, hw2⟩ : ∃ K, (w1.alloc (.cells rZ 43)).setCells w1.heap.size 0 A.toList = K := ⟨_, rfl⟩
      rw [hw2] at TS2 G2 B2 ⊢
      clear hw2 bz TS1 G1 B1 TH HI OC HAR
      obtain ⟨vv, Ri, hR⟩ : ∃ x y, inF 8 o V P xt xv = (x, y) := ⟨_, _, rfl⟩
      have IN := vin_A FA q m 8 o V P xt xv w2 a12 a14 TS2.out (by omega) hxv
      rw [hR] at IN
      have HIN := inF_ok 8 o V P xt xv
      rw [hR] at HIN
      have HIN := Lib.hid HIN
      have HVX : Hid (0 ≤ vv ∧ vv < 65536) := Lib.hid (inF_bd hR hxv TS2.out.ow)
      clear hR
      go_wp2_with ((with_reducible refine wpList_load_mid rfl 26 (.tmp 5) rfl f 0 ?hx FA.toList _ G2.out.range Try.underlying26 ?hu HIL.out ?_); (case hx => rfl); (case hu => rfl))
      with_reducible refine IN.mono ?_
      rintro en w3 ⟨rfl, hb3⟩
      have TS3 := Lib.hid (TS2.out.later hb3)
      have G3 := Lib.hid (G2.out.later hb3)
      have B3 := Lib.hid (B2.out.trans (hb3.mono B2.out.size))
      clear hb3 IN TS2 G2 B2
      have c12 := G3.out.c 12 _ a12
      have c14 := G3.out.c 14 _ a14
      go_upto_region 7 with fail
      go_cut [77] (fun s77 wx => s77 = .bool false ∧ wx = w3)
      case first =>
        rcases HIN.out with h | ⟨x, h, hp8, hmb, hvx⟩
        · obtain ⟨rfl, rfl⟩ := Prod.mk.inj h
          clear h
          go_wp2_with fail
          go_meet
          exact ⟨rfl, rfl⟩
        · obtain ⟨rfl, rfl⟩ := Prod.mk.inj h
          have MB := vmembers_any q m 8 o V vv w3 TS3.out HVX.out
          have ebd := (vGet_wf2 TS3.out.vm.wf vv).1
          obtain ⟨e1, he1⟩ : ∃ e, (vGet V vv).1 = e := ⟨_, rfl⟩
          rw [he1] at MB ebd hmb
          have hb0 : (bits .and .u8 (e1 / 2 ^ P) 1 == 0) = false := by
            rw [and_shr0 e1 P ebd]
            unfold memB at hmb
            rw [Bool.and_eq_true] at hmb
            rw [hmb.2]; rfl
          have h7 : ¬ (7 : Int) < (P : Int) := by omega
          have HVXX := Lib.hid hvx
          clear h hmb hvx he1 hxv
          cases xt
          · go_wp2_with (go_at_call 19; with_reducible refine MB.mono ?_; rintro e' w' ⟨rfl, rfl⟩)
            go_meet
            exact ⟨rfl, rfl⟩
          · by_cases h0 : xv = 0
            · subst h0
              go_wp2_with (go_at_call 19; with_reducible refine MB.mono ?_; rintro e' w' ⟨rfl, rfl⟩)
              go_meet
              exact ⟨rfl, rfl⟩
            · have hvv : vv = xv := HVXX.out rfl h0
              subst hvv
              have hne : (vv != 0) = true := by simpa using h0
              clear h0
              go_wp2_with (go_at_call 19; with_reducible refine MB.mono ?_; rintro e' w' ⟨rfl, rfl⟩)
              go_meet
              exact ⟨rfl, rfl⟩
      case rest =>
        obtain ⟨rfl, rfl⟩ := hcut
        clear c12 c14
        have VL := vlans_any q m 8 o V wc TS3.out RI.out
        go_wp2_with fail
        with_reducible refine VL.mono ?_
        rintro en w4 ⟨vs, rfl, hus, hb4⟩
        have TS4 := Lib.hid (TS3.out.later hb4)
        have G4 := Lib.hid (G3.out.later hb4)
        have B4 := Lib.hid (B3.out.trans (hb4.mono B3.out.size))
        obtain ⟨ga, gc, rfl, hgc⟩ := hus.cells
        have HGC := Lib.hid hgc
        have HLEN : Hid ((V.map (·.1)).length ≤ 8) := Lib.hid (by rw [List.length_map]; exact TS4.out.vl)
        have RI2 := Lib.hid RI.out
        obtain ⟨M, hM⟩ : ∃ M, (V.map (·.1)).length = M := ⟨_, rfl⟩
        rw [hM] at HLEN ⊢
        have HM := Lib.hid hM
        clear hb4 hus hgc VL TS3 G3 B3 hM
        obtain ⟨p0, hp0⟩ : ∃ K, w.heap.size = K := ⟨_, rfl⟩
        go_wp2_with fail
        go_loopw [13] (fun i wr => ∃ j : Nat, j ≤ M ∧ i = .int .i64 j ∧ Hid (Below w4.heap.size w4 wr)) (fun i _ => M - (intOf i).toNat)
        case atStart => exact ⟨0, by omega, rfl, Lib.hid (Below.refl _ _)⟩
        case round =>
          obtain ⟨j, hj, rfl, HB⟩ := hrel
          have hjb : (j : Int) < 1000 := by have := HLEN.out; omega
          by_cases hlt : j < M
          · have dk : decide ((j : Int) < (M : Int)) = true := decide_eq_true (by omega)
            have HJ : (j : Int) < (M : Int) := by omega
            obtain ⟨g, rfl, hcc⟩ := HGC.out.resolve_left (by intro h; have := HM.out; rw [h] at this; simp at this; omega)
            have ap : AP w wr f q m g 8 o V FA := (⟨TS4.out, G4.out, hcc, B4.out⟩ : AP w w4 f q m g 8 o V FA).later HB.out
            have APR := Lib.hid ap
            obtain ⟨x, hx⟩ : ∃ x, (V.map (·.1))[j]'(by rw [HM.out]; exact hlt) = x := ⟨_, rfl⟩
            have HCX : Hid (∀ W, Below wr.heap.size wr W → W.cell? ⟨g, j, none⟩ = some (.int .u16 x)) := Lib.hid fun W hb => by
              rw [← hx]; exact (APR.out.later hb).c j (by rw [HM.out]; exact hlt)
            have HXB : Hid (0 ≤ x ∧ x < 65536) := Lib.hid (by
              rw [← hx]; exact TS4.out.vm.kb _ (List.getElem_mem _))
            obtain ⟨O, b, hO⟩ : ∃ O b, outF V P x x0 x1 x2 x3 x4 x5 x6 x7 x8 x9 x10 x11 xt xp xv xy xd = (O, b) := ⟨_, _, rfl⟩
            have HOI := outF_is V P x x0 x1 x2 x3 x4 x5 x6 x7 x8 x9 x10 x11 xt xp xv xy xd
            rw [hO] at HOI
            have HOI := Lib.hid HOI
            have OUT : Hid (∀ W, Below wr.heap.size wr W → Calls Try.prog 15 #[.pointer (some ⟨q, 0, none⟩), .int .u8 (P : Int), .int .u16 x, .agg FA] W fun en w' => en = .returned (.tuple #[.agg O, .bool b]) ∧ Below W.heap.size W w') := Lib.hid fun W hb => by
              have h := vout_any q m 8 o V P x x0 x1 x2 x3 x4 x5 x6 x7 x8 x9 x10 x11 xt xp xv xy xd W (APR.out.later hb).ts (by omega) HXB.out HWF.out (by have := HXD.out; omega)
              rw [hO] at h; rw [HFA.out]; exact h
            clear hO hcc ap hx
            go_upto_region 13 with fail
            go_cut [15] (fun s15 wx => s15 = .bool b ∧ Hid (Below wr.heap.size wr wx))
            case first =>
              have OI := Lib.hid (frame_info HOI.out.1)
              have OO := Lib.hid HOI.out.1.one
              have T := Lib.hid (Below.refl wr.heap.size wr).drew
              have SAT : Hid (∀ W, Below wr.heap.size wr W → (W.cell? ⟨g, j, none⟩ = some (.int .u16 x) ∧ W.rangeAt f 0 FA.toList)) := Lib.hid fun W hb => ⟨HCX.out W hb, (APR.out.later hb).fb.range⟩
              refine wp_region_held_drew (S := fun W => W.cell? ⟨g, j, none⟩ = some (.int .u16 x) ∧ W.rangeAt f 0 FA.toList) (by kernel_rfl) (SAT.out _ T.out) (fun hHeld => ?_)
              refine wpAnyH_take (i := 0) (v := ?_) rfl (by kernel_rfl) (by kernel_rfl) (by kernel_rfl) (fun _ _ _ h => h) (Or.inl ⟨by rfl, ?hy0⟩) (by assumption) ?_
              case hy0 => (intro w hSw; (try dsimp only at hSw); go_simp; try with_reducible rfl)
              try simp only [Act.put, List.setIfInBounds_toArray, List.set_cons_zero, List.set_cons_succ, List.getElem_toArray, List.getElem_cons_zero, List.getElem_cons_succ]
              refine wpAnyH_take (i := 1) (v := ?_) rfl (by kernel_rfl) (by kernel_rfl) (by kernel_rfl) (fun _ _ _ h => h) (Or.inl ⟨by rfl, ?hy1⟩) (by assumption) ?_
              case hy1 => (intro w hSw; (try dsimp only at hSw); go_simp; try with_reducible rfl)
              try simp only [Act.put, List.setIfInBounds_toArray, List.set_cons_zero, List.set_cons_succ, List.getElem_toArray, List.getElem_cons_zero, List.getElem_cons_succ]
              refine wpAnyH_take (i := 2) (v := ?_) rfl (by kernel_rfl) (by kernel_rfl) (by kernel_rfl) (fun _ _ _ h => h) (Or.inl ⟨by rfl, ?hy2⟩) (by assumption) ?_
              case hy2 => (intro w hSw; (try dsimp only at hSw); go_simp; try with_reducible rfl)
              try simp only [Act.put, List.setIfInBounds_toArray, List.set_cons_zero, List.set_cons_succ, List.getElem_toArray, List.getElem_cons_zero, List.getElem_cons_succ]
              refine wpAnyH_take (i := 3) (v := ?_) rfl (by kernel_rfl) (by kernel_rfl) (by kernel_rfl) (fun _ _ _ h => h) (Or.inl ⟨by rfl, ?hy3⟩) (by assumption) ?_
              case hy3 => (intro w hSw; (try dsimp only at hSw); go_simp; try with_reducible rfl)
              try simp only [Act.put, List.setIfInBounds_toArray, List.set_cons_zero, List.set_cons_succ, List.getElem_toArray, List.getElem_cons_zero, List.getElem_cons_succ]
              refine wpAnyH_take (i := 4) (v := ?_) rfl (by kernel_rfl) (by kernel_rfl) (by kernel_rfl) (fun _ _ _ h => h) (Or.inl ⟨by rfl, ?hy4⟩) (by assumption) ?_
              case hy4 => (intro w hSw; (try dsimp only at hSw); go_simp; try with_reducible rfl)
              try simp only [Act.put, List.setIfInBounds_toArray, List.set_cons_zero, List.set_cons_succ, List.getElem_toArray, List.getElem_cons_zero, List.getElem_cons_succ]
              refine wpAnyH_take (i := 5) (v := ?_) rfl (by kernel_rfl) (by kernel_rfl) (by kernel_rfl) (fun _ _ _ h => h) (Or.inl ⟨by rfl, ?hy5⟩) (by assumption) ?_
              case hy5 => (intro w hSw; (try dsimp only at hSw); go_simp; try with_reducible rfl)
              try simp only [Act.put, List.setIfInBounds_toArray, List.set_cons_zero, List.set_cons_succ, List.getElem_toArray, List.getElem_cons_zero, List.getElem_cons_succ]
              refine wpAnyH_take (i := 6) (v := .agg FA.toList.toArray) rfl (by kernel_rfl) (by kernel_rfl) (by kernel_rfl) (fun _ _ _ h => h) (yieldsIf_load_mid (by rfl) 26 (.tmp 5) rfl f 0 rfl FA.toList _ (fun w h => h.2) Try.underlying26 rfl HIL.out) (by assumption) ?_
              try simp only [Act.put, List.setIfInBounds_toArray, List.set_cons_zero, List.set_cons_succ, List.toArray_toList, List.getElem_toArray, List.getElem_cons_zero, List.getElem_cons_succ]
              refine wpAnyH_ready (rs := [7, 11]) (by kernel_rfl) (by simp) (AllReadyH.cons rfl (fun K hK => ?main13) (AllReadyH.cons rfl (fun K hK => ?side13) AllReadyH.nil))
              case side13 =>
                (go_simp; have HB14 := Lib.hid (show wr.heap.size ≤ wr.heap.size from T.out.size); have Z := Lib.hid ((GB.new 26 wr #[.int .u8 0, .int .u8 0, .int .u8 0, .int .u8 0, .int .u8 0, .int .u8 0, .int .u8 0, .int .u8 0, .int .u8 0, .int .u8 0, .int .u8 0, .int .u8 0, .bool false, .int .u8 0, .int .u16 0, .int .u16 0, .string { data := #[] }]).drew); have T := Lib.hid (((Below.refl wr.heap.size wr).alloc ((Below.refl wr.heap.size wr).size) (.cells #[.int .u8 0, .int .u8 0, .int .u8 0, .int .u8 0, .int .u8 0, .int .u8 0, .int .u8 0, .int .u8 0, .int .u8 0, .int .u8 0, .int .u8 0, .int .u8 0, .bool false, .int .u8 0, .int .u16 0, .int .u16 0, .string { data := #[] }] 26)).drew); refine hK.out _ _ (SAT.out _ T.out) (fun hHeld => ?_); clear hK K; try simp only [Act.put, List.setIfInBounds_toArray, List.set_cons_zero, List.set_cons_succ, List.getElem_toArray, List.getElem_cons_zero, List.getElem_cons_succ])
                refine wpAnyH_ready (rs := [7]) (by kernel_rfl) (by simp) (AllReadyH.cons rfl (fun K hK => ?_) AllReadyH.nil)
                (go_simp; go_at_call 15; (with_reducible refine (OUT.out _ T.out).mono ?_); rintro en' wx7 ⟨rfl, ho_⟩; have T := Lib.hid (T.out.trans (ho_.mono T.out.size)); have Z := Lib.hid (Z.out.later ho_); clear ho_; refine hK.out _ _ (SAT.out _ T.out) (fun hHeld => ?_); clear hK K; try simp only [Act.put, List.setIfInBounds_toArray, List.set_cons_zero, List.set_cons_succ, List.getElem_toArray, List.getElem_cons_zero, List.getElem_cons_succ])
                refine wpAnyH_take (i := 8) (v := ?_) rfl (by kernel_rfl) (by kernel_rfl) (by kernel_rfl) (fun _ _ _ h => h) (Or.inl ⟨by rfl, ?hy8⟩) (by assumption) ?_
                case hy8 => (intro w hSw; (try dsimp only at hSw); go_simp; try with_reducible rfl)
                try simp only [Act.put, List.setIfInBounds_toArray, List.set_cons_zero, List.set_cons_succ, List.getElem_toArray, List.getElem_cons_zero, List.getElem_cons_succ]
                refine wpAnyH_take (i := 9) (v := ?_) rfl (by kernel_rfl) (by kernel_rfl) (by kernel_rfl) (fun _ _ _ h => h) (Or.inl ⟨by rfl, ?hy9⟩) (by assumption) ?_
                case hy9 => (intro w hSw; (try dsimp only at hSw); go_simp; try with_reducible rfl)
                try simp only [Act.put, List.setIfInBounds_toArray, List.set_cons_zero, List.set_cons_succ, List.getElem_toArray, List.getElem_cons_zero, List.getElem_cons_succ]
                refine wpAnyH_take (i := 10) (v := ?_) rfl (by kernel_rfl) (by kernel_rfl) (by kernel_rfl) (fun _ _ _ h => h) (Or.inl ⟨by rfl, ?hy10⟩) (by assumption) ?_
                case hy10 => (intro w hSw; (try dsimp only at hSw); go_simp; try with_reducible rfl)
                try simp only [Act.put, List.setIfInBounds_toArray, List.set_cons_zero, List.set_cons_succ, List.getElem_toArray, List.getElem_cons_zero, List.getElem_cons_succ]
                refine wpAnyH_ready (rs := [12]) (by kernel_rfl) (by simp) (AllReadyH.cons rfl (fun K hK => ?_) AllReadyH.nil)
                rw [if_pos (by rfl)]
                have TH := Lib.hid (Z.out.there (n := O.size) (by rw [HOI.out.1.size]; exact Nat.le_refl _))
                have T := Lib.hid (below_cellsG HB14.out O.toList 0 _ T.out)
                (with_reducible refine wp_store_mid 26 (.tmp 14) (.tmp 95) rfl wr.heap.size 0 O ?hx ?hy TH.out OI.out OO.out ?_)
                case hx => rfl
                case hy => rfl
                refine hK.out _ _ (SAT.out _ T.out) (fun hHeld => ?_)
                clear hK K
                try simp only [Act.put, List.setIfInBounds_toArray, List.set_cons_zero, List.set_cons_succ, List.getElem_toArray, List.getElem_cons_zero, List.getElem_cons_succ]
                refine wpAnyH_take (i := 13) (v := ?_) rfl (by kernel_rfl) (by kernel_rfl) (by kernel_rfl) (fun _ _ _ h => h) (Or.inl ⟨by rfl, ?hy13⟩) (by assumption) ?_
                case hy13 => (intro w hSw; (try dsimp only at hSw); go_simp; try with_reducible rfl)
                try simp only [Act.put, List.setIfInBounds_toArray, List.set_cons_zero, List.set_cons_succ, List.getElem_toArray, List.getElem_cons_zero, List.getElem_cons_succ]
                refine wpAnyH_done (by kernel_rfl) ?_ _
                go_wp2_with fail
                go_meet
                exact ⟨rfl, T⟩
              (go_simp; go_at_call 15; (with_reducible refine (OUT.out _ T.out).mono ?_); rintro en' wx7 ⟨rfl, ho_⟩; have T := Lib.hid (T.out.trans (ho_.mono T.out.size)); clear ho_; refine hK.out _ _ (SAT.out _ T.out) (fun hHeld => ?_); clear hK K; try simp only [Act.put, List.setIfInBounds_toArray, List.set_cons_zero, List.set_cons_succ, List.getElem_toArray, List.getElem_cons_zero, List.getElem_cons_succ])
              refine wpAnyH_take (i := 8) (v := ?_) rfl (by kernel_rfl) (by kernel_rfl) (by kernel_rfl) (fun _ _ _ h => h) (Or.inl ⟨by rfl, ?hy8⟩) (by assumption) ?_
              case hy8 => (intro w hSw; (try dsimp only at hSw); go_simp; try with_reducible rfl)
              try simp only [Act.put, List.setIfInBounds_toArray, List.set_cons_zero, List.set_cons_succ, List.getElem_toArray, List.getElem_cons_zero, List.getElem_cons_succ]
              refine wpAnyH_take (i := 9) (v := ?_) rfl (by kernel_rfl) (by kernel_rfl) (by kernel_rfl) (fun _ _ _ h => h) (Or.inl ⟨by rfl, ?hy9⟩) (by assumption) ?_
              case hy9 => (intro w hSw; (try dsimp only at hSw); go_simp; try with_reducible rfl)
              try simp only [Act.put, List.setIfInBounds_toArray, List.set_cons_zero, List.set_cons_succ, List.getElem_toArray, List.getElem_cons_zero, List.getElem_cons_succ]
              refine wpAnyH_take (i := 10) (v := ?_) rfl (by kernel_rfl) (by kernel_rfl) (by kernel_rfl) (fun _ _ _ h => h) (Or.inl ⟨by rfl, ?hy10⟩) (by assumption) ?_
              case hy10 => (intro w hSw; (try dsimp only at hSw); go_simp; try with_reducible rfl)
              try simp only [Act.put, List.setIfInBounds_toArray, List.set_cons_zero, List.set_cons_succ, List.getElem_toArray, List.getElem_cons_zero, List.getElem_cons_succ]
              refine wpAnyH_ready (rs := [11]) (by kernel_rfl) (by simp) (AllReadyH.cons rfl (fun K hK => ?_) AllReadyH.nil)
              (go_simp; have HB14 := Lib.hid (show wr.heap.size ≤ wx7.heap.size from T.out.size); have Z := Lib.hid ((GB.new 26 wx7 #[.int .u8 0, .int .u8 0, .int .u8 0, .int .u8 0, .int .u8 0, .int .u8 0, .int .u8 0, .int .u8 0, .int .u8 0, .int .u8 0, .int .u8 0, .int .u8 0, .bool false, .int .u8 0, .int .u16 0, .int .u16 0, .string { data := #[] }])); have T := Lib.hid ((T.out.alloc (T.out.size) (.cells #[.int .u8 0, .int .u8 0, .int .u8 0, .int .u8 0, .int .u8 0, .int .u8 0, .int .u8 0, .int .u8 0, .int .u8 0, .int .u8 0, .int .u8 0, .int .u8 0, .bool false, .int .u8 0, .int .u16 0, .int .u16 0, .string { data := #[] }] 26))); refine hK.out _ _ (SAT.out _ T.out) (fun hHeld => ?_); clear hK K; try simp only [Act.put, List.setIfInBounds_toArray, List.set_cons_zero, List.set_cons_succ, List.getElem_toArray, List.getElem_cons_zero, List.getElem_cons_succ])
              refine wpAnyH_ready (rs := [12]) (by kernel_rfl) (by simp) (AllReadyH.cons rfl (fun K hK => ?_) AllReadyH.nil)
              rw [if_pos (by rfl)]
              have TH := Lib.hid (Z.out.there (n := O.size) (by rw [HOI.out.1.size]; exact Nat.le_refl _))
              have T := Lib.hid (below_cellsG HB14.out O.toList 0 _ T.out)
              (with_reducible refine wp_store_mid 26 (.tmp 14) (.tmp 95) rfl wx7.heap.size 0 O ?hx ?hy TH.out OI.out OO.out ?_)
              case hx => rfl
              case hy => rfl
              refine hK.out _ _ (SAT.out _ T.out) (fun hHeld => ?_)
              clear hK K
              try simp only [Act.put, List.setIfInBounds_toArray, List.set_cons_zero, List.set_cons_succ, List.getElem_toArray, List.getElem_cons_zero, List.getElem_cons_succ]
              refine wpAnyH_take (i := 13) (v := ?_) rfl (by kernel_rfl) (by kernel_rfl) (by kernel_rfl) (fun _ _ _ h => h) (Or.inl ⟨by rfl, ?hy13⟩) (by assumption) ?_
              case hy13 => (intro w hSw; (try dsimp only at hSw); go_simp; try with_reducible rfl)
              try simp only [Act.put, List.setIfInBounds_toArray, List.set_cons_zero, List.set_cons_succ, List.getElem_toArray, List.getElem_cons_zero, List.getElem_cons_succ]
              refine wpAnyH_done (by kernel_rfl) ?_ _
              go_wp2_with fail
              go_meet
              exact ⟨rfl, T⟩
            case rest =>
              obtain ⟨rfl, HBC⟩ := hcut
              go_upto_region 14 with fail
              go_cut [129] (fun s129 wx => s129 = .bool false ∧ Hid (Below wr.heap.size wr wx))
              case first =>
                have cx : ∀ k : Later wc, k.out.cell? ⟨g, j, none⟩ = some (.int .u16 x) := fun k => HCX.out _ (HBC.out.trans (k.h.mono HBC.out.size))
                have HLT : Hid (∀ i : Nat, i + 1 = j → ∃ y, y < x ∧ ∀ k : Later wc, k.out.cell? ⟨g, i, none⟩ = some (.int .u16 y)) := Lib.hid fun i hi => by
                  have hi2 : i < (V.map (·.1)).length := by rw [HM.out]; omega
                  have hj2 : j < (V.map (·.1)).length := by rw [HM.out]; exact hlt
                  refine ⟨(V.map (·.1))[i], ?_, fun k => (APR.out.later (HBC.out.trans (k.h.mono HBC.out.size))).c i hi2⟩
                  have hx2 : (V.map (·.1))[j] = x := by
                    have h1 := HCX.out wr (Below.refl _ _)
                    have h2 := APR.out.c j hj2
                    rw [h2] at h1
                    exact (Value.int.inj (Option.some.inj h1)).2
                  rw [← hx2]
                  exact List.pairwise_iff_getElem.1 RI2.out i j hi2 hj2 (by omega)
                have ebd := (vGet_wf2 TS4.out.vm.wf x).1
                obtain ⟨e1, he1⟩ : ∃ e, (vGet V x).1 = e := ⟨_, rfl⟩
                have MB : ∀ k : Later wc, Calls Try.prog 19 #[.pointer (some ⟨q, 0, none⟩), .int .u16 x] k.out fun e w' => e = .returned (.int .u8 e1) ∧ k.out = w' := fun k => by
                  rw [← he1]; exact vmembers_any q m 8 o V x k.out (APR.out.later (HBC.out.trans (k.h.mono HBC.out.size))).ts HXB.out
                have HMB : b = true → memB e1 P = true := fun h => by rw [← he1]; exact HOI.out.2 h
                have HE : Hid (b = true → (P < 8 ∧ (bits .and .u8 (e1 / 2 ^ P) 1 == 0) = false)) := Lib.hid fun h => by
                  have h2 := HMB h
                  unfold memB at h2
                  rw [Bool.and_eq_true] at h2
                  rw [he1] at ebd
                  exact ⟨by simpa using h2.1, by rw [and_shr0 e1 P ebd, h2.2]; rfl⟩
                clear he1 HMB ebd HOI OUT hxv
                cases b
                · rcases j with _ | i
                  · refine wp_region_later (by kernel_rfl) (by kernel_rfl) ?_
                    repeat (go_big_quiet_step (fail))
                    refine wpQuiet_nil ?_
                    rintro _ ⟨k2, rfl⟩
                    go_wp2_with fail
                    go_meet
                    exact ⟨rfl, Lib.hid (HBC.out.trans (k2.h.mono HBC.out.size))⟩
                  · obtain ⟨y, hyx, cy⟩ := HLT.out i rfl
                    have dy : decide (x ≤ y) = false := decide_eq_false (by omega)
                    have hi0 : (0 : Int) ≤ (i : Int) := by omega
                    have HJ1 : (i : Int) + 1 < (M : Int) := by push_cast at HJ; exact HJ
                    have HJ2 : (i : Int) < (M : Int) := by omega
                    have hjb2 : (i : Int) + 1 < 1000 := by push_cast at hjb; exact hjb
                    clear hyx
                    refine wp_region_later (by kernel_rfl) (by kernel_rfl) ?_
                    repeat (go_big_quiet_step (fail))
                    refine wpQuiet_nil ?_
                    rintro _ ⟨k2, rfl⟩
                    go_wp2_with fail
                    go_meet
                    exact ⟨rfl, Lib.hid (HBC.out.trans (k2.h.mono HBC.out.size))⟩
                · obtain ⟨hp8, hb0⟩ := HE.out rfl
                  have h7 : ¬ (7 : Int) < (P : Int) := by omega
                  have d7 : decide ((7 : Int) < (P : Int)) = false := decide_eq_false h7
                  rcases j with _ | i
                  · have cx0 : ∀ k : Later wc, k.out.cell? ⟨g, 0, none⟩ = some (.int .u16 x) := cx
                    have HJ0 : (0 : Int) < (M : Int) := by simpa using HJ
                    refine wp_region_later (by kernel_rfl) (by kernel_rfl) ?_
                    repeat (go_big_quiet_step (first | (go_at_call 19; exact Calls.later_same (MB _))))
                    refine wpQuiet_nil ?_
                    rintro _ ⟨k2, rfl⟩
                    go_wp2_with fail
                    go_meet
                    exact ⟨rfl, Lib.hid (HBC.out.trans (k2.h.mono HBC.out.size))⟩
                  · obtain ⟨y, hyx, cy⟩ := HLT.out i rfl
                    have dy : decide (x ≤ y) = false := decide_eq_false (by omega)
                    have hi0 : (0 : Int) ≤ (i : Int) := by omega
                    have HJ1 : (i : Int) + 1 < (M : Int) := by push_cast at HJ; exact HJ
                    have HJ2 : (i : Int) < (M : Int) := by omega
                    have hjb2 : (i : Int) + 1 < 1000 := by push_cast at hjb; exact hjb
                    clear hyx
                    refine wp_region_later (by kernel_rfl) (by kernel_rfl) ?_
                    repeat (go_big_quiet_step (first | (go_at_call 19; exact Calls.later_same (MB _))))
                    refine wpQuiet_nil ?_
                    rintro _ ⟨k2, rfl⟩
                    go_wp2_with fail
                    go_meet
                    exact ⟨rfl, Lib.hid (HBC.out.trans (k2.h.mono HBC.out.size))⟩
              case rest =>
                obtain ⟨rfl, HBD⟩ := hcut
                go_wp2
                exact ⟨⟨j + 1, by omega, by go_num, Lib.hid (HB.out.trans (HBD.out.mono HB.out.size))⟩, by simp [intOf]; omega⟩
          · obtain rfl : j = M := by omega
            have dk : decide ((j : Int) < (j : Int)) = false := decide_eq_false (by omega)
            have d8 : decide ((j : Int) ≤ 8) = true := decide_eq_true (by have := HLEN.out; omega)
            clear hj hlt
            go_wp2_with fail
            with_reducible refine (WK.out _).mono ?_
            rintro en w9 ⟨rfl, hb9⟩
            go_wp2
            go_ret
            exact ⟨rfl, B4.out.trans ((HB.out.trans (hb9.mono HB.out.size)).mono B4.out.size)⟩
end Go.Proofs.Ytecoomkpkdapdaa
