/- law07: the walk of VlanPlays. -/
import Derived.Test.YtecoomkpkdapdaaQ15
import Derived.Test.YtecoomkpkdapdaaQ17
set_option linter.unusedVariables false
set_option linter.unusedSimpArgs false
namespace Go.Proofs.Ytecoomkpkdapdaa
open Go.RowKit

theorem wpQuiet_loadV {P : Program} {ops : Array Oper} {C : World → Prop} {Q : Act → Prop} {o : Oper} {rest : List Oper} {a : Act} (ty : TypeId) (x : Operand) (b : Nat) (A : Array Value) (hw : Region.wanted o (yielded ops a.tmps) = true) (ho : o.op = .load ty x)
    (hx : a.eval x = .pointer (some ⟨b, 0, none⟩)) (hl : ∀ w, C w → (Instr.loadAt ty (.pointer (some ⟨b, 0, none⟩))).run P w = .ok (.agg A) w) (h : wpQuiet P ops C Q rest (a.put o.dst (.agg A))) : wpQuiet P ops C Q (o :: rest) a := by
  rw [wpQuiet, if_pos hw]
  refine ⟨.agg A, fun w hc => ?_, h⟩
  unfold Oper.quietAt execOp
  simp only [ho, hx, Sem.run_bind, hl w hc, Result.andThen_ok, Sem.run_pure]
  exact ⟨rfl, rfl⟩
theorem vnew_bad (n : Int) (w : World) (hn : ¬ (1 ≤ n ∧ n ≤ 8)) : Calls Try.prog 12 #[.int .i64 n] w fun en w' => en = .returned (.tuple #[.pointer none, .int .i64 2]) ∧ Below w.heap.size w w' := by
  have hd : decide (n < 1) = true ∨ (decide (n < 1) = false ∧ decide ((8 : Int) < n) = true) := by
    by_cases h1 : n < 1
    · exact .inl (decide_eq_true h1)
    · exact .inr ⟨decide_eq_false h1, decide_eq_true (by omega)⟩
  clear hn
  rcases hd with d1 | ⟨d1, d2⟩
  all_goals
    go_enter Try.func12, Try.ntmps12
    go_wp2
    exact bodyPost_ret (v := .tuple #[.pointer none, .int .i64 2]) (by simp [results, Try.results12, go_sem]) rfl ⟨rfl, Below.refl _ _⟩
theorem vFind_at : ∀ {V : List Vn} {j : Nat} (hj : j < V.length), Rising V → vFind V V[j].1 = some V[j].2
  | x :: r, 0, _, _ => by unfold vFind; simp
  | x :: r, j + 1, hj, h => by
    unfold Rising at h
    rw [List.map_cons, List.pairwise_cons] at h
    have hj' : j < r.length := by simpa using hj
    have h2 := h.1 r[j].1 (List.mem_map_of_mem (List.getElem_mem hj'))
    unfold vFind
    have e : (x :: r)[j + 1] = r[j] := rfl
    rw [e, if_neg (by omega)]
    exact vFind_at hj' h.2
/-- What is kept: the table, the document's, the frame. -/
structure AQ (w W : World) (f r q m : Nat) (n : Int) (s : Value) (o : List Int) (V : List Vn) (A FA : Array Value) : Prop where
  ts : TS W q n m o V
  fb : GB 26 W f FA
  g : GB 43 W r A
  vs : Vs W s V
  bel : Below w.heap.size w W
theorem AQ.later {w W W' : World} {f r q m : Nat} {n : Int} {s : Value} {o : List Int} {V : List Vn} {A FA : Array Value} (h : AQ w W f r q m n s o V A FA) (hb : Below W.heap.size W W') : AQ w W' f r q m n s o V A FA :=
  ⟨h.ts.later hb, h.fb.later hb, h.g.later hb, h.vs.later vnC_len hb, h.bel.trans (hb.mono h.bel.size)⟩
set_option maxRecDepth 100000 in
set_option maxHeartbeats 16000000 in
theorem VlanPlays_walk (n : Int) (v : Value) (l : List Ac) (pt k : Int) (FA : Array Value) (w : World) (hn64 : (Lit.int .i64 n).wf = true) (hv : Rw 5 acC w v l ∧ l.length ≤ maxLen ∧ ∀ x ∈ l, x.Ok) (hpt : (Lit.int .u8 pt).wf = true) (hk : (Lit.int .u16 k).wf = true) (hA : Fr FA) :
    Calls Try.prog 4 #[.int .i64 n, v, .int .u8 pt, .int .u16 k, .agg FA] w fun en w' => en = .returned (.bool true) ∧ Below w.heap.size w w' := by
  obtain ⟨hv, hml, ok⟩ := hv
  unfold maxLen at hml
  have hpt := bounds_u8 hpt
  have hk := bounds_u16 hk
  have isA := hA.is
  obtain ⟨x0, x1, x2, x3, x4, x5, x6, x7, x8, x9, x10, x11, xt, xp, xv, xy, xd, hFA, hw, hd⟩ := hA
  unfold maxLen at hd
  have hFA' : FA = frA x0 x1 x2 x3 x4 x5 x6 x7 x8 x9 x10 x11 xt xp xv xy xd := hFA
  have WK := Lib.hid wakes07_any
  obtain ⟨P, rfl⟩ : ∃ P : Nat, pt = P := ⟨pt.toNat, by omega⟩
  have a16 : FA[16]? = some (.string (bs xd)) := by rw [hFA]; rfl
  have a12 : FA[12]? = some (.bool xt) := by rw [hFA]; rfl
  have a14 : FA[14]? = some (.int .u16 xv) := by rw [hFA]; rfl
  have HIL := Lib.hid (frame_infoL isA)
  have hsz := bs_size xd
  have hxv : 0 ≤ xv ∧ xv < 65536 := by obtain ⟨_, _, _, h4, _⟩ := hw; omega
  have HFA := Lib.hid hFA'
  have HWF := Lib.hid hw
  have HXV := Lib.hid hxv
  have HK : Hid (0 ≤ k ∧ k < 65536) := Lib.hid (by omega)
  have hv0 := hv
  obtain ⟨va, vc, rfl, _⟩ := hv0.shape
  have HVV := Lib.hid hv
  have HOK := Lib.hid ok
  clear hFA hFA' isA hv hv0 ok hw hk hn64
  go_enter Try.func4, Try.ntmps4
  go_upto_region 1 with fail
  have g0 := GB.new 26 w FA
  have b0 : Below w.heap.size w (w.alloc (.cells FA 26)) := (Below.refl _ _).alloc (Nat.le_refl _) _
  obtain ⟨w0, hw0⟩ : ∃ K, w.alloc (.cells FA 26) = K := ⟨_, rfl⟩
  rw [hw0] at g0 b0 ⊢
  obtain ⟨f, hf⟩ : ∃ K, w.heap.size = K := ⟨_, rfl⟩
  have G0 := Lib.hid (show GB 26 w0 f FA by rw [← hf]; exact g0)
  have B0 := Lib.hid b0
  rw [hf]
  clear hw0 g0 b0 hf
  have c16 := G0.out.c 16 _ a16
  by_cases h1 : 100 < l.length
  · have hL : (100 : Int) < (l.length : Int) := by omega
    obtain ⟨N, hN⟩ : ∃ N, l.length = N := ⟨_, rfl⟩
    rw [hN] at hL ⊢
    clear h1 hml
    go_wp2_with fail
    with_reducible refine (WK.out _).mono ?_
    rintro en w2 ⟨rfl, hb2⟩
    go_wp2
    go_ret
    exact ⟨rfl, B0.out.trans (hb2.mono B0.out.size)⟩
  · have hL : ¬ (100 : Int) < (l.length : Int) := by omega
    have AFT : Hid ((1 ≤ n ∧ n ≤ 8) → _) := Lib.hid fun hn => after_any n (.slice va l.length vc) l w0 hn (HVV.out.later acC_len B0.out) (by omega) HOK.out
    obtain ⟨N, hN⟩ : ∃ N, l.length = N := ⟨_, rfl⟩
    rw [hN] at hL AFT hml ⊢
    have dL : decide ((100 : Int) < (N : Int)) = false := decide_eq_false hL
    clear h1
    by_cases h2 : 2000 < xd.length
    · have hX : (2000 : Int) < (xd.length : Int) := by omega
      clear h2
      go_wp2_with fail
      with_reducible refine (WK.out _).mono ?_
      rintro en w2 ⟨rfl, hb2⟩
      go_wp2
      go_ret
      exact ⟨rfl, B0.out.trans (hb2.mono B0.out.size)⟩
    have hX : ¬ (2000 : Int) < (xd.length : Int) := by omega
    have HXD := Lib.hid h2
    clear h2
    by_cases hn : 1 ≤ n ∧ n ≤ 8
    rotate_left
    · have NB := Lib.hid (fun w => vnew_bad n w hn)
      have hdd : decide (n < 1) = true ∨ (decide (n < 1) = false ∧ decide ((8 : Int) < n) = true) := by
        by_cases h1 : n < 1
        · exact .inl (decide_eq_true h1)
        · exact .inr ⟨decide_eq_false h1, decide_eq_true (by omega)⟩
      clear hn AFT
      rcases hdd with d1 | ⟨d1, d2⟩
      all_goals
        go_wp2_with fail
        with_reducible refine (NB.out _).mono ?_
        rintro en w2 ⟨rfl, hb2⟩
        have B2 := Lib.hid (B0.out.trans (hb2.mono B0.out.size))
        clear hb2
        go_wp2_with fail
        with_reducible refine (WK.out _).mono ?_
        rintro en w3 ⟨rfl, hb3⟩
        go_wp2
        go_ret
        exact ⟨rfl, B2.out.trans (hb3.mono B2.out.size)⟩
    have AFT := Lib.hid (AFT.out hn)
    have d1 : decide (n < 1) = false := decide_eq_false (by omega)
    have d8 : decide ((8 : Int) < n) = false := decide_eq_false (by omega)
    have HN := Lib.hid hn
    clear hn
    go_wp2_with fail
    with_reducible refine AFT.out.mono ?_
    rintro en w1 ⟨q, m, s, o, V, rfl, hts, hvs, hri, hb1⟩
    have TS1 := Lib.hid hts
    have RI := Lib.hid hri
    have VS1 := Lib.hid hvs
    have G1 := Lib.hid (G0.out.later hb1)
    have B1 := Lib.hid (B0.out.trans (hb1.mono B0.out.size))
    have HAR := Lib.hid (RA_AR (n := n) (s := s) (o := o) hts.ol hvs.one)
    obtain ⟨A, hA⟩ : ∃ A, RA n s o = A := ⟨_, rfl⟩
    have a1 : Hid (A[1]? = some s) := Lib.hid (by rw [← hA]; rfl)
    rw [hA] at HAR ⊢
    have HRA := Lib.hid hA
    have HI := Lib.hid HAR.out.i
    have HTL := Lib.hid HAR.out.il
    have OC := Lib.hid HAR.out.o
    clear hts hvs hri hb1 hA AFT c16 d1 d8
    have hZ' : #[.int .i64 0, .slice none 0 0, .int .u16 0, .int .u16 0, .int .u16 0, .int .u16 0, .int .u16 0, .int .u16 0, .int .u16 0, .int .u16 0] = rZ := rfl
    have TH := Lib.hid ((GB.new 43 w1 rZ).there (n := A.size) (by rw [HAR.out.s]; exact Nat.le_refl _))
    go_upto_region 7 with ((with_reducible refine wpList_store_mid rfl 43 (.tmp 14) (.tmp 61) rfl w1.heap.size 0 A ?hx ?hy TH.out HI.out OC.out ?_); (case hx => rfl); (case hy => rfl))
    clear hZ'
    have bz : Below w1.heap.size w1 ((w1.alloc (.cells rZ 43)).setCells w1.heap.size 0 A.toList) := below_cellsG (Nat.le_refl _) _ _ _ ((Below.refl _ _).alloc (Nat.le_refl _) _)
    have gr := (GB.new 43 w1 rZ).store (A := A) (by rw [HAR.out.s]; rfl) OC.out
    have t2 : AQ w ((w1.alloc (.cells rZ 43)).setCells w1.heap.size 0 A.toList) f w1.heap.size q m n s o V A FA := ⟨TS1.out.later bz, G1.out.later bz, gr, VS1.out.later vnC_len bz, B1.out.trans (bz.mono B1.out.size)⟩
    obtain ⟨r, hr⟩ : ∃ K, w1.heap.size = K := ⟨_, rfl⟩
    obtain ⟨w2, hw2⟩ : ∃ K, (w1.alloc (.cells rZ 43)).setCells w1.heap.size 0 A.toList = K := ⟨_, rfl⟩
    rw [hw2, hr] at t2
    rw [hw2, hr]
    have S := Lib.hid t2
    clear hw2 hr bz gr t2 TS1 G1 B1 VS1 TH HI OC
    have VL := vlans_any q m n o V w2 S.out.ts RI.out
    go_wp2_with fail
    with_reducible refine VL.mono ?_
    rintro en w4 ⟨vs, rfl, hus, hb4⟩
    have S := Lib.hid (S.out.later hb4)
    obtain ⟨ga, gc, rfl, hgc⟩ := hus.cells
    have HGC := Lib.hid hgc
    obtain ⟨sa, sc, hse, hsc⟩ := S.out.vs.shape
    subst hse
    have HSC := Lib.hid hsc
    have HLEN : Hid (V.length ≤ 8) := Lib.hid S.out.ts.vl
    rw [List.length_map]
    obtain ⟨M, hM⟩ : ∃ M, V.length = M := ⟨_, rfl⟩
    have HM := Lib.hid hM
    have a1 : Hid (A[1]? = some (.slice sa M sc)) := Lib.hid (by rw [← hM]; exact a1.out)
    rw [hM] at HLEN ⊢
    clear hb4 hus hgc VL hM hsc
    go_upto_region 10 with fail
    go_cut [81] (fun s81 wx => s81 = .bool false ∧ Hid (Below w4.heap.size w4 wx))
    case first =>
      obtain ⟨e1, he1⟩ : ∃ e, (vGet V k).1 = e := ⟨_, rfl⟩
      have MB : ∀ kk : Later w4, Calls Try.prog 19 #[.pointer (some ⟨q, 0, none⟩), .int .u16 k] kk.out fun e w' => e = .returned (.int .u8 e1) ∧ kk.out = w' := fun kk => by
        rw [← he1]; exact vmembers_any q m n o V k kk.out (S.out.later kk.h).ts HK.out
      have MR : ∀ kk : Later w4, Calls Try.prog 20 #[.agg A, .int .u16 k] kk.out fun e w' => e = .returned (.int .u8 e1) ∧ Below kk.out.heap.size kk.out w' := fun kk => by
        rw [← he1, ← HRA.out]; exact refMembers_any n (.slice sa V.length sc) o V k kk.out (S.out.later kk.h).vs (by have := HLEN.out; rw [HM.out]; omega) S.out.ts.ol
      have cr : ∀ kk : Later w4, kk.out.cell? ⟨r, 1, none⟩ = some (.slice sa M sc) := fun kk => (S.out.later kk.h).g.c 1 _ a1.out
      have lr : ∀ kk : Later w4, (Instr.loadAt 43 (.pointer (some ⟨r, 0, none⟩))).run Try.prog kk.out = .ok (.agg A) kk.out := fun kk => by
        have := run_loadAt_mid (P := Try.prog) kk.out r 0 43 A.toList _ (S.out.later kk.h).g.range Try.underlying43 rfl HTL.out
        simpa using this
      clear he1
      refine wp_region_later (by kernel_rfl) (by kernel_rfl) ?_
      iterate 10 (go_big_quiet_step (first
        | (go_at_call 19; exact Calls.later_same (MB _))))
      refine wpQuiet_loadV 43 (.tmp 14) r A rfl rfl rfl (by rintro _ ⟨kk, rfl⟩; exact lr kk) ?_
      go_simp
      repeat (go_big_quiet_step (first
        | (go_at_call 20; exact Calls.later (MR _))))
      refine wpQuiet_nil ?_
      intro kk
      go_wp2_with fail
      go_meet
      exact ⟨rfl, Lib.hid kk.h⟩
    case rest =>
      obtain ⟨rfl, HB⟩ := hcut
      have S := Lib.hid (S.out.later HB.out)
      go_wp2_with fail
      go_loopw [17] (fun i wr => ∃ j : Nat, j ≤ M ∧ i = .int .i64 j ∧ Hid (Below wc.heap.size wc wr)) (fun i _ => M - (intOf i).toNat)
      case atStart => exact ⟨0, by omega, rfl, Lib.hid (Below.refl _ _)⟩
      case round =>
        obtain ⟨j, hj, rfl, HBW⟩ := hrel
        have hjb : (j : Int) < 1000 := by have := HLEN.out; omega
        by_cases hlt : j < M
        · have dk : decide ((j : Int) < (M : Int)) = true := decide_eq_true (by omega)
          have HJ : (j : Int) < (M : Int) := by omega
          have hj2 : j < V.length := by rw [HM.out]; exact hlt
          obtain ⟨g, rfl, hcc⟩ := HGC.out.resolve_left (by intro h; have := congrArg List.length h; simp at this; rw [this] at hj2; simp at hj2)
          obtain ⟨b, off, rfl, hvv⟩ := HSC.out.resolve_left (by intro h; rw [h] at hj2; simp at hj2)
          have hk1 := hcc j (by rw [List.length_map]; exact hj2)
          rw [List.getElem_map] at hk1
          have hv0 := hvv j hj2 0 (by decide)
          have hv1 := hvv j hj2 1 (by decide)
          have hfa := vFind_at hj2 RI.out
          have hxb := S.out.ts.vm.kb V[j].1 (List.mem_map_of_mem (List.getElem_mem hj2))
          obtain ⟨x, hx⟩ : ∃ x, V[j] = x := ⟨_, rfl⟩
          rw [hx] at hk1 hv0 hv1 hfa hxb
          obtain ⟨y1, y2, y3⟩ := x
          simp only at hk1 hfa hxb
          have hv0' : w4.cell? ⟨b, off + j * 3, none⟩ = some (.int .u16 y1) := hv0
          have hv1' : w4.cell? ⟨b, off + j * 3 + 1, none⟩ = some (.int .u8 y2) := hv1
          have toL : ∀ kk : Later wr, Below w4.heap.size w4 kk.out := fun kk => HB.out.trans ((HBW.out.trans (kk.h.mono HBW.out.size)).mono HB.out.size)
          have ck : ∀ kk : Later wr, kk.out.cell? ⟨g, j, none⟩ = some (.int .u16 y1) := fun kk => ((toL kk).cell (World.block_lt_of_cell? w4 _ hk1)).trans hk1
          have cv0 : ∀ kk : Later wr, kk.out.cell? ⟨b, off + j * 3, none⟩ = some (.int .u16 y1) := fun kk => ((toL kk).cell (World.block_lt_of_cell? w4 _ hv0')).trans hv0'
          have cv1 : ∀ kk : Later wr, kk.out.cell? ⟨b, off + j * 3 + 1, none⟩ = some (.int .u8 y2) := fun kk => ((toL kk).cell (World.block_lt_of_cell? w4 _ hv1')).trans hv1'
          have cr : ∀ kk : Later wr, kk.out.cell? ⟨r, 1, none⟩ = some (.slice (some ⟨b, off, none⟩) M sc) := fun kk => (S.out.later (HBW.out.trans (kk.h.mono HBW.out.size))).g.c 1 _ a1.out
          have MB : ∀ kk : Later wr, Calls Try.prog 19 #[.pointer (some ⟨q, 0, none⟩), .int .u16 y1] kk.out fun e w' => e = .returned (.int .u8 y2) ∧ kk.out = w' := fun kk => by
            have h := vmembers_any q m n o V y1 kk.out (S.out.later (HBW.out.trans (kk.h.mono HBW.out.size))).ts hxb
            have e : (vGet V y1).1 = y2 := by unfold vGet; rw [hfa]; rfl
            rw [e] at h; exact h
          clear hcc hvv hk1 hv0 hv1 hfa hxb hx hv0' hv1' toL
          go_upto_region 15 with fail
          go_cut [113] (fun s113 wx => s113 = .bool false ∧ Hid (Below wr.heap.size wr wx))
          case first =>
            refine wp_region_later (by kernel_rfl) (by kernel_rfl) ?_
            repeat (go_big_quiet_step (first | (go_at_call 19; exact Calls.later_same (MB _))))
            refine wpQuiet_nil ?_
            rintro _ ⟨kk, rfl⟩
            go_wp2_with fail
            go_meet
            exact ⟨rfl, Lib.hid kk.h⟩
          case rest =>
            obtain ⟨rfl, HBD⟩ := hcut
            clear ck cv0 cv1 cr MB
            go_wp2
            exact ⟨⟨j + 1, by omega, by go_num, Lib.hid (HBW.out.trans (HBD.out.mono HBW.out.size))⟩, by simp [intOf]; omega⟩
        · obtain rfl : j = M := by omega
          have dk : decide ((j : Int) < (j : Int)) = false := decide_eq_false (by omega)
          have S := Lib.hid (S.out.later HBW.out)
          clear hj hlt
          obtain ⟨vv, Ri, hR⟩ : ∃ x y, inF n o V P xt xv = (x, y) := ⟨_, _, rfl⟩
          have IN : Hid (∀ W, AQ w W f r q m n (.slice sa V.length sc) o V A FA → Calls Try.prog 16 #[.pointer (some ⟨q, 0, none⟩), .int .u8 (P : Int), .agg FA] W fun en w' => en = .returned (.tuple #[.int .u16 vv, .bool Ri]) ∧ Below W.heap.size W w') := Lib.hid fun W h => by
            have h2 := vin_A FA q m n o V P xt xv W a12 a14 h.ts (by omega) hxv
            rw [hR] at h2; exact h2
          have IR : Hid (∀ W, AQ w W f r q m n (.slice sa V.length sc) o V A FA → Calls Try.prog 21 #[.agg A, .int .u8 (P : Int), .agg FA] W fun en w' => en = .returned (.tuple #[.int .u16 vv, .bool Ri]) ∧ Below W.heap.size W w') := Lib.hid fun W h => by
            have h2 := refIn_any FA n (.slice sa V.length sc) o V P xt xv W a12 a14 h.vs (by have := h.ts.vl; omega) h.ts.vm.wf h.ts.ol HN.out.2 (by omega) hxv
            rw [hR, HRA.out] at h2; exact h2
          obtain ⟨O, Bo, hO⟩ : ∃ O b, outF V P k x0 x1 x2 x3 x4 x5 x6 x7 x8 x9 x10 x11 xt xp xv xy xd = (O, b) := ⟨_, _, rfl⟩
          have HOI := (outF_is V P k x0 x1 x2 x3 x4 x5 x6 x7 x8 x9 x10 x11 xt xp xv xy xd).1
          rw [hO] at HOI
          have HOI := Lib.hid HOI
          have OU : Hid (∀ W, AQ w W f r q m n (.slice sa V.length sc) o V A FA → Calls Try.prog 15 #[.pointer (some ⟨q, 0, none⟩), .int .u8 (P : Int), .int .u16 k, .agg FA] W fun en w' => en = .returned (.tuple #[.agg O, .bool Bo]) ∧ Below W.heap.size W w') := Lib.hid fun W h => by
            have h2 := vout_any q m n o V P k x0 x1 x2 x3 x4 x5 x6 x7 x8 x9 x10 x11 xt xp xv xy xd W h.ts (by omega) HK.out HWF.out (by have := HXD.out; omega)
            rw [hO] at h2; rw [HFA.out]; exact h2
          have OR_ : Hid (∀ W, AQ w W f r q m n (.slice sa V.length sc) o V A FA → Calls Try.prog 22 #[.agg A, .int .u8 (P : Int), .int .u16 k, .agg FA] W fun en w' => en = .returned (.tuple #[.agg O, .bool Bo]) ∧ Below W.heap.size W w') := Lib.hid fun W h => by
            have h2 := refOut_any n (.slice sa V.length sc) o V P k x0 x1 x2 x3 x4 x5 x6 x7 x8 x9 x10 x11 xt xp xv xy xd W h.vs (by have := h.ts.vl; omega) h.ts.vm.wf h.ts.ol (by omega) HK.out HWF.out (by have := HXD.out; omega)
            rw [hO, HRA.out] at h2; rw [HFA.out]; exact h2
          have OI := Lib.hid (frame_info HOI.out)
          have OIL := Lib.hid (frame_infoL HOI.out)
          have OO := Lib.hid HOI.out.one
          have eqO : ∀ W : World, (binOp .eql 26 (.agg O) (.agg O)).run Try.prog W = .ok (.bool true) W := fun W => run_eql_frame O HOI.out W
          have hg := eqGuard_fr
          clear hR hO hxv
          go_wp2_with ((with_reducible refine wpList_load_mid rfl 26 (.tmp 9) rfl f 0 ?hx FA.toList _ S.out.fb.range Try.underlying26 ?hu HIL.out ?_); (case hx => rfl); (case hu => rfl))
          with_reducible refine (IN.out _ S.out).mono ?_
          rintro en w5 ⟨rfl, hb5⟩
          have S := Lib.hid (S.out.later hb5)
          clear hb5
          go_wp2_with (first | ((with_reducible refine wpList_load_mid rfl 43 (.tmp 14) rfl r 0 ?hx A.toList _ S.out.g.range Try.underlying43 ?hu HTL.out ?_); (case hx => rfl); (case hu => rfl)) | ((with_reducible refine wpList_load_mid rfl 26 (.tmp 9) rfl f 0 ?hx FA.toList _ S.out.fb.range Try.underlying26 ?hu HIL.out ?_); (case hx => rfl); (case hu => rfl)))
          with_reducible refine (IR.out _ S.out).mono ?_
          rintro en w6 ⟨rfl, hb6⟩
          have S := Lib.hid (S.out.later hb6)
          clear hb6
          go_wp2_with ((with_reducible refine wpList_load_mid rfl 26 (.tmp 9) rfl f 0 ?hx FA.toList _ S.out.fb.range Try.underlying26 ?hu HIL.out ?_); (case hx => rfl); (case hu => rfl))
          with_reducible refine (OU.out _ S.out).mono ?_
          rintro en w7 ⟨rfl, hb7⟩
          have S := Lib.hid (S.out.later hb7)
          clear hb7
          have gz := GB.new 26 w7 #[.int .u8 0, .int .u8 0, .int .u8 0, .int .u8 0, .int .u8 0, .int .u8 0, .int .u8 0, .int .u8 0, .int .u8 0, .int .u8 0, .int .u8 0, .int .u8 0, .bool false, .int .u8 0, .int .u16 0, .int .u16 0, .string { data := #[] }]
          have TH := Lib.hid (gz.there (n := O.size) (by rw [HOI.out.size]; exact Nat.le_refl _))
          go_upto_region 20 with ((with_reducible refine wpList_store_mid rfl 26 (.tmp 22) (.tmp 134) rfl w7.heap.size 0 O ?hx ?hy TH.out OI.out OO.out ?_); (case hx => rfl); (case hy => rfl))
          have gx := gz.store (A := O) (by rw [HOI.out.size]; rfl) OO.out
          have bz : Below w7.heap.size w7 ((w7.alloc (.cells #[.int .u8 0, .int .u8 0, .int .u8 0, .int .u8 0, .int .u8 0, .int .u8 0, .int .u8 0, .int .u8 0, .int .u8 0, .int .u8 0, .int .u8 0, .int .u8 0, .bool false, .int .u8 0, .int .u16 0, .int .u16 0, .string { data := #[] }] 26)).setCells w7.heap.size 0 O.toList) := below_cellsG (Nat.le_refl _) _ _ _ ((Below.refl _ _).alloc (Nat.le_refl _) _)
          have S := Lib.hid (S.out.later bz)
          obtain ⟨p1, hp1⟩ : ∃ K, w7.heap.size = K := ⟨_, rfl⟩
          obtain ⟨w8, hw8⟩ : ∃ K, (w7.alloc (.cells #[.int .u8 0, .int .u8 0, .int .u8 0, .int .u8 0, .int .u8 0, .int .u8 0, .int .u8 0, .int .u8 0, .int .u8 0, .int .u8 0, .int .u8 0, .int .u8 0, .bool false, .int .u8 0, .int .u16 0, .int .u16 0, .string { data := #[] }] 26)).setCells w7.heap.size 0 O.toList = K := ⟨_, rfl⟩
          rw [hw8] at gx S
          rw [hw8]
          rw [hp1] at gx ⊢
          have GX1 := Lib.hid gx
          clear gz TH gx bz hp1 hw8
          go_wp2_with (first | ((with_reducible refine wpList_load_mid rfl 43 (.tmp 14) rfl r 0 ?hx A.toList _ S.out.g.range Try.underlying43 ?hu HTL.out ?_); (case hx => rfl); (case hu => rfl)) | ((with_reducible refine wpList_load_mid rfl 26 (.tmp 9) rfl f 0 ?hx FA.toList _ S.out.fb.range Try.underlying26 ?hu HIL.out ?_); (case hx => rfl); (case hu => rfl)))
          with_reducible refine (OR_.out _ S.out).mono ?_
          rintro en w9 ⟨rfl, hb9⟩
          have S := Lib.hid (S.out.later hb9)
          have GX1 := Lib.hid (GX1.out.later hb9)
          clear hb9
          have gz := GB.new 26 w9 #[.int .u8 0, .int .u8 0, .int .u8 0, .int .u8 0, .int .u8 0, .int .u8 0, .int .u8 0, .int .u8 0, .int .u8 0, .int .u8 0, .int .u8 0, .int .u8 0, .bool false, .int .u8 0, .int .u16 0, .int .u16 0, .string { data := #[] }]
          have TH := Lib.hid (gz.there (n := O.size) (by rw [HOI.out.size]; exact Nat.le_refl _))
          go_upto_region 21 with ((with_reducible refine wpList_store_mid rfl 26 (.tmp 24) (.tmp 142) rfl w9.heap.size 0 O ?hx ?hy TH.out OI.out OO.out ?_); (case hx => rfl); (case hy => rfl))
          have gx := gz.store (A := O) (by rw [HOI.out.size]; rfl) OO.out
          have bz : Below w9.heap.size w9 ((w9.alloc (.cells #[.int .u8 0, .int .u8 0, .int .u8 0, .int .u8 0, .int .u8 0, .int .u8 0, .int .u8 0, .int .u8 0, .int .u8 0, .int .u8 0, .int .u8 0, .int .u8 0, .bool false, .int .u8 0, .int .u16 0, .int .u16 0, .string { data := #[] }] 26)).setCells w9.heap.size 0 O.toList) := below_cellsG (Nat.le_refl _) _ _ _ ((Below.refl _ _).alloc (Nat.le_refl _) _)
          have S := Lib.hid (S.out.later bz)
          have GX1 := Lib.hid (GX1.out.later bz)
          obtain ⟨p2, hp2⟩ : ∃ K, w9.heap.size = K := ⟨_, rfl⟩
          obtain ⟨w10, hw10⟩ : ∃ K, (w9.alloc (.cells #[.int .u8 0, .int .u8 0, .int .u8 0, .int .u8 0, .int .u8 0, .int .u8 0, .int .u8 0, .int .u8 0, .int .u8 0, .int .u8 0, .int .u8 0, .int .u8 0, .bool false, .int .u8 0, .int .u16 0, .int .u16 0, .string { data := #[] }] 26)).setCells w9.heap.size 0 O.toList = K := ⟨_, rfl⟩
          rw [hw10] at gx S GX1
          rw [hw10]
          rw [hp2] at gx ⊢
          have GX2 := Lib.hid gx
          clear gz TH gx bz hp2 hw10
          go_wp2_with (first | ((with_reducible refine wpList_load_gH ?hw 26 (.tmp 22) rfl p1 0 ?hx O.toList _ GX1.out.range Try.underlying26 ?hu OIL.out ?_); (case hw => rfl); (case hx => rfl); (case hu => rfl)) | ((with_reducible refine wpList_load_gH ?hw 26 (.tmp 24) rfl p2 0 ?hx O.toList _ GX2.out.range Try.underlying26 ?hu OIL.out ?_); (case hw => rfl); (case hx => rfl); (case hu => rfl)))
          with_reducible refine (WK.out _).mono ?_
          rintro en w11 ⟨rfl, hb11⟩
          go_wp2
          go_ret
          exact ⟨rfl, S.out.bel.trans (hb11.mono S.out.bel.size)⟩
end Go.Proofs.Ytecoomkpkdapdaa
