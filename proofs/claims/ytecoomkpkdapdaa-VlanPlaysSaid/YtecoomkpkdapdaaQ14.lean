/- law07: the walk of after. -/
import Derived.Test.YtecoomkpkdapdaaQ13
set_option linter.unusedVariables false
set_option linter.unusedSimpArgs false
namespace Go.Proofs.Ytecoomkpkdapdaa
open Go.RowKit

theorem rising_drop {V : List Vn} (h : Rising V) (k : Int) : Rising (dropV V k) := by
  unfold dropV; split
  · exact h.del k
  · exact h
theorem rising_set {V : List Vn} (h : Rising V) (n k a b : Int) : Rising (setV n V k a b) := by
  unfold setV; split
  · exact h.put _
  · exact h
theorem ownO_len {n : Int} {o : List Int} {p : Nat} {k : Int} (h : o.length = 8) : (ownO n o p k).length = 8 := by
  unfold ownO; split
  · rw [List.length_set]; exact h
  · exact h
/-- A result that is a value, a block and a value. -/
theorem res_three {fn : Func} {ty : TypeId} {d : TypeDesc} {p u x : Nat} (hf : fn.results = #[.tmp x, .cell p ty, .tmp u]) (hd : (match d with | .struct _ | .array _ _ => true | _ => false) = true) (hu : Try.prog.underlying ty = some d) (tmps : Array Value) (W : World) (b : Nat) (A : Array Value) (h2 : tmps.getD p undef = .pointer (some ⟨b, 0, none⟩)) (hg : GB ty W b A)
    (hi : (Try.prog.info? ty).map (·.size) = some A.size) : (results fn tmps).run Try.prog W = .ok (.tuple #[tmps.getD x undef, .agg A, tmps.getD u undef]) W := by
  have h3 : tmps[p]?.getD undef = .pointer (some ⟨b, 0, none⟩) := by simpa using h2
  simp only [results, hf]
  simp [h3, asAddr, run_loadVar_row W b ty ty A (0, 0) _ hg hu (by cases d <;> first | rfl | exact hd) hi]
set_option maxRecDepth 100000 in
set_option maxHeartbeats 16000000 in
theorem after_any (n : Int) (v : Value) (l : List Ac) (w : World) (hn : 1 ≤ n ∧ n ≤ 8) (hv : Rw 5 acC w v l) (hl : l.length ≤ 100) (ok : ∀ x ∈ l, x.Ok) : Calls Try.prog 17 #[.int .i64 n, v] w fun en w' => ∃ q m s o V, en = .returned (.tuple #[.pointer (some ⟨q, 0, none⟩), .agg (RA n s o), .bool true]) ∧ TS w' q n m o V ∧ Vs w' s V ∧ Rising V ∧ Below w.heap.size w w' := by
  obtain ⟨a, c, rfl, hc⟩ := hv.shape
  have hZ' : #[.int .i64 0, .slice none 0 0, .int .u16 0, .int .u16 0, .int .u16 0, .int .u16 0, .int .u16 0, .int .u16 0, .int .u16 0, .int .u16 0] = rZ := rfl
  have HC := Lib.hid hc
  have HOK := Lib.hid ok
  have HN := Lib.hid hn
  have HLL := Lib.hid hl
  clear hc hv ok
  go_enter Try.func17, Try.ntmps17
  go_upto_region 1 with fail
  have z0 := GB.new 43 w rZ
  have b0 : Below w.heap.size w (w.alloc (.cells rZ 43)) := (Below.refl _ _).alloc (Nat.le_refl _) _
  have hsz : w.heap.size < (w.alloc (.cells rZ 43)).heap.size := by simp
  clear hZ'
  obtain ⟨w0, hw0⟩ : ∃ K, w.alloc (.cells rZ 43) = K := ⟨_, rfl⟩
  rw [hw0] at z0 b0 hsz ⊢
  have Z0 := Lib.hid z0
  have B0 := Lib.hid b0
  have S0 := Lib.hid hsz
  clear hw0 z0 b0 hsz
  go_wp2_with fail
  with_reducible refine (vnew_any n _ HN.out).mono ?_
  rintro en w1 ⟨q, m, rfl, hts, hb1, hq, hm⟩
  have TS1 := Lib.hid hts
  have Z1 := Lib.hid (Z0.out.later hb1)
  have B1 := Lib.hid (B0.out.trans (hb1.mono B0.out.size))
  have HQ := Lib.hid (And.intro hq hm)
  clear hts hb1 Z0 B0 hq hm
  go_upto_region 3 with fail
  have hg := GB.new 43 w1 (RA n (.slice none 0 0) [0, 0, 0, 0, 0, 0, 0, 0])
  have bb : Below w1.heap.size w1 (w1.alloc (.cells (RA n (.slice none 0 0) [0, 0, 0, 0, 0, 0, 0, 0]) 43)) := (Below.refl _ _).alloc (Nat.le_refl _) _
  have t0 : AF w (w1.alloc (.cells (RA n (.slice none 0 0) [0, 0, 0, 0, 0, 0, 0, 0]) 43)) w.heap.size q m w1.heap.size n (.slice none 0 0) [0, 0, 0, 0, 0, 0, 0, 0] [] := by
    have h1 := TS1.out.tb.lt
    have h2 := TS1.out.vm.lt
    have h3 := Z1.out.lt
    have h4 := S0.out
    have h5 := HQ.out
    exact ⟨TS1.out.later bb, Rw.nil _, hg, Z1.out.later bb, List.Pairwise.nil, B1.out.trans (bb.mono B1.out.size), by omega, by omega, by omega, by omega, by omega, Nat.le_refl _, by omega, by omega, by omega⟩
  obtain ⟨w2, hw2⟩ : ∃ K, w1.alloc (.cells (RA n (.slice none 0 0) [0, 0, 0, 0, 0, 0, 0, 0]) 43) = K := ⟨_, rfl⟩
  rw [hw2] at t0
  have hw2' : w1.alloc (.cells #[.int .i64 n, .slice none 0 0, .int .u16 0, .int .u16 0, .int .u16 0, .int .u16 0, .int .u16 0, .int .u16 0, .int .u16 0, .int .u16 0] 43) = w2 := hw2
  rw [hw2']
  have T0 := Lib.hid t0
  obtain ⟨r, hr⟩ : ∃ K, w1.heap.size = K := ⟨_, rfl⟩
  rw [hr] at T0 ⊢
  obtain ⟨zb, hzb⟩ : ∃ K, w.heap.size = K := ⟨_, rfl⟩
  have HZB := Lib.hid hzb
  clear hg bb t0 hw2 hw2' hr TS1 Z1 B1 S0 HQ
  have T0 : Hid (AF w w2 zb q m r n (.slice none 0 0) [0, 0, 0, 0, 0, 0, 0, 0] []) := Lib.hid (by rw [← hzb]; exact T0.out)
  rw [hzb]
  clear hzb
  go_wp2_with fail
  go_loopw [10] (fun i wr => ∃ (j : Nat) (s : Value) (o : List Int) (V : List Vn), j ≤ l.length ∧ i = .int .i64 j ∧ Hid (AF w wr zb q m r n s o V)) (fun i _ => l.length - (intOf i).toNat)
  case atStart => exact ⟨0, _, _, _, by omega, rfl, T0⟩
  case round =>
    obtain ⟨j, s, o, V, hj, rfl, S⟩ := hrel
    have HAR := Lib.hid (RA_AR (n := n) (s := s) (o := o) S.out.ts.ol S.out.vs.one)
    have HI := Lib.hid HAR.out.i
    have HIL := Lib.hid HAR.out.il
    by_cases hlt : j < l.length
    · have dk : decide ((j : Int) < (l.length : Int)) = true := decide_eq_true (by omega)
      have hjb : (j : Int) < 1000 := by have := HLL.out; omega
      obtain ⟨b, off, rfl, hcc⟩ := HC.out.resolve_left (by intro h; rw [h] at hlt; simp at hlt)
      have hc0 := hcc j hlt
      have hok := HOK.out l[j] (List.getElem_mem hlt)
      obtain ⟨x, hx⟩ : ∃ x, l[j] = x := ⟨_, rfl⟩
      rw [hx] at hc0 hok
      obtain ⟨xd, xk, xa, xb, xp⟩ := x
      have hbel := S.out.bel
      have r0 : wr.cell? ⟨b, off + j * 5, none⟩ = some (.int .u8 xd) := (hbel.cell (World.block_lt_of_cell? w _ (hc0 0 (by decide)))).trans (hc0 0 (by decide))
      have r1 : wr.cell? ⟨b, off + j * 5 + 1, none⟩ = some (.int .u16 xk) := (hbel.cell (World.block_lt_of_cell? w _ (hc0 1 (by decide)))).trans (hc0 1 (by decide))
      have r2 : wr.cell? ⟨b, off + j * 5 + 2, none⟩ = some (.int .u8 xa) := (hbel.cell (World.block_lt_of_cell? w _ (hc0 2 (by decide)))).trans (hc0 2 (by decide))
      have r3 : wr.cell? ⟨b, off + j * 5 + 3, none⟩ = some (.int .u8 xb) := (hbel.cell (World.block_lt_of_cell? w _ (hc0 3 (by decide)))).trans (hc0 3 (by decide))
      have r4 : wr.cell? ⟨b, off + j * 5 + 4, none⟩ = some (.int .u8 (xp : Int)) := (hbel.cell (World.block_lt_of_cell? w _ (hc0 4 (by decide)))).trans (hc0 4 (by decide))
      have HX := Lib.hid hok
      have HJ : (j : Int) < l.length := by omega
      obtain ⟨N, hN⟩ : ∃ N, l.length = N := ⟨_, rfl⟩
      rw [hN] at dk HJ hlt hj ⊢
      clear hcc hc0 hok hx hbel
      go_upto_region 9 with fail
      have gf := GB.new 116 wr #[.int .u8 xd, .int .u16 xk, .int .u8 xa, .int .u8 xb, .int .u8 (xp : Int)]
      have bb : Below wr.heap.size wr (wr.alloc (.cells #[.int .u8 xd, .int .u16 xk, .int .u8 xa, .int .u8 xb, .int .u8 (xp : Int)] 116)) := (Below.refl _ _).alloc (Nat.le_refl _) _
      have HF0 : Hid (wr.heap.size ≠ m ∧ wr.heap.size ≠ q ∧ wr.heap.size ≠ r) := Lib.hid (by
        have h1 := S.out.ts.vm.lt
        have h2 := S.out.ts.tb.lt
        have h3 := S.out.g.lt
        omega)
      have S := Lib.hid (S.out.later bb)
      have HFN : Hid (wr.heap.size ≠ m ∧ wr.heap.size ≠ q ∧ wr.heap.size ≠ r) := HF0
      obtain ⟨wa, hwa⟩ : ∃ K, wr.alloc (.cells #[.int .u8 xd, .int .u16 xk, .int .u8 xa, .int .u8 xb, .int .u8 (xp : Int)] 116) = K := ⟨_, rfl⟩
      obtain ⟨f, hf⟩ : ∃ K, wr.heap.size = K := ⟨_, rfl⟩
      rw [hwa] at S gf ⊢
      rw [hf] at HFN gf ⊢
      have GF := Lib.hid gf
      clear hwa hf gf bb r0 r1 r2 r3 r4
      have c0 := GF.out.c 0 _ rfl
      have c1 := GF.out.c 1 _ rfl
      have c2 := GF.out.c 2 _ rfl
      have c3 := GF.out.c 3 _ rfl
      have c4 := GF.out.c 4 _ rfl
      by_cases hd0 : xd = 0
      · subst hd0
        have hERR : ∃ R, dropErr V xk = R := ⟨_, rfl⟩
        obtain ⟨R, hR⟩ := hERR
        have C1 := vdrop_any q m n o V xk wa S.out.ts HX.out.k
        rw [hR] at C1
        go_wp2_with fail
        with_reducible refine C1.mono ?_
        rintro en w3 ⟨rfl, hts, ho⟩
        have G := Lib.hid (S.out.turnM hts ho (rising_drop S.out.ri xk))
        have GF := Lib.hid (GF.out.only ho HFN.out.1)
        clear c0 c1 c2 c3 c4 ho hts C1
        have c0 := GF.out.c 0 _ rfl
        have c1 := GF.out.c 1 _ rfl
        have c2 := GF.out.c 2 _ rfl
        have c3 := GF.out.c 3 _ rfl
        have c4 := GF.out.c 4 _ rfl
        have C2 := refDrop_any n s o V xk w3 G.out.vs (by have := S.out.ts.vl; omega) S.out.ts.ol HX.out.k
        rw [hR] at C2
        go_wp2_with ((with_reducible refine wpList_load_mid rfl 43 (.tmp 9) rfl r 0 ?hx (RA n s o).toList _ G.out.g.range Try.underlying43 ?hu HIL.out ?_); (case hx => rfl); (case hu => rfl))
        with_reducible refine C2.mono ?_
        rintro en w4 ⟨s', rfl, hvs, hb4⟩
        have G := Lib.hid (G.out.later hb4)
        clear c0 c1 c2 c3 c4 C2 hb4
        obtain ⟨A', hA'⟩ : ∃ A', RA n s' o = A' := ⟨_, rfl⟩
        have HS := Lib.hid (G.out.store hvs S.out.ts.ol S.out.ts.ol)
        have HAR' := Lib.hid (RA_AR (n := n) (s := s') (o := o) S.out.ts.ol (Vs.one hvs))
        rw [hA'] at HS HAR' ⊢
        have HI' := Lib.hid HAR'.out.i
        have OC' := Lib.hid HAR'.out.o
        have TH := Lib.hid (G.out.g.there (n := A'.size) (by rw [HAR.out.s, HAR'.out.s]; exact Nat.le_refl _))
        clear hA' hR
        go_wp2_with ((with_reducible refine wpList_store_mid rfl 43 (.tmp 9) (.tmp 70) rfl r 0 A' ?hx ?hy TH.out HI'.out OC'.out ?_); (case hx => rfl); (case hy => rfl))
        exact ⟨⟨j + 1, _, _, _, by omega, by go_num, HS⟩, by simp [intOf]; omega⟩
      · by_cases hd1 : xd = 1
        · subst hd1
          have hERR : ∃ R, ownErr n xp xk = R := ⟨_, rfl⟩
          obtain ⟨R, hR⟩ := hERR
          have C1 := vsetOwn_any q m n o V xp xk wa S.out.ts HX.out.p HX.out.k
          rw [hR] at C1
          go_wp2_with fail
          with_reducible refine C1.mono ?_
          rintro en w3 ⟨rfl, hts, ho⟩
          have G := Lib.hid (S.out.turnQ hts ho)
          have GF := Lib.hid (GF.out.only ho HFN.out.2.1)
          clear c0 c1 c2 c3 c4 ho hts C1
          have c0 := GF.out.c 0 _ rfl
          have c1 := GF.out.c 1 _ rfl
          have c2 := GF.out.c 2 _ rfl
          have c3 := GF.out.c 3 _ rfl
          have c4 := GF.out.c 4 _ rfl
          have C2 := refSetOwn_any n s o V xp xk w3 G.out.vs (by have := S.out.ts.vl; omega) S.out.ts.ol HN.out.2 HX.out.p
          rw [hR] at C2
          go_wp2_with ((with_reducible refine wpList_load_mid rfl 43 (.tmp 9) rfl r 0 ?hx (RA n s o).toList _ G.out.g.range Try.underlying43 ?hu HIL.out ?_); (case hx => rfl); (case hu => rfl))
          with_reducible refine C2.mono ?_
          rintro en w4 ⟨rfl, hb4⟩
          have hvs := G.out.vs.later vnC_len hb4
          have G := Lib.hid (G.out.later hb4)
          clear c0 c1 c2 c3 c4 C2 hb4
          obtain ⟨A', hA'⟩ : ∃ A', RA n s (ownO n o xp xk) = A' := ⟨_, rfl⟩
          have HS := Lib.hid (G.out.store hvs S.out.ts.ol (ownO_len S.out.ts.ol))
          have HAR' := Lib.hid (RA_AR (n := n) (s := s) (o := (ownO n o xp xk)) (ownO_len S.out.ts.ol) (Vs.one hvs))
          rw [hA'] at HS HAR' ⊢
          have HI' := Lib.hid HAR'.out.i
          have OC' := Lib.hid HAR'.out.o
          have TH := Lib.hid (G.out.g.there (n := A'.size) (by rw [HAR.out.s, HAR'.out.s]; exact Nat.le_refl _))
          clear hA' hR
          go_wp2_with ((with_reducible refine wpList_store_mid rfl 43 (.tmp 9) (.tmp 87) rfl r 0 A' ?hx ?hy TH.out HI'.out OC'.out ?_); (case hx => rfl); (case hy => rfl))
          exact ⟨⟨j + 1, _, _, _, by omega, by go_num, HS⟩, by simp [intOf]; omega⟩
        · have e0 : (xd == 0) = false := by simpa using hd0
          have e1 : (xd == 1) = false := by simpa using hd1
          clear hd0 hd1
          have hERR : ∃ R, setErr n V xk xa xb = R := ⟨_, rfl⟩
          obtain ⟨R, hR⟩ := hERR
          have C1 := vset_any q m n o V xk xa xb wa S.out.ts HX.out.k HX.out.a HX.out.b
          rw [hR] at C1
          go_wp2_with fail
          with_reducible refine C1.mono ?_
          rintro en w3 ⟨rfl, hts, ho⟩
          have G := Lib.hid (S.out.turnM hts ho (rising_set S.out.ri n xk xa xb))
          have GF := Lib.hid (GF.out.only ho HFN.out.1)
          clear c0 c1 c2 c3 c4 ho hts C1
          have c0 := GF.out.c 0 _ rfl
          have c1 := GF.out.c 1 _ rfl
          have c2 := GF.out.c 2 _ rfl
          have c3 := GF.out.c 3 _ rfl
          have c4 := GF.out.c 4 _ rfl
          have C2 := refSet_any n s o V xk xa xb w3 G.out.vs (by have := S.out.ts.vl; omega) S.out.ts.ol HN.out HX.out.k HX.out.a HX.out.b
          rw [hR] at C2
          go_wp2_with ((with_reducible refine wpList_load_mid rfl 43 (.tmp 9) rfl r 0 ?hx (RA n s o).toList _ G.out.g.range Try.underlying43 ?hu HIL.out ?_); (case hx => rfl); (case hu => rfl))
          with_reducible refine C2.mono ?_
          rintro en w4 ⟨s', rfl, hvs, hb4⟩
          have G := Lib.hid (G.out.later hb4)
          clear c0 c1 c2 c3 c4 C2 hb4
          obtain ⟨A', hA'⟩ : ∃ A', RA n s' o = A' := ⟨_, rfl⟩
          have HS := Lib.hid (G.out.store hvs S.out.ts.ol S.out.ts.ol)
          have HAR' := Lib.hid (RA_AR (n := n) (s := s') (o := o) S.out.ts.ol (Vs.one hvs))
          rw [hA'] at HS HAR' ⊢
          have HI' := Lib.hid HAR'.out.i
          have OC' := Lib.hid HAR'.out.o
          have TH := Lib.hid (G.out.g.there (n := A'.size) (by rw [HAR.out.s, HAR'.out.s]; exact Nat.le_refl _))
          clear hA' hR
          go_wp2_with ((with_reducible refine wpList_store_mid rfl 43 (.tmp 9) (.tmp 57) rfl r 0 A' ?hx ?hy TH.out HI'.out OC'.out ?_); (case hx => rfl); (case hy => rfl))
          exact ⟨⟨j + 1, _, _, _, by omega, by go_num, HS⟩, by simp [intOf]; omega⟩
    · obtain rfl : j = l.length := by omega
      have dk : decide ((l.length : Int) < (l.length : Int)) = false := decide_eq_false (by omega)
      obtain ⟨N, hN⟩ : ∃ N, l.length = N := ⟨_, rfl⟩
      rw [hN] at dk ⊢
      clear hj hlt
      go_upto_region 21 with fail
      have S := Lib.hid (S.out.later (Below.refl _ _).drew)
      obtain ⟨A, hA⟩ : ∃ A, RA n s o = A := ⟨_, rfl⟩
      have GR := Lib.hid S.out.g
      rw [hA] at HAR HIL GR HI
      have hA := hA
      have OC := Lib.hid HAR.out.o
      have TH := Lib.hid (S.out.z.there (n := A.size) (by rw [HAR.out.s]; exact Nat.le_refl _))
      refine wp_region_held_drew (S := fun W => W.rangeAt r 0 A.toList) (by kernel_rfl) GR.out.range (fun hHeld => ?_)
      refine wpAnyH_take (i := 0) (v := ?_) rfl (by kernel_rfl) (by kernel_rfl) (by kernel_rfl) (fun _ _ _ h => h) (Or.inl ⟨by rfl, ?hy0⟩) (by assumption) ?_
      case hy0 => (intro w hSw; (try dsimp only at hSw); go_simp; try with_reducible rfl)
      try simp only [Act.put, List.setIfInBounds_toArray, List.set_cons_zero, List.set_cons_succ, List.getElem_toArray, List.getElem_cons_zero, List.getElem_cons_succ]
      refine wpAnyH_take (i := 1) (v := .agg A.toList.toArray) rfl (by kernel_rfl) (by kernel_rfl) (by kernel_rfl) (fun _ _ _ h => h) (yieldsIf_load_mid (by rfl) 43 (.tmp 9) rfl r 0 rfl A.toList _ (fun w h => h) Try.underlying43 rfl HIL.out) (by assumption) ?_
      try simp only [Act.put, List.setIfInBounds_toArray, List.set_cons_zero, List.set_cons_succ, List.toArray_toList, List.getElem_toArray, List.getElem_cons_zero, List.getElem_cons_succ]
      refine wpAnyH_take (i := 2) (v := ?_) rfl (by kernel_rfl) (by kernel_rfl) (by kernel_rfl) (fun _ _ _ h => h) (Or.inl ⟨by rfl, ?hy2⟩) (by assumption) ?_
      case hy2 => (intro w hSw; (try dsimp only at hSw); go_simp; try with_reducible rfl)
      try simp only [Act.put, List.setIfInBounds_toArray, List.set_cons_zero, List.set_cons_succ, List.getElem_toArray, List.getElem_cons_zero, List.getElem_cons_succ]
      refine wpAnyH_ready (rs := [3]) (by kernel_rfl) (by simp) (AllReadyH.cons rfl (fun K hK => ?_) AllReadyH.nil)
      rw [if_pos (by rfl)]
      have g2 := GR.out.cellsOther (t := zb) S.out.zr A.toList 0 _
      have z2 := S.out.z.store (A := A) (by rw [HAR.out.s]; rfl) OC.out
      have ho := Only.setCells zb A.toList 0 wr.drew
      have ts2 := S.out.ts.blk (ho.block q S.out.ts.tb.lt (by simpa using S.out.zq.symm)) (ho.block m S.out.ts.vm.lt (by simpa using S.out.zm.symm))
      have vs2 := S.out.vs.only ho (fun c x => arr_no8 S.out.z rZ_no8)
      have be2 := below_cellsG S.out.hz A.toList 0 _ S.out.bel
      have F := Lib.hid (And.intro z2 (And.intro ts2 (And.intro vs2 (And.intro S.out.ri be2))))
      have G2 := Lib.hid g2
      clear g2 z2 ho ts2 vs2 be2
      (with_reducible refine wp_store_mid 43 (.tmp 5) (.tmp 95) rfl zb 0 A ?hx ?hy TH.out HI.out OC.out ?_)
      case hx => rfl
      case hy => rfl
      refine hK.out _ _ G2.out.range (fun hHeld => ?_)
      clear hK K
      try simp only [Act.put, List.setIfInBounds_toArray, List.set_cons_zero, List.set_cons_succ, List.getElem_toArray, List.getElem_cons_zero, List.getElem_cons_succ]
      refine wpAnyH_take (i := 4) (v := ?_) rfl (by kernel_rfl) (by kernel_rfl) (by kernel_rfl) (fun _ _ _ h => h) (Or.inl ⟨by rfl, ?hy4⟩) (by assumption) ?_
      case hy4 => (intro w hSw; (try dsimp only at hSw); go_simp; try with_reducible rfl)
      try simp only [Act.put, List.setIfInBounds_toArray, List.set_cons_zero, List.set_cons_succ, List.getElem_toArray, List.getElem_cons_zero, List.getElem_cons_succ]
      refine wpAnyH_done (by kernel_rfl) ?_ _
      go_wp2_with fail
      exact bodyPost_ret (v := .tuple #[.pointer (some ⟨q, 0, none⟩), .agg A, .bool true]) (res_three (d := _) (p := 5) (u := 6) (x := 4) rfl rfl Try.underlying43 _ _ zb A rfl F.out.1 HI.out) rfl ⟨q, m, s, o, V, by rw [hA], F.out.2.1, F.out.2.2.1, F.out.2.2.2.1, F.out.2.2.2.2⟩

end Go.Proofs.Ytecoomkpkdapdaa
