/- ZP45: the texts Y15 as one. -/
import Derived.Test.YtlkdfofpnmpidaaGreatZP44
/- mep: Loop, walked. -/
set_option linter.unusedVariables false
set_option linter.unusedSimpArgs false
namespace Go.Proofs.YtlkdfofpnmpidaaGreat
open Go.RowKit

theorem putL_ok {lv n : Int} {d : List UInt8} (hlv : 0 ≤ lv ∧ lv < 256) (hd : d.length ≤ 1000) : PdB (putL lv false n d).1 (putL lv false n d).2.1 0 (putL lv false n d).2.2.1 (putL lv false n d).2.2.2.1 := by
  unfold putL
  split
  · exact ⟨by simp, by simp, by simp, by simp, by simp, by simp, by simp [putT]⟩
  · split
    · exact ⟨by simp, by simp, by simp, by simp, by simp, by simp, by simp [putT]⟩
    · have hl : (thL d).length ≤ 1000 := by unfold thL; split <;> simp
      have hs : ∀ x ∈ thL d, x.2.length ≤ 2000 := by
        unfold thL
        split
        · simp
        · simp; omega
      exact ⟨hlv, by simp, by simp, by simp [be_length], hl, hs, putT_pm hl hs⟩
theorem LQ.lp {w W : World} {o : Ow20} {ov : Value} {x : Mp} {s : Ms} {wv wv' : Value} {ds : Mc} (h : LQ w W o ov x s wv wv' ds) : W.cell? ⟨x.p, 0, none⟩ = some (.int .u8 o.a.lv) ∧ W.cell? ⟨x.p, 17, none⟩ = some (.int .u32 s.lp) := ⟨h.mm.clv, h.mm.clpx⟩
theorem MM.ownNe {W : World} {o : Ow20} {ov : Value} {x : Mp} {s : Ms} {wv : Value} (h : MM W o ov x s wv) {t : Nat} (ht : W.heap.size ≤ t) : ∀ g, wv.ownBlock = some g → g ≠ t := fun g hg => by
  have := (Ow.lt h.wy hg).2; omega
set_option maxRecDepth 100000 in
set_option maxHeartbeats 8000000 in
theorem mloop_any (o : Ow20) (ho : o.Ok) (ov : Value) (x : Mp) (s : Ms) (wv : Value) (hs : 0 ≤ s.lp ∧ s.lp < 1000000) (ds : Mc) (hds : ds.Ok) (d : List UInt8) (hd : d.length ≤ maxLen) (w : World) (h : MM w o ov x s wv) :
    Calls Tryz.prog 14 #[.pointer (some ⟨x.p, 0, none⟩), .agg #[.int .u8 ds.a, .int .u8 ds.b, .int .u8 ds.c, .int .u8 ds.d, .int .u8 ds.e, .int .u8 ds.f], .string (bs d)] w fun en w' =>
    en = .returned (.tuple #[.agg (snC (loopM o s ds d).2.1).toArray, .int .i64 (loopM o s ds d).2.2]) ∧ MM w' o ov x (loopM o s ds d).1 wv ∧ Fr (x.D wv) w w' := by
  obtain ⟨R, hR⟩ : ∃ R, loopM o s ds d = R := ⟨_, rfl⟩
  have hsz := bs_size d
  unfold maxLen at hd
  have HH : Hid (∀ w, Calls Tryz.prog 29 #[.agg #[.int .u8 ds.a, .int .u8 ds.b, .int .u8 ds.c, .int .u8 ds.d, .int .u8 ds.e, .int .u8 ds.f]] w fun en w' => en = .returned (.bool (hostV ds)) ∧ Below w.heap.size w w') := Lib.hid fun w => host_any ds hds w
  obtain ⟨HV, hHV⟩ : ∃ z, hostV ds = z := ⟨_, rfl⟩
  have HR : Hid (R = if HV = false then (s, sn0, 2) else if 64 < d.length then (s, sn0, 5) else ({ s with lp := s.lp + 1, dat := d, rep := 0, ali := 0 }, ⟨ds, (loopP o.a.lv (s.lp + 1) d).1⟩, (loopP o.a.lv (s.lp + 1) d).2)) := Lib.hid (by rw [← hR, ← hHV]; rfl)
  rw [hHV] at HH
  rw [hR]
  have H0 := Lib.hid h
  have OB := Lib.hid (h.ownNe (t := w.heap.size + 1) (by omega))
  have L0 := Lib.hid (LQ.begin (ds := ds) h)
  have HO := Lib.hid ho
  have HSL := Lib.hid hs
  have IT := Lib.hid (show (Tryz.prog.info? 55).map (·.size) = some 7 by kernel_rfl)
  clear hR hHV h ho hs hds
  go_enter Tryz.func14, Tryz.ntmps14
  go_upto_region 1 with fail
  obtain ⟨w0, hw0⟩ : ∃ z, ((w.alloc (.cells #[.int .u8 ds.a, .int .u8 ds.b, .int .u8 ds.c, .int .u8 ds.d, .int .u8 ds.e, .int .u8 ds.f] 25)).alloc (.cells #[.int .u8 0, .int .u8 0, .int .u8 0, .int .u8 0, .int .u8 0, .int .u8 0, .string { data := #[] }] 55)) = z := ⟨_, rfl⟩
  rw [hw0] at L0 ⊢
  clear hw0
  have d0 : w0.cell? ⟨w.heap.size, 0, none⟩ = some (.int .u8 ds.a) := L0.out.b4.c 0 _ rfl
  have d1 : w0.cell? ⟨w.heap.size, 1, none⟩ = some (.int .u8 ds.b) := L0.out.b4.c 1 _ rfl
  have d2 : w0.cell? ⟨w.heap.size, 2, none⟩ = some (.int .u8 ds.c) := L0.out.b4.c 2 _ rfl
  have d3 : w0.cell? ⟨w.heap.size, 3, none⟩ = some (.int .u8 ds.d) := L0.out.b4.c 3 _ rfl
  have d4 : w0.cell? ⟨w.heap.size, 4, none⟩ = some (.int .u8 ds.e) := L0.out.b4.c 4 _ rfl
  have d5 : w0.cell? ⟨w.heap.size, 5, none⟩ = some (.int .u8 ds.f) := L0.out.b4.c 5 _ rfl
  go_wp2_with fail
  with_reducible refine (HH.out _).mono ?_
  rintro en w1 ⟨rfl, hb1⟩
  have L1 := Lib.hid (L0.out.later hb1)
  clear hb1 L0 d0 d1 d2 d3 d4 d5 HH
  obtain ⟨A0, hA0⟩ : ∃ A : Array Value, A = (snC sn0).toArray := ⟨_, rfl⟩
  have HA0 := Lib.hid hA0
  have SA0 := Lib.hid (show A0.size = 7 by rw [hA0]; rfl)
  have OA0 := Lib.hid (show A0.all (·.oneCell') = true by rw [hA0]; simp [snC, Value.oneCell'])
  have IA0 := Lib.hid (show (Tryz.prog.info? 55).map (·.size) = some A0.size by rw [SA0.out]; exact IT.out)
  have TA0 := Lib.hid (show A0.toList = snC sn0 by rw [hA0])
  clear hA0
  cases HV with
  | false =>
    have HZ := Lib.hid (show R = (s, sn0, 2) by rw [HR.out]; rfl)
    clear HR
    have TH := Lib.hid (L1.out.b6.there (n := A0.size) (Nat.le_of_eq SA0.out))
    go_wp2_with ((with_reducible refine wpList_store_mid rfl 55 (.tmp 6) (.tmp 20) rfl (w.heap.size + 1) 0 A0 ?hx ?hy TH.out IA0.out OA0.out ?_); (case hx => rfl); (case hy => (rw [HA0.out]; rfl)))
    rw [TA0.out]
    obtain ⟨F1, F2, F3⟩ := LQ.fill H0.out L1.out OB.out sn0
    exact bodyPost_ret (v := .tuple #[.agg (snC sn0).toArray, .int .i64 2]) (res_two (p := 6) (u := 7) (d := _) rfl rfl Tryz.underlying55 _ _ (w.heap.size + 1) _ rfl F2 IT.out) rfl ⟨by rw [HZ.out], by rw [HZ.out]; exact F1, F3⟩
  | true =>
    by_cases h64 : 64 < d.length
    · have d64 : decide ((64 : Int) < (d.length : Int)) = true := decide_eq_true (by omega)
      have HZ := Lib.hid (show R = (s, sn0, 5) by rw [HR.out, if_neg (by decide), if_pos h64])
      clear HR h64
      have TH := Lib.hid (L1.out.b6.there (n := A0.size) (Nat.le_of_eq SA0.out))
      go_wp2_with ((with_reducible refine wpList_store_mid rfl 55 (.tmp 6) (.tmp 25) rfl (w.heap.size + 1) 0 A0 ?hx ?hy TH.out IA0.out OA0.out ?_); (case hx => rfl); (case hy => (rw [HA0.out]; rfl)))
      rw [TA0.out]
      obtain ⟨F1, F2, F3⟩ := LQ.fill H0.out L1.out OB.out sn0
      exact bodyPost_ret (v := .tuple #[.agg (snC sn0).toArray, .int .i64 5]) (res_two (p := 6) (u := 7) (d := _) rfl rfl Tryz.underlying55 _ _ (w.heap.size + 1) _ rfl F2 IT.out) rfl ⟨by rw [HZ.out], by rw [HZ.out]; exact F1, F3⟩
    · have d64 : decide ((64 : Int) < (d.length : Int)) = false := decide_eq_false (by omega)
      have HZ := Lib.hid (show R = ({ s with lp := s.lp + 1, dat := d, rep := 0, ali := 0 }, ⟨ds, (loopP o.a.lv (s.lp + 1) d).1⟩, (loopP o.a.lv (s.lp + 1) d).2) by rw [HR.out, if_neg (by decide), if_neg h64])
      have HD := Lib.hid (show d.length ≤ 64 by omega)
      clear HR h64
      have c17 : w1.cell? ⟨x.p, 17, none⟩ = some (.int .u32 s.lp) := L1.out.mm.clpx
      have c18 := L1.out.mm.cdat
      have c19 := L1.out.mm.crep
      have c20 := L1.out.mm.cali
      have f17 := L1.out.mm.fz 17
      have f18 := L1.out.mm.fz 18
      have f19 := L1.out.mm.fz 19
      have f20 := L1.out.mm.fz 20
      have NX : Hid (∀ w, Calls Tryz.prog 46 #[.int .u32 s.lp] w fun en w' => en = .returned (.int .u32 (s.lp + 1)) ∧ w' = w) := Lib.hid fun w => next_any s.lp HSL.out w
      obtain ⟨n1, hn1⟩ : ∃ z, s.lp + 1 = z := ⟨_, rfl⟩
      rw [hn1] at NX HZ
      go_upto_region 8 with (go_at_call 46; with_reducible refine (NX.out _).mono ?_; rintro e wt ⟨rfl, rfl⟩)
      have L2 := Lib.hid (LQ.st H0.out (LQ.st H0.out (LQ.st H0.out (LQ.st H0.out L1.out 17 _ (L1.out.mm.sLp n1)) 18 _ ((L1.out.mm.sLp n1).sDat d)) 19 _ (((L1.out.mm.sLp n1).sDat d).sRep 0)) 20 _ ((((L1.out.mm.sLp n1).sDat d).sRep 0).sAli 0))
      obtain ⟨w2, hw2⟩ : ∃ z, ((((wt.setCell ⟨x.p, 17, none⟩ (.int .u32 n1)).setCell ⟨x.p, 18, none⟩ (.string (bs d))).setCell ⟨x.p, 19, none⟩ (.int .i64 0)).setCell ⟨x.p, 20, none⟩ (.int .i64 0)) = z := ⟨_, rfl⟩
      obtain ⟨s2, hs2⟩ : ∃ z : Ms, { s with lp := n1, dat := d, rep := 0, ali := 0 } = z := ⟨_, rfl⟩
      have hl2 : n1 = s2.lp := by rw [← hs2]
      rw [hw2] at L2 ⊢
      have L2' : Hid (LQ w w2 o ov x s2 wv wv ds) := Lib.hid (by rw [← hs2]; exact L2.out)
      rw [hs2] at HZ
      have HN := Lib.hid (show 0 ≤ n1 ∧ n1 < 4294967296 by have := HSL.out; omega)
      rw [hl2] at HZ HN
      clear L2 L1 hw2 hs2 c17 c18 c19 c20 f17 f18 f19 f20 NX hn1 hl2
      have HPB := Lib.hid (putL_ok (n := s2.lp) (d := d) HO.out.a.lv (by have := HD.out; omega))
      obtain ⟨⟨p1, p2, P, L, pe⟩, hP⟩ : ∃ z, putL o.a.lv false s2.lp d = z := ⟨_, rfl⟩
      have PR : Hid (∀ W, Calls Tryz.prog 47 #[.agg #[.int .u8 o.a.lv, .bool false, .int .u32 s2.lp, .string (bs d)]] W fun en w' =>
          ∃ v', en = .returned (.tuple #[.agg #[.int .u8 p1, .int .u8 p2, .int .u8 0, .string (bs P), v'], .int .i64 pe]) ∧ TlT w' W.heap.size v' L ∧ Below W.heap.size W w') := Lib.hid fun W => by
        have h := lbput_any o.a.lv false s2.lp d W (by have := HD.out; omega) HN.out
        rw [hP] at h; exact h
      rw [hP] at HPB
      have HPQ : Hid (PdB p1 p2 0 P L) := Lib.hid HPB.out
      obtain ⟨⟨PS, PE⟩, hPS⟩ : ∃ z, putP p1 p2 0 P L = z := ⟨_, rfl⟩
      have HLP : Hid (loopP o.a.lv s2.lp d = (PS, PE)) := Lib.hid (by unfold loopP; rw [hP, ← hPS])
      rw [HLP.out] at HZ
      have PU : Hid (∀ W v, Tls W v L → Calls Tryz.prog 48 #[.agg #[.int .u8 p1, .int .u8 p2, .int .u8 0, .string (bs P), v]] W fun en w' => en = .returned (.tuple #[.string (bs PS), .int .i64 PE]) ∧ Below W.heap.size W w') := Lib.hid fun W v hv => by
        have h := cput_any v p1 p2 0 P L W hv (by have := HPQ.out.pl; omega) (fun y hy => by have := HPQ.out.ps y hy; unfold maxLen; omega) (by have := HPQ.out.pf; omega) HPQ.out.pm HPQ.out.pa HPQ.out.pb HPQ.out.pc
        rw [hPS] at h; exact h
      clear hP hPS HPB HLP HSL
      go_cut [8] (fun s8 wx => ∃ (bx : Nat) (v' : Value), s8 = .pointer (some ⟨bx, 0, none⟩) ∧ Hid (PB 103 wx bx p1 p2 0 P v' ∧ Tls wx v' L ∧ LQ w wx o ov x s2 wv wv ds))
      case first =>
        have cd : LQ w w2.drew o ov x s2 wv wv ds := L2'.out.drew
        have cal : ∀ ob, LQ w (w2.alloc ob).drew o ov x s2 wv wv ds := fun ob => (L2'.out.alloc ob).drew
        have pzd : PB 103 (w2.alloc (.cells #[.int .u8 0, .int .u8 0, .int .u8 0, .string { data := #[] }, .slice none 0 0] 103)).drew w2.heap.size 0 0 0 [] (.slice none 0 0) := PB.zero 103 w2
        have hle : w2.heap.size ≤ w2.heap.size := Nat.le_refl _
        go_region_held3 (fun W => W.cell? ⟨x.p, 0, none⟩ = some (.int .u8 o.a.lv) ∧ W.cell? ⟨x.p, 17, none⟩ = some (.int .u32 s2.lp))
          (first | with_reducible exact cd.lp | with_reducible exact (cal _).lp | with_reducible exact cx.lp | with_reducible exact (cx.five L2'.out hle _ _ _ _ _).lp | with_reducible exact (cx.alloc _).lp)
          (first
            | (go_at_call 47; (with_reducible refine (PR.out _).mono ?_); rintro en wx ⟨v', rfl, htl, hbx⟩; obtain ⟨ax, cx0, hvx, -⟩ := htl.tls.shape; obtain ⟨m1, hm1⟩ : ∃ n, L.length = n := ⟨_, rfl⟩; rw [hm1] at hvx; subst hvx; clear hm1
               have cx : LQ w wx o ov x s2 wv wv ds := by with_reducible exact cd.later hbx
               have zy := PB.zero 103 wx
               have q0 := zy.c0; have q1 := zy.c1; have q2 := zy.c2; have q3 := zy.c3; have q4 := zy.c4; have f0 := zy.fr 0; have f1 := zy.fr 1; have f2 := zy.fr 2; have f3 := zy.fr 3; have f4 := zy.fr 4)
            | (go_at_call 47; (with_reducible refine (PR.out _).mono ?_); rintro en wx ⟨v', rfl, htl, hbx⟩; obtain ⟨ax, cx0, hvx, -⟩ := htl.tls.shape; obtain ⟨m1, hm1⟩ : ∃ n, L.length = n := ⟨_, rfl⟩; rw [hm1] at hvx; subst hvx; clear hm1
               have cx : LQ w wx o ov x s2 wv wv ds := by with_reducible exact (cal _).later hbx
               have zy : PB 103 wx w2.heap.size 0 0 0 [] (.slice none 0 0) := by with_reducible exact pzd.later hbx
               have q0 := zy.c0; have q1 := zy.c1; have q2 := zy.c2; have q3 := zy.c3; have q4 := zy.c4; have f0 := zy.fr 0; have f1 := zy.fr 1; have f2 := zy.fr 2; have f3 := zy.fr 3; have f4 := zy.fr 4))
        all_goals
          go_wp2
          go_meet
          refine ⟨_, .slice ax m1 cx0, by with_reducible rfl, Lib.hid ⟨?ca, ?cb, ?cc⟩⟩
          case ca => first | with_reducible exact PB.sets5G zy | exact PB.new _ _ _ _ _ _ _
          case cc => first | with_reducible exact cx.five L2'.out hle _ _ _ _ _ | with_reducible exact cx.alloc _
          case cb =>
            first
              | with_reducible exact htl.tls.later ((Below.refl _ _).alloc (Nat.le_refl _) _)
              | exact htl.tls.fr' (D := fun k => k = w2.heap.size) Fr.five (fun g hg e => by
                  have h1 := (World.ownsRow.lt htl g hg).1
                  rw [World.size_drew, World.size_alloc] at h1
                  have h2 : g = w2.heap.size := e
                  omega)
      case rest =>
        obtain ⟨bx, v', rfl, HC⟩ := hcut
        have L3 := Lib.hid HC.out.2.2
        have q0 := HC.out.1.c0
        have q1 := HC.out.1.c1
        have q2 := HC.out.1.c2
        have q3 := HC.out.1.c3
        have q4 := HC.out.1.c4
        have PU1 := Lib.hid (PU.out wc v' HC.out.2.1)
        clear HC L2' PR PU
        go_wp2_with fail
        with_reducible refine PU1.out.mono ?_
        rintro en w3 ⟨rfl, hb3⟩
        have L4 := Lib.hid (L3.out.later hb3)
        clear hb3 L3 PU1 q0 q1 q2 q3 q4
        have d0 : w3.cell? ⟨w.heap.size, 0, none⟩ = some (.int .u8 ds.a) := L4.out.b4.c 0 _ rfl
        have d1 : w3.cell? ⟨w.heap.size, 1, none⟩ = some (.int .u8 ds.b) := L4.out.b4.c 1 _ rfl
        have d2 : w3.cell? ⟨w.heap.size, 2, none⟩ = some (.int .u8 ds.c) := L4.out.b4.c 2 _ rfl
        have d3 : w3.cell? ⟨w.heap.size, 3, none⟩ = some (.int .u8 ds.d) := L4.out.b4.c 3 _ rfl
        have d4 : w3.cell? ⟨w.heap.size, 4, none⟩ = some (.int .u8 ds.e) := L4.out.b4.c 4 _ rfl
        have d5 : w3.cell? ⟨w.heap.size, 5, none⟩ = some (.int .u8 ds.f) := L4.out.b4.c 5 _ rfl
        obtain ⟨A1, hA1⟩ : ∃ A : Array Value, A = (snC ⟨ds, PS⟩).toArray := ⟨_, rfl⟩
        have HA1 := Lib.hid hA1
        have SA1 := Lib.hid (show A1.size = 7 by rw [hA1]; rfl)
        have OA1 := Lib.hid (show A1.all (·.oneCell') = true by rw [hA1]; simp [snC, Value.oneCell'])
        have IA1 := Lib.hid (show (Tryz.prog.info? 55).map (·.size) = some A1.size by rw [SA1.out]; exact IT.out)
        have TA1 := Lib.hid (show A1.toList = snC ⟨ds, PS⟩ by rw [hA1])
        have TH := Lib.hid (L4.out.b6.there (n := A1.size) (Nat.le_of_eq SA1.out))
        clear hA1
        go_wp2_with ((with_reducible refine wpList_store_mid rfl 55 (.tmp 6) (.tmp 66) rfl (w.heap.size + 1) 0 A1 ?hx ?hy TH.out IA1.out OA1.out ?_); (case hx => rfl); (case hy => (rw [HA1.out]; rfl)))
        rw [TA1.out]
        obtain ⟨F1, F2, F3⟩ := LQ.fill H0.out L4.out OB.out ⟨ds, PS⟩
        exact bodyPost_ret (v := .tuple #[.agg (snC ⟨ds, PS⟩).toArray, .int .i64 PE]) (res_two (p := 6) (u := 7) (d := _) rfl rfl Tryz.underlying55 _ _ (w.heap.size + 1) _ rfl F2 IT.out) rfl ⟨by rw [HZ.out], by rw [HZ.out]; exact F1, F3⟩
end Go.Proofs.YtlkdfofpnmpidaaGreat
