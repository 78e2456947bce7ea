/- ZP46: the texts Y16, Y17 as one. -/
import Derived.Test.YtlkdfofpnmpidaaGreatZP45
import Derived.Test.YtlkdfofpnmpidaaGreatZP22
import Derived.Laws.CopyRow
import Derived.Deep.OwnRows
/- mep: Trace, walked. -/
set_option linter.unusedVariables false
set_option linter.unusedSimpArgs false
namespace Go.Proofs.YtlkdfofpnmpidaaGreat
open Go.RowKit

def askT (o : Ow20) (n : Int) (tg : Mc) (tl : Int) : Tr := ⟨o.a.lv, n, tl, o.mc, tg⟩
/-- A trace's message: its bytes, the error. -/
def tracP (t : Tr) : List UInt8 × Int := putP (putTr t).1 (putTr t).2.1 (putTr t).2.2.1 (putTr t).2.2.2.1 []
def traceM (o : Ow20) (s : Ms) (tg : Mc) (tl : Int) : Ms × Sn × Int :=
  if hostV tg = false ∨ tl = 0 then (s, sn0, 2)
  else ({ s with tr := s.tr + 1, way := [] }, ⟨trcG o.a.lv, (tracP (askT o (s.tr + 1) tg tl)).1⟩, (tracP (askT o (s.tr + 1) tg tl)).2)
theorem putTr_ok {t : Tr} (h : t.Ok) : PdB (putTr t).1 (putTr t).2.1 (putTr t).2.2.1 (putTr t).2.2.2.1 [] := by
  unfold putTr
  split
  · exact ⟨by simp, by simp, by simp, by simp, by simp, by simp, by simp [putT]⟩
  · exact ⟨h.lv, by simp, by simp, by rw [byTr_len]; decide, by simp, by simp, by simp [putT]⟩
theorem MM.sWay {W : World} {o : Ow20} {ov : Value} {x : Mp} {s : Ms} {wv : Value} (h : MM W o ov x s wv) : MM (W.setCell ⟨x.p, 22, none⟩ (.slice none 0 0)) o ov x { s with way := [] } (.slice none 0 0) := by
  have hf : Fr (fun k => k = x.p) W (W.setCell ⟨x.p, 22, none⟩ (.slice none 0 0)) := Fr.set (D := fun k => k = x.p) rfl 22 _
  exact ⟨h.gb.set 22 _, h.mc.fr' hf (fun e => h.pq e.symm) (fun e => h.pm e.symm), GB.fr' h.al hf (fun e => h.pr e.symm), Ow.none _ _, h.pq, h.pm, h.pr, h.qr, h.mr, fun g hg => by cases hg⟩
theorem LQ.fourteen {w W : World} {o : Ow20} {ov : Value} {x : Mp} {s : Ms} {wv wv' : Value} {ds : Mc} (h : LQ w W o ov x s wv wv' ds) : W.cell? ⟨x.p, 0, none⟩ = some (.int .u8 o.a.lv) ∧ W.cell? ⟨x.p, 21, none⟩ = some (.int .u32 s.tr) ∧ W.cell? ⟨x.p, 5, none⟩ = some (.int .u8 o.mc.a) ∧ W.cell? ⟨x.p, 6, none⟩ = some (.int .u8 o.mc.b) ∧ W.cell? ⟨x.p, 7, none⟩ = some (.int .u8 o.mc.c) ∧ W.cell? ⟨x.p, 8, none⟩ = some (.int .u8 o.mc.d) ∧ W.cell? ⟨x.p, 9, none⟩ = some (.int .u8 o.mc.e) ∧ W.cell? ⟨x.p, 10, none⟩ = some (.int .u8 o.mc.f) ∧ W.cell? ⟨w.heap.size, 0, none⟩ = some (.int .u8 ds.a) ∧ W.cell? ⟨w.heap.size, 1, none⟩ = some (.int .u8 ds.b) ∧ W.cell? ⟨w.heap.size, 2, none⟩ = some (.int .u8 ds.c) ∧ W.cell? ⟨w.heap.size, 3, none⟩ = some (.int .u8 ds.d) ∧ W.cell? ⟨w.heap.size, 4, none⟩ = some (.int .u8 ds.e) ∧ W.cell? ⟨w.heap.size, 5, none⟩ = some (.int .u8 ds.f) :=
  ⟨h.mm.clv, h.mm.ctr, h.mm.cm0, h.mm.cm1, h.mm.cm2, h.mm.cm3, h.mm.cm4, h.mm.cm5, h.b4.c 0 _ rfl, h.b4.c 1 _ rfl, h.b4.c 2 _ rfl, h.b4.c 3 _ rfl, h.b4.c 4 _ rfl, h.b4.c 5 _ rfl⟩
set_option maxRecDepth 100000 in
set_option maxHeartbeats 8000000 in
theorem mtrace_any (o : Ow20) (ho : o.Ok) (hlv : o.a.lv < 8) (ov : Value) (x : Mp) (s : Ms) (wv : Value) (hs : 0 ≤ s.tr ∧ s.tr < 1000000) (ds : Mc) (hds : ds.Ok) (tl : Int) (htl : 0 ≤ tl ∧ tl < 256) (w : World) (h : MM w o ov x s wv) :
    Calls Tryz.prog 16 #[.pointer (some ⟨x.p, 0, none⟩), .agg #[.int .u8 ds.a, .int .u8 ds.b, .int .u8 ds.c, .int .u8 ds.d, .int .u8 ds.e, .int .u8 ds.f], .int .u8 tl] w fun en w' =>
    en = .returned (.tuple #[.agg (snC (traceM o s ds tl).2.1).toArray, .int .i64 (traceM o s ds tl).2.2]) ∧ (∃ wv', MM w' o ov x (traceM o s ds tl).1 wv' ∧ ∀ g, wv'.ownBlock = some g → wv.ownBlock = some g) ∧ Fr (x.D wv) w w' := by
  obtain ⟨R, hR⟩ : ∃ R, traceM o s ds tl = R := ⟨_, rfl⟩
  have HH : Hid (∀ w, Calls Tryz.prog 29 #[.agg #[.int .u8 ds.a, .int .u8 ds.b, .int .u8 ds.c, .int .u8 ds.d, .int .u8 ds.e, .int .u8 ds.f]] w fun en w' => en = .returned (.bool (hostV ds)) ∧ Below w.heap.size w w') := Lib.hid fun w => host_any ds hds w
  obtain ⟨HV, hHV⟩ : ∃ z, hostV ds = z := ⟨_, rfl⟩
  have HR : Hid (R = if HV = false ∨ tl = 0 then (s, sn0, 2) else ({ s with tr := s.tr + 1, way := [] }, ⟨trcG o.a.lv, (tracP (askT o (s.tr + 1) ds tl)).1⟩, (tracP (askT o (s.tr + 1) ds tl)).2)) := Lib.hid (by rw [← hR, ← hHV]; rfl)
  rw [hHV] at HH
  rw [hR]
  have H0 := Lib.hid h
  have OB := Lib.hid (h.ownNe (t := w.heap.size + 1) (by omega))
  have L0 := Lib.hid (LQ.begin (ds := ds) h)
  have HO := Lib.hid ho
  have HLV := Lib.hid hlv
  have HSL := Lib.hid hs
  have HDS := Lib.hid (And.intro hds htl)
  have IT := Lib.hid (show (Tryz.prog.info? 55).map (·.size) = some 7 by kernel_rfl)
  clear hR hHV h ho hs hds htl hlv
  go_enter Tryz.func16, Tryz.ntmps16
  go_upto_region 1 with fail
  obtain ⟨w0, hw0⟩ : ∃ z, ((w.alloc (.cells #[.int .u8 ds.a, .int .u8 ds.b, .int .u8 ds.c, .int .u8 ds.d, .int .u8 ds.e, .int .u8 ds.f] 25)).alloc (.cells #[.int .u8 0, .int .u8 0, .int .u8 0, .int .u8 0, .int .u8 0, .int .u8 0, .string { data := #[] }] 55)) = z := ⟨_, rfl⟩
  rw [hw0] at L0 ⊢
  clear hw0
  have d0 : w0.cell? ⟨w.heap.size, 0, none⟩ = some (.int .u8 ds.a) := L0.out.b4.c 0 _ rfl
  have d1 : w0.cell? ⟨w.heap.size, 1, none⟩ = some (.int .u8 ds.b) := L0.out.b4.c 1 _ rfl
  have d2 : w0.cell? ⟨w.heap.size, 2, none⟩ = some (.int .u8 ds.c) := L0.out.b4.c 2 _ rfl
  have d3 : w0.cell? ⟨w.heap.size, 3, none⟩ = some (.int .u8 ds.d) := L0.out.b4.c 3 _ rfl
  have d4 : w0.cell? ⟨w.heap.size, 4, none⟩ = some (.int .u8 ds.e) := L0.out.b4.c 4 _ rfl
  have d5 : w0.cell? ⟨w.heap.size, 5, none⟩ = some (.int .u8 ds.f) := L0.out.b4.c 5 _ rfl
  go_wp2_with fail
  with_reducible refine (HH.out _).mono ?_
  rintro en w1 ⟨rfl, hb1⟩
  have L1 := Lib.hid (L0.out.later hb1)
  clear hb1 L0 d0 d1 d2 d3 d4 d5 HH
  by_cases hbad : HV = false ∨ tl = 0
  · have HZ : Hid (R = (s, sn0, 2)) := Lib.hid (by rw [HR.out, if_pos hbad])
    clear HR
    obtain ⟨A0, hA0⟩ : ∃ A : Array Value, A = (snC sn0).toArray := ⟨_, rfl⟩
    have HA0 := Lib.hid hA0
    have SA0 := Lib.hid (show A0.size = 7 by rw [hA0]; rfl)
    have OA0 := Lib.hid (show A0.all (·.oneCell') = true by rw [hA0]; simp [snC, Value.oneCell'])
    have IA0 := Lib.hid (show (Tryz.prog.info? 55).map (·.size) = some A0.size by rw [SA0.out]; exact IT.out)
    have TA0 := Lib.hid (show A0.toList = snC sn0 by rw [hA0])
    have TH := Lib.hid (L1.out.b6.there (n := A0.size) (Nat.le_of_eq SA0.out))
    clear hA0
    cases HV with
    | false =>
      clear hbad
      go_wp2_with ((with_reducible refine wpList_store_mid rfl 55 (.tmp 6) (.tmp 26) rfl (w.heap.size + 1) 0 A0 ?hx ?hy TH.out IA0.out OA0.out ?_); (case hx => rfl); (case hy => (rw [HA0.out]; rfl)))
      rw [TA0.out]
      obtain ⟨F1, F2, F3⟩ := LQ.fill H0.out L1.out OB.out sn0
      exact bodyPost_ret (v := .tuple #[.agg (snC sn0).toArray, .int .i64 2]) (res_two (p := 6) (u := 7) (d := _) rfl rfl Tryz.underlying55 _ _ (w.heap.size + 1) _ rfl F2 IT.out) rfl ⟨by rw [HZ.out], ⟨wv, by rw [HZ.out]; exact F1, fun g hg => hg⟩, F3⟩
    | true =>
      obtain rfl : tl = 0 := by rcases hbad with h | h; cases h; exact h
      clear hbad
      go_wp2_with ((with_reducible refine wpList_store_mid rfl 55 (.tmp 6) (.tmp 26) rfl (w.heap.size + 1) 0 A0 ?hx ?hy TH.out IA0.out OA0.out ?_); (case hx => rfl); (case hy => (rw [HA0.out]; rfl)))
      rw [TA0.out]
      obtain ⟨F1, F2, F3⟩ := LQ.fill H0.out L1.out OB.out sn0
      exact bodyPost_ret (v := .tuple #[.agg (snC sn0).toArray, .int .i64 2]) (res_two (p := 6) (u := 7) (d := _) rfl rfl Tryz.underlying55 _ _ (w.heap.size + 1) _ rfl F2 IT.out) rfl ⟨by rw [HZ.out], ⟨wv, by rw [HZ.out]; exact F1, fun g hg => hg⟩, F3⟩
  have HZ := Lib.hid (show R = ({ s with tr := s.tr + 1, way := [] }, ⟨trcG o.a.lv, (tracP (askT o (s.tr + 1) ds tl)).1⟩, (tracP (askT o (s.tr + 1) ds tl)).2) by rw [HR.out, if_neg hbad])
  obtain rfl : HV = true := by cases HV; exact absurd (.inl rfl) hbad; rfl
  have t0 : (tl == 0) = false := by rw [beq_eq_false_iff_ne]; exact fun h => hbad (.inr h)
  clear HR hbad
  have c21 : w1.cell? ⟨x.p, 21, none⟩ = some (.int .u32 s.tr) := L1.out.mm.ctr
  obtain ⟨va, vn, vc, hva⟩ : ∃ a n c, wv = .slice a n c := by obtain ⟨a, c, h, -⟩ := (L1.out.mm.wy.rw rqC_len).shape; exact ⟨_, _, _, h⟩
  have c22 : w1.cell? ⟨x.p, 22, none⟩ = some (.slice va vn vc) := by rw [← hva]; exact L1.out.mm.cway
  have f21 := L1.out.mm.fz 21
  have f22 := L1.out.mm.fz 22
  have NX : Hid (∀ w, Calls Tryz.prog 46 #[.int .u32 s.tr] w fun en w' => en = .returned (.int .u32 (s.tr + 1)) ∧ w' = w) := Lib.hid fun w => next_any s.tr HSL.out w
  obtain ⟨n1, hn1⟩ : ∃ z, s.tr + 1 = z := ⟨_, rfl⟩
  rw [hn1] at NX HZ
  clear hva
  go_upto_region 6 with (go_at_call 46; with_reducible refine (NX.out _).mono ?_; rintro e wt ⟨rfl, rfl⟩)
  have L2 := Lib.hid (LQ.st H0.out (LQ.st H0.out L1.out 21 _ (L1.out.mm.sTr n1)) 22 _ ((L1.out.mm.sTr n1).sWay))
  obtain ⟨w2, hw2⟩ : ∃ z, ((wt.setCell ⟨x.p, 21, none⟩ (.int .u32 n1)).setCell ⟨x.p, 22, none⟩ (.slice none 0 0)) = z := ⟨_, rfl⟩
  obtain ⟨s2, hs2⟩ : ∃ z : Ms, { s with tr := n1, way := [] } = z := ⟨_, rfl⟩
  have hl2 : n1 = s2.tr := by rw [← hs2]
  rw [hw2] at L2 ⊢
  have L2' : Hid (LQ w w2 o ov x s2 wv (.slice none 0 0) ds) := Lib.hid (by rw [← hs2]; exact L2.out)
  rw [hs2] at HZ
  have HN := Lib.hid (show 0 ≤ n1 ∧ n1 < 4294967296 by have := HSL.out; omega)
  rw [hl2] at HZ HN
  clear L2 L1 hw2 hs2 c21 c22 f21 f22 NX hn1 hl2
  have htok : (askT o s2.tr ds tl).Ok := ⟨HO.out.a.lv, HN.out, HDS.out.2, HO.out.mc, HDS.out.1⟩
  have HPB := Lib.hid (putTr_ok htok)
  obtain ⟨⟨p1, p2, p3, P, pe⟩, hP⟩ : ∃ z, putTr (askT o s2.tr ds tl) = z := ⟨_, rfl⟩
  have PR : Hid (∀ W, Calls Tryz.prog 50 #[.agg #[.int .u8 o.a.lv, .int .u32 s2.tr, .int .u8 tl, .int .u8 o.mc.a, .int .u8 o.mc.b, .int .u8 o.mc.c, .int .u8 o.mc.d, .int .u8 o.mc.e, .int .u8 o.mc.f, .int .u8 ds.a, .int .u8 ds.b, .int .u8 ds.c, .int .u8 ds.d, .int .u8 ds.e, .int .u8 ds.f]] W fun en w' =>
      en = .returned (.tuple #[.agg #[.int .u8 p1, .int .u8 p2, .int .u8 p3, .string (bs P), .slice none 0 0], .int .i64 pe]) ∧ Below W.heap.size W w') := Lib.hid fun W => by
    have h := ltput_any (askT o s2.tr ds tl) W htok
    rw [hP] at h; exact h
  rw [hP] at HPB
  have HPQ : Hid (PdB p1 p2 p3 P []) := Lib.hid HPB.out
  obtain ⟨⟨PS, PE⟩, hPS⟩ : ∃ z, putP p1 p2 p3 P [] = z := ⟨_, rfl⟩
  have HLP : Hid (tracP (askT o s2.tr ds tl) = (PS, PE)) := Lib.hid (by unfold tracP; rw [hP, ← hPS])
  rw [HLP.out] at HZ
  have PU : Hid (∀ W, Calls Tryz.prog 48 #[.agg #[.int .u8 p1, .int .u8 p2, .int .u8 p3, .string (bs P), .slice none 0 0]] W fun en w' => en = .returned (.tuple #[.string (bs PS), .int .i64 PE]) ∧ Below W.heap.size W w') := Lib.hid fun W => by
    have h := cput_any (.slice none 0 0) p1 p2 p3 P [] W (Tls.nil _) (by simp) (by simp) (by have := HPQ.out.pf; omega) HPQ.out.pm HPQ.out.pa HPQ.out.pb HPQ.out.pc
    rw [hPS] at h; exact h
  clear hP hPS HPB HLP HSL htok
  go_cut [8] (fun s8 wx => ∃ (bx : Nat), s8 = .pointer (some ⟨bx, 0, none⟩) ∧ Hid (PB 103 wx bx p1 p2 p3 P (.slice none 0 0) ∧ LQ w wx o ov x s2 wv (.slice none 0 0) ds))
  case first =>
    have cd : LQ w w2.drew o ov x s2 wv (.slice none 0 0) ds := L2'.out.drew
    have cal : ∀ ob, LQ w (w2.alloc ob).drew o ov x s2 wv (.slice none 0 0) ds := fun ob => (L2'.out.alloc ob).drew
    have pzd : PB 103 (w2.alloc (.cells #[.int .u8 0, .int .u8 0, .int .u8 0, .string { data := #[] }, .slice none 0 0] 103)).drew w2.heap.size 0 0 0 [] (.slice none 0 0) := PB.zero 103 w2
    have hle : w2.heap.size ≤ w2.heap.size := Nat.le_refl _
    go_region_held3 (fun W => W.cell? ⟨x.p, 0, none⟩ = some (.int .u8 o.a.lv) ∧ W.cell? ⟨x.p, 21, none⟩ = some (.int .u32 s2.tr) ∧ W.cell? ⟨x.p, 5, none⟩ = some (.int .u8 o.mc.a) ∧ W.cell? ⟨x.p, 6, none⟩ = some (.int .u8 o.mc.b) ∧ W.cell? ⟨x.p, 7, none⟩ = some (.int .u8 o.mc.c) ∧ W.cell? ⟨x.p, 8, none⟩ = some (.int .u8 o.mc.d) ∧ W.cell? ⟨x.p, 9, none⟩ = some (.int .u8 o.mc.e) ∧ W.cell? ⟨x.p, 10, none⟩ = some (.int .u8 o.mc.f) ∧ W.cell? ⟨w.heap.size, 0, none⟩ = some (.int .u8 ds.a) ∧ W.cell? ⟨w.heap.size, 1, none⟩ = some (.int .u8 ds.b) ∧ W.cell? ⟨w.heap.size, 2, none⟩ = some (.int .u8 ds.c) ∧ W.cell? ⟨w.heap.size, 3, none⟩ = some (.int .u8 ds.d) ∧ W.cell? ⟨w.heap.size, 4, none⟩ = some (.int .u8 ds.e) ∧ W.cell? ⟨w.heap.size, 5, none⟩ = some (.int .u8 ds.f))
      (first | with_reducible exact cd.fourteen | with_reducible exact (cal _).fourteen | with_reducible exact cx.fourteen | with_reducible exact (cx.five L2'.out hle _ _ _ _ _).fourteen | with_reducible exact (cx.alloc _).fourteen)
      (first
        | (go_at_call 50; (with_reducible refine (PR.out _).mono ?_); rintro en wx ⟨rfl, hbx⟩
           have cx : LQ w wx o ov x s2 wv (.slice none 0 0) ds := by with_reducible exact cd.later hbx
           have zy := PB.zero 103 wx
           have q0 := zy.c0; have q1 := zy.c1; have q2 := zy.c2; have q3 := zy.c3; have q4 := zy.c4; have f0 := zy.fr 0; have f1 := zy.fr 1; have f2 := zy.fr 2; have f3 := zy.fr 3; have f4 := zy.fr 4)
        | (go_at_call 50; (with_reducible refine (PR.out _).mono ?_); rintro en wx ⟨rfl, hbx⟩
           have cx : LQ w wx o ov x s2 wv (.slice none 0 0) ds := by with_reducible exact (cal _).later hbx
           have zy : PB 103 wx w2.heap.size 0 0 0 [] (.slice none 0 0) := by with_reducible exact pzd.later hbx
           have q0 := zy.c0; have q1 := zy.c1; have q2 := zy.c2; have q3 := zy.c3; have q4 := zy.c4; have f0 := zy.fr 0; have f1 := zy.fr 1; have f2 := zy.fr 2; have f3 := zy.fr 3; have f4 := zy.fr 4))
    all_goals
      go_wp2
      go_meet
      refine ⟨_, by with_reducible rfl, Lib.hid ⟨?ca, ?cc⟩⟩
      case ca => first | with_reducible exact PB.sets5G zy | exact PB.new _ _ _ _ _ _ _
      case cc => first | with_reducible exact cx.five L2'.out hle _ _ _ _ _ | with_reducible exact cx.alloc _
  case rest =>
    obtain ⟨bx, rfl, HC⟩ := hcut
    have L3 := Lib.hid HC.out.2
    have q0 := HC.out.1.c0
    have q1 := HC.out.1.c1
    have q2 := HC.out.1.c2
    have q3 := HC.out.1.c3
    have q4 := HC.out.1.c4
    clear HC L2' PR
    go_wp2_with fail
    with_reducible refine (PU.out _).mono ?_
    rintro en w3 ⟨rfl, hb3⟩
    have L4 := Lib.hid (L3.out.later hb3)
    clear hb3 L3 PU q0 q1 q2 q3 q4
    obtain ⟨GL, hGL⟩ : ∃ z, 56 + o.a.lv = z := ⟨_, rfl⟩
    have HG : Hid (trcG o.a.lv = ⟨1, 128, 194, 0, 0, GL⟩) := Lib.hid (by unfold trcG; rw [hGL])
    have TRC : Hid (∀ w, Calls Tryz.prog 51 #[.int .u8 o.a.lv] w fun en w' => en = .returned (.tuple #[.agg #[.int .u8 1, .int .u8 128, .int .u8 194, .int .u8 0, .int .u8 0, .int .u8 GL], .bool true]) ∧ Below w.heap.size w w') := Lib.hid fun w => by
      have h := Trace_any o.a.lv w HO.out.a.lv.1 HO.out.a.lv.2
      unfold grpV at h
      rw [if_neg (by have := HLV.out; omega), hGL] at h
      exact h
    rw [HG.out] at HZ
    clear hGL
    have c0 : w3.cell? ⟨x.p, 0, none⟩ = some (.int .u8 o.a.lv) := L4.out.mm.clv
    go_wp2_with fail
    with_reducible refine (TRC.out _).mono ?_
    rintro en w5 ⟨rfl, hb5⟩
    have L5 := Lib.hid (L4.out.later hb5)
    clear hb5 L4 c0 TRC
    go_upto_region 9 with fail
    have g6 := GB.new 25 w5 #[.int .u8 1, .int .u8 128, .int .u8 194, .int .u8 0, .int .u8 0, .int .u8 GL]
    have L6 := Lib.hid (L5.out.alloc (.cells #[.int .u8 1, .int .u8 128, .int .u8 194, .int .u8 0, .int .u8 0, .int .u8 GL] 25))
    obtain ⟨w6, hw6⟩ : ∃ z, w5.alloc (.cells #[.int .u8 1, .int .u8 128, .int .u8 194, .int .u8 0, .int .u8 0, .int .u8 GL] 25) = z := ⟨_, rfl⟩
    obtain ⟨t6, ht6⟩ : ∃ z, w5.heap.size = z := ⟨_, rfl⟩
    rw [hw6] at L6 g6 ⊢
    rw [ht6] at g6 ⊢
    have d0 : w6.cell? ⟨t6, 0, none⟩ = some (.int .u8 1) := g6.c 0 _ rfl
    have d1 : w6.cell? ⟨t6, 1, none⟩ = some (.int .u8 128) := g6.c 1 _ rfl
    have d2 : w6.cell? ⟨t6, 2, none⟩ = some (.int .u8 194) := g6.c 2 _ rfl
    have d3 : w6.cell? ⟨t6, 3, none⟩ = some (.int .u8 0) := g6.c 3 _ rfl
    have d4 : w6.cell? ⟨t6, 4, none⟩ = some (.int .u8 0) := g6.c 4 _ rfl
    have d5 : w6.cell? ⟨t6, 5, none⟩ = some (.int .u8 GL) := g6.c 5 _ rfl
    clear hw6 ht6 g6 L5
    obtain ⟨A1, hA1⟩ : ∃ A : Array Value, A = (snC ⟨⟨1, 128, 194, 0, 0, GL⟩, PS⟩).toArray := ⟨_, rfl⟩
    have HA1 := Lib.hid hA1
    have SA1 := Lib.hid (show A1.size = 7 by rw [hA1]; rfl)
    have OA1 := Lib.hid (show A1.all (·.oneCell') = true by rw [hA1]; simp [snC, Value.oneCell'])
    have IA1 := Lib.hid (show (Tryz.prog.info? 55).map (·.size) = some A1.size by rw [SA1.out]; exact IT.out)
    have TA1 := Lib.hid (show A1.toList = snC ⟨⟨1, 128, 194, 0, 0, GL⟩, PS⟩ by rw [hA1])
    have TH := Lib.hid (L6.out.b6.there (n := A1.size) (Nat.le_of_eq SA1.out))
    clear hA1
    go_wp2_with ((with_reducible refine wpList_store_mid rfl 55 (.tmp 6) (.tmp 75) rfl (w.heap.size + 1) 0 A1 ?hx ?hy TH.out IA1.out OA1.out ?_); (case hx => rfl); (case hy => (rw [HA1.out]; rfl)))
    rw [TA1.out]
    obtain ⟨F1, F2, F3⟩ := LQ.fill H0.out L6.out (fun g hg => by cases hg) ⟨⟨1, 128, 194, 0, 0, GL⟩, PS⟩
    exact bodyPost_ret (v := .tuple #[.agg (snC ⟨⟨1, 128, 194, 0, 0, GL⟩, PS⟩).toArray, .int .i64 PE]) (res_two (p := 6) (u := 7) (d := _) rfl rfl Tryz.underlying55 _ _ (w.heap.size + 1) _ rfl F2 IT.out) rfl ⟨by rw [HZ.out], ⟨_, by rw [HZ.out]; exact F1, fun g hg => by cases hg⟩, F3⟩
end Go.Proofs.YtlkdfofpnmpidaaGreat

/- mep: State: a copy of the replies. -/
set_option linter.unusedVariables false
set_option linter.unusedSimpArgs false
namespace Go.Proofs.YtlkdfofpnmpidaaGreat
open Go.RowKit

def zR (n : Nat) : Array Value := madeCells #[.int .u8 0, .int .u32 0, .int .u8 0, .bool false, .bool false, .int .u8 0, .int .u8 0, .int .u8 0, .int .u8 0, .int .u8 0, .int .u8 0, .int .u8 0, .int .u8 0, .int .u8 0, .int .u8 0, .int .u8 0, .int .u8 0] (n * 17)
theorem make_rq (n : Nat) (hn : n ≤ 1000) (W : World) : (Instr.makeSlice 67 (.int .i64 (n : Int)) (.int .i64 (n : Int))).run Tryz.prog W = .ok (.slice (some ⟨W.heap.size, 0, none⟩) n n) (W.alloc (.cells (zR n) 81)) := by
  obtain ⟨i, hi, hzz⟩ := Option.map_eq_some_iff.1 info_rq
  simp only [Prod.mk.injEq] at hzz
  obtain ⟨hz, hs, hb⟩ := hzz
  have h := run_make W 67 81 i _ Tryz.underlying67 hi hz .i64 .i64 (n : Int) (n : Int) (by omega) (by omega) (by rw [hb]; omega) (by omega)
  rw [hs] at h
  exact h
theorem copy_rq (W : World) (g n B : Nat) (Z : Array Value) (hz : Z.size = n * 17) (hn : n ≤ 1000) (hg : W.heap[g]? = some (.cells Z 81 (0, 0))) (hB : B ≤ g) (v : Value) (l : List Rp) (hv : Rw 17 rqC W v l) (hl : l.length = n) (ty : TypeId) :
    ∃ W', (Builtin.copy_ #[67, 67] ty #[.slice (some ⟨g, 0, none⟩) n n, v]).run Tryz.prog W = .ok (goInt n) W' ∧ Ow 17 rqC 81 W' B (.slice (some ⟨g, 0, none⟩) n n) l ∧ Below g W W' := by
  obtain ⟨i, hi, hzz⟩ := Option.map_eq_some_iff.1 info_rq
  simp only [Prod.mk.injEq] at hzz
  obtain ⟨hzv, hs, hb⟩ := hzz
  subst hl
  obtain ⟨ad, cp, rfl, hc⟩ := hv.shape
  by_cases h0 : l = []
  · subst h0
    refine ⟨W, ?_, ⟨rfl, .inr ⟨g, 0, Z, rfl, hB, hg, Nat.le_refl _, by decide, hz, by simp⟩⟩, Below.refl _ _⟩
    have hL : ∀ (x : Addr), (loadCells x 0).run Tryz.prog W = .ok #[] W := fun x => by simpa using run_loadCells_list (P := Tryz.prog) W x [] (by simp)
    cases ad <;> simp [Builtin.copy_, run_underlying Tryz.underlying67, Builtin.lenOf, Builtin.firstCells, sizeOf, typeInfo, hi, storeCells, hL]
  · obtain ⟨b, off, rfl, hcell⟩ := hc.resolve_left h0
    have hlen := flat_len (f := rqC) rqC_len l
    have hsrc : ∀ j x, (l.flatMap rqC)[j]? = some x → W.cell? ((⟨b, off, none⟩ : Addr).add j) = some x := by
      intro j x hx
      rw [Go.WideShapes.add_plain]
      have hj : j < l.length * 17 := by rw [← hlen]; exact (List.getElem?_eq_some_iff.1 hx).1
      have hj1 : j / 17 < l.length := by omega
      have e : j = j / 17 * 17 + j % 17 := by omega
      rw [e, flat_get (f := rqC) rqC_len l (j / 17) hj1 (j % 17) (by omega)] at hx
      have h := hcell (j / 17) hj1 (j % 17) (by omega)
      rw [hx] at h
      rw [show off + j = off + j / 17 * 17 + j % 17 by omega]
      exact h
    have hL := run_loadCells_list (P := Tryz.prog) W ⟨b, off, none⟩ _ hsrc
    rw [hlen] at hL
    have h1 : ∀ x ∈ l.flatMap rqC, x.oneCell' = true := by
      intro x hx
      obtain ⟨t, -, ht⟩ := List.mem_flatMap.1 hx
      exact rqC_one t x ht
    obtain ⟨xs, hxs⟩ : ∃ xs, l.flatMap rqC = xs := ⟨_, rfl⟩
    unfold Ow
    rw [hxs] at hlen hL h1 ⊢
    have hst := run_storeCells_at Tryz.prog g 0 81 xs 0 Z W hg (by omega) h1
    have e : (Z.toList.take (0 + 0) ++ xs ++ Z.toList.drop (0 + 0 + xs.length)).toArray = xs.toArray := by
      rw [List.drop_eq_nil_of_le (by rw [hlen]; simp; omega)]; simp
    rw [e] at hst
    refine ⟨W.setRow g xs.toArray, ?_, ⟨hlen, .inr ⟨g, l.length, xs.toArray, rfl, hB, setRow_heap W g Z _ 81 _ hg, Nat.le_refl _, Nat.le_trans hn (by decide), by simpa using hlen, by rw [← hlen]; simp⟩⟩, ⟨rfl, rfl, rfl, by simp [World.setRow], fun k hk => setRow_other W g k xs.toArray (by omega)⟩⟩
    simp [Builtin.copy_, run_underlying Tryz.underlying67, Builtin.lenOf, Builtin.firstCells, sizeOf, typeInfo, hi, hs, hL, hst]
end Go.Proofs.YtlkdfofpnmpidaaGreat
