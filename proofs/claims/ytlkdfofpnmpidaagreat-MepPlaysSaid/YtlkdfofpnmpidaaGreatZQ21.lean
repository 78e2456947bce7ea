/- ZQ21 -/
import Derived.Test.YtlkdfofpnmpidaaGreatZQ20
import Derived.Test.YtlkdfofpnmpidaaGreatZQ11
set_option linter.unusedVariables false
set_option linter.unusedSimpArgs false
set_option maxRecDepth 100000
set_option maxHeartbeats 16000000
namespace Go.Proofs.YtlkdfofpnmpidaaGreat
open Go.RowKit
def askT (o:Ow20)(n:Int)(tg:Mc)(tl:Int):Tr:=⟨o.a.lv,n,tl,o.mc,tg⟩
def tracP (t:Tr):List UInt8 × Int:=putP (putTr t).1 (putTr t).2.1 (putTr t).2.2.1 (putTr t).2.2.2.1 []
def traceM (o:Ow20)(s:Ms)(tg:Mc)(tl:Int):Ms × Sn × Int :=
 if hostV tg=false∨tl=0 then(s,sn0,2)
 else({ s with tr:=s.tr+1,way:=[] },⟨trcG o.a.lv,(tracP (askT o (s.tr+1) tg tl)).1⟩,(tracP (askT o (s.tr+1) tg tl)).2)
theorem putTr_ok {t:Tr}(h:t.Ok):PdB (putTr t).1 (putTr t).2.1 (putTr t).2.2.1 (putTr t).2.2.2.1 []:=by
 unfold putTr
 split
 ·exact⟨by simp,by simp,by simp,by simp,by simp,by simp,by simp[putT]⟩
 ·exact⟨h.lv,by simp,by simp,by rw[byTr_len];decide,by simp,by simp,by simp[putT]⟩
theorem MM.sWay {W:World}{o:Ow20}{ov:Value}{x:Mp}{s:Ms}{wv:Value}(h:MM W o ov x s wv):MM (W.setCell ⟨x.p,22,none⟩ (.slice none 0 0)) o ov x { s with way:=[] } (.slice none 0 0):=by
 have hf:Fr (fun k=>k=x.p) W (W.setCell ⟨x.p,22,none⟩ (.slice none 0 0)):=Fr.set (D:=fun k=>k=x.p) rfl 22 _
 exact⟨h.gb.set 22 _,h.mc.fr' hf (fun e=>h.pq e.symm) (fun e=>h.pm e.symm),GB.fr' h.al hf (fun e=>h.pr e.symm),Ow.none _ _,h.pq,h.pm,h.pr,h.qr,h.mr,fun g hg=>by cases hg⟩
theorem LQ.fourteen {w W:World}{o:Ow20}{ov:Value}{x:Mp}{s:Ms}{wv wv':Value}{ds:Mc}(h:LQ w W o ov x s wv wv' ds):W.cell? ⟨x.p,0,none⟩=some (.int .u8 o.a.lv)∧W.cell? ⟨x.p,21,none⟩=some (.int .u32 s.tr)∧W.cell? ⟨x.p,5,none⟩=some (.int .u8 o.mc.a)∧W.cell? ⟨x.p,6,none⟩=some (.int .u8 o.mc.b)∧W.cell? ⟨x.p,7,none⟩=some (.int .u8 o.mc.c)∧W.cell? ⟨x.p,8,none⟩=some (.int .u8 o.mc.d)∧W.cell? ⟨x.p,9,none⟩=some (.int .u8 o.mc.e)∧W.cell? ⟨x.p,10,none⟩=some (.int .u8 o.mc.f)∧W.cell? ⟨w.heap.size,0,none⟩=some (.int .u8 ds.a)∧W.cell? ⟨w.heap.size,1,none⟩=some (.int .u8 ds.b)∧W.cell? ⟨w.heap.size,2,none⟩=some (.int .u8 ds.c)∧W.cell? ⟨w.heap.size,3,none⟩=some (.int .u8 ds.d)∧W.cell? ⟨w.heap.size,4,none⟩=some (.int .u8 ds.e)∧W.cell? ⟨w.heap.size,5,none⟩=some (.int .u8 ds.f) :=
 ⟨h.mm.clv,h.mm.ctr,h.mm.cm0,h.mm.cm1,h.mm.cm2,h.mm.cm3,h.mm.cm4,h.mm.cm5,h.b4.c 0 _ rfl,h.b4.c 1 _ rfl,h.b4.c 2 _ rfl,h.b4.c 3 _ rfl,h.b4.c 4 _ rfl,h.b4.c 5 _ rfl⟩
theorem mtrace_any (o:Ow20)(ho:o.Ok)(hlv:o.a.lv<8)(ov:Value)(x:Mp)(s:Ms)(wv:Value)(hs:0≤s.tr∧s.tr<1000000)(ds:Mc)(hds:ds.Ok)(tl:Int)(htl:0≤tl∧tl<256)(w:World)(h:MM w o ov x s wv) :
  Calls Tryz.prog 16 #[.pointer (some ⟨x.p,0,none⟩),.agg #[.int .u8 ds.a,.int .u8 ds.b,.int .u8 ds.c,.int .u8 ds.d,.int .u8 ds.e,.int .u8 ds.f],.int .u8 tl] w fun en w' =>
  en=.returned (.tuple #[.agg (snC (traceM o s ds tl).2.1).toArray,.int .i64 (traceM o s ds tl).2.2])∧(∃ wv',MM w' o ov x (traceM o s ds tl).1 wv'∧∀ g,wv'.ownBlock=some g→wv.ownBlock=some g)∧Fr (x.D wv) w w':=by
 obtain⟨R,hR⟩:∃ R,traceM o s ds tl=R:=⟨_,rfl⟩
 have HH:Hid (∀ w,Calls Tryz.prog 29 #[.agg #[.int .u8 ds.a,.int .u8 ds.b,.int .u8 ds.c,.int .u8 ds.d,.int .u8 ds.e,.int .u8 ds.f]] w fun en w'=>en=.returned (.bool (hostV ds))∧Below w.heap.size w w'):=hd0 fun w=>host_any ds hds w
 obtain⟨HV,hHV⟩:∃ z,hostV ds=z:=⟨_,rfl⟩
 have HR:Hid (R=if HV=false∨tl=0 then(s,sn0,2) else({ s with tr:=s.tr+1,way:=[] },⟨trcG o.a.lv,(tracP (askT o (s.tr+1) ds tl)).1⟩,(tracP (askT o (s.tr+1) ds tl)).2)):=hd0 (by rw[←hR,← hHV];rfl)
 rw[hHV] at HH
 rw[hR]
 have H0:=hd0 h
 have OB:=hd0 (h.ownNe (t:=w.heap.size+1) (by omega))
 have L0:=hd0 (LQ.begin (ds:=ds) h)
 have HO:=hd0 ho
 have HLV:=hd0 hlv
 have HSL:=hd0 hs
 have HDS:=hd0 (And.intro hds htl)
 have IT:=hd0 (show(Tryz.prog.info? 55).map (·.size)=some 7 by kernel_rfl)
 clear hR hHV h ho hs hds htl hlv
 go_enter Tryz.func16,Tryz.ntmps16
 go_upto_region 1 with fail
 obtain⟨w0,hw0⟩:∃ z,((w.alloc (.cells #[.int .u8 ds.a,.int .u8 ds.b,.int .u8 ds.c,.int .u8 ds.d,.int .u8 ds.e,.int .u8 ds.f] 25)).alloc (.cells yS 55))=z:=⟨_,rfl⟩
 rw[hw0] at L0 ⊢
 clear hw0
 have d0:w0.cell? ⟨w.heap.size,0,none⟩=some (.int .u8 ds.a):=L0.out.b4.c 0 _ rfl
 have d1:w0.cell? ⟨w.heap.size,1,none⟩=some (.int .u8 ds.b):=L0.out.b4.c 1 _ rfl
 have d2:w0.cell? ⟨w.heap.size,2,none⟩=some (.int .u8 ds.c):=L0.out.b4.c 2 _ rfl
 have d3:w0.cell? ⟨w.heap.size,3,none⟩=some (.int .u8 ds.d):=L0.out.b4.c 3 _ rfl
 have d4:w0.cell? ⟨w.heap.size,4,none⟩=some (.int .u8 ds.e):=L0.out.b4.c 4 _ rfl
 have d5:w0.cell? ⟨w.heap.size,5,none⟩=some (.int .u8 ds.f):=L0.out.b4.c 5 _ rfl
 go_wp2_with fail
 with_reducible refine(HH.out _).mono ?_
 rintro en w1 ⟨rfl,hb1⟩
 have L1:=hd0 (L0.out.later hb1)
 clear hb1 L0 d0 d1 d2 d3 d4 d5 HH
 by_cases hbad:HV=false∨tl=0
 ·have HZ:Hid (R=(s,sn0,2)):=hd0 (by rw[HR.out,if_pos hbad])
  clear HR
  obtain⟨A0,hA0⟩:∃ A:Array Value,A=(snC sn0).toArray:=⟨_,rfl⟩
  have HA0:=hd0 hA0
  have SA0:=hd0 (show A0.size=7 by rw[hA0];rfl)
  have OA0:=hd0 (show A0.all (·.oneCell')=true by rw[hA0];simp[snC,Value.oneCell'])
  have IA0:=hd0 (show(Tryz.prog.info? 55).map (·.size)=some A0.size by rw[SA0.out];exact IT.out)
  have TA0:=hd0 (show A0.toList=snC sn0 by rw[hA0])
  have TH:=hd0 (L1.out.b6.there (n:=A0.size) (Nat.le_of_eq SA0.out))
  clear hA0
  cases HV with
  | false =>
   clear hbad
   go_wp2_with ((with_reducible refine wpList_store_mid rfl 55 (.tmp 6) (.tmp 26) rfl (w.heap.size+1) 0 A0 ?hx ?hy TH.out IA0.out OA0.out ?_);(case hx=>rfl);(case hy=>(rw[HA0.out];rfl)))
   rw[TA0.out]
   obtain⟨F1,F2,F3⟩:=LQ.fill H0.out L1.out OB.out sn0
   exact bodyPost_ret (v:=.tuple #[.agg (snC sn0).toArray,.int .i64 2]) (res_two (p:=6) (u:=7) (d:=_) rfl rfl Tryz.underlying55 _ _ (w.heap.size+1) _ rfl F2 IT.out) rfl ⟨by rw[HZ.out],⟨wv,by rw[HZ.out];exact F1,fun g hg=>hg⟩,F3⟩
  | true =>
   obtain rfl:tl=0:=by rcases hbad with h|h;cases h;exact h
   clear hbad
   go_wp2_with ((with_reducible refine wpList_store_mid rfl 55 (.tmp 6) (.tmp 26) rfl (w.heap.size+1) 0 A0 ?hx ?hy TH.out IA0.out OA0.out ?_);(case hx=>rfl);(case hy=>(rw[HA0.out];rfl)))
   rw[TA0.out]
   obtain⟨F1,F2,F3⟩:=LQ.fill H0.out L1.out OB.out sn0
   exact bodyPost_ret (v:=.tuple #[.agg (snC sn0).toArray,.int .i64 2]) (res_two (p:=6) (u:=7) (d:=_) rfl rfl Tryz.underlying55 _ _ (w.heap.size+1) _ rfl F2 IT.out) rfl ⟨by rw[HZ.out],⟨wv,by rw[HZ.out];exact F1,fun g hg=>hg⟩,F3⟩
 have HZ:=hd0 (show R=({ s with tr:=s.tr+1,way:=[] },⟨trcG o.a.lv,(tracP (askT o (s.tr+1) ds tl)).1⟩,(tracP (askT o (s.tr+1) ds tl)).2) by rw[HR.out,if_neg hbad])
 obtain rfl:HV=true:=by cases HV;exact absurd (.inl rfl) hbad;rfl
 have t0:(tl==0)=false:=by rw[beq_eq_false_iff_ne];exact fun h=>hbad (.inr h)
 clear HR hbad
 have c21:w1.cell? ⟨x.p,21,none⟩=some (.int .u32 s.tr):=L1.out.mm.ctr
 obtain⟨va,vn,vc,hva⟩:∃ a n c,wv=.slice a n c:=by obtain⟨a,c,h,-⟩:=(L1.out.mm.wy.rw rqC_len).shape;exact⟨_,_,_,h⟩
 have c22:w1.cell? ⟨x.p,22,none⟩=some (.slice va vn vc):=by rw[←hva];exact L1.out.mm.cway
 have f21:=L1.out.mm.fz 21
 have f22:=L1.out.mm.fz 22
 have NX:Hid (∀ w,Calls Tryz.prog 46 #[.int .u32 s.tr] w fun en w'=>en=.returned (.int .u32 (s.tr+1))∧w'=w):=hd0 fun w=>next_any s.tr HSL.out w
 obtain⟨n1,hn1⟩:∃ z,s.tr+1=z:=⟨_,rfl⟩
 rw[hn1] at NX HZ
 clear hva
 go_upto_region 6 with(go_at_call 46;with_reducible refine(NX.out _).mono ?_;rintro e wt ⟨rfl,rfl⟩)
 have L2:=hd0 (LQ.st H0.out (LQ.st H0.out L1.out 21 _ (L1.out.mm.sTr n1)) 22 _ ((L1.out.mm.sTr n1).sWay))
 obtain⟨w2,hw2⟩:∃ z,((wt.setCell ⟨x.p,21,none⟩ (.int .u32 n1)).setCell ⟨x.p,22,none⟩ (.slice none 0 0))=z:=⟨_,rfl⟩
 obtain⟨s2,hs2⟩:∃ z:Ms,{ s with tr:=n1,way:=[] }=z:=⟨_,rfl⟩
 have hl2:n1=s2.tr:=by rw[←hs2]
 rw[hw2] at L2 ⊢
 have L2':Hid (LQ w w2 o ov x s2 wv (.slice none 0 0) ds):=hd0 (by rw[←hs2];exact L2.out)
 rw[hs2] at HZ
 have HN:=hd0 (show 0≤n1∧n1<4294967296 by have:=HSL.out;omega)
 rw[hl2] at HZ HN
 clear L2 L1 hw2 hs2 c21 c22 f21 f22 NX hn1 hl2
 have htok:(askT o s2.tr ds tl).Ok:=⟨HO.out.a.lv,HN.out,HDS.out.2,HO.out.mc,HDS.out.1⟩
 have HPB:=hd0 (putTr_ok htok)
 obtain⟨⟨p1,p2,p3,P,pe⟩,hP⟩:∃ z,putTr (askT o s2.tr ds tl)=z:=⟨_,rfl⟩
 have PR:Hid (∀ W,Calls Tryz.prog 50 #[.agg #[.int .u8 o.a.lv,.int .u32 s2.tr,.int .u8 tl,.int .u8 o.mc.a,.int .u8 o.mc.b,.int .u8 o.mc.c,.int .u8 o.mc.d,.int .u8 o.mc.e,.int .u8 o.mc.f,.int .u8 ds.a,.int .u8 ds.b,.int .u8 ds.c,.int .u8 ds.d,.int .u8 ds.e,.int .u8 ds.f]] W fun en w' =>
   en=.returned (.tuple #[.agg #[.int .u8 p1,.int .u8 p2,.int .u8 p3,.string (bs P),.slice none 0 0],.int .i64 pe])∧Below W.heap.size W w'):=hd0 fun W=>by
  have h:=ltput_any (askT o s2.tr ds tl) W htok
  rw[hP] at h;exact h
 rw[hP] at HPB
 have HPQ:Hid (PdB p1 p2 p3 P []):=hd0 HPB.out
 obtain⟨⟨PS,PE⟩,hPS⟩:∃ z,putP p1 p2 p3 P []=z:=⟨_,rfl⟩
 have HLP:Hid (tracP (askT o s2.tr ds tl)=(PS,PE)):=hd0 (by unfold tracP;rw[hP,← hPS])
 rw[HLP.out] at HZ
 have PU:Hid (∀ W,Calls Tryz.prog 48 #[.agg #[.int .u8 p1,.int .u8 p2,.int .u8 p3,.string (bs P),.slice none 0 0]] W fun en w'=>en=.returned (.tuple #[.string (bs PS),.int .i64 PE])∧Below W.heap.size W w'):=hd0 fun W=>by
  have h:=cput_any (.slice none 0 0) p1 p2 p3 P [] W (Tls.nil _) (by simp) (by simp) (by have:=HPQ.out.pf;omega) HPQ.out.pm HPQ.out.pa HPQ.out.pb HPQ.out.pc
  rw[hPS] at h;exact h
 clear hP hPS HPB HLP HSL htok
 go_cut [8] (fun s8 wx=>∃ (bx:Nat),s8=.pointer (some ⟨bx,0,none⟩)∧Hid (PB 103 wx bx p1 p2 p3 P (.slice none 0 0)∧LQ w wx o ov x s2 wv (.slice none 0 0) ds))
 case first =>
  have cd:LQ w w2.drew o ov x s2 wv (.slice none 0 0) ds:=L2'.out.drew
  have cal:∀ ob,LQ w (w2.alloc ob).drew o ov x s2 wv (.slice none 0 0) ds:=fun ob=>(L2'.out.alloc ob).drew
  have pzd:PB 103 (w2.alloc (.cells yU 103)).drew w2.heap.size 0 0 0 [] (.slice none 0 0):=PB.zero 103 w2
  have hle:w2.heap.size≤w2.heap.size:=Nat.le_refl _
  go_region_held3 (fun W=>W.cell? ⟨x.p,0,none⟩=some (.int .u8 o.a.lv)∧W.cell? ⟨x.p,21,none⟩=some (.int .u32 s2.tr)∧W.cell? ⟨x.p,5,none⟩=some (.int .u8 o.mc.a)∧W.cell? ⟨x.p,6,none⟩=some (.int .u8 o.mc.b)∧W.cell? ⟨x.p,7,none⟩=some (.int .u8 o.mc.c)∧W.cell? ⟨x.p,8,none⟩=some (.int .u8 o.mc.d)∧W.cell? ⟨x.p,9,none⟩=some (.int .u8 o.mc.e)∧W.cell? ⟨x.p,10,none⟩=some (.int .u8 o.mc.f)∧W.cell? ⟨w.heap.size,0,none⟩=some (.int .u8 ds.a)∧W.cell? ⟨w.heap.size,1,none⟩=some (.int .u8 ds.b)∧W.cell? ⟨w.heap.size,2,none⟩=some (.int .u8 ds.c)∧W.cell? ⟨w.heap.size,3,none⟩=some (.int .u8 ds.d)∧W.cell? ⟨w.heap.size,4,none⟩=some (.int .u8 ds.e)∧W.cell? ⟨w.heap.size,5,none⟩=some (.int .u8 ds.f))
   (first|with_reducible exact cd.fourteen|with_reducible exact(cal _).fourteen|with_reducible exact cx.fourteen|with_reducible exact(cx.five L2'.out hle _ _ _ _ _).fourteen|with_reducible exact(cx.alloc _).fourteen)
   (first
    | (go_at_call 50; (with_reducible refine (PR.out _).mono ?_); rintro en wx ⟨rfl, hbx⟩
       have cx:LQ w wx o ov x s2 wv (.slice none 0 0) ds:=by with_reducible exact cd.later hbx
       have zy:=PB.zero 103 wx
       have q0:=zy.c0;have q1:=zy.c1;have q2:=zy.c2;have q3:=zy.c3;have q4:=zy.c4;have f0:=zy.fr 0;have f1:=zy.fr 1;have f2:=zy.fr 2;have f3:=zy.fr 3;have f4:=zy.fr 4)
    | (go_at_call 50; (with_reducible refine (PR.out _).mono ?_); rintro en wx ⟨rfl, hbx⟩
       have cx:LQ w wx o ov x s2 wv (.slice none 0 0) ds:=by with_reducible exact(cal _).later hbx
       have zy:PB 103 wx w2.heap.size 0 0 0 [] (.slice none 0 0):=by with_reducible exact pzd.later hbx
       have q0:=zy.c0;have q1:=zy.c1;have q2:=zy.c2;have q3:=zy.c3;have q4:=zy.c4;have f0:=zy.fr 0;have f1:=zy.fr 1;have f2:=zy.fr 2;have f3:=zy.fr 3;have f4:=zy.fr 4))
  all_goals
   go_wp2
   go_meet
   refine⟨_,by with_reducible rfl,hd0 ⟨?ca,?cc⟩⟩
   case ca=>first|with_reducible exact PB.sets5G zy|exact PB.new _ _ _ _ _ _ _
   case cc=>first|with_reducible exact cx.five L2'.out hle _ _ _ _ _|with_reducible exact cx.alloc _
 case rest =>
  obtain⟨bx,rfl,HC⟩:=hcut
  have L3:=hd0 HC.out.2
  have q0:=HC.out.1.c0
  have q1:=HC.out.1.c1
  have q2:=HC.out.1.c2
  have q3:=HC.out.1.c3
  have q4:=HC.out.1.c4
  clear HC L2' PR
  go_wp2_with fail
  with_reducible refine(PU.out _).mono ?_
  rintro en w3 ⟨rfl,hb3⟩
  have L4:=hd0 (L3.out.later hb3)
  clear hb3 L3 PU q0 q1 q2 q3 q4
  obtain⟨GL,hGL⟩:∃ z,56+o.a.lv=z:=⟨_,rfl⟩
  have HG:Hid (trcG o.a.lv=⟨1,128,194,0,0,GL⟩):=hd0 (by unfold trcG;rw[hGL])
  have TRC:Hid (∀ w,Calls Tryz.prog 51 #[.int .u8 o.a.lv] w fun en w'=>en=.returned (.tuple #[.agg #[.int .u8 1,.int .u8 128,.int .u8 194,.int .u8 0,.int .u8 0,.int .u8 GL],.bool true])∧Below w.heap.size w w'):=hd0 fun w=>by
   have h:=Trace_any o.a.lv w HO.out.a.lv.1 HO.out.a.lv.2
   unfold grpV at h
   rw[if_neg (by have:=HLV.out;omega),hGL] at h
   exact h
  rw[HG.out] at HZ
  clear hGL
  have c0:w3.cell? ⟨x.p,0,none⟩=some (.int .u8 o.a.lv):=L4.out.mm.clv
  go_wp2_with fail
  with_reducible refine(TRC.out _).mono ?_
  rintro en w5 ⟨rfl,hb5⟩
  have L5:=hd0 (L4.out.later hb5)
  clear hb5 L4 c0 TRC
  go_upto_region 9 with fail
  have g6:=GB.new 25 w5 #[.int .u8 1,.int .u8 128,.int .u8 194,.int .u8 0,.int .u8 0,.int .u8 GL]
  have L6:=hd0 (L5.out.alloc (.cells #[.int .u8 1,.int .u8 128,.int .u8 194,.int .u8 0,.int .u8 0,.int .u8 GL] 25))
  obtain⟨w6,hw6⟩:∃ z,w5.alloc (.cells #[.int .u8 1,.int .u8 128,.int .u8 194,.int .u8 0,.int .u8 0,.int .u8 GL] 25)=z:=⟨_,rfl⟩
  obtain⟨t6,ht6⟩:∃ z,w5.heap.size=z:=⟨_,rfl⟩
  rw[hw6] at L6 g6 ⊢
  rw[ht6] at g6 ⊢
  have d0:w6.cell? ⟨t6,0,none⟩=some (.int .u8 1):=g6.c 0 _ rfl
  have d1:w6.cell? ⟨t6,1,none⟩=some (.int .u8 128):=g6.c 1 _ rfl
  have d2:w6.cell? ⟨t6,2,none⟩=some (.int .u8 194):=g6.c 2 _ rfl
  have d3:w6.cell? ⟨t6,3,none⟩=some (.int .u8 0):=g6.c 3 _ rfl
  have d4:w6.cell? ⟨t6,4,none⟩=some (.int .u8 0):=g6.c 4 _ rfl
  have d5:w6.cell? ⟨t6,5,none⟩=some (.int .u8 GL):=g6.c 5 _ rfl
  clear hw6 ht6 g6 L5
  obtain⟨A1,hA1⟩:∃ A:Array Value,A=(snC ⟨⟨1,128,194,0,0,GL⟩,PS⟩).toArray:=⟨_,rfl⟩
  have HA1:=hd0 hA1
  have SA1:=hd0 (show A1.size=7 by rw[hA1];rfl)
  have OA1:=hd0 (show A1.all (·.oneCell')=true by rw[hA1];simp[snC,Value.oneCell'])
  have IA1:=hd0 (show(Tryz.prog.info? 55).map (·.size)=some A1.size by rw[SA1.out];exact IT.out)
  have TA1:=hd0 (show A1.toList=snC ⟨⟨1,128,194,0,0,GL⟩,PS⟩ by rw[hA1])
  have TH:=hd0 (L6.out.b6.there (n:=A1.size) (Nat.le_of_eq SA1.out))
  clear hA1
  go_wp2_with ((with_reducible refine wpList_store_mid rfl 55 (.tmp 6) (.tmp 75) rfl (w.heap.size+1) 0 A1 ?hx ?hy TH.out IA1.out OA1.out ?_);(case hx=>rfl);(case hy=>(rw[HA1.out];rfl)))
  rw[TA1.out]
  obtain⟨F1,F2,F3⟩:=LQ.fill H0.out L6.out (fun g hg=>by cases hg) ⟨⟨1,128,194,0,0,GL⟩,PS⟩
  exact bodyPost_ret (v:=.tuple #[.agg (snC ⟨⟨1,128,194,0,0,GL⟩,PS⟩).toArray,.int .i64 PE]) (res_two (p:=6) (u:=7) (d:=_) rfl rfl Tryz.underlying55 _ _ (w.heap.size+1) _ rfl F2 IT.out) rfl ⟨by rw[HZ.out],⟨_,by rw[HZ.out];exact F1,fun g hg=>by cases hg⟩,F3⟩
def every (iv:Int):Int:=if iv=5 then 10 else 1
def tick20 (o:Ow20)(ks:List Int)(r:Rf):Rf × List Sn × Int :=
 ({ r with nw:=r.nw+1,ws:=r.ws++[worst20 o ks { r with nw:=r.nw+1 }] },
  if r.nw % every o.a.iv=0 then ckS o (worst20 o ks { r with nw:=r.nw+1 }) (r.nw / every o.a.iv+1) else[],
  (atA o.lw (r.ws++[worst20 o ks { r with nw:=r.nw+1 }]).reverse).2.2)
def ckOf (z:Int × Bool × Int × Int × Int × List UInt8 × Int):Ck:=⟨z.1,z.2.1,z.2.2.1,z.2.2.2.1,z.2.2.2.2.1,z.2.2.2.2.2.1⟩
def ck20 (r:Rf)(a b c:Int)(f:List UInt8):Rf × Bool :=
 if (tkC a b c f).2.2.2.2.2.2=0 then({ r with hd:=r.hd++[⟨r.nw,ckOf (tkC a b c f)⟩] },true) else(r,false)
def an20 (o:Ow20)(sr ds:Mc)(a b c:Int)(f:List UInt8)(l:List Th):List Sn × Bool :=
 if ds=o.mc∧sr.a % 2=0 then(if (tkL a b f l).2.2.2.2=0 then(sentR sr a 2 c f l,decide (0<(sentR sr a 2 c f l).length)) else([],false)) else([],true)
def lr20 (o:Ow20)(r:Rf)(ds:Mc)(a b:Int)(f:List UInt8)(l:List Th):Rf × Bool :=
 if ds=o.mc then
  (if (tkL a b f l).2.2.2.2=0∧0<r.lp∧(tkL a b f l).2.2.1=r.lp then(if (tkL a b f l).2.2.2.1=r.dat then { r with rep:=r.rep+1,ali:=r.ali+1 } else { r with rep:=r.rep+1 }) else r,decide ((tkL a b f l).2.2.2.2=0))
 else(r,true)
def sk20 (o:Ow20)(ds:Mc)(a b:Int)(f:List UInt8):List Sn × Bool :=
 if ds=o.mc∨ds=trcG o.a.lv then
  (if (tkTr a b f).2=0∧(tkTr a b f).1.tt=o.mc∧0<(tkTr a b f).1.tl∧(tkTr a b f).1.fr.a % 2=0 then
   sentR (tkTr a b f).1.fr (putRp (endP o (tkTr a b f).1)).1 (putRp (endP o (tkTr a b f).1)).2.1 (putRp (endP o (tkTr a b f).1)).2.2.1 (putRp (endP o (tkTr a b f).1)).2.2.2.1 (putRp (endP o (tkTr a b f).1)).2.2.2.2.1 else[],decide ((tkTr a b f).2=0))
 else([],true)
def fd20 (o:Ow20)(r:Rf)(ds:Mc)(a b c:Int)(f:List UInt8)(l:List Th):Rf × Bool :=
 if ds=o.mc then
  (if (tkRp a b c f l).2=0∧0<r.tr∧(tkRp a b c f l).1.nm=r.tr∧r.way.length<32 then { r with way:=r.way++[(tkRp a b c f l).1] } else r,decide ((tkRp a b c f l).2=0))
 else(r,true)
def op20 (o:Ow20)(r:Rf)(sr ds:Mc)(a b c:Int)(f:List UInt8)(l:List Th):Rf × List Sn × Bool :=
 if b=1 then((ck20 r a b c f).1,[],(ck20 r a b c f).2)
 else if b=3 then(r,(an20 o sr ds a b c f l).1,(an20 o sr ds a b c f l).2)
 else if b=2 then((lr20 o r ds a b f l).1,[],(lr20 o r ds a b f l).2)
 else if b=5 then(r,(sk20 o ds a b f).1,(sk20 o ds a b f).2)
 else if b=4 then((fd20 o r ds a b c f l).1,[],(fd20 o r ds a b c f l).2)
 else(r,[],true)
def bad20 (r:Rf)(g:Bool):Rf:=if g=true then r else { r with bad:=r.bad+1 }
def take20 (o:Ow20)(r:Rf)(sr ds:Mc)(d:List UInt8):Rf × List Sn :=
 if (tkP d).2.2.2.2.2≠0 then({ r with bad:=r.bad+1 },[])
 else if (tkP d).1≠o.a.lv then(r,[])
 else(bad20 (op20 o r sr ds (tkP d).1 (tkP d).2.1 (tkP d).2.2.1 (tkP d).2.2.2.1 (tkP d).2.2.2.2.1).1 (op20 o r sr ds (tkP d).1 (tkP d).2.1 (tkP d).2.2.1 (tkP d).2.2.2.1 (tkP d).2.2.2.2.1).2.2,
  (op20 o r sr ds (tkP d).1 (tkP d).2.1 (tkP d).2.2.1 (tkP d).2.2.2.1 (tkP d).2.2.2.2.1).2.1)
def ask20 (o:Ow20)(r:Rf)(ds:Mc)(d:List UInt8):Rf × Sn × Int :=
 if hostV ds=false then(r,sn0,2) else if 64<d.length then(r,sn0,5)
 else({ r with lp:=r.lp+1,dat:=d,rep:=0,ali:=0 },⟨ds,(loopP o.a.lv (r.lp+1) d).1⟩,0)
def seek20 (o:Ow20)(r:Rf)(tg:Mc)(tl:Int):Rf × Sn × Int :=
 if hostV tg=false∨tl=0 then(r,sn0,2)
 else({ r with tr:=r.tr+1,way:=[] },⟨trcG o.a.lv,(tracP (askT o (r.tr+1) tg tl)).1⟩,0)
theorem mayC_other {a:Ow8}(h:mayC a.lv a.iv a.mp a.md=true)(k:Int):mayC a.lv a.iv k a.md=(decide (1≤k)&&decide (k≤8191)):=by
 unfold mayC at h ⊢
 simp only[Bool.and_eq_true] at h
 obtain⟨h1,h2,h3,h4,h5⟩:=h
 rw[h1,h2,h5]
 simp
theorem okX_eq {a:Ow8}(h:mayC a.lv a.iv a.mp a.md=true)(pre:List Int)(k:Int)(f:Bool)(hf:f=pre.contains k):(f||(k==a.mp||!mayC a.lv a.iv k a.md))=!okX a pre k:=by
 rw[mayC_other h,hf]
 unfold okX
 have e1:decide (1≤k)=!decide (k<1):=by
  by_cases h:k<1
  ·rw[decide_eq_true h,decide_eq_false (by omega)];rfl
  ·rw[decide_eq_false h,decide_eq_true (by omega)];rfl
 have e2:decide (k≤8191)=!decide (8191<k):=by
  by_cases h:8191<k
  ·rw[decide_eq_true h,decide_eq_false (by omega)];rfl
  ·rw[decide_eq_false h,decide_eq_true (by omega)];rfl
 rw[e1,e2]
 cases decide (k<1) <;> cases decide (8191<k) <;> cases (k==a.mp) <;> cases pre.contains k <;> rfl
theorem vIns_keys (x:Vn)(k:Int):∀ V:List Vn,k∈(vIns x V).map (·.1)↔k=x.1∨k∈V.map (·.1)
 |[]=>by unfold vIns;simp
 | y::r=>by
  unfold vIns
  split
  ·simp
  ·rw[List.map_cons,List.mem_cons,vIns_keys x k r,List.map_cons,List.mem_cons]
   constructor
   ·rintro (h|h|h)
    ·exact .inr (.inl h)
    ·exact .inl h
    ·exact .inr (.inr h)
   ·rintro (h|h|h)
    ·exact .inr (.inl h)
    ·exact .inl h
    ·exact .inr (.inr h)
theorem vPut_keys (V:List Vn)(x:Vn)(k:Int):k∈(vPut V x).map (·.1)↔k=x.1∨k∈V.map (·.1):=by
 unfold vPut
 rw[vIns_keys]
 constructor
 ·rintro (h|h)
  ·exact .inl h
  ·obtain⟨y,hy,rfl⟩:=List.mem_map.1 h
   exact .inr (List.mem_map_of_mem (vDel_mem hy))
 ·rintro (h|h)
  ·exact .inl h
  ·by_cases hk:k=x.1
   ·exact .inl hk
   ·obtain⟨y,hy,rfl⟩:=List.mem_map.1 h
    exact .inr (List.mem_map_of_mem (List.mem_filter.2 ⟨hy,by simp[hk]⟩))
theorem newGo_ok {a:Ow8}(h:mayC a.lv a.iv a.mp a.md=true):∀ (r:List Int) (V:List Vn) (pre:List Int),Rising V→(∀ k,(vFind V k).isSome=pre.contains k)→(∀ x∈V,x.2=(lastC a.iv,0))→pre.Nodup→(∀ x∈pre,1≤x∧x≤8191) →
  (okL a pre r=false∧newGo a r V=none)∨(okL a pre r=true∧∃ V',newGo a r V=some V'∧Rising V'∧(∀ k,k∈V'.map (·.1)↔k∈pre++r)∧(∀ x∈V',x.2=(lastC a.iv,0))∧(pre++r).Nodup∧∀ x∈pre++r,1≤x∧x≤8191)
 |[],V,pre,hr,hm,hv,hn,hb=>by
  refine .inr ⟨rfl,V,rfl,hr,fun k=>?_,hv,by simpa using hn,by simpa using hb⟩
  rw[←vFind_mem,hm,List.append_nil,List.contains_iff_mem]
 | k::r,V,pre,hr,hm,hv,hn,hb=>by
  have e:=okX_eq h pre k _ (hm k)
  cases hx:okX a pre k
  ·rw[hx] at e
   refine .inl ⟨by unfold okL;rw[hx];rfl,?_⟩
   unfold newGo
   rw[e];rfl
  ·rw[hx] at e
   have hkp:k ∉ pre∧1≤k∧k≤8191:=by
    unfold okX at hx
    simp only[Bool.and_eq_true,Bool.not_eq_true',decide_eq_false_iff_not] at hx
    obtain⟨h1,h2,_,h4⟩:=hx
    refine⟨fun hm=>?_,by omega,by omega⟩
    rw[List.contains_iff_mem.2 hm] at h4;cases h4
   have hm2:∀ k',(vFind (vPut V (k,lastC a.iv,0)) k').isSome=(pre++[k]).contains k':=by
    intro k'
    rw[Bool.eq_iff_iff,vFind_mem,List.contains_iff_mem]
    have:=vPut_keys V (k,lastC a.iv,0) k'
    have hp:k'∈V.map (·.1)↔k'∈pre:=by rw[←vFind_mem,hm k',List.contains_iff_mem]
    rw[this,hp,List.mem_append,List.mem_singleton]
    constructor
    ·rintro (h|h)
     ·exact .inr h
     ·exact .inl h
    ·rintro (h|h)
     ·exact .inr h
     ·exact .inl h
   have hv2:∀ x∈vPut V (k,lastC a.iv,0),x.2=(lastC a.iv,0):=by
    intro x hx
    rcases vPut_mem hx with rfl|hx
    ·rfl
    ·exact hv x hx
   have hn2:(pre++[k]).Nodup:=by
    rw[List.nodup_append]
    exact⟨hn,by simp,fun a ha b hb=>by rw[List.mem_singleton.1 hb];rintro rfl;exact hkp.1 ha⟩
   have hb2:∀ x∈pre++[k],1≤x∧x≤8191:=by
    intro x hx
    rcases List.mem_append.1 hx with hx|hx
    ·exact hb x hx
    ·rw[List.mem_singleton.1 hx];exact hkp.2
   have en:newGo a (k::r) V=newGo a r (vPut V (k,lastC a.iv,0)):=by
    conv=>lhs;unfold newGo
    rw[e];rfl
   have eo:okL a pre (k::r)=okL a (pre++[k]) r:=by
    conv=>lhs;unfold okL
    rw[hx,Bool.true_and]
   rw[en,eo]
   rcases newGo_ok h r _ (pre++[k]) (hr.put _) hm2 hv2 hn2 hb2 with⟨h1,h2⟩|⟨h1,V',h2,h3,h4,h5,h6,h7⟩
   ·exact .inl ⟨h1,h2⟩
   ·refine .inr ⟨h1,V',h2,h3,?_,h5,?_,?_⟩
    ·intro k';rw[h4 k',List.append_assoc];rfl
    ·rw[List.append_assoc] at h6;exact h6
    ·rw[List.append_assoc] at h7;exact h7
theorem riseN_mem (ks:List Int)(x:Int):∀ n,x∈riseN ks n↔x∈ks∧0≤x∧x<n
 | 0=>by unfold riseN;simp
 | n+1=>by
  unfold riseN
  rw[List.mem_append,riseN_mem ks x n,List.mem_filter]
  unfold eqN
  simp only[beq_iff_eq]
  constructor
  ·rintro (⟨h1,h2,h3⟩|⟨h1,h2⟩)
   ·exact⟨h1,h2,by omega⟩
   ·exact⟨h1,by omega,by omega⟩
  ·rintro ⟨h1,h2,h3⟩
   by_cases h:x=n
   ·exact .inr ⟨h1,h⟩
   ·exact .inl ⟨h1,h2,by omega⟩
theorem riseN_sorted (ks:List Int):∀ n,(riseN ks n).Pairwise (·≤·)
 | 0=>List.Pairwise.nil
 | n+1=>by
  unfold riseN
  rw[List.pairwise_append]
  refine⟨riseN_sorted ks n,?_,fun x hx y hy=>?_⟩
  ·refine List.Pairwise.imp_of_mem (fun {x y} hx hy _=>?_) (List.pairwise_of_forall (l:=ks.filter (eqN n)) (R:=fun _ _=>True) (fun _ _=>trivial))
   have h1:=(List.mem_filter.1 hx).2
   have h2:=(List.mem_filter.1 hy).2
   unfold eqN at h1 h2
   simp only[beq_iff_eq] at h1 h2
   omega
  ·have h1:=(riseN_mem ks x n).1 hx
   have h2:=(List.mem_filter.1 hy).2
   unfold eqN at h2
   simp only[beq_iff_eq] at h2
   omega
theorem riseN_nodup {ks:List Int}(h:ks.Nodup):∀ n,(riseN ks n).Nodup
 | 0=>List.nodup_nil
 | n+1=>by
  unfold riseN
  rw[List.nodup_append]
  refine⟨riseN_nodup h n,h.filter _,fun x hx y hy=>?_⟩
  have h1:=(riseN_mem ks x n).1 hx
  have h2:=(List.mem_filter.1 hy).2
  unfold eqN at h2
  simp only[beq_iff_eq] at h2
  omega
theorem new_may (a:Ow8)(ks:List Int):(mayR a ks=false∧newV a ks=none)∨(mayR a ks=true∧∃ V,newV a ks=some V∧V.map (·.1)=riseN ks 8192∧Inv a (riseN ks 8192) V 0 0 [] 0):=by
 unfold mayR newV
 by_cases h8:8<ks.length
 ·rw[decide_eq_true h8,if_pos (.inr h8)];exact .inl ⟨rfl,rfl⟩
 rw[decide_eq_false h8]
 cases hm:mayC a.lv a.iv a.mp a.md
 ·rw[if_pos (.inl rfl)];exact .inl ⟨rfl,rfl⟩
 rw[if_neg (by rintro (h|h);cases h;exact h8 h)]
 simp only[Bool.not_false,Bool.true_and]
 rcases newGo_ok hm ks [] [] (by simp[Rising]) (by intro k;rfl) (by simp) List.nodup_nil (by simp) with⟨h1,h2⟩|⟨h1,V,h2,h3,h4,h5,h6,h7⟩
 ·exact .inl ⟨h1,h2⟩
 ·rw[List.nil_append] at h6 h7
  have hmem:∀ x,x∈riseN ks 8192↔x∈V.map (·.1):=fun x=>by
   rw[h4 x,List.nil_append,riseN_mem]
   constructor
   ·exact fun h=>h.1
   ·intro h
    have:=h7 x h
    exact⟨h,by omega,by omega⟩
  have hk:V.map (·.1)=riseN ks 8192:=(keys_eq h3 (riseN_nodup h6 8192) (fun x=>by rw[hmem x,vD_has,vFind_mem]) (List.Perm.refl _) (riseN_sorted ks 8192)).symm
  have hl:=lastC_b a.iv
  refine .inr ⟨h1,V,h2,hk,rfl,rfl,fun x hx=>?_,hk,by simp,Int.le_refl _,fun x hx=>?_,fun x hx=>?_,by decide,by decide⟩
  ·have e:=h5 x hx
   constructor
   ·rw[e]
    show lastC a.iv=leftC a _ [] 1 x.1 0
    unfold leftC
    rw[show mostC a (riseN ks 8192) [] 1 x.1 0=0 from rfl]
    split <;> omega
   ·rw[e];rfl
  ·rw[h5 x hx];show 0≤lastC a.iv∧lastC a.iv≤1000;omega
  ·have h:=(h4 x.1).1 (List.mem_map_of_mem hx)
   rw[List.nil_append] at h
   have:=h7 x.1 h
   omega
structure Ar (lw:Int)(ws:List Int)(s:Al):Prop where
 st:s.st=(atA lw ws.reverse).1
 td:s.td=(atA lw ws.reverse).2.1
 b:0≤s.st∧s.st≤2
 z:s.st=0→s.tk=0∧s.td=0∧rowA lw true ws.reverse=0
 o:s.st=1→s.tk=1∧s.td=0∧1≤rowA lw true ws.reverse
 t:s.st=2→s.tk=(rowA lw false ws.reverse:Nat)
theorem Ar.new (lw:Int):Ar lw [] ⟨0,0,0⟩:=⟨rfl,rfl,by simp,fun _=>⟨rfl,rfl,rfl⟩,(fun h=>by cases h),(fun h=>by cases h)⟩
theorem Ar.tick {lw:Int}(hlw:1≤lw){ws:List Int}{s:Al}(h:Ar lw ws s){x:Int}(hx:0≤x∧x≤4):Ar lw (ws++[x]) (tickA lw s x).1∧(tickA lw s x).2=(atA lw (ws++[x]).reverse).2.2:=by
 obtain⟨h1,h2,h3,h4,h5,h6⟩:=h
 obtain⟨st,tk,td⟩:=s
 simp only at h1 h2 h3 h4 h5 h6
 obtain⟨r,hr⟩:∃ r,ws.reverse=r:=⟨_,rfl⟩
 have er:(ws++[x]).reverse=x::r:=by rw[List.reverse_append,hr];rfl
 rw[hr] at h1 h2 h4 h5 h6
 have hm:min x 4=x:=by omega
 have e3:st=0∨st=1∨st=2:=by omega
 by_cases hxl:x<lw
 ·have d:decide (lw≤x)=false:=decide_eq_false (by omega)
  have rt:rowA lw true (x::r)=0:=by unfold rowA;rw[d];rfl
  have rf:rowA lw false (x::r)=rowA lw false r+1:=by
   conv=>lhs;unfold rowA
   rw[d];rfl
  have ea:atA lw (x::r)=if (atA lw r).1<2 then(0,0,0) else if 10≤rowA lw false r+1 then(0,0,0) else(2,(atA lw r).2.1,0):=by
   conv=>lhs;unfold atA
   rw[hm,d,rf]
   simp
  rcases e3 with rfl|rfl|rfl
  ·have ea2:atA lw (x::r)=(0,0,0):=by rw[ea,← h1];rfl
   have et:tickA lw ⟨0,tk,td⟩ x=(⟨0,0,0⟩,0):=by unfold tickA calmA;rw[if_pos hxl];rfl
   rw[et,er,ea2]
   exact⟨⟨by rw[er,ea2],by rw[er,ea2],by simp,fun _=>⟨rfl,rfl,by rw[er];exact rt⟩,(fun h=>by cases h),(fun h=>by cases h)⟩,rfl⟩
  ·have ea2:atA lw (x::r)=(0,0,0):=by rw[ea,← h1];rfl
   have et:tickA lw ⟨1,tk,td⟩ x=(⟨0,0,0⟩,0):=by unfold tickA calmA;rw[if_pos hxl];rfl
   rw[et,er,ea2]
   exact⟨⟨by rw[er,ea2],by rw[er,ea2],by simp,fun _=>⟨rfl,rfl,by rw[er];exact rt⟩,(fun h=>by cases h),(fun h=>by cases h)⟩,rfl⟩
  ·have htk:=h6 rfl
   rw[←h1,if_neg (by omega),← h2] at ea
   by_cases h10:tk+1<10
   ·have ea2:atA lw (x::r)=(2,td,0):=by rw[ea,if_neg (by omega)]
    have et:tickA lw ⟨2,tk,td⟩ x=(⟨2,tk+1,td⟩,0):=by unfold tickA calmA;rw[if_pos hxl,if_pos ⟨rfl,h10⟩]
    rw[et,er,ea2]
    exact⟨⟨by rw[er,ea2],by rw[er,ea2],by simp,(fun h=>by cases h),(fun h=>by cases h),fun _=>by rw[er,rf];show tk+1=_;omega⟩,rfl⟩
   ·have ea2:atA lw (x::r)=(0,0,0):=by rw[ea,if_pos (by omega)]
    have et:tickA lw ⟨2,tk,td⟩ x=(⟨0,0,0⟩,0):=by unfold tickA calmA;rw[if_pos hxl,if_neg (fun h=>h10 h.2)]
    rw[et,er,ea2]
    exact⟨⟨by rw[er,ea2],by rw[er,ea2],by simp,fun _=>⟨rfl,rfl,by rw[er];exact rt⟩,(fun h=>by cases h),(fun h=>by cases h)⟩,rfl⟩
 ·have d:decide (lw≤x)=true:=decide_eq_true (by omega)
  have rt:rowA lw true (x::r)=rowA lw true r+1:=by
   conv=>lhs;unfold rowA
   rw[d];rfl
  have rf:rowA lw false (x::r)=0:=by unfold rowA;rw[d];rfl
  have ea:atA lw (x::r)=if (atA lw r).1<2 then(if rowA lw true r+1<2 then(1,0,0) else(2,x,x)) else if (atA lw r).2.1<x then(2,x,x) else(2,(atA lw r).2.1,0):=by
   conv=>lhs;unfold atA
   rw[hm,d,rt]
   simp
  rcases e3 with rfl|rfl|rfl
  ·obtain⟨z1,z2,z3⟩:=h4 rfl
   subst z1;subst z2
   have ea2:atA lw (x::r)=(1,0,0):=by rw[ea,← h1,z3];rfl
   have et:tickA lw ⟨0,0,0⟩ x=(⟨1,1,0⟩,0):=by unfold tickA;rw[if_neg hxl];rfl
   rw[et,er,ea2]
   exact⟨⟨by rw[er,ea2],by rw[er,ea2],by simp,(fun h=>by cases h),fun _=>⟨rfl,rfl,by rw[er,rt];omega⟩,(fun h=>by cases h)⟩,rfl⟩
  ·obtain⟨z1,z2,z3⟩:=h5 rfl
   subst z1;subst z2
   have ea2:atA lw (x::r)=(2,x,x):=by rw[ea,← h1,if_pos (by decide),if_neg (by omega)]
   have et:tickA lw ⟨1,1,0⟩ x=(⟨2,0,x⟩,x):=by
    unfold tickA repA
    dsimp only
    rw[if_neg hxl,if_neg (by decide),if_pos rfl,if_neg (by decide),if_neg (by omega)]
   rw[et,er,ea2]
   exact⟨⟨by rw[er,ea2],by rw[er,ea2],by simp,(fun h=>by cases h),(fun h=>by cases h),fun _=>by rw[er,rf];rfl⟩,rfl⟩
  ·rw[←h1,if_neg (by omega),← h2] at ea
   by_cases ht:td<x
   ·have ea2:atA lw (x::r)=(2,x,x):=by rw[ea,if_pos ht]
    have et:tickA lw ⟨2,tk,td⟩ x=(⟨2,0,x⟩,x):=by
     unfold tickA repA
     dsimp only
     rw[if_neg hxl,if_neg (by decide),if_neg (by decide),if_neg (by omega)]
    rw[et,er,ea2]
    exact⟨⟨by rw[er,ea2],by rw[er,ea2],by simp,(fun h=>by cases h),(fun h=>by cases h),fun _=>by rw[er,rf];rfl⟩,rfl⟩
   ·have ea2:atA lw (x::r)=(2,td,0):=by rw[ea,if_neg ht]
    have et:tickA lw ⟨2,tk,td⟩ x=(⟨2,0,td⟩,0):=by
     unfold tickA repA
     dsimp only
     rw[if_neg hxl,if_neg (by decide),if_neg (by decide),if_pos (by omega)]
    rw[et,er,ea2]
    exact⟨⟨by rw[er,ea2],by rw[er,ea2],by simp,(fun h=>by cases h),(fun h=>by cases h),fun _=>by rw[er,rf];rfl⟩,rfl⟩
def allN (ks:List Int):List Int:=riseN ks 8192
theorem kindC_all {ks:List Int}(hkb:∀ x∈ks,1≤x∧x≤8191)(a:Ow8)(c:Ck):kindC a ks c=kindC a (allN ks) c:=by
 have h:c.me∈ks↔c.me∈allN ks:=by
  unfold allN
  rw[riseN_mem]
  exact⟨fun h=>⟨h,by have:=hkb _ h;omega,by have:=hkb _ h;omega⟩,fun h=>h.1⟩
 unfold kindC
 split
 ·rfl
 ·split
  ·rfl
  ·by_cases hm:c.me∈ks∧c.iv=a.iv
   ·rw[if_pos hm,if_pos ⟨h.1 hm.1,hm.2⟩]
   ·rw[if_neg hm,if_neg (fun k=>hm ⟨h.2 k.1,k.2⟩)]
theorem leftC_all {ks:List Int}(hkb:∀ x∈ks,1≤x∧x≤8191)(a:Ow8)(l:List Hd)(kd me now:Int):leftC a ks l kd me now=leftC a (allN ks) l kd me now:=by
 have h:stepC a ks kd me now=stepC a (allN ks) kd me now:=by
  funext m h
  unfold stepC skipC
  rw[kindC_all hkb]
 unfold leftC mostC
 rw[h]
theorem rdiC_all {ks:List Int}(hkb:∀ x∈ks,1≤x∧x≤8191)(a:Ow8)(l:List Hd)(me:Int):rdiC a ks l me=rdiC a (allN ks) l me:=by
 have h:hitC a ks me=hitC a (allN ks) me:=by
  funext h
  unfold hitC
  rw[kindC_all hkb]
 unfold rdiC
 rw[h]
theorem lost_all {ks:List Int}(hkb:∀ x∈ks,1≤x∧x≤8191)(o:Ow20)(r:Rf):lost20 o ks r=lostR o.a (allN ks) r.hd r.nw:=by
 unfold lost20 pickN lostR allN
 refine congrArg (fun p=>List.filter p (riseN ks 8192)) (funext fun x=>?_)
 unfold lostP
 rw[leftC_all hkb]
 unfold allN
 rfl
theorem rdis_all {ks:List Int}(hkb:∀ x∈ks,1≤x∧x≤8191)(o:Ow20)(r:Rf):rdis20 o ks r=rdisR o.a (allN ks) r.hd r.nw:=by
 unfold rdis20 pickN rdisR allN
 refine congrArg (fun p=>List.filter p (riseN ks 8192)) (funext fun x=>?_)
 unfold rdisP
 rw[leftC_all hkb,rdiC_all hkb]
 unfold allN
 have h:=leftC_pos o.a (riseN ks 8192) r.hd 1 x r.nw
 show(decide (0<leftC o.a (riseN ks 8192) r.hd 1 x r.nw)&&rdiC o.a (riseN ks 8192) r.hd x)=_
 congr 1
 by_cases h0:leftC o.a (riseN ks 8192) r.hd 1 x r.nw=0
 ·rw[h0];rfl
 ·rw[decide_eq_true (by omega),beq_eq_false_iff_ne.2 h0];rfl
theorem Rising.tick {V:List Vn}(h:Rising V):Rising (tickV V):=by unfold Rising;rw[tickV_keys];exact h
structure Rel (o:Ow20)(ks:List Int)(s:Ms)(r:Rf):Prop where
 inv:Inv o.a (allN ks) s.V s.bd s.cr r.hd r.nw
 ris:Rising s.V
 ar:Ar o.lw r.ws s.al
 lf:1≤s.lf∧s.lf≤every o.a.iv∧(r.nw+s.lf-1) % every o.a.iv=0∧s.sq=(r.nw+s.lf-1) / every o.a.iv
 bad:s.bad=r.bad
 lp:s.lp=r.lp
 dat:s.dat=r.dat
 rep:s.rep=r.rep
 ali:s.ali=r.ali
 tr:s.tr=r.tr
 way:s.way=r.way
 lp0:0≤r.lp
 tr0:0≤r.tr
section
variable {o:Ow20} {ks:List Int} {s:Ms} {r:Rf}
theorem Rel.worst (hkb:∀ x∈ks,1≤x∧x≤8191){V:List Vn}{bd cr now:Int}{l:List Hd}(h:Inv o.a (allN ks) V bd cr l now)(r:Rf)(hl:r.hd=l)(hn:r.nw=now):worstV V bd cr=worst20 o ks r:=by
 subst hl;subst hn
 unfold worstV worst20
 rw[leftC_all hkb,leftC_all hkb,lost_all hkb,rdis_all hkb,← h.lost,← h.rdis,← h.hbd,← h.hcr]
theorem every_pos (iv:Int):every iv=1∨every iv=10:=by unfold every;split <;> simp
theorem every_tick {iv:Int}(h:iv=4∨iv=5):tickC iv=every iv:=by rcases h with rfl|rfl <;> rfl
theorem Rel.tick (hkb:∀ x∈ks,1≤x∧x≤8191)(hiv:o.a.iv=4∨o.a.iv=5)(hlw:1≤o.lw)(h:Rel o ks s r) :
  Rel o ks (tickM o s).1 (tick20 o ks r).1∧(tickM o s).2.1=(tick20 o ks r).2.1∧(tickM o s).2.2=(tick20 o ks r).2.2:=by
 have hI:=h.inv.tick
 have hw:wstM (remT s)=worst20 o ks { r with nw:=r.nw+1 }:=Rel.worst hkb hI _ rfl rfl
 have hwb:=worst20_b o ks { r with nw:=r.nw+1 }
 obtain⟨ha,hrp⟩:=h.ar.tick hlw (x:=worst20 o ks { r with nw:=r.nw+1 }) (by omega)
 have hev:=every_tick hiv
 obtain⟨l1,l2,l3,l4⟩:=h.lf
 have ev:=every_pos o.a.iv
 unfold tickM tick20
 by_cases hl:0<s.lf-1
 ·have hne:¬ r.nw % every o.a.iv=0:=by
   rcases ev with e|e <;> rw[e] at l2 l3 ⊢ <;> omega
  rw[if_pos hl,if_neg hne,hw]
  refine⟨⟨hI,by rw[show({ almT o.lw (remT s) with lf:=s.lf-1 } : Ms).V=tickV s.V from rfl];exact h.ris.tick,?_,?_,h.bad,h.lp,h.dat,h.rep,h.ali,h.tr,h.way,h.lp0,h.tr0⟩,rfl,hrp⟩
  ·show Ar o.lw (r.ws++[_]) (tickA o.lw s.al (wstM (remT s))).1
   rw[hw];exact ha
  ·show 1≤s.lf-1∧s.lf-1≤every o.a.iv∧(r.nw+1+(s.lf-1)-1) % every o.a.iv=0∧s.sq=(r.nw+1+(s.lf-1)-1) / every o.a.iv
   rw[show r.nw+1+(s.lf-1)-1=r.nw+s.lf-1 by omega]
   exact⟨by omega,by omega,l3,l4⟩
 ·have hl1:s.lf=1:=by omega
  rw[hl1] at l3 l4
  rw[show r.nw+1-1=r.nw by omega] at l3 l4
  rw[if_neg hl,if_pos l3,hw,l4]
  refine⟨⟨hI,by rw[show({ almT o.lw (remT s) with lf:=tickC o.a.iv,sq:=r.nw / every o.a.iv+1 } : Ms).V=tickV s.V from rfl];exact h.ris.tick,?_,?_,h.bad,h.lp,h.dat,h.rep,h.ali,h.tr,h.way,h.lp0,h.tr0⟩,rfl,hrp⟩
  ·show Ar o.lw (r.ws++[_]) (tickA o.lw s.al (wstM (remT s))).1
   rw[hw];exact ha
  ·show 1≤tickC o.a.iv∧tickC o.a.iv≤every o.a.iv∧(r.nw+1+tickC o.a.iv-1) % every o.a.iv=0∧r.nw / every o.a.iv+1=(r.nw+1+tickC o.a.iv-1) / every o.a.iv
   rw[hev]
   rcases ev with e|e <;> rw[e] at l3 ⊢ <;> omega
theorem tkC_me (a b c:Int)(f:List UInt8):0≤(tkC a b c f).2.2.2.2.1∧(tkC a b c f).2.2.2.2.1<65536:=by
 unfold tkC
 split
 ·rename_i h
  have h2:=h.2.2
  unfold mayC at h2
  simp only[Bool.and_eq_true,decide_eq_true_eq] at h2
  show 0≤numOf (cr2 f).1∧numOf (cr2 f).1<65536
  omega
 ·exact⟨by decide,by decide⟩
theorem Rel.check (h:Rel o ks s r)(a b c:Int)(f:List UInt8):Rel o ks (chkM o s a b c f).1 (ck20 r a b c f).1∧(chkM o s a b c f).2=(ck20 r a b c f).2:=by
 unfold chkM ck20
 by_cases he:(tkC a b c f).2.2.2.2.2.2=0
 ·rw[if_pos he,if_pos he]
  have hI:=h.inv.hear h.ris (ckOf (tkC a b c f)) (tkC_me a b c f)
  refine⟨⟨hI,?_,h.ar,h.lf,h.bad,h.lp,h.dat,h.rep,h.ali,h.tr,h.way,h.lp0,h.tr0⟩,rfl⟩
  show Rising (hearC o.a s.V s.bd s.cr (ckOf (tkC a b c f)).lv (ckOf (tkC a b c f)).rd (ckOf (tkC a b c f)).iv (ckOf (tkC a b c f)).me (ckOf (tkC a b c f)).md).1
  rcases kind_hear (a:=o.a) (bd:=s.bd) (cr:=s.cr) h.inv.ks (ckOf (tkC a b c f)) with⟨_,e⟩|⟨_,e⟩|⟨_,e⟩|⟨_,_,_,e⟩
  ·rw[e];exact h.ris
  ·rw[e];exact h.ris
  ·rw[e];exact h.ris
  ·rw[e];exact h.ris.put _
 ·rw[if_neg he,if_neg he];exact⟨h,rfl⟩
theorem Rel.answ (h:Rel o ks s r)(sr ds:Mc)(a b c:Int)(f:List UInt8)(l:List Th):Rel o ks (answM o s ds a b f l).1 (lr20 o r ds a b f l).1∧(answM o s ds a b f l).2=(lr20 o r ds a b f l).2:=by
 unfold answM lr20
 have h0:=h.lp0
 have hlp:=h.lp
 by_cases hd:ds=o.mc
 ·rw[if_pos hd,if_pos hd]
  refine⟨?_,rfl⟩
  by_cases hc:(tkL a b f l).2.2.2.2=0∧s.lp≠0∧(tkL a b f l).2.2.1=s.lp
  ·rw[if_pos hc,if_pos (show(tkL a b f l).2.2.2.2=0∧0<r.lp∧(tkL a b f l).2.2.1=r.lp from⟨hc.1,by have:=hc.2.1;omega,by rw[hc.2.2,hlp]⟩)]
   by_cases hq:(tkL a b f l).2.2.2.1=r.dat
   ·rw[if_pos (show(tkL a b f l).2.2.2.1=s.dat from hq.trans h.dat.symm),if_pos hq]
    exact⟨h.inv,h.ris,h.ar,h.lf,h.bad,h.lp,h.dat,by show s.rep+1=r.rep+1;rw[h.rep],by show s.ali+1=r.ali+1;rw[h.ali],h.tr,h.way,h.lp0,h.tr0⟩
   ·rw[if_neg (show ¬(tkL a b f l).2.2.2.1=s.dat from fun k=>hq (k.trans h.dat)),if_neg hq]
    exact⟨h.inv,h.ris,h.ar,h.lf,h.bad,h.lp,h.dat,by show s.rep+1=r.rep+1;rw[h.rep],h.ali,h.tr,h.way,h.lp0,h.tr0⟩
  ·rw[if_neg hc,if_neg (fun hk=>hc ⟨hk.1,by have:=hk.2.1;omega,by rw[hk.2.2,hlp]⟩)];exact h
 ·rw[if_neg hd,if_neg hd];exact⟨h,rfl⟩
theorem Rel.found (h:Rel o ks s r)(ds:Mc)(a b c:Int)(f:List UInt8)(l:List Th):Rel o ks (fndM o s ds a b c f l).1 (fd20 o r ds a b c f l).1∧(fndM o s ds a b c f l).2=(fd20 o r ds a b c f l).2:=by
 unfold fndM fd20
 have h0:=h.tr0
 have htr:=h.tr
 have hwy:=h.way
 by_cases hd:ds=o.mc
 ·rw[if_pos hd,if_pos hd]
  refine⟨?_,rfl⟩
  by_cases hc:(tkRp a b c f l).2=0∧s.tr≠0∧(tkRp a b c f l).1.nm=s.tr∧s.way.length<32
  ·rw[if_pos hc,if_pos (show(tkRp a b c f l).2=0∧0<r.tr∧(tkRp a b c f l).1.nm=r.tr∧r.way.length<32 from⟨hc.1,by have:=hc.2.1;omega,by rw[hc.2.2.1,htr],by rw[←hwy];exact hc.2.2.2⟩)]
   exact⟨h.inv,h.ris,h.ar,h.lf,h.bad,h.lp,h.dat,h.rep,h.ali,h.tr,by show s.way++_=r.way++_;rw[hwy],h.lp0,h.tr0⟩
  ·rw[if_neg hc,if_neg (fun hk=>hc ⟨hk.1,by have:=hk.2.1;omega,by rw[hk.2.2.1,htr],by rw[hwy];exact hk.2.2.2⟩)];exact h
 ·rw[if_neg hd,if_neg hd];exact⟨h,rfl⟩
theorem odd_even {x:Int} :((x % 2==1)=false)↔x % 2=0:=by
 rw[beq_eq_false_iff_ne];omega
theorem an_eq (o:Ow20)(sr ds:Mc)(a c:Int)(f:List UInt8)(l:List Th):askM o sr ds a 3 c f l=an20 o sr ds a 3 c f l:=by
 unfold askM an20
 by_cases hd:ds=o.mc∧sr.a % 2=0
 ·rw[if_pos ⟨hd.1,odd_even.2 hd.2⟩,if_pos hd]
  have h3:(tkL a 3 f l).2.1=false:=by unfold tkL;split <;> rfl
  by_cases he:(tkL a 3 f l).2.2.2.2=0
  ·have e:ansL a 3 c f l=(a,2,c,f,l,0):=by unfold ansL;rw[if_pos ⟨he,h3⟩]
   rw[e,if_pos he];rfl
  ·have e:ansL a 3 c f l=(0,0,0,[],[],4):=by unfold ansL;rw[if_neg (fun h=>he h.1)]
   rw[e,if_neg he];rfl
 ·rw[if_neg (fun h=>hd ⟨h.1,odd_even.1 h.2⟩),if_neg hd]
theorem tkTr_tl (a b:Int)(f:List UInt8):0≤(tkTr a b f).1.tl:=by
 unfold tkTr
 split
 ·exact(numOf_bd _).1
 ·exact Int.le_refl _
theorem sk_eq (o:Ow20)(ds:Mc)(a b:Int)(f:List UInt8):sekM o ds a b f=sk20 o ds a b f:=by
 unfold sekM sk20
 by_cases hd:ds=o.mc∨ds=trcG o.a.lv
 ·rw[if_pos hd,if_pos hd]
  have ht:=tkTr_tl a b f
  by_cases hc:(tkTr a b f).2=0∧(tkTr a b f).1.tt=o.mc∧0<(tkTr a b f).1.tl∧(tkTr a b f).1.fr.a % 2=0
  ·rw[if_pos hc,if_pos ⟨hc.1,hc.2.1,by have:=hc.2.2.1;omega,odd_even.2 hc.2.2.2⟩,decide_eq_true hc.1]
  ·rw[if_neg hc,if_neg (fun h=>hc ⟨h.1,h.2.1,by have:=h.2.2.1;omega,odd_even.1 h.2.2.2⟩)]
 ·rw[if_neg hd,if_neg hd]
theorem Rel.cnt (h:Rel o ks s r)(g:Bool):Rel o ks (badM s g) (bad20 r g):=by
 unfold badM bad20
 cases g
 ·exact⟨h.inv,h.ris,h.ar,h.lf,by show s.bad+1=r.bad+1;rw[h.bad],h.lp,h.dat,h.rep,h.ali,h.tr,h.way,h.lp0,h.tr0⟩
 ·exact h
theorem Rel.op (h:Rel o ks s r)(sr ds:Mc)(a b c:Int)(f:List UInt8)(l:List Th)(hb:hndN b≠0) :
  Rel o ks (opM o s sr ds a b c f l).1 (op20 o r sr ds a b c f l).1∧(opM o s sr ds a b c f l).2=(op20 o r sr ds a b c f l).2:=by
 rcases hndN_cases hb with rfl|rfl|rfl|rfl|rfl
 ·have:=h.check a 1 c f
  unfold opM op20
  rw[if_pos rfl,if_pos rfl,this.2]
  exact⟨this.1,rfl⟩
 ·have:=h.answ sr ds a 2 c f l
  unfold opM op20
  rw[if_neg (by decide),if_pos rfl,if_neg (by decide),if_neg (by decide),if_pos rfl,this.2]
  exact⟨this.1,rfl⟩
 ·unfold opM op20
  rw[if_neg (by decide),if_neg (by decide),if_pos rfl,if_neg (by decide),if_pos rfl,an_eq]
  exact⟨h,rfl⟩
 ·have:=h.found ds a 4 c f l
  unfold opM op20
  rw[if_neg (by decide),if_neg (by decide),if_neg (by decide),if_pos rfl,if_neg (by decide),if_neg (by decide),if_neg (by decide),if_neg (by decide),if_pos rfl,this.2]
  exact⟨this.1,rfl⟩
 ·unfold opM op20
  rw[if_neg (by decide),if_neg (by decide),if_neg (by decide),if_neg (by decide),if_neg (by decide),if_neg (by decide),if_neg (by decide),if_pos rfl,sk_eq]
  exact⟨h,rfl⟩
theorem op20_none {b:Int}(hb:hndN b=0)(o:Ow20)(r:Rf)(sr ds:Mc)(a c:Int)(f:List UInt8)(l:List Th):op20 o r sr ds a b c f l=(r,[],true):=by
 have n1:b≠1:=by rintro rfl;revert hb;decide
 have n2:b≠2:=by rintro rfl;revert hb;decide
 have n3:b≠3:=by rintro rfl;revert hb;decide
 have n4:b≠4:=by rintro rfl;revert hb;decide
 have n5:b≠5:=by rintro rfl;revert hb;decide
 unfold op20
 rw[if_neg n1,if_neg n3,if_neg n2,if_neg n5,if_neg n4]
theorem Rel.take (h:Rel o ks s r)(sr ds:Mc)(d:List UInt8):Rel o ks (takeM o s sr ds d).1 (take20 o r sr ds d).1∧(takeM o s sr ds d).2=(take20 o r sr ds d).2:=by
 by_cases he:(tkP d).2.2.2.2.2=0
 ·by_cases hl:(tkP d).1=o.a.lv
  ·have e2 : take20 o r sr ds d = (bad20 (op20 o r sr ds (tkP d).1 (tkP d).2.1 (tkP d).2.2.1 (tkP d).2.2.2.1 (tkP d).2.2.2.2.1).1 (op20 o r sr ds (tkP d).1 (tkP d).2.1 (tkP d).2.2.1 (tkP d).2.2.2.1 (tkP d).2.2.2.2.1).2.2,
       (op20 o r sr ds (tkP d).1 (tkP d).2.1 (tkP d).2.2.1 (tkP d).2.2.2.1 (tkP d).2.2.2.2.1).2.1):=by
    unfold take20
    rw[if_neg (fun hn=>hn he),if_neg (fun hn=>hn hl)]
   rw[e2]
   by_cases hb:hndN (tkP d).2.1≠0
   ·have e1 : takeM o s sr ds d = (badM (opM o s sr ds (tkP d).1 (tkP d).2.1 (tkP d).2.2.1 (tkP d).2.2.2.1 (tkP d).2.2.2.2.1).1 (opM o s sr ds (tkP d).1 (tkP d).2.1 (tkP d).2.2.1 (tkP d).2.2.2.1 (tkP d).2.2.2.2.1).2.2,
        (opM o s sr ds (tkP d).1 (tkP d).2.1 (tkP d).2.2.1 (tkP d).2.2.2.1 (tkP d).2.2.2.2.1).2.1):=by
     unfold takeM
     rw[if_pos ⟨he,hl,hb⟩]
    have:=h.op sr ds (tkP d).1 (tkP d).2.1 (tkP d).2.2.1 (tkP d).2.2.2.1 (tkP d).2.2.2.2.1 hb
    rw[e1,this.2]
    exact⟨this.1.cnt _,rfl⟩
   ·have hb0:hndN (tkP d).2.1=0:=Decidable.not_not.1 hb
    have e1:takeM o s sr ds d=(s,[]):=by
     unfold takeM
     rw[if_neg (fun hk=>hb hk.2.2),decide_eq_true he];rfl
    rw[e1,op20_none hb0]
    exact⟨h,rfl⟩
  ·have e2:take20 o r sr ds d=(r,[]):=by
    unfold take20
    rw[if_neg (fun hn=>hn he),if_pos hl]
   have e1:takeM o s sr ds d=(s,[]):=by
    unfold takeM
    rw[if_neg (fun hk=>hl hk.2.1),decide_eq_true he];rfl
   rw[e1,e2]
   exact⟨h,rfl⟩
 ·have e2:take20 o r sr ds d=(bad20 r false,[]):=by
   unfold take20
   rw[if_pos he];rfl
  have e1:takeM o s sr ds d=(badM s false,[]):=by
   unfold takeM
   rw[if_neg (fun hk=>he hk.1),decide_eq_false he]
  rw[e1,e2]
  exact⟨h.cnt false,rfl⟩
theorem Rel.ask (h:Rel o ks s r)(ds:Mc)(d:List UInt8)(hp:(loopP o.a.lv (r.lp+1) d).2=0∨hostV ds=false∨64<d.length):Rel o ks (loopM o s ds d).1 (ask20 o r ds d).1∧(loopM o s ds d).2=(ask20 o r ds d).2:=by
 unfold loopM ask20
 by_cases h1:hostV ds=false
 ·rw[if_pos h1,if_pos h1];exact⟨h,rfl⟩
 ·rw[if_neg h1,if_neg h1]
  by_cases h2:64<d.length
  ·rw[if_pos h2,if_pos h2];exact⟨h,rfl⟩
  ·rw[if_neg h2,if_neg h2,h.lp]
   refine⟨⟨h.inv,h.ris,h.ar,h.lf,h.bad,rfl,rfl,rfl,rfl,h.tr,h.way,by have:=h.lp0;show 0≤r.lp+1;omega,h.tr0⟩,?_⟩
   rcases hp with hp|hp|hp
   ·show(_,(loopP o.a.lv (r.lp+1) d).2)=_
    rw[hp]
   ·exact absurd hp h1
   ·exact absurd hp h2
theorem Rel.seek (h:Rel o ks s r)(tg:Mc)(tl:Int)(hp:(tracP (askT o (r.tr+1) tg tl)).2=0):Rel o ks (traceM o s tg tl).1 (seek20 o r tg tl).1∧(traceM o s tg tl).2=(seek20 o r tg tl).2:=by
 unfold traceM seek20
 by_cases h1:hostV tg=false∨tl=0
 ·rw[if_pos h1,if_pos h1];exact⟨h,rfl⟩
 ·rw[if_neg h1,if_neg h1,h.tr]
  refine⟨⟨h.inv,h.ris,h.ar,h.lf,h.bad,h.lp,h.dat,h.rep,h.ali,rfl,rfl,h.lp0,by have:=h.tr0;show 0≤r.tr+1;omega⟩,?_⟩
  show(_,(tracP (askT o (r.tr+1) tg tl)).2)=_
  rw[hp]
end
end Go.Proofs.YtlkdfofpnmpidaaGreat
