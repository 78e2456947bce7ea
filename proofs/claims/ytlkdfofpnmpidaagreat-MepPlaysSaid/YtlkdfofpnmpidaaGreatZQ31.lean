/- ZQ31 -/
import Derived.Test.YtlkdfofpnmpidaaGreatZQ30
import Derived.Test.YtlkdfofpnmpidaaGreatZQ27
import Derived.Test.YtlkdfofpnmpidaaGreatZQ28
import Derived.Test.YtlkdfofpnmpidaaGreatZQ29
set_option linter.unusedVariables false
set_option linter.unusedSimpArgs false
set_option maxRecDepth 100000
set_option maxHeartbeats 16000000
namespace Go.Proofs.YtlkdfofpnmpidaaGreat
open Go.RowKit
theorem take20_b5i (o:Ow20)(ho:o.Ok)(hlv:o.a.lv<8)(ks:List Int)(v:Rv)(r:Rf)(hr:Rk r)(sr ds:Mc)(hsr:sr.Ok)(hds:ds.Ok)(d:List UInt8)(hd:d.length≤1600)(he:(tkP d).2.2.2.2.2=0)(hl:(tkP d).1=o.a.lv)(hb:(tkP d).2.1=5)(hx:(ds=o.mc∨ds=trcG o.a.lv)∧(tkTr (tkP d).1 (tkP d).2.1 (tkP d).2.2.2.1).2=0∧¬((tkTr (tkP d).1 (tkP d).2.1 (tkP d).2.2.2.1).1.tt=o.mc∧0<(tkTr (tkP d).1 (tkP d).2.1 (tkP d).2.2.2.1).1.tl∧(tkTr (tkP d).1 (tkP d).2.1 (tkP d).2.2.2.1).1.fr.a % 2=0))(w:World)(h:RX w ks v r) :
  Calls Tryz.prog 19 #[.agg (rfA o v r),.agg #[.int .u8 sr.a,.int .u8 sr.b,.int .u8 sr.c,.int .u8 sr.d,.int .u8 sr.e,.int .u8 sr.f],.agg #[.int .u8 ds.a,.int .u8 ds.b,.int .u8 ds.c,.int .u8 ds.d,.int .u8 ds.e,.int .u8 ds.f],.string (bs d)] w fun en w'=>∃ v' u,en=.returned (.tuple #[.agg (rfA o v' (take20 o r sr ds d).1),u])∧VN w.heap.size w' v v' r (take20 o r sr ds d).1∧Ow 7 snC 58 w' w.heap.size u (take20 o r sr ds d).2∧Below w.heap.size w w':=by
 have hpb:=tkP_b d hd
 have hbad:(op20 o r sr ds (tkP d).1 (tkP d).2.1 (tkP d).2.2.1 (tkP d).2.2.2.1 (tkP d).2.2.2.2.1).1.bad=r.bad:=op20_bad _ _ _ _ _ _ _ _ _
 have HT20:take20 o r sr ds d=(bad20 (op20 o r sr ds (tkP d).1 (tkP d).2.1 (tkP d).2.2.1 (tkP d).2.2.2.1 (tkP d).2.2.2.2.1).1 (op20 o r sr ds (tkP d).1 (tkP d).2.1 (tkP d).2.2.1 (tkP d).2.2.2.1 (tkP d).2.2.2.2.1).2.2,(op20 o r sr ds (tkP d).1 (tkP d).2.1 (tkP d).2.2.1 (tkP d).2.2.2.1 (tkP d).2.2.2.2.1).2.1):=by
  unfold take20;rw[if_neg (fun k=>k he),if_neg (fun k=>k hl)]
 have T12:∀ W:World,_:=fun W=>refTake12_any d W (by omega)
 rw[HT20]
 obtain⟨⟨a,b,c,f,l,e⟩,ht⟩:∃ z,tkP d=z:=⟨_,rfl⟩
 rw[ht] at hpb he hl hb hbad ⊢
 simp only[ht] at T12
 simp only at hpb he hl hb hbad ⊢
 rw[ht] at hx
 simp only at hx
 subst he hl hb
 obtain⟨⟨r1,out,g⟩,hop⟩:∃ z,op20 o r sr ds o.a.lv 5 c f l=z:=⟨_,rfl⟩
 rw[hop] at hbad ⊢
 simp only at hbad ⊢
 have HOP:=hd0 hop
 have T12:=hd0 T12
 have HX:=hd0 h
 have HO:=hd0 ho
 have HR:=hd0 hr
 have HMC:=hd0 (And.intro hsr hds)
 have HPB:=hd0 hpb
 have hb1:0≤r1.bad∧r1.bad≤900:=by rw[hbad];exact⟨hr.ok.bad.1,hr.bad⟩
 have wb1:IntKind.u64.wrap (r1.bad+1)=r1.bad+1:=IntWalk.u64_in _ (by omega)
 have hpc:0≤c∧c<256:=hpb.pc
 have wl:IntKind.i64.wrap o.a.lv=o.a.lv:=IntWalk.i64_in _ (by have:=ho.a.lv;omega)
 have dll:(o.a.lv != o.a.lv)=false:=by simp
 have LV:Hid (∀ W,Calls Tryz.prog 44 #[.int .i64 o.a.lv] W fun en w'=>en=.returned (.tuple #[.agg #[.int .u8 1,.int .u8 128,.int .u8 194,.int .u8 0,.int .u8 0,.int .u8 (48+o.a.lv)],.agg #[.int .u8 1,.int .u8 128,.int .u8 194,.int .u8 0,.int .u8 0,.int .u8 (56+o.a.lv)]])∧Below W.heap.size W w'):=hd0 fun W=>refLevels_any o.a.lv W HO.out.a.lv.1 hlv
 obtain⟨MI,hMI⟩:∃ D,decide (ds=o.mc)=D:=⟨_,rfl⟩
 have EQ:∀ W:World,(binOp .eql 25 (.agg #[.int .u8 ds.a,.int .u8 ds.b,.int .u8 ds.c,.int .u8 ds.d,.int .u8 ds.e,.int .u8 ds.f]) (.agg #[.int .u8 o.mc.a,.int .u8 o.mc.b,.int .u8 o.mc.c,.int .u8 o.mc.d,.int .u8 o.mc.e,.int .u8 o.mc.f])).run Tryz.prog W=.ok (.bool MI) W:=fun W=>by rw[←hMI];exact eql_macG ds o.mc W
 have HMI:=hd0 hMI
 have T0:=hd0 (TKr.begin w o v r sr ds)
 clear hop h ho hr hsr hds hd hpb ht HT20 hMI hlv hbad
 go_enter Tryz.func19,Tryz.ntmps19
 go_upto_region 1 with fail
 obtain⟨w0,hw0⟩:∃ z,(((w.alloc (.cells (rfA o v r) 44)).alloc (.cells #[.int .u8 sr.a,.int .u8 sr.b,.int .u8 sr.c,.int .u8 sr.d,.int .u8 sr.e,.int .u8 sr.f] 25)).alloc (.cells #[.int .u8 ds.a,.int .u8 ds.b,.int .u8 ds.c,.int .u8 ds.d,.int .u8 ds.e,.int .u8 ds.f] 25)).alloc (.cells yP 44)=z:=⟨_,rfl⟩
 rw[hw0] at T0 ⊢
 clear hw0
 go_wp2_with fail
 with_reducible refine(T12.out _).mono ?_
 rintro en w1 ⟨vl,rfl,htl,hb1'⟩
 have T1:=hd0 (T0.out.later hb1')
 obtain⟨ax,cx,hvx,-⟩:=htl.tls.shape
 obtain⟨n1,hn1⟩:∃ n,l.length=n:=⟨_,rfl⟩
 rw[hn1] at hvx
 subst hvx
 have V1:=hd0 htl.tls
 clear htl hb1' T0 hn1 T12
 go_upto_region 2 with fail
 have g2:=PB.new 115 w1 o.a.lv 5 c f (.slice ax n1 cx)
 have hal:=(Below.refl w1.heap.size w1).alloc (Nat.le_refl _) (.cells #[.int .u8 o.a.lv,.int .u8 5,.int .u8 c,.string (bs f),.slice ax n1 cx] 115)
 have T2:=hd0 (T1.out.later hal)
 have V2:=hd0 (V1.out.later hal)
 have hq2:w.heap.size+4≤w1.heap.size:=T1.out.sz
 obtain⟨w2,hw2⟩:∃ z,w1.alloc (.cells #[.int .u8 o.a.lv,.int .u8 5,.int .u8 c,.string (bs f),.slice ax n1 cx] 115)=z:=⟨_,rfl⟩
 obtain⟨q,hq⟩:∃ z,w1.heap.size=z:=⟨_,rfl⟩
 rw[hw2] at T2 V2 g2 hal ⊢
 have VB0:∀ W,Below w1.heap.size w1 W→Tls W (.slice ax n1 cx) l:=fun W hb=>V1.out.later hb
 rw[hq] at g2 hq2 hal VB0 ⊢
 have VB:=hd0 VB0
 have B2:=hd0 hal
 have HQE:=hd0 hq
 have P2:=hd0 g2
 have HQ:=hd0 hq2
 have c0:w2.cell? ⟨w.heap.size,0,none⟩=some (.int .u8 o.a.lv):=T2.out.c 0 _ rfl
 clear hw2 hq g2 hal T1 V1 hq2 VB0
 go_upto_region 6 with(go_at_call 44;(with_reducible refine(LV.out _).mono ?_);rintro en w3 ⟨rfl,hb3⟩;have T3:=hd0 (T2.out.later hb3);have V3:=hd0 (V2.out.later hb3);have P3:=hd0 (P2.out.later hb3);have B3:Hid (Below q w1 w3):=hd0 (B2.out.trans (hb3.mono (by rw[←HQE.out];exact B2.out.size)));clear hb3)
 have A4:Below w3.heap.size w3 ((w3.alloc (.cells #[.int .u8 1,.int .u8 128,.int .u8 194,.int .u8 0,.int .u8 0,.int .u8 (48+o.a.lv)] 25)).alloc (.cells #[.int .u8 1,.int .u8 128,.int .u8 194,.int .u8 0,.int .u8 0,.int .u8 (56+o.a.lv)] 25)):=(bA _).alloc (by simp) _
 have GM:=GB.new 25 (w3.alloc (.cells #[.int .u8 1,.int .u8 128,.int .u8 194,.int .u8 0,.int .u8 0,.int .u8 (48+o.a.lv)] 25)) #[.int .u8 1,.int .u8 128,.int .u8 194,.int .u8 0,.int .u8 0,.int .u8 (56+o.a.lv)]
 rw[show(w3.alloc (.cells #[.int .u8 1,.int .u8 128,.int .u8 194,.int .u8 0,.int .u8 0,.int .u8 (48+o.a.lv)] 25)).heap.size=w3.heap.size+1 by simp] at GM
 obtain⟨w4,hw4⟩:∃ k,(w3.alloc (.cells #[.int .u8 1,.int .u8 128,.int .u8 194,.int .u8 0,.int .u8 0,.int .u8 (48+o.a.lv)] 25)).alloc (.cells #[.int .u8 1,.int .u8 128,.int .u8 194,.int .u8 0,.int .u8 0,.int .u8 (56+o.a.lv)] 25)=k:=⟨_,rfl⟩
 obtain⟨q3,hq3⟩:∃ k,w3.heap.size=k:=⟨_,rfl⟩
 have hq3s:w.heap.size+4≤w3.heap.size:=T3.out.sz
 rw[hw4] at A4 GM ⊢
 have T4:=hd0 (T3.out.later A4)
 have V4:=hd0 (V3.out.later A4)
 have P4:=hd0 (P3.out.later A4)
 have B4:Hid (Below q w1 w4):=hd0 (B3.out.trans (A4.mono (by rw[←HQE.out];exact B3.out.size)))
 rw[hq3] at GM hq3s ⊢
 have GM4:=hd0 GM
 have HQ3:=hd0 hq3s
 have d0:=T4.out.g6.c 0 _ rfl
 have d1:=T4.out.g6.c 1 _ rfl
 have d2:=T4.out.g6.c 2 _ rfl
 have d3:=T4.out.g6.c 3 _ rfl
 have d4:=T4.out.g6.c 4 _ rfl
 have d5:=T4.out.g6.c 5 _ rfl
 have m0:w4.cell? ⟨w.heap.size,5,none⟩=some (.int .u8 o.mc.a):=T4.out.c 5 _ rfl
 have m1:w4.cell? ⟨w.heap.size,6,none⟩=some (.int .u8 o.mc.b):=T4.out.c 6 _ rfl
 have m2:w4.cell? ⟨w.heap.size,7,none⟩=some (.int .u8 o.mc.c):=T4.out.c 7 _ rfl
 have m3:w4.cell? ⟨w.heap.size,8,none⟩=some (.int .u8 o.mc.d):=T4.out.c 8 _ rfl
 have m4:w4.cell? ⟨w.heap.size,9,none⟩=some (.int .u8 o.mc.e):=T4.out.c 9 _ rfl
 have m5:w4.cell? ⟨w.heap.size,10,none⟩=some (.int .u8 o.mc.f):=T4.out.c 10 _ rfl
 have k0:w4.cell? ⟨w.heap.size,0,none⟩=some (.int .u8 o.a.lv):=T4.out.c 0 _ rfl
 have p0:=P4.out.c0
 have p1:=P4.out.c1
 clear A4 GM hw4 hq3 hq3s T2 T3 V2 V3 P2 P3 B2 B3 c0 wl LV
 go_upto_block 0 with fail
 clear d0 d1 d2 d3 d4 d5 m0 m1 m2 m3 m4 m5 k0 p0 p1 EQ dll
 go_cut [15,16] (fun s15 s16 wx=>∃ (v':Rv) (F:Int),s16=.int .i64 F∧(F != 0)=(!g)∧Hid (TKr w wx o v' r1 sr ds)∧Hid (VN (w.heap.size+4) wx v v' r r1)∧Hid (Ow 7 snC 58 wx (w.heap.size+4) s15 out))
 case first =>
  have hop2:r=r1∧(out,g)=sk20 o ds o.a.lv 5 f:=by
   have h:=HOP.out
   unfold op20 at h
   rw[if_neg (by decide),if_neg (by decide),if_neg (by decide),if_pos rfl] at h
   simp only[Prod.mk.injEq] at h
   obtain⟨h1,h2,h3⟩:=h
   exact⟨h1,by rw[←h2,← h3]⟩
  obtain⟨rfl,hag⟩:=hop2
  unfold sk20 at hag
  have HXX:=hd0 hx
  clear hx
  obtain⟨DG,hDG⟩:∃ D,decide (ds=trcG o.a.lv)=D:=⟨_,rfl⟩
  have EQ2:∀ W:World,(binOp .eql 25 (.agg #[.int .u8 ds.a,.int .u8 ds.b,.int .u8 ds.c,.int .u8 ds.d,.int .u8 ds.e,.int .u8 ds.f]) (.agg #[.int .u8 1,.int .u8 128,.int .u8 194,.int .u8 0,.int .u8 0,.int .u8 (56+o.a.lv)])).run Tryz.prog W=.ok (.bool DG) W:=fun W=>by rw[←hDG];exact eql_macG ds (trcG o.a.lv) W
  have hC:(MI||DG)=decide (ds=o.mc∨ds=trcG o.a.lv):=by rw[←HMI.out,← hDG,Bool.decide_or]
  have HC:=hd0 hC
  have HDG:=hd0 hDG
  have HAG:=hd0 hag
  clear hC hDG hag
  go_upto_region 35 with fail
  go_cut [147] (fun s147 wx=>s147=.bool (MI||DG)∧wx=w4)
  case first =>
   have d0:=T4.out.g6.c 0 _ rfl
   have d1:=T4.out.g6.c 1 _ rfl
   have d2:=T4.out.g6.c 2 _ rfl
   have d3:=T4.out.g6.c 3 _ rfl
   have d4:=T4.out.g6.c 4 _ rfl
   have d5:=T4.out.g6.c 5 _ rfl
   have g0:=GM4.out.c 0 _ rfl
   have g1:=GM4.out.c 1 _ rfl
   have g2:=GM4.out.c 2 _ rfl
   have g3:=GM4.out.c 3 _ rfl
   have g4:=GM4.out.c 4 _ rfl
   have g5:=GM4.out.c 5 _ rfl
   cases MI with
   | true =>
    go_wp2_with fail
    go_meet
    exact⟨rfl,rfl⟩
   | false =>
    go_wp2_with fail
    go_meet
    exact⟨by first|rfl|simp,rfl⟩
  case rest =>
   obtain⟨rfl,hwc⟩:=hcut
   obtain rfl:w4=wc:=hwc.symm
   obtain⟨CC,hCC⟩:∃ C,(MI||DG)=C:=⟨_,rfl⟩
   have hC:=HC.out
   have hag:=HAG.out
   rw[hCC] at hC ⊢
   clear EQ2 HDG hCC HC HAG
   obtain rfl:CC=true:=by rw[hC];exact decide_eq_true HXX.out.1
   rw[if_pos (of_decide_eq_true hC.symm)] at hag
   have htok:=tkTr_ok (b:=5) HO.out.a.lv f
   obtain⟨⟨t,e2⟩,htk⟩:∃ z,tkTr o.a.lv 5 f=z:=⟨_,rfl⟩
   have RT:Hid (∀ W,Calls Tryz.prog 59 #[.agg #[.int .u8 o.a.lv,.int .u8 5,.int .u8 c,.string (bs f),.slice ax n1 cx]] W fun en w'=>en=.returned (.tuple #[.agg #[.int .u8 t.lv,.int .u32 t.nm,.int .u8 t.tl,.int .u8 t.fr.a,.int .u8 t.fr.b,.int .u8 t.fr.c,.int .u8 t.fr.d,.int .u8 t.fr.e,.int .u8 t.fr.f,.int .u8 t.tt.a,.int .u8 t.tt.b,.int .u8 t.tt.c,.int .u8 t.tt.d,.int .u8 t.tt.e,.int .u8 t.tt.f],.int .i64 e2])∧Below W.heap.size W w'):=hd0 fun W=>by
    have h:=refTake15_any (.slice ax n1 cx) o.a.lv 5 c f W HPB.out.pf ⟨_,_,_,rfl⟩
    rw[htk] at h;exact h
   rw[htk] at hag htok
   simp only[] at hag htok
   have HTK:=hd0 htk
   have HTOK:=hd0 htok
   have p0:=P4.out.c0
   have p1:=P4.out.c1
   have p2:=P4.out.c2
   have p3:=P4.out.c3
   have p4:=P4.out.c4
   clear htk hC htok
   go_upto_region 37 with(go_at_call 59;(with_reducible refine(RT.out _).mono ?_);rintro en w5 ⟨rfl,hb5⟩;have T5:=hd0 (T4.out.later hb5);clear hb5)
   have GX:=GB.new 134 w5 #[.int .u8 t.lv,.int .u32 t.nm,.int .u8 t.tl,.int .u8 t.fr.a,.int .u8 t.fr.b,.int .u8 t.fr.c,.int .u8 t.fr.d,.int .u8 t.fr.e,.int .u8 t.fr.f,.int .u8 t.tt.a,.int .u8 t.tt.b,.int .u8 t.tt.c,.int .u8 t.tt.d,.int .u8 t.tt.e,.int .u8 t.tt.f]
   have T6:=hd0 (T5.out.later (bA (.cells #[.int .u8 t.lv,.int .u32 t.nm,.int .u8 t.tl,.int .u8 t.fr.a,.int .u8 t.fr.b,.int .u8 t.fr.c,.int .u8 t.fr.d,.int .u8 t.fr.e,.int .u8 t.fr.f,.int .u8 t.tt.a,.int .u8 t.tt.b,.int .u8 t.tt.c,.int .u8 t.tt.d,.int .u8 t.tt.e,.int .u8 t.tt.f] 134)))
   obtain⟨w6,hw6⟩:∃ k,w5.alloc (.cells #[.int .u8 t.lv,.int .u32 t.nm,.int .u8 t.tl,.int .u8 t.fr.a,.int .u8 t.fr.b,.int .u8 t.fr.c,.int .u8 t.fr.d,.int .u8 t.fr.e,.int .u8 t.fr.f,.int .u8 t.tt.a,.int .u8 t.tt.b,.int .u8 t.tt.c,.int .u8 t.tt.d,.int .u8 t.tt.e,.int .u8 t.tt.f] 134)=k:=⟨_,rfl⟩
   obtain⟨q21,hq21⟩:∃ k,w5.heap.size=k:=⟨_,rfl⟩
   rw[hw6] at GX T6 ⊢
   rw[hq21] at GX ⊢
   have GX6:=hd0 GX
   clear hw6 hq21 GX T5 p0 p1 p2 p3 p4
   have he2:e2=0:=by have:=HXX.out.2.1;rw[HTK.out] at this;exact this
   subst he2
   have hg2:g=true:=by
    have:=congrArg Prod.snd hag
    exact this
   subst hg2
   obtain⟨TM,hTM⟩:∃ D,decide (t.tt=o.mc)=D:=⟨_,rfl⟩
   have EQ3:∀ W:World,(binOp .eql 25 (.agg #[.int .u8 t.tt.a,.int .u8 t.tt.b,.int .u8 t.tt.c,.int .u8 t.tt.d,.int .u8 t.tt.e,.int .u8 t.tt.f]) (.agg #[.int .u8 o.mc.a,.int .u8 o.mc.b,.int .u8 o.mc.c,.int .u8 o.mc.d,.int .u8 o.mc.e,.int .u8 o.mc.f])).run Tryz.prog W=.ok (.bool TM) W:=fun W=>by rw[←hTM];exact eql_macG t.tt o.mc W
   have x2:=GX6.out.c 2 (.int .u8 t.tl) rfl
   have x3:=GX6.out.c 3 (.int .u8 t.fr.a) rfl
   have x9:=GX6.out.c 9 (.int .u8 t.tt.a) rfl
   have x10:=GX6.out.c 10 (.int .u8 t.tt.b) rfl
   have x11:=GX6.out.c 11 (.int .u8 t.tt.c) rfl
   have x12:=GX6.out.c 12 (.int .u8 t.tt.d) rfl
   have x13:=GX6.out.c 13 (.int .u8 t.tt.e) rfl
   have x14:=GX6.out.c 14 (.int .u8 t.tt.f) rfl
   have m0:w6.cell? ⟨w.heap.size,5,none⟩=some (.int .u8 o.mc.a):=T6.out.c 5 _ rfl
   have m1:w6.cell? ⟨w.heap.size,6,none⟩=some (.int .u8 o.mc.b):=T6.out.c 6 _ rfl
   have m2:w6.cell? ⟨w.heap.size,7,none⟩=some (.int .u8 o.mc.c):=T6.out.c 7 _ rfl
   have m3:w6.cell? ⟨w.heap.size,8,none⟩=some (.int .u8 o.mc.d):=T6.out.c 8 _ rfl
   have m4:w6.cell? ⟨w.heap.size,9,none⟩=some (.int .u8 o.mc.e):=T6.out.c 9 _ rfl
   have m5:w6.cell? ⟨w.heap.size,10,none⟩=some (.int .u8 o.mc.f):=T6.out.c 10 _ rfl
   have y1:t.fr.a.tmod 2=t.fr.a % 2:=Int.tmod_eq_emod_of_nonneg HTOK.out.fr.a.1
   have y2:IntKind.u8.wrap (t.fr.a % 2)=t.fr.a % 2:=IntWalk.u8_in _ (by omega)
   obtain⟨TL,hTL⟩:∃ D,decide (0<t.tl)=D:=⟨_,rfl⟩
   obtain⟨SF,hSF⟩:∃ D,(t.fr.a % 2==0)=D:=⟨_,rfl⟩
   have hCD:(TM&&(TL&&SF))=decide (t.tt=o.mc∧0<t.tl∧t.fr.a % 2=0):=by
    rw[←hTM,← hTL,← hSF,Bool.eq_iff_iff];simp
   have HCD:=hd0 hCD
   have HTM:=hd0 (And.intro hTM (And.intro hTL hSF))
   have HAG:=hd0 hag
   clear hCD hTM hag
   go_upto_region 38 with fail
   go_cut [175] (fun s175 wx=>s175=.bool (TM&&(TL&&SF))∧wx=w6)
   case first =>
    cases TM with
    | false=>go_wp2_with fail;go_meet;exact⟨by first|rfl|simp,rfl⟩
    | true =>
     cases TL with
     | false=>go_wp2_with fail;go_meet;exact⟨by first|rfl|simp,rfl⟩
     | true=>go_wp2_with fail;go_meet;exact⟨by first|rfl|simp,rfl⟩
   case rest =>
    obtain⟨rfl,hwc⟩:=hcut
    obtain rfl:w6=wc:=hwc.symm
    obtain⟨CD,hCC⟩:∃ C,(TM&&(TL&&SF))=C:=⟨_,rfl⟩
    have hCD:=HCD.out
    have hag:=HAG.out
    rw[hCC] at hCD ⊢
    clear EQ3 HTM hTL hSF hCC HCD HAG
    obtain rfl:CD=false:=by rw[hCD];exact decide_eq_false (fun k=>by have h:=HXX.out.2.2;rw[HTK.out] at h;exact h k)
    rw[if_neg (fun k=>of_decide_eq_false hCD.symm k.2)] at hag
    simp only[Prod.mk.injEq] at hag
    obtain⟨rfl,-⟩:=hag
    clear hCD
    go_wp2_with fail
    go_meet
    exact⟨v,0,rfl,rfl,T6,hd0 (VN.refl _ _ _ _),hd0 (Ow.none _ _)⟩
 case rest =>
  obtain⟨v',F,rfl,hF,TA,VA,UA⟩:=hcut
  have ONE:=hd0 (VA.out.one HX.out o)
  have IS:∀ r':Rf,(Tryz.prog.info? 44).map (·.size)=some (rfA o v' r').size:=fun r'=>info_mep
  have IL:∀ r':Rf,(Tryz.prog.info? 44).map (·.size)=some (rfA o v' r').toList.length:=fun r'=>info_mep
  cases g with
  | true =>
   have hF0:(F != 0)=false:=hF
   have BR:bad20 r1 true=r1:=rfl
   clear hF
   go_wp2_with (first
    |((with_reducible refine wpList_load_mid rfl 44 (.tmp 4) rfl w.heap.size 0 ?hx (rfA o v' r1).toList _ TA.out.rng Tryz.underlying44 ?hu (IL r1) ?_);(case hx=>rfl);(case hu=>rfl))
    |((with_reducible refine wpList_store_mid rfl 44 (.tmp 8) (.tmp 238) rfl (w.heap.size+3) 0 (rfA o v' r1) ?hx ?hy TA.out.thr (IS r1) (ONE.out r1) ?_);(case hx=>rfl);(case hy=>rfl)))
   exact bodyPost_ret (v:=.tuple #[.agg (rfA o v' r1),_]) (res_two (p:=8) (u:=9) (d:=_) rfl rfl Tryz.underlying44 _ _ (w.heap.size+3) _ rfl (TA.out.fin (ONE.out r1)) (IS r1)) rfl ⟨v',_,rfl,(VA.out.cells (by omega) _ _).wk (by omega),(UA.out.cellsLow (by omega) _ _).wk (by omega),below_cellsG (by omega) _ _ _ TA.out.bel⟩
  | false =>
   have hF0:(F != 0)=true:=hF
   clear hF
   have b15:∀ W,TKr w W o v' r1 sr ds→W.cell? ⟨w.heap.size,15,none⟩=some (.int .u64 r1.bad):=fun W h=>h.c 15 _ rfl
   have f15:=TA.out.gb.fr 15
   have k15:=b15 _ TA.out
   go_upto_region 49 with fail
   have TB2:=hd0 (TA.out.set 15 (.int .u64 (r1.bad+1)) (rfA_bad o v' r1 (r1.bad+1)))
   have VB2:=hd0 (VA.out.set (t:=w.heap.size) (by omega) 15 (.int .u64 (r1.bad+1)))
   have UB2:=hd0 (UA.out.setLow (t:=w.heap.size) (j:=15) (by omega) (.int .u64 (r1.bad+1)))
   clear b15 f15 k15 TA VA UA
   obtain⟨wb,hwb⟩:∃ z,wc.setCell ⟨w.heap.size,15,none⟩ (.int .u64 (r1.bad+1))=z:=⟨_,rfl⟩
   rw[hwb] at TB2 VB2 UB2 ⊢
   clear hwb
   obtain⟨r2,hr2⟩:∃ x:Rf,x={ r1 with bad:=r1.bad+1 }:=⟨_,rfl⟩
   have BR:bad20 r1 false=r2:=by rw[hr2];rfl
   rw[←hr2] at TB2
   have VB3:Hid (VN (w.heap.size+4) wb v v' r r2):=hd0 (by rw[hr2];exact⟨VB2.out.ov,VB2.out.sv,VB2.out.ws,VB2.out.nw,VB2.out.hd,VB2.out.wy⟩)
   clear hr2 VB2
   go_wp2_with (first
    |((with_reducible refine wpList_load_mid rfl 44 (.tmp 4) rfl w.heap.size 0 ?hx (rfA o v' r2).toList _ TB2.out.rng Tryz.underlying44 ?hu (IL r2) ?_);(case hx=>rfl);(case hu=>rfl))
    |((with_reducible refine wpList_store_mid rfl 44 (.tmp 8) (.tmp 238) rfl (w.heap.size+3) 0 (rfA o v' r2) ?hx ?hy TB2.out.thr (IS r2) (ONE.out r2) ?_);(case hx=>rfl);(case hy=>rfl)))
   exact bodyPost_ret (v:=.tuple #[.agg (rfA o v' r2),_]) (res_two (p:=8) (u:=9) (d:=_) rfl rfl Tryz.underlying44 _ _ (w.heap.size+3) _ rfl (TB2.out.fin (ONE.out r2)) (IS r2)) rfl ⟨v',_,by rw[BR];rfl,by rw[BR];exact(VB3.out.cells (by omega) _ _).wk (by omega),(UB2.out.cellsLow (by omega) _ _).wk (by omega),below_cellsG (by omega) _ _ _ TB2.out.bel⟩
theorem take20_any (o:Ow20)(ho:o.Ok)(hlv:o.a.lv<8)(ks:List Int)(v:Rv)(r:Rf)(hr:Rk r)(sr ds:Mc)(hsr:sr.Ok)(hds:ds.Ok)(d:List UInt8)(hd:d.length≤1600)(w:World)(h:RX w ks v r) :
  Calls Tryz.prog 19 #[.agg (rfA o v r),.agg #[.int .u8 sr.a,.int .u8 sr.b,.int .u8 sr.c,.int .u8 sr.d,.int .u8 sr.e,.int .u8 sr.f],.agg #[.int .u8 ds.a,.int .u8 ds.b,.int .u8 ds.c,.int .u8 ds.d,.int .u8 ds.e,.int .u8 ds.f],.string (bs d)] w fun en w'=>∃ v' u,en=.returned (.tuple #[.agg (rfA o v' (take20 o r sr ds d).1),u])∧VN w.heap.size w' v v' r (take20 o r sr ds d).1∧Ow 7 snC 58 w' w.heap.size u (take20 o r sr ds d).2∧Below w.heap.size w w':=by
 by_cases he:(tkP d).2.2.2.2.2=0
 rotate_left
 ·exact take20_err o ho hlv ks v r hr sr ds hsr hds d hd he w h
 by_cases hl:(tkP d).1=o.a.lv
 rotate_left
 ·exact take20_lev o ho hlv ks v r hr sr ds hsr hds d hd he hl w h
 by_cases h1:(tkP d).2.1=1
 ·exact take20_b1 o ho hlv ks v r hr sr ds hsr hds d hd he hl h1 w h
 by_cases h2:(tkP d).2.1=2
 ·exact take20_b2 o ho hlv ks v r hr sr ds hsr hds d hd he hl h2 w h
 by_cases h3:(tkP d).2.1=3
 ·exact take20_b3 o ho hlv ks v r hr sr ds hsr hds d hd he hl h3 w h
 by_cases h4:(tkP d).2.1=4
 ·exact take20_b4 o ho hlv ks v r hr sr ds hsr hds d hd he hl h4 w h
 by_cases h5:(tkP d).2.1=5
 rotate_left
 ·exact take20_bo o ho hlv ks v r hr sr ds hsr hds d hd he hl ⟨h1,h2,h3,h4,h5⟩ w h
 by_cases c4:C4 o ds (tkP d).1 (tkP d).2.1 (tkP d).2.2.2.1
 rotate_left
 ·exact take20_b5 o ho hlv ks v r hr sr ds hsr hds d hd he hl h5 c4 w h
 by_cases c5:(tkTr (tkP d).1 (tkP d).2.1 (tkP d).2.2.2.1).1.tt=o.mc∧0<(tkTr (tkP d).1 (tkP d).2.1 (tkP d).2.2.2.1).1.tl∧(tkTr (tkP d).1 (tkP d).2.1 (tkP d).2.2.2.1).1.fr.a % 2=0
 ·exact take20_b5h o ho hlv ks v r hr sr ds hsr hds d hd he hl h5 ⟨c4.1,c4.2,c5⟩ w h
 ·exact take20_b5i o ho hlv ks v r hr sr ds hsr hds d hd he hl h5 ⟨c4.1,c4.2,c5⟩ w h
theorem ask20_any (o:Ow20)(ho:o.Ok)(hlv:o.a.lv<8)(ks:List Int)(v:Rv)(r:Rf)(hr:r.Ok)(hlp:r.lp≤900)(m:Mc)(hm:m.Ok)(d:List UInt8)(hd:d.length≤1600)(w:World)(h:RX w ks v r) :
  Calls Tryz.prog 15 #[.agg (rfA o v r),.agg #[.int .u8 m.a,.int .u8 m.b,.int .u8 m.c,.int .u8 m.d,.int .u8 m.e,.int .u8 m.f],.string (bs d)] w fun en w'=>en=.returned (.tuple #[.agg (rfA o v (ask20 o r m d).1),.agg (snC (ask20 o r m d).2.1).toArray,.int .i64 (ask20 o r m d).2.2])∧Below w.heap.size w w':=by
 have HH:Hid (∀ w,Calls Tryz.prog 32 #[.agg #[.int .u8 m.a,.int .u8 m.b,.int .u8 m.c,.int .u8 m.d,.int .u8 m.e,.int .u8 m.f]] w fun en w'=>en=.returned (.bool (hostV m))∧Below w.heap.size w w'):=hd0 fun w=>refHost_any m hm w
 have HO:=hd0 ho
 have ONE:Hid (∀ r':Rf,(rfA o v r').all (·.oneCell')=true):=hd0 fun r'=>h.one o r'
 have IS:∀ r':Rf,(Tryz.prog.info? 44).map (·.size)=some (rfA o v r').size:=fun r'=>info_mep
 have IL:∀ r':Rf,(Tryz.prog.info? 44).map (·.size)=some (rfA o v r').toList.length:=fun r'=>info_mep
 have HIS:Hid ((Tryz.prog.info? 58).map (·.size)=some (snC sn0).toArray.size):=hd0 info_sn
 have hsz:=bs_size d
 have hlp0:=hr.lp
 obtain⟨R,hR⟩:∃ R,ask20 o r m d=R:=⟨_,rfl⟩
 have HR:=hd0 hR
 rw[hR]
 have A0:=hd0 (AQ.begin w o v r m)
 obtain⟨HV,hHV⟩:∃ z,hostV m=z:=⟨_,rfl⟩
 have HHV:=hd0 hHV
 rw[hHV] at HH
 clear hR h ho hr hm hHV
 go_enter Tryz.func15,Tryz.ntmps15
 go_upto_region 1 with fail
 obtain⟨w0,hw0⟩:∃ z,(((w.alloc (.cells (rfA o v r) 44)).alloc (.cells #[.int .u8 m.a,.int .u8 m.b,.int .u8 m.c,.int .u8 m.d,.int .u8 m.e,.int .u8 m.f] 25)).alloc (.cells yP 44)).alloc (.cells yS 58)=z:=⟨_,rfl⟩
 rw[hw0] at A0 ⊢
 clear hw0
 have s0:=A0.out.g4.c 0 _ rfl
 have s1:=A0.out.g4.c 1 _ rfl
 have s2:=A0.out.g4.c 2 _ rfl
 have s3:=A0.out.g4.c 3 _ rfl
 have s4:=A0.out.g4.c 4 _ rfl
 have s5:=A0.out.g4.c 5 _ rfl
 go_wp2_with fail
 with_reducible refine(HH.out _).mono ?_
 rintro en w1 ⟨rfl,hb1⟩
 have A1:=hd0 (A0.out.later hb1)
 clear hb1 A0 s0 s1 s2 s3 s4 s5
 cases HV with
 | false =>
  have HE:Hid (R=(r,sn0,2)):=hd0 (by rw[←HR.out];unfold ask20;rw[if_pos HHV.out])
  go_wp2_with (first
   |((with_reducible refine wpList_load_mid rfl 44 (.tmp 3) rfl w.heap.size 0 ?hx (rfA o v r).toList _ A1.out.rng Tryz.underlying44 ?hu (IL r) ?_);(case hx=>rfl);(case hu=>rfl))
   |((with_reducible refine wpList_store_mid rfl 44 (.tmp 6) (.tmp 14) rfl (w.heap.size+2) 0 (rfA o v r) ?hx ?hy A1.out.thr (IS r) (ONE.out r) ?_);(case hx=>rfl);(case hy=>rfl);have g2:GB 44 (w1.setCells (w.heap.size+2) 0 (rfA o v r).toList) (w.heap.size+2) (rfA o v r):=A1.out.gz.store rfl (ONE.out r);have g3:GB 58 (w1.setCells (w.heap.size+2) 0 (rfA o v r).toList) (w.heap.size+3) sz7:=GB.cellsOther (by omega) _ _ _ A1.out.gs;have b2:=below_cellsG (B:=w.heap.size) (t:=w.heap.size+2) (by omega) (rfA o v r).toList 0 w1 A1.out.bel;obtain⟨w2,hw2⟩:∃ k,w1.setCells (w.heap.size+2) 0 (rfA o v r).toList=k:=⟨_,rfl⟩;rw[hw2] at g2 g3 b2 ⊢;have TH3:Hid (w2.there (w.heap.size+3) 0 (snC sn0).toArray.size):=hd0 (g3.there (Nat.le_refl _));have G2:=hd0 g2;have G3:=hd0 g3;have B2:=hd0 b2;clear g2 g3 b2 hw2)
   |((with_reducible refine wpList_store_mid rfl 58 (.tmp 7) (.tmp 15) rfl (w.heap.size+3) 0 (snC sn0).toArray ?hx ?hy TH3.out HIS.out (snA_one sn0) ?_);(case hx=>rfl);(case hy=>rfl);simp only[List.toList_toArray];have g2:GB 44 (w2.setCells (w.heap.size+3) 0 (snC sn0)) (w.heap.size+2) (rfA o v r):=GB.cellsOther (by omega) _ _ _ G2.out;have g3:GB 58 (w2.setCells (w.heap.size+3) 0 (snC sn0)) (w.heap.size+3) (snC sn0).toArray:=G3.out.store (A:=(snC sn0).toArray) rfl (snA_one sn0);have b2:=below_cellsG (B:=w.heap.size) (t:=w.heap.size+3) (by omega) (snC sn0) 0 w2 B2.out;obtain⟨w3,hw3⟩:∃ k,w2.setCells (w.heap.size+3) 0 (snC sn0)=k:=⟨_,rfl⟩;rw[hw3] at g2 g3 b2 ⊢;have F1:=hd0 g2;have F2:=hd0 g3;have F3:=hd0 b2;clear g2 g3 b2 hw3))
  exact bodyPost_ret (v:=.tuple #[.agg (rfA o v r),.agg (snC sn0).toArray,.int .i64 2]) (res_cct (p:=6) (p':=7) (u:=8) (d:=_) (d':=_) rfl rfl rfl Tryz.underlying44 Tryz.underlying58 _ _ (w.heap.size+2) (w.heap.size+3) _ _ rfl rfl F1.out F2.out (IS r) info_sn) rfl ⟨by rw[HE.out],F3.out⟩
 | true =>
  by_cases h64:64<d.length
  ·have d64:decide ((64:Int)<(d.length:Int))=true:=decide_eq_true (by omega)
   have HE:Hid (R=(r,sn0,5)):=hd0 (by rw[←HR.out];unfold ask20;rw[if_neg (by rw[HHV.out];decide),if_pos h64])
   clear h64
   go_wp2_with (first
    |((with_reducible refine wpList_load_mid rfl 44 (.tmp 3) rfl w.heap.size 0 ?hx (rfA o v r).toList _ A1.out.rng Tryz.underlying44 ?hu (IL r) ?_);(case hx=>rfl);(case hu=>rfl))
    |((with_reducible refine wpList_store_mid rfl 44 (.tmp 6) (.tmp 19) rfl (w.heap.size+2) 0 (rfA o v r) ?hx ?hy A1.out.thr (IS r) (ONE.out r) ?_);(case hx=>rfl);(case hy=>rfl);have g2:GB 44 (w1.setCells (w.heap.size+2) 0 (rfA o v r).toList) (w.heap.size+2) (rfA o v r):=A1.out.gz.store rfl (ONE.out r);have g3:GB 58 (w1.setCells (w.heap.size+2) 0 (rfA o v r).toList) (w.heap.size+3) sz7:=GB.cellsOther (by omega) _ _ _ A1.out.gs;have b2:=below_cellsG (B:=w.heap.size) (t:=w.heap.size+2) (by omega) (rfA o v r).toList 0 w1 A1.out.bel;obtain⟨w2,hw2⟩:∃ k,w1.setCells (w.heap.size+2) 0 (rfA o v r).toList=k:=⟨_,rfl⟩;rw[hw2] at g2 g3 b2 ⊢;have TH3:Hid (w2.there (w.heap.size+3) 0 (snC sn0).toArray.size):=hd0 (g3.there (Nat.le_refl _));have G2:=hd0 g2;have G3:=hd0 g3;have B2:=hd0 b2;clear g2 g3 b2 hw2)
    |((with_reducible refine wpList_store_mid rfl 58 (.tmp 7) (.tmp 20) rfl (w.heap.size+3) 0 (snC sn0).toArray ?hx ?hy TH3.out HIS.out (snA_one sn0) ?_);(case hx=>rfl);(case hy=>rfl);simp only[List.toList_toArray];have g2:GB 44 (w2.setCells (w.heap.size+3) 0 (snC sn0)) (w.heap.size+2) (rfA o v r):=GB.cellsOther (by omega) _ _ _ G2.out;have g3:GB 58 (w2.setCells (w.heap.size+3) 0 (snC sn0)) (w.heap.size+3) (snC sn0).toArray:=G3.out.store (A:=(snC sn0).toArray) rfl (snA_one sn0);have b2:=below_cellsG (B:=w.heap.size) (t:=w.heap.size+3) (by omega) (snC sn0) 0 w2 B2.out;obtain⟨w3,hw3⟩:∃ k,w2.setCells (w.heap.size+3) 0 (snC sn0)=k:=⟨_,rfl⟩;rw[hw3] at g2 g3 b2 ⊢;have F1:=hd0 g2;have F2:=hd0 g3;have F3:=hd0 b2;clear g2 g3 b2 hw3))
   exact bodyPost_ret (v:=.tuple #[.agg (rfA o v r),.agg (snC sn0).toArray,.int .i64 5]) (res_cct (p:=6) (p':=7) (u:=8) (d:=_) (d':=_) rfl rfl rfl Tryz.underlying44 Tryz.underlying58 _ _ (w.heap.size+2) (w.heap.size+3) _ _ rfl rfl F1.out F2.out (IS r) info_sn) rfl ⟨by rw[HE.out],F3.out⟩
  have d64:decide ((64:Int)<(d.length:Int))=false:=decide_eq_false (by omega)
  have hd64:d.length≤64:=by omega
  have HD64:=hd0 hd64
  obtain⟨n,hn⟩:∃ n,r.lp+1=n:=⟨_,rfl⟩
  have HN:=hd0 (show 0≤n∧n<4294967296 by omega)
  have wn:IntKind.u32.wrap (r.lp+1)=n:=by rw[hn];exact IntWalk.u32_in _ (by omega)
  obtain⟨r1,hr1⟩:∃ x:Rf,x={ r with lp:=n,dat:=d,rep:=0,ali:=0 }:=⟨_,rfl⟩
  have HE:Hid (R=(r1,⟨m,(loopP o.a.lv n d).1⟩,0)):=hd0 (by rw[←HR.out];unfold ask20;rw[if_neg (by rw[HHV.out];decide),if_neg h64,hn,hr1])
  have HR1:=hd0 hr1
  have k16:=A1.out.c 16 (.int .u32 r.lp) rfl
  have k17:=A1.out.c 17 (.string (bs r.dat)) rfl
  have k18:=A1.out.c 18 (.int .i64 r.rep) rfl
  have k19:=A1.out.c 19 (.int .i64 r.ali) rfl
  have f16:=A1.out.gb.fr 16
  have f17:=A1.out.gb.fr 17
  have f18:=A1.out.gb.fr 18
  have f19:=A1.out.gb.fr 19
  go_upto_region 9 with fail
  have A5:Hid (AQ w ((((w1.setCell ⟨w.heap.size,16,none⟩ (.int .u32 n)).setCell ⟨w.heap.size,17,none⟩ (.string (bs d))).setCell ⟨w.heap.size,18,none⟩ (.int .i64 0)).setCell ⟨w.heap.size,19,none⟩ (.int .i64 0)) o v r1 m):=hd0 (by
   rw[hr1]
   exact(((A1.out.set 16 _ (rfA_lp o v r n)).set 17 _ (rfA_dat o v _ d)).set 18 _ (rfA_rep o v _ 0)).set 19 _ (rfA_ali o v _ 0))
  obtain⟨w5,hw5⟩:∃ k,(((w1.setCell ⟨w.heap.size,16,none⟩ (.int .u32 n)).setCell ⟨w.heap.size,17,none⟩ (.string (bs d))).setCell ⟨w.heap.size,18,none⟩ (.int .i64 0)).setCell ⟨w.heap.size,19,none⟩ (.int .i64 0)=k:=⟨_,rfl⟩
  rw[hw5] at A5 ⊢
  clear hw5 hr1 k16 k17 k18 k19 f16 f17 f18 f19 A1 wn hn h64 d64 hd64
  have k0:w5.cell? ⟨w.heap.size,0,none⟩=some (.int .u8 o.a.lv):=A5.out.c 0 _ rfl
  have k16:w5.cell? ⟨w.heap.size,16,none⟩=some (.int .u32 n):=A5.out.c 16 _ (by rw[HR1.out];rfl)
  obtain⟨hlo,hpl⟩:=loop_ok (lv:=o.a.lv) n hlv HD64.out
  have PU:Hid (∀ W,Calls Tryz.prog 49 #[.agg #[.int .u8 o.a.lv,.bool false,.int .u32 n,.string (bs d)]] W fun en w'=>∃ pa pc,en=.returned (.tuple #[.agg #[.int .u8 o.a.lv,.int .u8 3,.int .u8 0,.string (bs (be 4 n)),.slice pa (thL d).length pc],.int .i64 0])∧Tls w' (.slice pa (thL d).length pc) (thL d)∧Below W.heap.size W w'):=hd0 fun W=>by
   have h:=refPut14_any o.a.lv false n d W (by have:=HD64.out;omega) HN.out
   rw[hpl] at h
   refine h.mono fun en w' ⟨v',he,hv,hb⟩=>?_
   obtain⟨pa,pc,rfl,-⟩:=hv.tls.shape
   exact⟨pa,pc,he,hv.tls,hb⟩
  obtain⟨X,hX⟩:∃ x:Sn,x=⟨m,(loopP o.a.lv n d).1⟩:=⟨_,rfl⟩
  have hsr:sentR m o.a.lv 3 0 (be 4 n) (thL d)=[X]:=by
   unfold sentR
   have e1:putP o.a.lv 3 0 (be 4 n) (thL d)=loopP o.a.lv n d:=by unfold loopP;rw[hpl]
   rw[e1,if_pos hlo,hX]
  have HX:=hd0 hX
  have htl:(thL d).length≤1∧∀ x∈thL d,x.2.length≤64:=by
   unfold thL
   split
   ·exact⟨by simp,fun x hx=>by cases hx⟩
   ·exact⟨by simp,fun x hx=>by rw[List.mem_singleton.1 hx];exact HD64.out⟩
  obtain⟨pn,hpn⟩:∃ k,(thL d).length=k:=⟨_,rfl⟩
  have PT0:Hid (∀ W pa pc,Tls W (.slice pa (thL d).length pc) (thL d)→Calls Tryz.prog 45 #[.agg #[.int .u8 m.a,.int .u8 m.b,.int .u8 m.c,.int .u8 m.d,.int .u8 m.e,.int .u8 m.f],.agg #[.int .u8 o.a.lv,.int .u8 3,.int .u8 0,.string (bs (be 4 n)),.slice pa (thL d).length pc]] W fun en w'=>∃ g uc,en=.returned (.slice (some ⟨g,0,none⟩) 1 uc)∧(w'.rangeAt g 0 (snC X)∧W.heap.size≤g)∧Below W.heap.size W w'):=hd0 fun W pa pc hv=>by
   have h:=rsent_any m (.slice pa (thL d).length pc) o.a.lv 3 0 (be 4 n) (thL d) W hv (by have:=htl.1;omega) (fun x hx=>by have:=htl.2 x hx;unfold maxLen;omega) (by simp[be_length]) (by
    have:=putT_len 2000 (thL d) (fun x hx=>by have:=htl.2 x hx;omega)
    have h2:(thL d).length*(2000+3)≤1*2003:=Nat.mul_le_mul htl.1 (by decide)
    omega) HO.out.a.lv (by decide) (by decide)
   rw[hsr] at h
   exact h.mono fun en w' ⟨u,he,hu,hb⟩=>by
    obtain⟨g,uc,rfl,hr⟩:=hu.one
    exact⟨g,uc,he,hr,hb⟩
  rw[hpn] at PU PT0
  clear hsr htl hpl hlo hX
  go_upto_region 10 with(go_at_call 49;(with_reducible refine(PU.out _).mono ?_);rintro en w6 ⟨pa,pc,rfl,hts,hb6⟩;have A6:=hd0 (A5.out.later hb6);have V6:=hd0 hts;clear hb6 hts)
  have hal:=(Below.refl w6.heap.size w6).alloc (Nat.le_refl _) (.cells #[.int .u8 o.a.lv,.int .u8 3,.int .u8 0,.string (bs (be 4 n)),.slice pa pn pc] 115)
  have GP:=GB.new 115 w6 #[.int .u8 o.a.lv,.int .u8 3,.int .u8 0,.string (bs (be 4 n)),.slice pa pn pc]
  obtain⟨w7,hw7⟩:∃ k,w6.alloc (.cells #[.int .u8 o.a.lv,.int .u8 3,.int .u8 0,.string (bs (be 4 n)),.slice pa pn pc] 115)=k:=⟨_,rfl⟩
  have hqs:=A6.out.sz
  obtain⟨q9,hq9⟩:∃ k,w6.heap.size=k:=⟨_,rfl⟩
  rw[hw7] at hal GP ⊢
  have A9:=hd0 (A6.out.later hal.drew)
  have V9:=hd0 (V6.out.later hal.drew)
  rw[hq9] at GP hqs ⊢
  have GQ9:=hd0 GP.drew
  have GM9:=hd0 A9.out.g4
  have HQ9:=hd0 hqs
  have PT:=hd0 fun W hv=>PT0.out W pa pc hv
  clear hal GP hw7 hq9 hqs A5 A6 V6 k0 k16 PT0 PU
  have SX:Hid (∀ W,GB 44 W w.heap.size (rfA o v r1)→GB 25 W (w.heap.size+1) #[.int .u8 m.a,.int .u8 m.b,.int .u8 m.c,.int .u8 m.d,.int .u8 m.e,.int .u8 m.f]→GB 115 W q9 #[.int .u8 o.a.lv,.int .u8 3,.int .u8 0,.string (bs (be 4 n)),.slice pa pn pc]→W.rangeAt w.heap.size 0 (rfA o v r1).toList∧(W.cell? ⟨w.heap.size+1,0,none⟩=some (.int .u8 m.a)∧W.cell? ⟨w.heap.size+1,1,none⟩=some (.int .u8 m.b)∧W.cell? ⟨w.heap.size+1,2,none⟩=some (.int .u8 m.c)∧W.cell? ⟨w.heap.size+1,3,none⟩=some (.int .u8 m.d)∧W.cell? ⟨w.heap.size+1,4,none⟩=some (.int .u8 m.e)∧W.cell? ⟨w.heap.size+1,5,none⟩=some (.int .u8 m.f))∧W.cell? ⟨q9,0,none⟩=some (.int .u8 o.a.lv)∧W.cell? ⟨q9,1,none⟩=some (.int .u8 3)∧W.cell? ⟨q9,2,none⟩=some (.int .u8 0)∧W.cell? ⟨q9,3,none⟩=some (.string (bs (be 4 n)))∧W.cell? ⟨q9,4,none⟩=some (.slice pa pn pc)):=hd0 fun W h1 h2 h3 =>
   ⟨h1.range,⟨h2.c 0 _ rfl,h2.c 1 _ rfl,h2.c 2 _ rfl,h2.c 3 _ rfl,h2.c 4 _ rfl,h2.c 5 _ rfl⟩,h3.c 0 _ rfl,h3.c 1 _ rfl,h3.c 2 _ rfl,h3.c 3 _ rfl,h3.c 4 _ rfl⟩
  refine wp_region_held_drew (S:=fun W=>W.rangeAt w.heap.size 0 (rfA o v r1).toList∧(W.cell? ⟨w.heap.size+1,0,none⟩=some (.int .u8 m.a)∧W.cell? ⟨w.heap.size+1,1,none⟩=some (.int .u8 m.b)∧W.cell? ⟨w.heap.size+1,2,none⟩=some (.int .u8 m.c)∧W.cell? ⟨w.heap.size+1,3,none⟩=some (.int .u8 m.d)∧W.cell? ⟨w.heap.size+1,4,none⟩=some (.int .u8 m.e)∧W.cell? ⟨w.heap.size+1,5,none⟩=some (.int .u8 m.f))∧W.cell? ⟨q9,0,none⟩=some (.int .u8 o.a.lv)∧W.cell? ⟨q9,1,none⟩=some (.int .u8 3)∧W.cell? ⟨q9,2,none⟩=some (.int .u8 0)∧W.cell? ⟨q9,3,none⟩=some (.string (bs (be 4 n)))∧W.cell? ⟨q9,4,none⟩=some (.slice pa pn pc)) (by kernel_rfl) (SX.out _ A9.out.gb GM9.out GQ9.out) (fun hHeld=>?_)
  refine wpAnyH_take (i:=0) (v:=.agg (rfA o v r1).toList.toArray) rfl (by kernel_rfl) (by kernel_rfl) (by kernel_rfl) (fun _ _ _ h=>h) (yieldsIf_load_mid (by rfl) 44 (.tmp 3) rfl w.heap.size 0 rfl (rfA o v r1).toList _ (fun _ h=>h.1) Tryz.underlying44 rfl (IL r1)) (by assumption) ?_
  try simp only[Array.toArray_toList]
  try simp only[Act.put,zz]
  refine tkH 1 ?_ ?h ?_
  case h=>(intro w hSw;go_simp;try with_reducible rfl)
  try simp only[Act.put,zz]
  refine tkH 2 ?_ ?h ?_
  case h=>(intro w hSw;go_simp;try with_reducible rfl)
  try simp only[Act.put,zz]
  refine rdH 3 fun K hK=>?_
  (go_simp;go_at_call 45;(with_reducible refine(PT.out _ V9.out).mono ?_);rintro en wq ⟨g,uc,rfl,hu,hbq⟩;have A10:=hd0 (A9.out.later hbq);have GM10:=hd0 (GM9.out.later hbq);have GQ10:=hd0 (GQ9.out.later hbq);have HU:=hd0 hu;clear hbq hu;refine hK.out _ _ (SX.out _ A10.out.gb GM10.out GQ10.out) (fun hHeld=>?_);clear hK K;try simp only[Act.put,zz])
  have A11:Hid (GB 44 (wq.setCells (w.heap.size+2) 0 (rfA o v r1).toList) w.heap.size (rfA o v r1)):=hd0 (GB.cellsOther (by omega) _ _ _ A10.out.gb)
  have GM11:Hid (GB 25 (wq.setCells (w.heap.size+2) 0 (rfA o v r1).toList) (w.heap.size+1) #[.int .u8 m.a,.int .u8 m.b,.int .u8 m.c,.int .u8 m.d,.int .u8 m.e,.int .u8 m.f]):=hd0 (GB.cellsOther (by have:=HQ9.out;omega) _ _ _ GM10.out)
  have GQ11:Hid (GB 115 (wq.setCells (w.heap.size+2) 0 (rfA o v r1).toList) q9 #[.int .u8 o.a.lv,.int .u8 3,.int .u8 0,.string (bs (be 4 n)),.slice pa pn pc]):=hd0 (GB.cellsOther (by have:=HQ9.out;omega) _ _ _ GQ10.out)
  have A12:Hid (GB 44 ((wq.setCells (w.heap.size+2) 0 (rfA o v r1).toList).setCells (w.heap.size+3) 0 (snC X)) w.heap.size (rfA o v r1)):=hd0 (GB.cellsOther (by omega) _ _ _ A11.out)
  have GM12:Hid (GB 25 ((wq.setCells (w.heap.size+2) 0 (rfA o v r1).toList).setCells (w.heap.size+3) 0 (snC X)) (w.heap.size+1) #[.int .u8 m.a,.int .u8 m.b,.int .u8 m.c,.int .u8 m.d,.int .u8 m.e,.int .u8 m.f]):=hd0 (GB.cellsOther (by have:=HQ9.out;omega) _ _ _ GM11.out)
  have GQ12:Hid (GB 115 ((wq.setCells (w.heap.size+2) 0 (rfA o v r1).toList).setCells (w.heap.size+3) 0 (snC X)) q9 #[.int .u8 o.a.lv,.int .u8 3,.int .u8 0,.string (bs (be 4 n)),.slice pa pn pc]):=hd0 (GB.cellsOther (by have:=HQ9.out;omega) _ _ _ GQ11.out)
  have TH7:Hid ((wq.setCells (w.heap.size+2) 0 (rfA o v r1).toList).there (w.heap.size+3) 0 7):=hd0 ((show GB 58 _ _ sz7 from GB.cellsOther (by omega) _ _ _ A10.out.gs).there (Nat.le_refl _))
  refine tkH 4 ?_ ?h ?_
  case h=>(intro w hSw;go_simp;try with_reducible rfl)
  try simp only[Act.put,zz]
  have RG11:Hid ((wq.setCells (w.heap.size+2) 0 (rfA o v r1).toList).rangeAt g 0 (snC X)):=hd0 (rng_other (by have h1:=HU.out.2;have h2:=A9.out.sz;omega) _ _ _ _ HU.out.1)
  obtain⟨f1,f2,f3⟩:=A10.out.fin (ONE.out r1) X
  have F1:=hd0 f1
  have F2:=hd0 f2
  have F3:=hd0 f3
  clear f1 f2 f3
  obtain⟨w11,hw11⟩:∃ k,wq.setCells (w.heap.size+2) 0 (rfA o v r1).toList=k:=⟨_,rfl⟩
  rw[hw11] at A11 GM11 GQ11 A12 GM12 GQ12 TH7 RG11 F1 F2 F3
  obtain⟨wf,hwf⟩:∃ k,w11.setCells (w.heap.size+3) 0 (snC X)=k:=⟨_,rfl⟩
  rw[hwf] at A12 GM12 GQ12 F1 F2 F3
  refine wpAnyH_ready (rs:=[5,6]) (by kernel_rfl) (by simp) (AllReadyH.cons rfl (fun K hK=>?_) (AllReadyH.cons rfl (fun K hK=>?_) AllReadyH.nil))
  ·(rw[if_pos (by rfl)];refine wp_load_mid 58 (.tmp 44) rfl g 0 rfl (snC X) _ HU.out.1 Tryz.underlying58 rfl info_sn ?_;refine hK.out _ _ (SX.out _ A10.out.gb GM10.out GQ10.out) (fun hHeld=>?_);clear hK K;try simp only[Act.put,zz])
   refine rdH 6 fun K hK=>?_
   (rw[if_pos (by rfl)];refine wp_store_mid 44 (.tmp 6) (.tmp 40) rfl (w.heap.size+2) 0 (rfA o v r1) rfl rfl A10.out.thr (IS r1) (ONE.out r1) ?_;rw[hw11];refine hK.out _ _ (SX.out _ A11.out GM11.out GQ11.out) (fun hHeld=>?_);clear hK K;try simp only[Act.put,List.setIfInBounds_toArray])
   refine rdH 7 fun K hK=>?_
   (rw[if_pos (by rfl)];refine wp_store_mid 58 (.tmp 7) (.tmp 45) rfl (w.heap.size+3) 0 (snC X).toArray rfl rfl TH7.out info_sn (snA_one X) ?_;simp only[List.toList_toArray];rw[hwf];refine hK.out _ _ (SX.out _ A12.out GM12.out GQ12.out) (fun hHeld=>?_);clear hK K;try simp only[Act.put,List.setIfInBounds_toArray])
   refine tkH 8 ?_ ?h ?_
   case h=>(intro w hSw;go_simp;try with_reducible rfl)
   try simp only[Act.put,zz]
   refine wpAnyH_done (by kernel_rfl) ?_ _
   clear hHeld hw11 hwf A12 GM12 GQ12 A11 GM11 GQ11 TH7 RG11
   go_wp2_with fail
   exact bodyPost_ret (v:=.tuple #[.agg (rfA o v r1),.agg (snC X).toArray,.int .i64 0]) (res_cct (p:=6) (p':=7) (u:=8) (d:=_) (d':=_) rfl rfl rfl Tryz.underlying44 Tryz.underlying58 _ _ (w.heap.size+2) (w.heap.size+3) _ _ rfl rfl F1.out F2.out (IS r1) info_sn) rfl ⟨by rw[HE.out,← HX.out],F3.out⟩
  ·(rw[if_pos (by rfl)];refine wp_store_mid 44 (.tmp 6) (.tmp 40) rfl (w.heap.size+2) 0 (rfA o v r1) rfl rfl A10.out.thr (IS r1) (ONE.out r1) ?_;rw[hw11];refine hK.out _ _ (SX.out _ A11.out GM11.out GQ11.out) (fun hHeld=>?_);clear hK K;try simp only[Act.put,List.setIfInBounds_toArray])
   refine rdH 5 fun K hK=>?_
   (rw[if_pos (by rfl)];refine wp_load_mid 58 (.tmp 44) rfl g 0 rfl (snC X) _ RG11.out Tryz.underlying58 rfl info_sn ?_;refine hK.out _ _ (SX.out _ A11.out GM11.out GQ11.out) (fun hHeld=>?_);clear hK K;try simp only[Act.put,zz])
   refine rdH 7 fun K hK=>?_
   (rw[if_pos (by rfl)];refine wp_store_mid 58 (.tmp 7) (.tmp 45) rfl (w.heap.size+3) 0 (snC X).toArray rfl rfl TH7.out info_sn (snA_one X) ?_;simp only[List.toList_toArray];rw[hwf];refine hK.out _ _ (SX.out _ A12.out GM12.out GQ12.out) (fun hHeld=>?_);clear hK K;try simp only[Act.put,List.setIfInBounds_toArray])
   refine tkH 8 ?_ ?h ?_
   case h=>(intro w hSw;go_simp;try with_reducible rfl)
   try simp only[Act.put,zz]
   refine wpAnyH_done (by kernel_rfl) ?_ _
   clear hHeld hw11 hwf A12 GM12 GQ12 A11 GM11 GQ11 TH7 RG11
   go_wp2_with fail
   exact bodyPost_ret (v:=.tuple #[.agg (rfA o v r1),.agg (snC X).toArray,.int .i64 0]) (res_cct (p:=6) (p':=7) (u:=8) (d:=_) (d':=_) rfl rfl rfl Tryz.underlying44 Tryz.underlying58 _ _ (w.heap.size+2) (w.heap.size+3) _ _ rfl rfl F1.out F2.out (IS r1) info_sn) rfl ⟨by rw[HE.out,← HX.out],F3.out⟩
end Go.Proofs.YtlkdfofpnmpidaaGreat
