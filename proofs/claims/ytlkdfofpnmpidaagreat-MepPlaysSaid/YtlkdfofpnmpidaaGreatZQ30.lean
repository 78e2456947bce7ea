/- ZQ30 -/
import Derived.Test.YtlkdfofpnmpidaaGreatZQ24
set_option linter.unusedVariables false
set_option linter.unusedSimpArgs false
set_option maxRecDepth 100000
set_option maxHeartbeats 16000000
namespace Go.Proofs.YtlkdfofpnmpidaaGreat
open Go.RowKit
def C4 (o:Ow20)(ds:Mc)(a b:Int)(f:List UInt8):Prop:=(ds=o.mc∨ds=trcG o.a.lv)∧(tkTr a b f).2=0
def C5 (o:Ow20)(ds:Mc)(a b:Int)(f:List UInt8):Prop:=(ds=o.mc∨ds=trcG o.a.lv)∧(tkTr a b f).2=0∧(tkTr a b f).1.tt=o.mc∧0<(tkTr a b f).1.tl∧(tkTr a b f).1.fr.a % 2=0
theorem take20_b5 (o:Ow20)(ho:o.Ok)(hlv:o.a.lv<8)(ks:List Int)(v:Rv)(r:Rf)(hr:Rk r)(sr ds:Mc)(hsr:sr.Ok)(hds:ds.Ok)(d:List UInt8)(hd:d.length≤1600)(he:(tkP d).2.2.2.2.2=0)(hl:(tkP d).1=o.a.lv)(hb:(tkP d).2.1=5)(hx:¬ C4 o ds (tkP d).1 (tkP d).2.1 (tkP d).2.2.2.1)(w:World)(h:RX w ks v r) :
  Calls Tryz.prog 19 #[.agg (rfA o v r),.agg #[.int .u8 sr.a,.int .u8 sr.b,.int .u8 sr.c,.int .u8 sr.d,.int .u8 sr.e,.int .u8 sr.f],.agg #[.int .u8 ds.a,.int .u8 ds.b,.int .u8 ds.c,.int .u8 ds.d,.int .u8 ds.e,.int .u8 ds.f],.string (bs d)] w fun en w'=>∃ v' u,en=.returned (.tuple #[.agg (rfA o v' (take20 o r sr ds d).1),u])∧VN w.heap.size w' v v' r (take20 o r sr ds d).1∧Ow 7 snC 58 w' w.heap.size u (take20 o r sr ds d).2∧Below w.heap.size w w':=by
 have hpb:=tkP_b d hd
 have hbad:(op20 o r sr ds (tkP d).1 (tkP d).2.1 (tkP d).2.2.1 (tkP d).2.2.2.1 (tkP d).2.2.2.2.1).1.bad=r.bad:=op20_bad _ _ _ _ _ _ _ _ _
 have HT20:take20 o r sr ds d=(bad20 (op20 o r sr ds (tkP d).1 (tkP d).2.1 (tkP d).2.2.1 (tkP d).2.2.2.1 (tkP d).2.2.2.2.1).1 (op20 o r sr ds (tkP d).1 (tkP d).2.1 (tkP d).2.2.1 (tkP d).2.2.2.1 (tkP d).2.2.2.2.1).2.2,(op20 o r sr ds (tkP d).1 (tkP d).2.1 (tkP d).2.2.1 (tkP d).2.2.2.1 (tkP d).2.2.2.2.1).2.1):=by
  unfold take20;rw[if_neg (fun k=>k he),if_neg (fun k=>k hl)]
 have T12:∀ W:World,_:=fun W=>refTake12_any d W (by omega)
 rw[HT20]
 obtain⟨⟨a,b,c,f,l,e⟩,ht⟩:∃ z,tkP d=z:=⟨_,rfl⟩
 rw[ht] at hpb he hl hb hbad ⊢
 simp only[ht] at T12
 simp only at hpb he hl hb hbad ⊢
 rw[ht] at hx
 simp only at hx
 subst he hl hb
 obtain⟨⟨r1,out,g⟩,hop⟩:∃ z,op20 o r sr ds o.a.lv 5 c f l=z:=⟨_,rfl⟩
 rw[hop] at hbad ⊢
 simp only at hbad ⊢
 have HOP:=hd0 hop
 have T12:=hd0 T12
 have HX:=hd0 h
 have HO:=hd0 ho
 have HR:=hd0 hr
 have HMC:=hd0 (And.intro hsr hds)
 have HPB:=hd0 hpb
 have hb1:0≤r1.bad∧r1.bad≤900:=by rw[hbad];exact⟨hr.ok.bad.1,hr.bad⟩
 have wb1:IntKind.u64.wrap (r1.bad+1)=r1.bad+1:=IntWalk.u64_in _ (by omega)
 have hpc:0≤c∧c<256:=hpb.pc
 have wl:IntKind.i64.wrap o.a.lv=o.a.lv:=IntWalk.i64_in _ (by have:=ho.a.lv;omega)
 have dll:(o.a.lv != o.a.lv)=false:=by simp
 have LV:Hid (∀ W,Calls Tryz.prog 44 #[.int .i64 o.a.lv] W fun en w'=>en=.returned (.tuple #[.agg #[.int .u8 1,.int .u8 128,.int .u8 194,.int .u8 0,.int .u8 0,.int .u8 (48+o.a.lv)],.agg #[.int .u8 1,.int .u8 128,.int .u8 194,.int .u8 0,.int .u8 0,.int .u8 (56+o.a.lv)]])∧Below W.heap.size W w'):=hd0 fun W=>refLevels_any o.a.lv W HO.out.a.lv.1 hlv
 obtain⟨MI,hMI⟩:∃ D,decide (ds=o.mc)=D:=⟨_,rfl⟩
 have EQ:∀ W:World,(binOp .eql 25 (.agg #[.int .u8 ds.a,.int .u8 ds.b,.int .u8 ds.c,.int .u8 ds.d,.int .u8 ds.e,.int .u8 ds.f]) (.agg #[.int .u8 o.mc.a,.int .u8 o.mc.b,.int .u8 o.mc.c,.int .u8 o.mc.d,.int .u8 o.mc.e,.int .u8 o.mc.f])).run Tryz.prog W=.ok (.bool MI) W:=fun W=>by rw[←hMI];exact eql_macG ds o.mc W
 have HMI:=hd0 hMI
 have T0:=hd0 (TKr.begin w o v r sr ds)
 clear hop h ho hr hsr hds hd hpb ht HT20 hMI hlv hbad
 go_enter Tryz.func19,Tryz.ntmps19
 go_upto_region 1 with fail
 obtain⟨w0,hw0⟩:∃ z,(((w.alloc (.cells (rfA o v r) 44)).alloc (.cells #[.int .u8 sr.a,.int .u8 sr.b,.int .u8 sr.c,.int .u8 sr.d,.int .u8 sr.e,.int .u8 sr.f] 25)).alloc (.cells #[.int .u8 ds.a,.int .u8 ds.b,.int .u8 ds.c,.int .u8 ds.d,.int .u8 ds.e,.int .u8 ds.f] 25)).alloc (.cells yP 44)=z:=⟨_,rfl⟩
 rw[hw0] at T0 ⊢
 clear hw0
 go_wp2_with fail
 with_reducible refine(T12.out _).mono ?_
 rintro en w1 ⟨vl,rfl,htl,hb1'⟩
 have T1:=hd0 (T0.out.later hb1')
 obtain⟨ax,cx,hvx,-⟩:=htl.tls.shape
 obtain⟨n1,hn1⟩:∃ n,l.length=n:=⟨_,rfl⟩
 rw[hn1] at hvx
 subst hvx
 have V1:=hd0 htl.tls
 clear htl hb1' T0 hn1 T12
 go_upto_region 2 with fail
 have g2:=PB.new 115 w1 o.a.lv 5 c f (.slice ax n1 cx)
 have hal:=(Below.refl w1.heap.size w1).alloc (Nat.le_refl _) (.cells #[.int .u8 o.a.lv,.int .u8 5,.int .u8 c,.string (bs f),.slice ax n1 cx] 115)
 have T2:=hd0 (T1.out.later hal)
 have V2:=hd0 (V1.out.later hal)
 have hq2:w.heap.size+4≤w1.heap.size:=T1.out.sz
 obtain⟨w2,hw2⟩:∃ z,w1.alloc (.cells #[.int .u8 o.a.lv,.int .u8 5,.int .u8 c,.string (bs f),.slice ax n1 cx] 115)=z:=⟨_,rfl⟩
 obtain⟨q,hq⟩:∃ z,w1.heap.size=z:=⟨_,rfl⟩
 rw[hw2] at T2 V2 g2 hal ⊢
 have VB0:∀ W,Below w1.heap.size w1 W→Tls W (.slice ax n1 cx) l:=fun W hb=>V1.out.later hb
 rw[hq] at g2 hq2 hal VB0 ⊢
 have VB:=hd0 VB0
 have B2:=hd0 hal
 have HQE:=hd0 hq
 have P2:=hd0 g2
 have HQ:=hd0 hq2
 have c0:w2.cell? ⟨w.heap.size,0,none⟩=some (.int .u8 o.a.lv):=T2.out.c 0 _ rfl
 clear hw2 hq g2 hal T1 V1 hq2 VB0
 go_upto_region 6 with(go_at_call 44;(with_reducible refine(LV.out _).mono ?_);rintro en w3 ⟨rfl,hb3⟩;have T3:=hd0 (T2.out.later hb3);have V3:=hd0 (V2.out.later hb3);have P3:=hd0 (P2.out.later hb3);have B3:Hid (Below q w1 w3):=hd0 (B2.out.trans (hb3.mono (by rw[←HQE.out];exact B2.out.size)));clear hb3)
 have A4:Below w3.heap.size w3 ((w3.alloc (.cells #[.int .u8 1,.int .u8 128,.int .u8 194,.int .u8 0,.int .u8 0,.int .u8 (48+o.a.lv)] 25)).alloc (.cells #[.int .u8 1,.int .u8 128,.int .u8 194,.int .u8 0,.int .u8 0,.int .u8 (56+o.a.lv)] 25)):=(bA _).alloc (by simp) _
 have GM:=GB.new 25 (w3.alloc (.cells #[.int .u8 1,.int .u8 128,.int .u8 194,.int .u8 0,.int .u8 0,.int .u8 (48+o.a.lv)] 25)) #[.int .u8 1,.int .u8 128,.int .u8 194,.int .u8 0,.int .u8 0,.int .u8 (56+o.a.lv)]
 rw[show(w3.alloc (.cells #[.int .u8 1,.int .u8 128,.int .u8 194,.int .u8 0,.int .u8 0,.int .u8 (48+o.a.lv)] 25)).heap.size=w3.heap.size+1 by simp] at GM
 obtain⟨w4,hw4⟩:∃ k,(w3.alloc (.cells #[.int .u8 1,.int .u8 128,.int .u8 194,.int .u8 0,.int .u8 0,.int .u8 (48+o.a.lv)] 25)).alloc (.cells #[.int .u8 1,.int .u8 128,.int .u8 194,.int .u8 0,.int .u8 0,.int .u8 (56+o.a.lv)] 25)=k:=⟨_,rfl⟩
 obtain⟨q3,hq3⟩:∃ k,w3.heap.size=k:=⟨_,rfl⟩
 have hq3s:w.heap.size+4≤w3.heap.size:=T3.out.sz
 rw[hw4] at A4 GM ⊢
 have T4:=hd0 (T3.out.later A4)
 have V4:=hd0 (V3.out.later A4)
 have P4:=hd0 (P3.out.later A4)
 have B4:Hid (Below q w1 w4):=hd0 (B3.out.trans (A4.mono (by rw[←HQE.out];exact B3.out.size)))
 rw[hq3] at GM hq3s ⊢
 have GM4:=hd0 GM
 have HQ3:=hd0 hq3s
 have d0:=T4.out.g6.c 0 _ rfl
 have d1:=T4.out.g6.c 1 _ rfl
 have d2:=T4.out.g6.c 2 _ rfl
 have d3:=T4.out.g6.c 3 _ rfl
 have d4:=T4.out.g6.c 4 _ rfl
 have d5:=T4.out.g6.c 5 _ rfl
 have m0:w4.cell? ⟨w.heap.size,5,none⟩=some (.int .u8 o.mc.a):=T4.out.c 5 _ rfl
 have m1:w4.cell? ⟨w.heap.size,6,none⟩=some (.int .u8 o.mc.b):=T4.out.c 6 _ rfl
 have m2:w4.cell? ⟨w.heap.size,7,none⟩=some (.int .u8 o.mc.c):=T4.out.c 7 _ rfl
 have m3:w4.cell? ⟨w.heap.size,8,none⟩=some (.int .u8 o.mc.d):=T4.out.c 8 _ rfl
 have m4:w4.cell? ⟨w.heap.size,9,none⟩=some (.int .u8 o.mc.e):=T4.out.c 9 _ rfl
 have m5:w4.cell? ⟨w.heap.size,10,none⟩=some (.int .u8 o.mc.f):=T4.out.c 10 _ rfl
 have k0:w4.cell? ⟨w.heap.size,0,none⟩=some (.int .u8 o.a.lv):=T4.out.c 0 _ rfl
 have p0:=P4.out.c0
 have p1:=P4.out.c1
 clear A4 GM hw4 hq3 hq3s T2 T3 V2 V3 P2 P3 B2 B3 c0 wl LV
 go_upto_block 0 with fail
 clear d0 d1 d2 d3 d4 d5 m0 m1 m2 m3 m4 m5 k0 p0 p1 EQ dll
 go_cut [15,16] (fun s15 s16 wx=>∃ (v':Rv) (F:Int),s16=.int .i64 F∧(F != 0)=(!g)∧Hid (TKr w wx o v' r1 sr ds)∧Hid (VN (w.heap.size+4) wx v v' r r1)∧Hid (Ow 7 snC 58 wx (w.heap.size+4) s15 out))
 case first =>
  have hop2:r=r1∧(out,g)=sk20 o ds o.a.lv 5 f:=by
   have h:=HOP.out
   unfold op20 at h
   rw[if_neg (by decide),if_neg (by decide),if_neg (by decide),if_pos rfl] at h
   simp only[Prod.mk.injEq] at h
   obtain⟨h1,h2,h3⟩:=h
   exact⟨h1,by rw[←h2,← h3]⟩
  obtain⟨rfl,hag⟩:=hop2
  unfold sk20 at hag
  have HXX:=hd0 hx
  clear hx
  obtain⟨DG,hDG⟩:∃ D,decide (ds=trcG o.a.lv)=D:=⟨_,rfl⟩
  have EQ2:∀ W:World,(binOp .eql 25 (.agg #[.int .u8 ds.a,.int .u8 ds.b,.int .u8 ds.c,.int .u8 ds.d,.int .u8 ds.e,.int .u8 ds.f]) (.agg #[.int .u8 1,.int .u8 128,.int .u8 194,.int .u8 0,.int .u8 0,.int .u8 (56+o.a.lv)])).run Tryz.prog W=.ok (.bool DG) W:=fun W=>by rw[←hDG];exact eql_macG ds (trcG o.a.lv) W
  have hC:(MI||DG)=decide (ds=o.mc∨ds=trcG o.a.lv):=by rw[←HMI.out,← hDG,Bool.decide_or]
  have HC:=hd0 hC
  have HDG:=hd0 hDG
  have HAG:=hd0 hag
  clear hC hDG hag
  go_upto_region 35 with fail
  go_cut [147] (fun s147 wx=>s147=.bool (MI||DG)∧wx=w4)
  case first =>
   have d0:=T4.out.g6.c 0 _ rfl
   have d1:=T4.out.g6.c 1 _ rfl
   have d2:=T4.out.g6.c 2 _ rfl
   have d3:=T4.out.g6.c 3 _ rfl
   have d4:=T4.out.g6.c 4 _ rfl
   have d5:=T4.out.g6.c 5 _ rfl
   have g0:=GM4.out.c 0 _ rfl
   have g1:=GM4.out.c 1 _ rfl
   have g2:=GM4.out.c 2 _ rfl
   have g3:=GM4.out.c 3 _ rfl
   have g4:=GM4.out.c 4 _ rfl
   have g5:=GM4.out.c 5 _ rfl
   cases MI with
   | true =>
    go_wp2_with fail
    go_meet
    exact⟨rfl,rfl⟩
   | false =>
    go_wp2_with fail
    go_meet
    exact⟨by first|rfl|simp,rfl⟩
  case rest =>
   obtain⟨rfl,hwc⟩:=hcut
   obtain rfl:w4=wc:=hwc.symm
   obtain⟨CC,hCC⟩:∃ C,(MI||DG)=C:=⟨_,rfl⟩
   have hC:=HC.out
   have hag:=HAG.out
   rw[hCC] at hC ⊢
   clear EQ2 HDG hCC HC HAG
   cases CC with
   | false =>
    rw[if_neg (of_decide_eq_false hC.symm)] at hag
    simp only[Prod.mk.injEq] at hag
    obtain⟨rfl,rfl⟩:=hag
    clear hC
    go_wp2_with fail
    go_meet
    exact⟨v,0,rfl,rfl,T4,hd0 (VN.refl _ _ _ _),hd0 (Ow.none _ _)⟩
   | true =>
    have HCA:=hd0 (of_decide_eq_true hC.symm)
    rw[if_pos HCA.out] at hag
    have htok:=tkTr_ok (b:=5) HO.out.a.lv f
    obtain⟨⟨t,e2⟩,htk⟩:∃ z,tkTr o.a.lv 5 f=z:=⟨_,rfl⟩
    have RT:Hid (∀ W,Calls Tryz.prog 59 #[.agg #[.int .u8 o.a.lv,.int .u8 5,.int .u8 c,.string (bs f),.slice ax n1 cx]] W fun en w'=>en=.returned (.tuple #[.agg #[.int .u8 t.lv,.int .u32 t.nm,.int .u8 t.tl,.int .u8 t.fr.a,.int .u8 t.fr.b,.int .u8 t.fr.c,.int .u8 t.fr.d,.int .u8 t.fr.e,.int .u8 t.fr.f,.int .u8 t.tt.a,.int .u8 t.tt.b,.int .u8 t.tt.c,.int .u8 t.tt.d,.int .u8 t.tt.e,.int .u8 t.tt.f],.int .i64 e2])∧Below W.heap.size W w'):=hd0 fun W=>by
     have h:=refTake15_any (.slice ax n1 cx) o.a.lv 5 c f W HPB.out.pf ⟨_,_,_,rfl⟩
     rw[htk] at h;exact h
    rw[htk] at hag htok
    simp only[] at hag htok
    have HTK:=hd0 htk
    have HTOK:=hd0 htok
    have p0:=P4.out.c0
    have p1:=P4.out.c1
    have p2:=P4.out.c2
    have p3:=P4.out.c3
    have p4:=P4.out.c4
    clear htk hC htok
    go_upto_region 37 with(go_at_call 59;(with_reducible refine(RT.out _).mono ?_);rintro en w5 ⟨rfl,hb5⟩;have T5:=hd0 (T4.out.later hb5);clear hb5)
    have GX:=GB.new 134 w5 #[.int .u8 t.lv,.int .u32 t.nm,.int .u8 t.tl,.int .u8 t.fr.a,.int .u8 t.fr.b,.int .u8 t.fr.c,.int .u8 t.fr.d,.int .u8 t.fr.e,.int .u8 t.fr.f,.int .u8 t.tt.a,.int .u8 t.tt.b,.int .u8 t.tt.c,.int .u8 t.tt.d,.int .u8 t.tt.e,.int .u8 t.tt.f]
    have T6:=hd0 (T5.out.later (bA (.cells #[.int .u8 t.lv,.int .u32 t.nm,.int .u8 t.tl,.int .u8 t.fr.a,.int .u8 t.fr.b,.int .u8 t.fr.c,.int .u8 t.fr.d,.int .u8 t.fr.e,.int .u8 t.fr.f,.int .u8 t.tt.a,.int .u8 t.tt.b,.int .u8 t.tt.c,.int .u8 t.tt.d,.int .u8 t.tt.e,.int .u8 t.tt.f] 134)))
    obtain⟨w6,hw6⟩:∃ k,w5.alloc (.cells #[.int .u8 t.lv,.int .u32 t.nm,.int .u8 t.tl,.int .u8 t.fr.a,.int .u8 t.fr.b,.int .u8 t.fr.c,.int .u8 t.fr.d,.int .u8 t.fr.e,.int .u8 t.fr.f,.int .u8 t.tt.a,.int .u8 t.tt.b,.int .u8 t.tt.c,.int .u8 t.tt.d,.int .u8 t.tt.e,.int .u8 t.tt.f] 134)=k:=⟨_,rfl⟩
    obtain⟨q21,hq21⟩:∃ k,w5.heap.size=k:=⟨_,rfl⟩
    rw[hw6] at GX T6 ⊢
    rw[hq21] at GX ⊢
    have GX6:=hd0 GX
    clear hw6 hq21 GX T5 p0 p1 p2 p3 p4
    have he2:¬ e2=0:=fun k=>HXX.out ⟨HCA.out,by rw[HTK.out];exact k⟩
    rw[if_neg (fun k=>he2 k.1)] at hag
    simp only[Prod.mk.injEq] at hag
    obtain⟨rfl,hg⟩:=hag
    have hg2:g=false:=by rw[hg];exact decide_eq_false he2
    subst hg2
    have de:(e2==0)=false:=by rw[beq_eq_false_iff_ne];exact he2
    have HE:=hd0 (show(e2 != 0)=(!false) by rw[Bool.not_false,bne_iff_ne];exact he2)
    clear he2 hg
    go_wp2_with fail
    go_meet
    exact⟨v,e2,rfl,HE.out,T6,hd0 (VN.refl _ _ _ _),hd0 (Ow.none _ _)⟩
 case rest =>
  obtain⟨v',F,rfl,hF,TA,VA,UA⟩:=hcut
  have ONE:=hd0 (VA.out.one HX.out o)
  have IS:∀ r':Rf,(Tryz.prog.info? 44).map (·.size)=some (rfA o v' r').size:=fun r'=>info_mep
  have IL:∀ r':Rf,(Tryz.prog.info? 44).map (·.size)=some (rfA o v' r').toList.length:=fun r'=>info_mep
  cases g with
  | true =>
   have hF0:(F != 0)=false:=hF
   have BR:bad20 r1 true=r1:=rfl
   clear hF
   go_wp2_with (first
    |((with_reducible refine wpList_load_mid rfl 44 (.tmp 4) rfl w.heap.size 0 ?hx (rfA o v' r1).toList _ TA.out.rng Tryz.underlying44 ?hu (IL r1) ?_);(case hx=>rfl);(case hu=>rfl))
    |((with_reducible refine wpList_store_mid rfl 44 (.tmp 8) (.tmp 238) rfl (w.heap.size+3) 0 (rfA o v' r1) ?hx ?hy TA.out.thr (IS r1) (ONE.out r1) ?_);(case hx=>rfl);(case hy=>rfl)))
   exact bodyPost_ret (v:=.tuple #[.agg (rfA o v' r1),_]) (res_two (p:=8) (u:=9) (d:=_) rfl rfl Tryz.underlying44 _ _ (w.heap.size+3) _ rfl (TA.out.fin (ONE.out r1)) (IS r1)) rfl ⟨v',_,rfl,(VA.out.cells (by omega) _ _).wk (by omega),(UA.out.cellsLow (by omega) _ _).wk (by omega),below_cellsG (by omega) _ _ _ TA.out.bel⟩
  | false =>
   have hF0:(F != 0)=true:=hF
   clear hF
   have b15:∀ W,TKr w W o v' r1 sr ds→W.cell? ⟨w.heap.size,15,none⟩=some (.int .u64 r1.bad):=fun W h=>h.c 15 _ rfl
   have f15:=TA.out.gb.fr 15
   have k15:=b15 _ TA.out
   go_upto_region 49 with fail
   have TB2:=hd0 (TA.out.set 15 (.int .u64 (r1.bad+1)) (rfA_bad o v' r1 (r1.bad+1)))
   have VB2:=hd0 (VA.out.set (t:=w.heap.size) (by omega) 15 (.int .u64 (r1.bad+1)))
   have UB2:=hd0 (UA.out.setLow (t:=w.heap.size) (j:=15) (by omega) (.int .u64 (r1.bad+1)))
   clear b15 f15 k15 TA VA UA
   obtain⟨wb,hwb⟩:∃ z,wc.setCell ⟨w.heap.size,15,none⟩ (.int .u64 (r1.bad+1))=z:=⟨_,rfl⟩
   rw[hwb] at TB2 VB2 UB2 ⊢
   clear hwb
   obtain⟨r2,hr2⟩:∃ x:Rf,x={ r1 with bad:=r1.bad+1 }:=⟨_,rfl⟩
   have BR:bad20 r1 false=r2:=by rw[hr2];rfl
   rw[←hr2] at TB2
   have VB3:Hid (VN (w.heap.size+4) wb v v' r r2):=hd0 (by rw[hr2];exact⟨VB2.out.ov,VB2.out.sv,VB2.out.ws,VB2.out.nw,VB2.out.hd,VB2.out.wy⟩)
   clear hr2 VB2
   go_wp2_with (first
    |((with_reducible refine wpList_load_mid rfl 44 (.tmp 4) rfl w.heap.size 0 ?hx (rfA o v' r2).toList _ TB2.out.rng Tryz.underlying44 ?hu (IL r2) ?_);(case hx=>rfl);(case hu=>rfl))
    |((with_reducible refine wpList_store_mid rfl 44 (.tmp 8) (.tmp 238) rfl (w.heap.size+3) 0 (rfA o v' r2) ?hx ?hy TB2.out.thr (IS r2) (ONE.out r2) ?_);(case hx=>rfl);(case hy=>rfl)))
   exact bodyPost_ret (v:=.tuple #[.agg (rfA o v' r2),_]) (res_two (p:=8) (u:=9) (d:=_) rfl rfl Tryz.underlying44 _ _ (w.heap.size+3) _ rfl (TB2.out.fin (ONE.out r2)) (IS r2)) rfl ⟨v',_,by rw[BR];rfl,by rw[BR];exact(VB3.out.cells (by omega) _ _).wk (by omega),(UB2.out.cellsLow (by omega) _ _).wk (by omega),below_cellsG (by omega) _ _ _ TB2.out.bel⟩
theorem take20_b5h (o:Ow20)(ho:o.Ok)(hlv:o.a.lv<8)(ks:List Int)(v:Rv)(r:Rf)(hr:Rk r)(sr ds:Mc)(hsr:sr.Ok)(hds:ds.Ok)(d:List UInt8)(hd:d.length≤1600)(he:(tkP d).2.2.2.2.2=0)(hl:(tkP d).1=o.a.lv)(hb:(tkP d).2.1=5)(hx:C5 o ds (tkP d).1 (tkP d).2.1 (tkP d).2.2.2.1)(w:World)(h:RX w ks v r) :
  Calls Tryz.prog 19 #[.agg (rfA o v r),.agg #[.int .u8 sr.a,.int .u8 sr.b,.int .u8 sr.c,.int .u8 sr.d,.int .u8 sr.e,.int .u8 sr.f],.agg #[.int .u8 ds.a,.int .u8 ds.b,.int .u8 ds.c,.int .u8 ds.d,.int .u8 ds.e,.int .u8 ds.f],.string (bs d)] w fun en w'=>∃ v' u,en=.returned (.tuple #[.agg (rfA o v' (take20 o r sr ds d).1),u])∧VN w.heap.size w' v v' r (take20 o r sr ds d).1∧Ow 7 snC 58 w' w.heap.size u (take20 o r sr ds d).2∧Below w.heap.size w w':=by
 have hpb:=tkP_b d hd
 have hbad:(op20 o r sr ds (tkP d).1 (tkP d).2.1 (tkP d).2.2.1 (tkP d).2.2.2.1 (tkP d).2.2.2.2.1).1.bad=r.bad:=op20_bad _ _ _ _ _ _ _ _ _
 have HT20:take20 o r sr ds d=(bad20 (op20 o r sr ds (tkP d).1 (tkP d).2.1 (tkP d).2.2.1 (tkP d).2.2.2.1 (tkP d).2.2.2.2.1).1 (op20 o r sr ds (tkP d).1 (tkP d).2.1 (tkP d).2.2.1 (tkP d).2.2.2.1 (tkP d).2.2.2.2.1).2.2,(op20 o r sr ds (tkP d).1 (tkP d).2.1 (tkP d).2.2.1 (tkP d).2.2.2.1 (tkP d).2.2.2.2.1).2.1):=by
  unfold take20;rw[if_neg (fun k=>k he),if_neg (fun k=>k hl)]
 have T12:∀ W:World,_:=fun W=>refTake12_any d W (by omega)
 rw[HT20]
 obtain⟨⟨a,b,c,f,l,e⟩,ht⟩:∃ z,tkP d=z:=⟨_,rfl⟩
 rw[ht] at hpb he hl hb hbad ⊢
 simp only[ht] at T12
 simp only at hpb he hl hb hbad ⊢
 rw[ht] at hx
 simp only at hx
 subst he hl hb
 obtain⟨⟨r1,out,g⟩,hop⟩:∃ z,op20 o r sr ds o.a.lv 5 c f l=z:=⟨_,rfl⟩
 rw[hop] at hbad ⊢
 simp only at hbad ⊢
 have HOP:=hd0 hop
 have T12:=hd0 T12
 have HX:=hd0 h
 have HO:=hd0 ho
 have HR:=hd0 hr
 have HMC:=hd0 (And.intro hsr hds)
 have HPB:=hd0 hpb
 have hb1:0≤r1.bad∧r1.bad≤900:=by rw[hbad];exact⟨hr.ok.bad.1,hr.bad⟩
 have wb1:IntKind.u64.wrap (r1.bad+1)=r1.bad+1:=IntWalk.u64_in _ (by omega)
 have hpc:0≤c∧c<256:=hpb.pc
 have wl:IntKind.i64.wrap o.a.lv=o.a.lv:=IntWalk.i64_in _ (by have:=ho.a.lv;omega)
 have dll:(o.a.lv != o.a.lv)=false:=by simp
 have LV:Hid (∀ W,Calls Tryz.prog 44 #[.int .i64 o.a.lv] W fun en w'=>en=.returned (.tuple #[.agg #[.int .u8 1,.int .u8 128,.int .u8 194,.int .u8 0,.int .u8 0,.int .u8 (48+o.a.lv)],.agg #[.int .u8 1,.int .u8 128,.int .u8 194,.int .u8 0,.int .u8 0,.int .u8 (56+o.a.lv)]])∧Below W.heap.size W w'):=hd0 fun W=>refLevels_any o.a.lv W HO.out.a.lv.1 hlv
 obtain⟨MI,hMI⟩:∃ D,decide (ds=o.mc)=D:=⟨_,rfl⟩
 have EQ:∀ W:World,(binOp .eql 25 (.agg #[.int .u8 ds.a,.int .u8 ds.b,.int .u8 ds.c,.int .u8 ds.d,.int .u8 ds.e,.int .u8 ds.f]) (.agg #[.int .u8 o.mc.a,.int .u8 o.mc.b,.int .u8 o.mc.c,.int .u8 o.mc.d,.int .u8 o.mc.e,.int .u8 o.mc.f])).run Tryz.prog W=.ok (.bool MI) W:=fun W=>by rw[←hMI];exact eql_macG ds o.mc W
 have HMI:=hd0 hMI
 have T0:=hd0 (TKr.begin w o v r sr ds)
 clear hop h ho hr hsr hds hd hpb ht HT20 hMI hlv hbad
 go_enter Tryz.func19,Tryz.ntmps19
 go_upto_region 1 with fail
 obtain⟨w0,hw0⟩:∃ z,(((w.alloc (.cells (rfA o v r) 44)).alloc (.cells #[.int .u8 sr.a,.int .u8 sr.b,.int .u8 sr.c,.int .u8 sr.d,.int .u8 sr.e,.int .u8 sr.f] 25)).alloc (.cells #[.int .u8 ds.a,.int .u8 ds.b,.int .u8 ds.c,.int .u8 ds.d,.int .u8 ds.e,.int .u8 ds.f] 25)).alloc (.cells yP 44)=z:=⟨_,rfl⟩
 rw[hw0] at T0 ⊢
 clear hw0
 go_wp2_with fail
 with_reducible refine(T12.out _).mono ?_
 rintro en w1 ⟨vl,rfl,htl,hb1'⟩
 have T1:=hd0 (T0.out.later hb1')
 obtain⟨ax,cx,hvx,-⟩:=htl.tls.shape
 obtain⟨n1,hn1⟩:∃ n,l.length=n:=⟨_,rfl⟩
 rw[hn1] at hvx
 subst hvx
 have V1:=hd0 htl.tls
 clear htl hb1' T0 hn1 T12
 go_upto_region 2 with fail
 have g2:=PB.new 115 w1 o.a.lv 5 c f (.slice ax n1 cx)
 have hal:=(Below.refl w1.heap.size w1).alloc (Nat.le_refl _) (.cells #[.int .u8 o.a.lv,.int .u8 5,.int .u8 c,.string (bs f),.slice ax n1 cx] 115)
 have T2:=hd0 (T1.out.later hal)
 have V2:=hd0 (V1.out.later hal)
 have hq2:w.heap.size+4≤w1.heap.size:=T1.out.sz
 obtain⟨w2,hw2⟩:∃ z,w1.alloc (.cells #[.int .u8 o.a.lv,.int .u8 5,.int .u8 c,.string (bs f),.slice ax n1 cx] 115)=z:=⟨_,rfl⟩
 obtain⟨q,hq⟩:∃ z,w1.heap.size=z:=⟨_,rfl⟩
 rw[hw2] at T2 V2 g2 hal ⊢
 have VB0:∀ W,Below w1.heap.size w1 W→Tls W (.slice ax n1 cx) l:=fun W hb=>V1.out.later hb
 rw[hq] at g2 hq2 hal VB0 ⊢
 have VB:=hd0 VB0
 have B2:=hd0 hal
 have HQE:=hd0 hq
 have P2:=hd0 g2
 have HQ:=hd0 hq2
 have c0:w2.cell? ⟨w.heap.size,0,none⟩=some (.int .u8 o.a.lv):=T2.out.c 0 _ rfl
 clear hw2 hq g2 hal T1 V1 hq2 VB0
 go_upto_region 6 with(go_at_call 44;(with_reducible refine(LV.out _).mono ?_);rintro en w3 ⟨rfl,hb3⟩;have T3:=hd0 (T2.out.later hb3);have V3:=hd0 (V2.out.later hb3);have P3:=hd0 (P2.out.later hb3);have B3:Hid (Below q w1 w3):=hd0 (B2.out.trans (hb3.mono (by rw[←HQE.out];exact B2.out.size)));clear hb3)
 have A4:Below w3.heap.size w3 ((w3.alloc (.cells #[.int .u8 1,.int .u8 128,.int .u8 194,.int .u8 0,.int .u8 0,.int .u8 (48+o.a.lv)] 25)).alloc (.cells #[.int .u8 1,.int .u8 128,.int .u8 194,.int .u8 0,.int .u8 0,.int .u8 (56+o.a.lv)] 25)):=(bA _).alloc (by simp) _
 have GM:=GB.new 25 (w3.alloc (.cells #[.int .u8 1,.int .u8 128,.int .u8 194,.int .u8 0,.int .u8 0,.int .u8 (48+o.a.lv)] 25)) #[.int .u8 1,.int .u8 128,.int .u8 194,.int .u8 0,.int .u8 0,.int .u8 (56+o.a.lv)]
 rw[show(w3.alloc (.cells #[.int .u8 1,.int .u8 128,.int .u8 194,.int .u8 0,.int .u8 0,.int .u8 (48+o.a.lv)] 25)).heap.size=w3.heap.size+1 by simp] at GM
 obtain⟨w4,hw4⟩:∃ k,(w3.alloc (.cells #[.int .u8 1,.int .u8 128,.int .u8 194,.int .u8 0,.int .u8 0,.int .u8 (48+o.a.lv)] 25)).alloc (.cells #[.int .u8 1,.int .u8 128,.int .u8 194,.int .u8 0,.int .u8 0,.int .u8 (56+o.a.lv)] 25)=k:=⟨_,rfl⟩
 obtain⟨q3,hq3⟩:∃ k,w3.heap.size=k:=⟨_,rfl⟩
 have hq3s:w.heap.size+4≤w3.heap.size:=T3.out.sz
 rw[hw4] at A4 GM ⊢
 have T4:=hd0 (T3.out.later A4)
 have V4:=hd0 (V3.out.later A4)
 have P4:=hd0 (P3.out.later A4)
 have B4:Hid (Below q w1 w4):=hd0 (B3.out.trans (A4.mono (by rw[←HQE.out];exact B3.out.size)))
 rw[hq3] at GM hq3s ⊢
 have GM4:=hd0 GM
 have HQ3:=hd0 hq3s
 have d0:=T4.out.g6.c 0 _ rfl
 have d1:=T4.out.g6.c 1 _ rfl
 have d2:=T4.out.g6.c 2 _ rfl
 have d3:=T4.out.g6.c 3 _ rfl
 have d4:=T4.out.g6.c 4 _ rfl
 have d5:=T4.out.g6.c 5 _ rfl
 have m0:w4.cell? ⟨w.heap.size,5,none⟩=some (.int .u8 o.mc.a):=T4.out.c 5 _ rfl
 have m1:w4.cell? ⟨w.heap.size,6,none⟩=some (.int .u8 o.mc.b):=T4.out.c 6 _ rfl
 have m2:w4.cell? ⟨w.heap.size,7,none⟩=some (.int .u8 o.mc.c):=T4.out.c 7 _ rfl
 have m3:w4.cell? ⟨w.heap.size,8,none⟩=some (.int .u8 o.mc.d):=T4.out.c 8 _ rfl
 have m4:w4.cell? ⟨w.heap.size,9,none⟩=some (.int .u8 o.mc.e):=T4.out.c 9 _ rfl
 have m5:w4.cell? ⟨w.heap.size,10,none⟩=some (.int .u8 o.mc.f):=T4.out.c 10 _ rfl
 have k0:w4.cell? ⟨w.heap.size,0,none⟩=some (.int .u8 o.a.lv):=T4.out.c 0 _ rfl
 have p0:=P4.out.c0
 have p1:=P4.out.c1
 clear A4 GM hw4 hq3 hq3s T2 T3 V2 V3 P2 P3 B2 B3 c0 wl LV
 go_upto_block 0 with fail
 clear d0 d1 d2 d3 d4 d5 m0 m1 m2 m3 m4 m5 k0 p0 p1 EQ dll
 go_cut [15,16] (fun s15 s16 wx=>∃ (v':Rv) (F:Int),s16=.int .i64 F∧(F != 0)=(!g)∧Hid (TKr w wx o v' r1 sr ds)∧Hid (VN (w.heap.size+4) wx v v' r r1)∧Hid (Ow 7 snC 58 wx (w.heap.size+4) s15 out))
 case first =>
  have hop2:r=r1∧(out,g)=sk20 o ds o.a.lv 5 f:=by
   have h:=HOP.out
   unfold op20 at h
   rw[if_neg (by decide),if_neg (by decide),if_neg (by decide),if_pos rfl] at h
   simp only[Prod.mk.injEq] at h
   obtain⟨h1,h2,h3⟩:=h
   exact⟨h1,by rw[←h2,← h3]⟩
  obtain⟨rfl,hag⟩:=hop2
  unfold sk20 at hag
  have HXX:=hd0 hx
  clear hx
  obtain⟨DG,hDG⟩:∃ D,decide (ds=trcG o.a.lv)=D:=⟨_,rfl⟩
  have EQ2:∀ W:World,(binOp .eql 25 (.agg #[.int .u8 ds.a,.int .u8 ds.b,.int .u8 ds.c,.int .u8 ds.d,.int .u8 ds.e,.int .u8 ds.f]) (.agg #[.int .u8 1,.int .u8 128,.int .u8 194,.int .u8 0,.int .u8 0,.int .u8 (56+o.a.lv)])).run Tryz.prog W=.ok (.bool DG) W:=fun W=>by rw[←hDG];exact eql_macG ds (trcG o.a.lv) W
  have hC:(MI||DG)=decide (ds=o.mc∨ds=trcG o.a.lv):=by rw[←HMI.out,← hDG,Bool.decide_or]
  have HC:=hd0 hC
  have HDG:=hd0 hDG
  have HAG:=hd0 hag
  clear hC hDG hag
  go_upto_region 35 with fail
  go_cut [147] (fun s147 wx=>s147=.bool (MI||DG)∧wx=w4)
  case first =>
   have d0:=T4.out.g6.c 0 _ rfl
   have d1:=T4.out.g6.c 1 _ rfl
   have d2:=T4.out.g6.c 2 _ rfl
   have d3:=T4.out.g6.c 3 _ rfl
   have d4:=T4.out.g6.c 4 _ rfl
   have d5:=T4.out.g6.c 5 _ rfl
   have g0:=GM4.out.c 0 _ rfl
   have g1:=GM4.out.c 1 _ rfl
   have g2:=GM4.out.c 2 _ rfl
   have g3:=GM4.out.c 3 _ rfl
   have g4:=GM4.out.c 4 _ rfl
   have g5:=GM4.out.c 5 _ rfl
   cases MI with
   | true =>
    go_wp2_with fail
    go_meet
    exact⟨rfl,rfl⟩
   | false =>
    go_wp2_with fail
    go_meet
    exact⟨by first|rfl|simp,rfl⟩
  case rest =>
   obtain⟨rfl,hwc⟩:=hcut
   obtain rfl:w4=wc:=hwc.symm
   obtain⟨CC,hCC⟩:∃ C,(MI||DG)=C:=⟨_,rfl⟩
   have hC:=HC.out
   have hag:=HAG.out
   rw[hCC] at hC ⊢
   clear EQ2 HDG hCC HC HAG
   obtain rfl:CC=true:=by rw[hC];exact decide_eq_true HXX.out.1
   rw[if_pos (of_decide_eq_true hC.symm)] at hag
   have htok:=tkTr_ok (b:=5) HO.out.a.lv f
   obtain⟨⟨t,e2⟩,htk⟩:∃ z,tkTr o.a.lv 5 f=z:=⟨_,rfl⟩
   have RT:Hid (∀ W,Calls Tryz.prog 59 #[.agg #[.int .u8 o.a.lv,.int .u8 5,.int .u8 c,.string (bs f),.slice ax n1 cx]] W fun en w'=>en=.returned (.tuple #[.agg #[.int .u8 t.lv,.int .u32 t.nm,.int .u8 t.tl,.int .u8 t.fr.a,.int .u8 t.fr.b,.int .u8 t.fr.c,.int .u8 t.fr.d,.int .u8 t.fr.e,.int .u8 t.fr.f,.int .u8 t.tt.a,.int .u8 t.tt.b,.int .u8 t.tt.c,.int .u8 t.tt.d,.int .u8 t.tt.e,.int .u8 t.tt.f],.int .i64 e2])∧Below W.heap.size W w'):=hd0 fun W=>by
    have h:=refTake15_any (.slice ax n1 cx) o.a.lv 5 c f W HPB.out.pf ⟨_,_,_,rfl⟩
    rw[htk] at h;exact h
   rw[htk] at hag htok
   simp only[] at hag htok
   have HTK:=hd0 htk
   have HTOK:=hd0 htok
   have p0:=P4.out.c0
   have p1:=P4.out.c1
   have p2:=P4.out.c2
   have p3:=P4.out.c3
   have p4:=P4.out.c4
   clear htk hC htok
   go_upto_region 37 with(go_at_call 59;(with_reducible refine(RT.out _).mono ?_);rintro en w5 ⟨rfl,hb5⟩;have T5:=hd0 (T4.out.later hb5);clear hb5)
   have GX:=GB.new 134 w5 #[.int .u8 t.lv,.int .u32 t.nm,.int .u8 t.tl,.int .u8 t.fr.a,.int .u8 t.fr.b,.int .u8 t.fr.c,.int .u8 t.fr.d,.int .u8 t.fr.e,.int .u8 t.fr.f,.int .u8 t.tt.a,.int .u8 t.tt.b,.int .u8 t.tt.c,.int .u8 t.tt.d,.int .u8 t.tt.e,.int .u8 t.tt.f]
   have T6:=hd0 (T5.out.later (bA (.cells #[.int .u8 t.lv,.int .u32 t.nm,.int .u8 t.tl,.int .u8 t.fr.a,.int .u8 t.fr.b,.int .u8 t.fr.c,.int .u8 t.fr.d,.int .u8 t.fr.e,.int .u8 t.fr.f,.int .u8 t.tt.a,.int .u8 t.tt.b,.int .u8 t.tt.c,.int .u8 t.tt.d,.int .u8 t.tt.e,.int .u8 t.tt.f] 134)))
   obtain⟨w6,hw6⟩:∃ k,w5.alloc (.cells #[.int .u8 t.lv,.int .u32 t.nm,.int .u8 t.tl,.int .u8 t.fr.a,.int .u8 t.fr.b,.int .u8 t.fr.c,.int .u8 t.fr.d,.int .u8 t.fr.e,.int .u8 t.fr.f,.int .u8 t.tt.a,.int .u8 t.tt.b,.int .u8 t.tt.c,.int .u8 t.tt.d,.int .u8 t.tt.e,.int .u8 t.tt.f] 134)=k:=⟨_,rfl⟩
   obtain⟨q21,hq21⟩:∃ k,w5.heap.size=k:=⟨_,rfl⟩
   rw[hw6] at GX T6 ⊢
   rw[hq21] at GX ⊢
   have GX6:=hd0 GX
   clear hw6 hq21 GX T5 p0 p1 p2 p3 p4
   have he2:e2=0:=by have:=HXX.out.2.1;rw[HTK.out] at this;exact this
   subst he2
   have hg2:g=true:=by
    have:=congrArg Prod.snd hag
    exact this
   subst hg2
   have hcd:t.tt=o.mc∧0<t.tl∧t.fr.a % 2=0:=by have:=HXX.out.2.2;rw[HTK.out] at this;exact this
   have EQ3:∀ W:World,(binOp .eql 25 (.agg #[.int .u8 t.tt.a,.int .u8 t.tt.b,.int .u8 t.tt.c,.int .u8 t.tt.d,.int .u8 t.tt.e,.int .u8 t.tt.f]) (.agg #[.int .u8 o.mc.a,.int .u8 o.mc.b,.int .u8 o.mc.c,.int .u8 o.mc.d,.int .u8 o.mc.e,.int .u8 o.mc.f])).run Tryz.prog W=.ok (.bool true) W:=fun W=>by rw[←decide_eq_true hcd.1];exact eql_macG t.tt o.mc W
   have x2:=GX6.out.c 2 (.int .u8 t.tl) rfl
   have x3:=GX6.out.c 3 (.int .u8 t.fr.a) rfl
   have x9:=GX6.out.c 9 (.int .u8 t.tt.a) rfl
   have x10:=GX6.out.c 10 (.int .u8 t.tt.b) rfl
   have x11:=GX6.out.c 11 (.int .u8 t.tt.c) rfl
   have x12:=GX6.out.c 12 (.int .u8 t.tt.d) rfl
   have x13:=GX6.out.c 13 (.int .u8 t.tt.e) rfl
   have x14:=GX6.out.c 14 (.int .u8 t.tt.f) rfl
   have m0:w6.cell? ⟨w.heap.size,5,none⟩=some (.int .u8 o.mc.a):=T6.out.c 5 _ rfl
   have m1:w6.cell? ⟨w.heap.size,6,none⟩=some (.int .u8 o.mc.b):=T6.out.c 6 _ rfl
   have m2:w6.cell? ⟨w.heap.size,7,none⟩=some (.int .u8 o.mc.c):=T6.out.c 7 _ rfl
   have m3:w6.cell? ⟨w.heap.size,8,none⟩=some (.int .u8 o.mc.d):=T6.out.c 8 _ rfl
   have m4:w6.cell? ⟨w.heap.size,9,none⟩=some (.int .u8 o.mc.e):=T6.out.c 9 _ rfl
   have m5:w6.cell? ⟨w.heap.size,10,none⟩=some (.int .u8 o.mc.f):=T6.out.c 10 _ rfl
   have y1:t.fr.a.tmod 2=t.fr.a % 2:=Int.tmod_eq_emod_of_nonneg HTOK.out.fr.a.1
   have y2:IntKind.u8.wrap (t.fr.a % 2)=t.fr.a % 2:=IntWalk.u8_in _ (by omega)
   have hTL:decide (0<t.tl)=true:=decide_eq_true hcd.2.1
   have hSF:(t.fr.a % 2==0)=true:=by rw[hcd.2.2];rfl
   rw[if_pos ⟨rfl,hcd⟩] at hag
   have hout:=congrArg Prod.fst hag
   simp only[] at hout
   clear hag
   have hrok:(endP o t).Ok:=⟨HO.out.a.lv,HTOK.out.nm,by have h1:=HTOK.out.tl;have h2:=hcd.2.1;show 0≤t.tl-1∧t.tl-1<256;omega,HO.out.mc,mc0_ok⟩
   have hpq:=putRp_ok hrok
   have wt:IntKind.u8.wrap (t.tl-1)=t.tl-1:=IntWalk.u8_in _ (by have h1:=HTOK.out.tl;have h2:=hcd.2.1;omega)
   obtain⟨⟨b1,b2,b3,PP,LL,be⟩,hP⟩:∃ z,putRp (endP o t)=z:=⟨_,rfl⟩
   have PR:Hid (∀ W,Calls Tryz.prog 60 #[.agg #[.int .u8 o.a.lv,.int .u32 t.nm,.int .u8 (t.tl-1),.bool false,.bool true,.int .u8 o.mc.a,.int .u8 o.mc.b,.int .u8 o.mc.c,.int .u8 o.mc.d,.int .u8 o.mc.e,.int .u8 o.mc.f,.int .u8 0,.int .u8 0,.int .u8 0,.int .u8 0,.int .u8 0,.int .u8 0]] W fun en w'=>∃ sa sc,en=.returned (.tuple #[.agg #[.int .u8 b1,.int .u8 b2,.int .u8 b3,.string (bs PP),.slice sa LL.length sc],.int .i64 be])∧Tls w' (.slice sa LL.length sc) LL∧Below W.heap.size W w'):=hd0 fun W=>by
    have h:=refPutR15_any (endP o t) W hrok
    rw[hP] at h
    refine h.mono fun en w' ⟨v',he,hv,hb⟩=>?_
    obtain⟨sa,sc,rfl,-⟩:=hv.tls.shape
    exact⟨sa,sc,he,hv.tls,hb⟩
   rw[hP] at hpq
   simp only[] at hpq
   have HPQ:=hd0 hpq
   obtain⟨sn,hsn⟩:∃ z,sentR t.fr b1 b2 b3 PP LL=z:=⟨_,rfl⟩
   have PT:Hid (∀ W sa sc,Tls W (.slice sa LL.length sc) LL→Calls Tryz.prog 45 #[.agg #[.int .u8 t.fr.a,.int .u8 t.fr.b,.int .u8 t.fr.c,.int .u8 t.fr.d,.int .u8 t.fr.e,.int .u8 t.fr.f],.agg #[.int .u8 b1,.int .u8 b2,.int .u8 b3,.string (bs PP),.slice sa LL.length sc]] W fun en w'=>∃ ua uc,en=.returned (.slice ua sn.length uc)∧Ow 7 snC 58 w' W.heap.size (.slice ua sn.length uc) sn∧Below W.heap.size W w'):=hd0 fun W sa sc hv=>by
    have h:=rsent_any t.fr (.slice sa LL.length sc) b1 b2 b3 PP LL W hv (by have:=HPQ.out.pl;omega) (fun x hx=>by have:=HPQ.out.ps x hx;unfold maxLen;omega) (by have:=HPQ.out.pf;omega) HPQ.out.pm HPQ.out.pa HPQ.out.pb HPQ.out.pc
    rw[hsn] at h
    refine h.mono fun en w' ⟨u,he,hu,hb⟩=>?_
    obtain⟨ua,uc,rfl,-⟩:=hu.cap
    exact⟨ua,uc,he,hu,hb⟩
   have HOUT:Hid (out=sn):=hd0 (by rw[hout,hP];exact hsn)
   clear hout
   have x1:=GX6.out.c 1 (.int .u32 t.nm) rfl
   have k0:w6.cell? ⟨w.heap.size,0,none⟩=some (.int .u8 o.a.lv):=T6.out.c 0 _ rfl
   obtain⟨LE,hLE⟩:∃ k,LL.length=k:=⟨_,rfl⟩
   obtain⟨SE,hSE⟩:∃ k,sn.length=k:=⟨_,rfl⟩
   rw[hLE] at PR PT
   rw[hSE] at PT
   clear hP hpq hrok hcd hsn hLE hSE
   go_upto_region 40 with(go_at_call 60;(with_reducible refine(PR.out _).mono ?_);rintro en w7 ⟨sa,sc,rfl,hts,hb7⟩;have T7:=hd0 (T6.out.later hb7);have GX7:=hd0 (GX6.out.later hb7);have V7:=hd0 hts;clear hb7 hts)
   have hal:=(Below.refl w7.heap.size w7).alloc (Nat.le_refl _) (.cells #[.int .u8 b1,.int .u8 b2,.int .u8 b3,.string (bs PP),.slice sa LE sc] 115)
   have GP:=GB.new 115 w7 #[.int .u8 b1,.int .u8 b2,.int .u8 b3,.string (bs PP),.slice sa LE sc]
   obtain⟨w8,hw8⟩:∃ k,w7.alloc (.cells #[.int .u8 b1,.int .u8 b2,.int .u8 b3,.string (bs PP),.slice sa LE sc] 115)=k:=⟨_,rfl⟩
   rw[hw8] at hal GP ⊢
   have T8:=hd0 (T7.out.later hal)
   have GX8:=hd0 (GX7.out.later hal)
   have V8:=hd0 (V7.out.later hal)
   obtain⟨q23,hq23⟩:∃ k,w7.heap.size=k:=⟨_,rfl⟩
   rw[hq23] at GP ⊢
   have p0:=GP.c 0 _ rfl
   have p1:=GP.c 1 _ rfl
   have p2:=GP.c 2 _ rfl
   have p3:=GP.c 3 _ rfl
   have p4:=GP.c 4 _ rfl
   have z3:=GX8.out.c 3 (.int .u8 t.fr.a) rfl
   have z4:=GX8.out.c 4 (.int .u8 t.fr.b) rfl
   have z5:=GX8.out.c 5 (.int .u8 t.fr.c) rfl
   have z6:=GX8.out.c 6 (.int .u8 t.fr.d) rfl
   have z7:=GX8.out.c 7 (.int .u8 t.fr.e) rfl
   have z8:=GX8.out.c 8 (.int .u8 t.fr.f) rfl
   clear hal GP hw8 hq23 T6 T7 GX6 GX7 V7 x1 x2 x3 x9 x10 x11 x12 x13 x14 m0 m1 m2 m3 m4 m5 k0
   go_wp2_with (go_at_call 45;(with_reducible refine(PT.out _ _ _ V8.out).mono ?_);rintro en w9 ⟨ua,uc,rfl,hu,hb9⟩;have T9:=hd0 (T8.out.later hb9);have U9:=hd0 (hu.wk T8.out.sz))
   go_meet
   exact⟨v,0,rfl,rfl,T9,hd0 (VN.refl _ _ _ _),hd0 (by rw[HOUT.out];exact U9.out)⟩
 case rest =>
  obtain⟨v',F,rfl,hF,TA,VA,UA⟩:=hcut
  have ONE:=hd0 (VA.out.one HX.out o)
  have IS:∀ r':Rf,(Tryz.prog.info? 44).map (·.size)=some (rfA o v' r').size:=fun r'=>info_mep
  have IL:∀ r':Rf,(Tryz.prog.info? 44).map (·.size)=some (rfA o v' r').toList.length:=fun r'=>info_mep
  cases g with
  | true =>
   have hF0:(F != 0)=false:=hF
   have BR:bad20 r1 true=r1:=rfl
   clear hF
   go_wp2_with (first
    |((with_reducible refine wpList_load_mid rfl 44 (.tmp 4) rfl w.heap.size 0 ?hx (rfA o v' r1).toList _ TA.out.rng Tryz.underlying44 ?hu (IL r1) ?_);(case hx=>rfl);(case hu=>rfl))
    |((with_reducible refine wpList_store_mid rfl 44 (.tmp 8) (.tmp 238) rfl (w.heap.size+3) 0 (rfA o v' r1) ?hx ?hy TA.out.thr (IS r1) (ONE.out r1) ?_);(case hx=>rfl);(case hy=>rfl)))
   exact bodyPost_ret (v:=.tuple #[.agg (rfA o v' r1),_]) (res_two (p:=8) (u:=9) (d:=_) rfl rfl Tryz.underlying44 _ _ (w.heap.size+3) _ rfl (TA.out.fin (ONE.out r1)) (IS r1)) rfl ⟨v',_,rfl,(VA.out.cells (by omega) _ _).wk (by omega),(UA.out.cellsLow (by omega) _ _).wk (by omega),below_cellsG (by omega) _ _ _ TA.out.bel⟩
  | false =>
   have hF0:(F != 0)=true:=hF
   clear hF
   have b15:∀ W,TKr w W o v' r1 sr ds→W.cell? ⟨w.heap.size,15,none⟩=some (.int .u64 r1.bad):=fun W h=>h.c 15 _ rfl
   have f15:=TA.out.gb.fr 15
   have k15:=b15 _ TA.out
   go_upto_region 49 with fail
   have TB2:=hd0 (TA.out.set 15 (.int .u64 (r1.bad+1)) (rfA_bad o v' r1 (r1.bad+1)))
   have VB2:=hd0 (VA.out.set (t:=w.heap.size) (by omega) 15 (.int .u64 (r1.bad+1)))
   have UB2:=hd0 (UA.out.setLow (t:=w.heap.size) (j:=15) (by omega) (.int .u64 (r1.bad+1)))
   clear b15 f15 k15 TA VA UA
   obtain⟨wb,hwb⟩:∃ z,wc.setCell ⟨w.heap.size,15,none⟩ (.int .u64 (r1.bad+1))=z:=⟨_,rfl⟩
   rw[hwb] at TB2 VB2 UB2 ⊢
   clear hwb
   obtain⟨r2,hr2⟩:∃ x:Rf,x={ r1 with bad:=r1.bad+1 }:=⟨_,rfl⟩
   have BR:bad20 r1 false=r2:=by rw[hr2];rfl
   rw[←hr2] at TB2
   have VB3:Hid (VN (w.heap.size+4) wb v v' r r2):=hd0 (by rw[hr2];exact⟨VB2.out.ov,VB2.out.sv,VB2.out.ws,VB2.out.nw,VB2.out.hd,VB2.out.wy⟩)
   clear hr2 VB2
   go_wp2_with (first
    |((with_reducible refine wpList_load_mid rfl 44 (.tmp 4) rfl w.heap.size 0 ?hx (rfA o v' r2).toList _ TB2.out.rng Tryz.underlying44 ?hu (IL r2) ?_);(case hx=>rfl);(case hu=>rfl))
    |((with_reducible refine wpList_store_mid rfl 44 (.tmp 8) (.tmp 238) rfl (w.heap.size+3) 0 (rfA o v' r2) ?hx ?hy TB2.out.thr (IS r2) (ONE.out r2) ?_);(case hx=>rfl);(case hy=>rfl)))
   exact bodyPost_ret (v:=.tuple #[.agg (rfA o v' r2),_]) (res_two (p:=8) (u:=9) (d:=_) rfl rfl Tryz.underlying44 _ _ (w.heap.size+3) _ rfl (TB2.out.fin (ONE.out r2)) (IS r2)) rfl ⟨v',_,by rw[BR];rfl,by rw[BR];exact(VB3.out.cells (by omega) _ _).wk (by omega),(UB2.out.cellsLow (by omega) _ _).wk (by omega),below_cellsG (by omega) _ _ _ TB2.out.bel⟩
end Go.Proofs.YtlkdfofpnmpidaaGreat
