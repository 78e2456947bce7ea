/- ZQ29 -/
import Derived.Test.YtlkdfofpnmpidaaGreatZQ24
set_option linter.unusedVariables false
set_option linter.unusedSimpArgs false
set_option maxRecDepth 100000
set_option maxHeartbeats 16000000
namespace Go.Proofs.YtlkdfofpnmpidaaGreat
open Go.RowKit
theorem info_rrq:(Tryz.prog.info? 153).map (fun i=>(i.zero,i.size,i.bytes))=some (some (.agg #[.int .u8 0,.int .u32 0,.int .u8 0,.bool false,.bool false,.int .u8 0,.int .u8 0,.int .u8 0,.int .u8 0,.int .u8 0,.int .u8 0,.int .u8 0,.int .u8 0,.int .u8 0,.int .u8 0,.int .u8 0,.int .u8 0]),17,24):=by kernel_rfl
theorem take20_b4 (o:Ow20)(ho:o.Ok)(hlv:o.a.lv<8)(ks:List Int)(v:Rv)(r:Rf)(hr:Rk r)(sr ds:Mc)(hsr:sr.Ok)(hds:ds.Ok)(d:List UInt8)(hd:d.length≤1600)(he:(tkP d).2.2.2.2.2=0)(hl:(tkP d).1=o.a.lv)(hb:(tkP d).2.1=4)(w:World)(h:RX w ks v r) :
  Calls Tryz.prog 19 #[.agg (rfA o v r),.agg #[.int .u8 sr.a,.int .u8 sr.b,.int .u8 sr.c,.int .u8 sr.d,.int .u8 sr.e,.int .u8 sr.f],.agg #[.int .u8 ds.a,.int .u8 ds.b,.int .u8 ds.c,.int .u8 ds.d,.int .u8 ds.e,.int .u8 ds.f],.string (bs d)] w fun en w'=>∃ v' u,en=.returned (.tuple #[.agg (rfA o v' (take20 o r sr ds d).1),u])∧VN w.heap.size w' v v' r (take20 o r sr ds d).1∧Ow 7 snC 58 w' w.heap.size u (take20 o r sr ds d).2∧Below w.heap.size w w':=by
 have hpb:=tkP_b d hd
 have hbad:(op20 o r sr ds (tkP d).1 (tkP d).2.1 (tkP d).2.2.1 (tkP d).2.2.2.1 (tkP d).2.2.2.2.1).1.bad=r.bad:=op20_bad _ _ _ _ _ _ _ _ _
 have HT20:take20 o r sr ds d=(bad20 (op20 o r sr ds (tkP d).1 (tkP d).2.1 (tkP d).2.2.1 (tkP d).2.2.2.1 (tkP d).2.2.2.2.1).1 (op20 o r sr ds (tkP d).1 (tkP d).2.1 (tkP d).2.2.1 (tkP d).2.2.2.1 (tkP d).2.2.2.2.1).2.2,(op20 o r sr ds (tkP d).1 (tkP d).2.1 (tkP d).2.2.1 (tkP d).2.2.2.1 (tkP d).2.2.2.2.1).2.1):=by
  unfold take20;rw[if_neg (fun k=>k he),if_neg (fun k=>k hl)]
 have T12:∀ W:World,_:=fun W=>refTake12_any d W (by omega)
 rw[HT20]
 obtain⟨⟨a,b,c,f,l,e⟩,ht⟩:∃ z,tkP d=z:=⟨_,rfl⟩
 rw[ht] at hpb he hl hb hbad ⊢
 simp only[ht] at T12
 simp only at hpb he hl hb hbad ⊢
 subst he hl hb
 obtain⟨⟨r1,out,g⟩,hop⟩:∃ z,op20 o r sr ds o.a.lv 4 c f l=z:=⟨_,rfl⟩
 rw[hop] at hbad ⊢
 simp only at hbad ⊢
 have HOP:=hd0 hop
 have T12:=hd0 T12
 have HX:=hd0 h
 have HO:=hd0 ho
 have HR:=hd0 hr
 have HMC:=hd0 (And.intro hsr hds)
 have HPB:=hd0 hpb
 have hb1:0≤r1.bad∧r1.bad≤900:=by rw[hbad];exact⟨hr.ok.bad.1,hr.bad⟩
 have wb1:IntKind.u64.wrap (r1.bad+1)=r1.bad+1:=IntWalk.u64_in _ (by omega)
 have hpc:0≤c∧c<256:=hpb.pc
 have wl:IntKind.i64.wrap o.a.lv=o.a.lv:=IntWalk.i64_in _ (by have:=ho.a.lv;omega)
 have dll:(o.a.lv != o.a.lv)=false:=by simp
 have LV:Hid (∀ W,Calls Tryz.prog 44 #[.int .i64 o.a.lv] W fun en w'=>en=.returned (.tuple #[.agg #[.int .u8 1,.int .u8 128,.int .u8 194,.int .u8 0,.int .u8 0,.int .u8 (48+o.a.lv)],.agg #[.int .u8 1,.int .u8 128,.int .u8 194,.int .u8 0,.int .u8 0,.int .u8 (56+o.a.lv)]])∧Below W.heap.size W w'):=hd0 fun W=>refLevels_any o.a.lv W HO.out.a.lv.1 hlv
 obtain⟨MI,hMI⟩:∃ D,decide (ds=o.mc)=D:=⟨_,rfl⟩
 have EQ:∀ W:World,(binOp .eql 25 (.agg #[.int .u8 ds.a,.int .u8 ds.b,.int .u8 ds.c,.int .u8 ds.d,.int .u8 ds.e,.int .u8 ds.f]) (.agg #[.int .u8 o.mc.a,.int .u8 o.mc.b,.int .u8 o.mc.c,.int .u8 o.mc.d,.int .u8 o.mc.e,.int .u8 o.mc.f])).run Tryz.prog W=.ok (.bool MI) W:=fun W=>by rw[←hMI];exact eql_macG ds o.mc W
 have HMI:=hd0 hMI
 have T0:=hd0 (TKr.begin w o v r sr ds)
 clear hop h ho hr hsr hds hd hpb ht HT20 hMI hlv hbad
 go_enter Tryz.func19,Tryz.ntmps19
 go_upto_region 1 with fail
 obtain⟨w0,hw0⟩:∃ z,(((w.alloc (.cells (rfA o v r) 44)).alloc (.cells #[.int .u8 sr.a,.int .u8 sr.b,.int .u8 sr.c,.int .u8 sr.d,.int .u8 sr.e,.int .u8 sr.f] 25)).alloc (.cells #[.int .u8 ds.a,.int .u8 ds.b,.int .u8 ds.c,.int .u8 ds.d,.int .u8 ds.e,.int .u8 ds.f] 25)).alloc (.cells yP 44)=z:=⟨_,rfl⟩
 rw[hw0] at T0 ⊢
 clear hw0
 go_wp2_with fail
 with_reducible refine(T12.out _).mono ?_
 rintro en w1 ⟨vl,rfl,htl,hb1'⟩
 have T1:=hd0 (T0.out.later hb1')
 obtain⟨ax,cx,hvx,-⟩:=htl.tls.shape
 obtain⟨n1,hn1⟩:∃ n,l.length=n:=⟨_,rfl⟩
 rw[hn1] at hvx
 subst hvx
 have V1:=hd0 htl.tls
 clear htl hb1' T0 hn1 T12
 go_upto_region 2 with fail
 have g2:=PB.new 115 w1 o.a.lv 4 c f (.slice ax n1 cx)
 have hal:=(Below.refl w1.heap.size w1).alloc (Nat.le_refl _) (.cells #[.int .u8 o.a.lv,.int .u8 4,.int .u8 c,.string (bs f),.slice ax n1 cx] 115)
 have T2:=hd0 (T1.out.later hal)
 have V2:=hd0 (V1.out.later hal)
 have hq2:w.heap.size+4≤w1.heap.size:=T1.out.sz
 obtain⟨w2,hw2⟩:∃ z,w1.alloc (.cells #[.int .u8 o.a.lv,.int .u8 4,.int .u8 c,.string (bs f),.slice ax n1 cx] 115)=z:=⟨_,rfl⟩
 obtain⟨q,hq⟩:∃ z,w1.heap.size=z:=⟨_,rfl⟩
 rw[hw2] at T2 V2 g2 hal ⊢
 have VB0:∀ W,Below w1.heap.size w1 W→Tls W (.slice ax n1 cx) l:=fun W hb=>V1.out.later hb
 rw[hq] at g2 hq2 hal VB0 ⊢
 have VB:=hd0 VB0
 have B2:=hd0 hal
 have HQE:=hd0 hq
 have P2:=hd0 g2
 have HQ:=hd0 hq2
 have c0:w2.cell? ⟨w.heap.size,0,none⟩=some (.int .u8 o.a.lv):=T2.out.c 0 _ rfl
 clear hw2 hq g2 hal T1 V1 hq2 VB0
 go_upto_region 6 with(go_at_call 44;(with_reducible refine(LV.out _).mono ?_);rintro en w3 ⟨rfl,hb3⟩;have T3:=hd0 (T2.out.later hb3);have V3:=hd0 (V2.out.later hb3);have P3:=hd0 (P2.out.later hb3);have B3:Hid (Below q w1 w3):=hd0 (B2.out.trans (hb3.mono (by rw[←HQE.out];exact B2.out.size)));clear hb3)
 have A4:Below w3.heap.size w3 ((w3.alloc (.cells #[.int .u8 1,.int .u8 128,.int .u8 194,.int .u8 0,.int .u8 0,.int .u8 (48+o.a.lv)] 25)).alloc (.cells #[.int .u8 1,.int .u8 128,.int .u8 194,.int .u8 0,.int .u8 0,.int .u8 (56+o.a.lv)] 25)):=(bA _).alloc (by simp) _
 have GM:=GB.new 25 (w3.alloc (.cells #[.int .u8 1,.int .u8 128,.int .u8 194,.int .u8 0,.int .u8 0,.int .u8 (48+o.a.lv)] 25)) #[.int .u8 1,.int .u8 128,.int .u8 194,.int .u8 0,.int .u8 0,.int .u8 (56+o.a.lv)]
 rw[show(w3.alloc (.cells #[.int .u8 1,.int .u8 128,.int .u8 194,.int .u8 0,.int .u8 0,.int .u8 (48+o.a.lv)] 25)).heap.size=w3.heap.size+1 by simp] at GM
 obtain⟨w4,hw4⟩:∃ k,(w3.alloc (.cells #[.int .u8 1,.int .u8 128,.int .u8 194,.int .u8 0,.int .u8 0,.int .u8 (48+o.a.lv)] 25)).alloc (.cells #[.int .u8 1,.int .u8 128,.int .u8 194,.int .u8 0,.int .u8 0,.int .u8 (56+o.a.lv)] 25)=k:=⟨_,rfl⟩
 obtain⟨q3,hq3⟩:∃ k,w3.heap.size=k:=⟨_,rfl⟩
 have hq3s:w.heap.size+4≤w3.heap.size:=T3.out.sz
 rw[hw4] at A4 GM ⊢
 have T4:=hd0 (T3.out.later A4)
 have V4:=hd0 (V3.out.later A4)
 have P4:=hd0 (P3.out.later A4)
 have B4:Hid (Below q w1 w4):=hd0 (B3.out.trans (A4.mono (by rw[←HQE.out];exact B3.out.size)))
 rw[hq3] at GM hq3s ⊢
 have GM4:=hd0 GM
 have HQ3:=hd0 hq3s
 have d0:=T4.out.g6.c 0 _ rfl
 have d1:=T4.out.g6.c 1 _ rfl
 have d2:=T4.out.g6.c 2 _ rfl
 have d3:=T4.out.g6.c 3 _ rfl
 have d4:=T4.out.g6.c 4 _ rfl
 have d5:=T4.out.g6.c 5 _ rfl
 have m0:w4.cell? ⟨w.heap.size,5,none⟩=some (.int .u8 o.mc.a):=T4.out.c 5 _ rfl
 have m1:w4.cell? ⟨w.heap.size,6,none⟩=some (.int .u8 o.mc.b):=T4.out.c 6 _ rfl
 have m2:w4.cell? ⟨w.heap.size,7,none⟩=some (.int .u8 o.mc.c):=T4.out.c 7 _ rfl
 have m3:w4.cell? ⟨w.heap.size,8,none⟩=some (.int .u8 o.mc.d):=T4.out.c 8 _ rfl
 have m4:w4.cell? ⟨w.heap.size,9,none⟩=some (.int .u8 o.mc.e):=T4.out.c 9 _ rfl
 have m5:w4.cell? ⟨w.heap.size,10,none⟩=some (.int .u8 o.mc.f):=T4.out.c 10 _ rfl
 have k0:w4.cell? ⟨w.heap.size,0,none⟩=some (.int .u8 o.a.lv):=T4.out.c 0 _ rfl
 have p0:=P4.out.c0
 have p1:=P4.out.c1
 clear A4 GM hw4 hq3 hq3s T2 T3 V2 V3 P2 P3 B2 B3 c0 wl LV
 go_upto_block 0 with fail
 clear d0 d1 d2 d3 d4 d5 m0 m1 m2 m3 m4 m5 k0 p0 p1 EQ dll
 go_cut [15,16] (fun s15 s16 wx=>∃ (v':Rv) (F:Int),s16=.int .i64 F∧(F != 0)=(!g)∧Hid (TKr w wx o v' r1 sr ds)∧Hid (VN (w.heap.size+4) wx v v' r r1)∧Hid (Ow 7 snC 58 wx (w.heap.size+4) s15 out))
 case first =>
  have hop2:(fd20 o r ds o.a.lv 4 c f l).1=r1∧[]=out∧(fd20 o r ds o.a.lv 4 c f l).2=g:=by
   have h:=HOP.out
   unfold op20 at h
   rw[if_neg (by decide),if_neg (by decide),if_neg (by decide),if_neg (by decide),if_pos rfl] at h
   simp only[Prod.mk.injEq] at h
   exact h
  obtain⟨hr1,rfl,hg⟩:=hop2
  have hmi:=HMI.out
  cases MI with
  | false =>
   unfold fd20 at hr1 hg
   rw[if_neg (of_decide_eq_false hmi)] at hr1 hg
   simp only[] at hr1 hg
   subst hr1;subst hg
   clear hmi
   go_wp2_with fail
   go_meet
   exact⟨v,0,rfl,rfl,T4,hd0 (VN.refl _ _ _ _),hd0 (Ow.none _ _)⟩
  | true =>
   obtain⟨⟨rq,e2⟩,htk⟩:∃ z,tkRp o.a.lv 4 c f l=z:=⟨_,rfl⟩
   have LT:Hid (∀ W,Tls W (.slice ax n1 cx) l→Calls Tryz.prog 61 #[.agg #[.int .u8 o.a.lv,.int .u8 4,.int .u8 c,.string (bs f),.slice ax n1 cx]] W fun en w'=>en=.returned (.tuple #[.agg #[.int .u8 rq.lv,.int .u32 rq.nm,.int .u8 rq.tl,.bool rq.st,.bool rq.en,.int .u8 rq.mi.a,.int .u8 rq.mi.b,.int .u8 rq.mi.c,.int .u8 rq.mi.d,.int .u8 rq.mi.e,.int .u8 rq.mi.f,.int .u8 rq.mo.a,.int .u8 rq.mo.b,.int .u8 rq.mo.c,.int .u8 rq.mo.d,.int .u8 rq.mo.e,.int .u8 rq.mo.f],.int .i64 e2])∧Below W.heap.size W w'):=hd0 fun W hv=>by
    have h:=refTakeR15_any (.slice ax n1 cx) l o.a.lv 4 c f W HPB.out.pf hpc hv HPB.out.pl (fun x hx=>by have:=HPB.out.ps x hx;omega)
    rw[htk] at h;exact h
   have hR1:r1=if e2=0∧0<r.tr∧rq.nm=r.tr∧r.way.length<32 then { r with way:=r.way++[rq] } else r:=by
    rw[←hr1];unfold fd20;rw[if_pos (of_decide_eq_true hmi),htk]
   have hG:g=decide (e2=0):=by
    rw[←hg];unfold fd20;rw[if_pos (of_decide_eq_true hmi),htk]
   have HR1':=hd0 hR1
   have HG:=hd0 hG
   have p0:=P4.out.c0
   have p1:=P4.out.c1
   have p2:=P4.out.c2
   have p3:=P4.out.c3
   have p4:=P4.out.c4
   clear hmi htk hr1 hg hR1 hG
   go_upto_region 44 with(go_at_call 61;(with_reducible refine(LT.out _ V4.out).mono ?_);rintro en w5 ⟨rfl,hb5⟩;have T5:=hd0 (T4.out.later hb5);clear hb5)
   have GX:=GB.new 153 w5 #[.int .u8 rq.lv,.int .u32 rq.nm,.int .u8 rq.tl,.bool rq.st,.bool rq.en,.int .u8 rq.mi.a,.int .u8 rq.mi.b,.int .u8 rq.mi.c,.int .u8 rq.mi.d,.int .u8 rq.mi.e,.int .u8 rq.mi.f,.int .u8 rq.mo.a,.int .u8 rq.mo.b,.int .u8 rq.mo.c,.int .u8 rq.mo.d,.int .u8 rq.mo.e,.int .u8 rq.mo.f]
   have T6:=hd0 (T5.out.later (bA (.cells #[.int .u8 rq.lv,.int .u32 rq.nm,.int .u8 rq.tl,.bool rq.st,.bool rq.en,.int .u8 rq.mi.a,.int .u8 rq.mi.b,.int .u8 rq.mi.c,.int .u8 rq.mi.d,.int .u8 rq.mi.e,.int .u8 rq.mi.f,.int .u8 rq.mo.a,.int .u8 rq.mo.b,.int .u8 rq.mo.c,.int .u8 rq.mo.d,.int .u8 rq.mo.e,.int .u8 rq.mo.f] 153)))
   obtain⟨w6,hw6⟩:∃ k,w5.alloc (.cells #[.int .u8 rq.lv,.int .u32 rq.nm,.int .u8 rq.tl,.bool rq.st,.bool rq.en,.int .u8 rq.mi.a,.int .u8 rq.mi.b,.int .u8 rq.mi.c,.int .u8 rq.mi.d,.int .u8 rq.mi.e,.int .u8 rq.mi.f,.int .u8 rq.mo.a,.int .u8 rq.mo.b,.int .u8 rq.mo.c,.int .u8 rq.mo.d,.int .u8 rq.mo.e,.int .u8 rq.mo.f] 153)=k:=⟨_,rfl⟩
   have hqx:w.heap.size+4≤w5.heap.size:=T5.out.sz
   obtain⟨q25,hq25⟩:∃ k,w5.heap.size=k:=⟨_,rfl⟩
   rw[hw6] at GX T6 ⊢
   rw[hq25] at GX hqx ⊢
   have HQX:=hd0 hqx
   have GX6:=hd0 GX
   clear hw6 hq25 GX T5 p0 p1 p2 p3 p4 hqx
   have x1:=GX6.out.c 1 (.int .u32 rq.nm) rfl
   have k20:w6.cell? ⟨w.heap.size,20,none⟩=some (.int .u32 r.tr):=T6.out.c 20 _ rfl
   obtain⟨ya,yc,hyv,-⟩:=(HX.out.wy).shape
   obtain⟨yn,hyn⟩:∃ k,r.way.length=k:=⟨_,rfl⟩
   rw[hyn] at hyv
   have HYV:=hd0 hyv
   have HYN:=hd0 hyn
   have k21:w6.cell? ⟨w.heap.size,21,none⟩=some (.slice ya yn yc):=T6.out.c 21 _ (by rw[←HYV.out];rfl)
   clear hyv hyn
   by_cases he2:e2=0
   rotate_left
   ·have hR1:=HR1'.out
    have hG:=HG.out
    rw[if_neg (fun k=>he2 k.1)] at hR1
    rw[decide_eq_false he2] at hG
    subst hR1;subst hG
    have de:(e2==0)=false:=by rw[beq_eq_false_iff_ne];exact he2
    have HE:=hd0 (show(e2 != 0)=(!false) by rw[Bool.not_false,bne_iff_ne];exact he2)
    clear he2 HR1' HG
    go_wp2_with fail
    go_meet
    exact⟨v,e2,rfl,HE.out,T6,hd0 (VN.refl _ _ _ _),hd0 (Ow.none _ _)⟩
   subst he2
   have hg2:g=true:=HG.out
   subst hg2
   by_cases hcc:0<r.tr∧rq.nm=r.tr∧yn<32
   rotate_left
   ·have hR1:=HR1'.out
    rw[if_neg (fun k=>hcc ⟨k.2.1,k.2.2.1,by rw[←HYN.out];exact k.2.2.2⟩)] at hR1
    subst hR1
    by_cases hlp:0<r1.tr
    rotate_left
    ·have dl:decide (0<r1.tr)=false:=decide_eq_false hlp
     clear hlp hcc HR1' HG
     go_wp2_with fail
     go_meet
     exact⟨v,0,rfl,rfl,T6,hd0 (VN.refl _ _ _ _),hd0 (Ow.none _ _)⟩
    have dl:decide (0<r1.tr)=true:=decide_eq_true hlp
    by_cases hnm:rq.nm=r1.tr
    rotate_left
    ·have dn:(rq.nm==r1.tr)=false:=by rw[beq_eq_false_iff_ne];exact hnm
     clear hlp hnm hcc HR1' HG
     go_wp2_with fail
     go_meet
     exact⟨v,0,rfl,rfl,T6,hd0 (VN.refl _ _ _ _),hd0 (Ow.none _ _)⟩
    have dn:(rq.nm==r1.tr)=true:=by rw[hnm];simp
    have dy:decide ((yn:Int)<32)=false:=decide_eq_false (fun k=>hcc ⟨hlp,hnm,by omega⟩)
    clear hlp hnm hcc HR1' HG
    go_wp2_with fail
    go_meet
    exact⟨v,0,rfl,rfl,T6,hd0 (VN.refl _ _ _ _),hd0 (Ow.none _ _)⟩
   obtain⟨hlp,hnm,hyn⟩:=hcc
   have hR1:=HR1'.out
   rw[if_pos ⟨rfl,hlp,hnm,by rw[HYN.out];exact hyn⟩] at hR1
   have HR1:=hd0 hR1
   have dl:decide (0<r.tr)=true:=decide_eq_true hlp
   have dn:(rq.nm==r.tr)=true:=by rw[hnm];simp
   have dy:decide ((yn:Int)<32)=true:=decide_eq_true (by omega)
   have RH:Hid (Rw 17 rqC w6 v.yv r.way):=hd0 (HX.out.wy.later rqC_len T6.out.bel)
   have HLEN:=hd0 (show r.way.length≤900 from HR.out.wy)
   clear hlp hnm hyn hR1 HR1' HG
   go_upto_region 46 with fail
   clear x1 k20 k21 dl dn dy
   have SX:Hid (∀ W,TKr w W o v r sr ds→GB 153 W q25 #[.int .u8 rq.lv,.int .u32 rq.nm,.int .u8 rq.tl,.bool rq.st,.bool rq.en,.int .u8 rq.mi.a,.int .u8 rq.mi.b,.int .u8 rq.mi.c,.int .u8 rq.mi.d,.int .u8 rq.mi.e,.int .u8 rq.mi.f,.int .u8 rq.mo.a,.int .u8 rq.mo.b,.int .u8 rq.mo.c,.int .u8 rq.mo.d,.int .u8 rq.mo.e,.int .u8 rq.mo.f]→W.rangeAt q25 0 (#[.int .u8 rq.lv,.int .u32 rq.nm,.int .u8 rq.tl,.bool rq.st,.bool rq.en,.int .u8 rq.mi.a,.int .u8 rq.mi.b,.int .u8 rq.mi.c,.int .u8 rq.mi.d,.int .u8 rq.mi.e,.int .u8 rq.mi.f,.int .u8 rq.mo.a,.int .u8 rq.mo.b,.int .u8 rq.mo.c,.int .u8 rq.mo.d,.int .u8 rq.mo.e,.int .u8 rq.mo.f]:Array Value).toList):=hd0 fun W h1 h2=>h2.range
   have SY:Hid (∀ W v' r',TKr w W o v' r' sr ds→GB 153 W q25 #[.int .u8 rq.lv,.int .u32 rq.nm,.int .u8 rq.tl,.bool rq.st,.bool rq.en,.int .u8 rq.mi.a,.int .u8 rq.mi.b,.int .u8 rq.mi.c,.int .u8 rq.mi.d,.int .u8 rq.mi.e,.int .u8 rq.mi.f,.int .u8 rq.mo.a,.int .u8 rq.mo.b,.int .u8 rq.mo.c,.int .u8 rq.mo.d,.int .u8 rq.mo.e,.int .u8 rq.mo.f]→r'.nw=r.nw→W.rangeAt q25 0 (#[.int .u8 rq.lv,.int .u32 rq.nm,.int .u8 rq.tl,.bool rq.st,.bool rq.en,.int .u8 rq.mi.a,.int .u8 rq.mi.b,.int .u8 rq.mi.c,.int .u8 rq.mi.d,.int .u8 rq.mi.e,.int .u8 rq.mi.f,.int .u8 rq.mo.a,.int .u8 rq.mo.b,.int .u8 rq.mo.c,.int .u8 rq.mo.d,.int .u8 rq.mo.e,.int .u8 rq.mo.f]:Array Value).toList):=hd0 fun W v' r' h1 h2 h3=>h2.range
   have N6:w.heap.size+4≤w6.heap.size:=T6.out.sz
   have k12:w6.drew.cell? ⟨w.heap.size,21,none⟩=some v.yv:=T6.out.drew.c 21 _ rfl
   refine wp_region_held_drew (S:=fun W=>W.rangeAt q25 0 (#[.int .u8 rq.lv,.int .u32 rq.nm,.int .u8 rq.tl,.bool rq.st,.bool rq.en,.int .u8 rq.mi.a,.int .u8 rq.mi.b,.int .u8 rq.mi.c,.int .u8 rq.mi.d,.int .u8 rq.mi.e,.int .u8 rq.mi.f,.int .u8 rq.mo.a,.int .u8 rq.mo.b,.int .u8 rq.mo.c,.int .u8 rq.mo.d,.int .u8 rq.mo.e,.int .u8 rq.mo.f]:Array Value).toList) (by kernel_rfl) (SX.out _ T6.out.drew (GX6.out.later (Below.refl _ _).drew)) (fun hHeld=>?_)
   refine tkH 0 ?_ ?h ?_
   case h=>(intro w hSw;go_simp;try with_reducible rfl)
   try simp only[Act.put,zz]
   refine wpAnyH_take (i:=3) (v:=.agg (#[.int .u8 rq.lv,.int .u32 rq.nm,.int .u8 rq.tl,.bool rq.st,.bool rq.en,.int .u8 rq.mi.a,.int .u8 rq.mi.b,.int .u8 rq.mi.c,.int .u8 rq.mi.d,.int .u8 rq.mi.e,.int .u8 rq.mi.f,.int .u8 rq.mo.a,.int .u8 rq.mo.b,.int .u8 rq.mo.c,.int .u8 rq.mo.d,.int .u8 rq.mo.e,.int .u8 rq.mo.f]:Array Value).toList.toArray) rfl (by kernel_rfl) (by kernel_rfl) (by kernel_rfl) (fun _ _ _ h=>h) (yieldsIf_load_mid (by rfl) 153 (.tmp 25) rfl q25 0 rfl (#[.int .u8 rq.lv,.int .u32 rq.nm,.int .u8 rq.tl,.bool rq.st,.bool rq.en,.int .u8 rq.mi.a,.int .u8 rq.mi.b,.int .u8 rq.mi.c,.int .u8 rq.mi.d,.int .u8 rq.mi.e,.int .u8 rq.mi.f,.int .u8 rq.mo.a,.int .u8 rq.mo.b,.int .u8 rq.mo.c,.int .u8 rq.mo.d,.int .u8 rq.mo.e,.int .u8 rq.mo.f]:Array Value).toList _ (fun _ h=>h) Tryz.underlying153 rfl (by kernel_rfl)) (by assumption) ?_
   try simp only[Act.put,zz]
   try simp only[Array.toArray_toList]
   refine wpAnyH_ready (rs:=[1,4]) (by kernel_rfl) (by simp) (AllReadyH.cons rfl (fun K hK=>?_) (AllReadyH.cons rfl (fun K hK=>?_) AllReadyH.nil))
   ·(go_simp;refine hK.out _ _ (SX.out _ T6.out.drew (GX6.out.later (Below.refl _ _).drew)) (fun hHeld=>?_);clear hK K;try simp only[Act.put,zz])
    refine wpAnyH_ready (rs:=[2,4]) (by kernel_rfl) (by simp) (AllReadyH.cons rfl (fun K hK=>?_) (AllReadyH.cons rfl (fun K hK=>?_) AllReadyH.nil))
    ·clear k12
     (rw[if_pos (by rfl)];refine wp_append_rw rqC_len rqC_one 153 42 _ 24 Tryz.underlying42 info_rrq rfl (by decide) (by decide) (.const (.slice none 0 0)) (.tmp 226) rfl w6.heap.size (.slice none 0 0) [] rfl (Ow.none _ _) v.yv r.way rfl (RH.out.later rqC_len (Below.refl _ _).drew) (by have:=HLEN.out;simp;omega) (Nat.le_refl _) ?_;intro v1 w7 ho7 hb7;have hb7':Below w6.heap.size w6 w7:=((Below.refl _ _).drew).trans hb7;refine hK.out _ _ (SX.out _ (T6.out.later hb7') (GX6.out.later hb7')) (fun hHeld=>?_);clear hK K;try simp only[Act.put,zz])
     have HO7:=hd0 ho7
     have HB7:=hd0 hb7'
     clear ho7 hb7 hb7'
     have B8:Below w6.heap.size w6 (w7.alloc (.cells #[.int .u8 rq.lv,.int .u32 rq.nm,.int .u8 rq.tl,.bool rq.st,.bool rq.en,.int .u8 rq.mi.a,.int .u8 rq.mi.b,.int .u8 rq.mi.c,.int .u8 rq.mi.d,.int .u8 rq.mi.e,.int .u8 rq.mi.f,.int .u8 rq.mo.a,.int .u8 rq.mo.b,.int .u8 rq.mo.c,.int .u8 rq.mo.d,.int .u8 rq.mo.e,.int .u8 rq.mo.f] 153)):=HB7.out.alloc HB7.out.size _
     refine rdH 4 fun K hK=>?_
     (go_simp;refine hK.out _ _ (SX.out _ (T6.out.later B8) (GX6.out.later B8)) (fun hHeld=>?_);clear hK K;try simp only[Act.put,zz])
     refine rdH 5 fun K hK=>?_
     (rw[if_pos (by rfl)];refine wp_append_rw rqC_len rqC_one 153 42 _ 24 Tryz.underlying42 info_rrq rfl (by decide) (by decide) (.tmp 227) (.tmp 229) rfl w6.heap.size _ ([]++r.way) rfl (HO7.out.later (bA _)) _ [rq] rfl ((Ow.lit (E:=153) rqC_len _ 0 rq #[.int .u8 rq.lv,.int .u32 rq.nm,.int .u8 rq.tl,.bool rq.st,.bool rq.en,.int .u8 rq.mi.a,.int .u8 rq.mi.b,.int .u8 rq.mi.c,.int .u8 rq.mi.d,.int .u8 rq.mi.e,.int .u8 rq.mi.f,.int .u8 rq.mo.a,.int .u8 rq.mo.b,.int .u8 rq.mo.c,.int .u8 rq.mo.d,.int .u8 rq.mo.e,.int .u8 rq.mo.f] rfl (Nat.zero_le _)).rw rqC_len) (by have:=HLEN.out;simp;omega) B8.size ?_;intro v2 w9 ho9 hb9;rw[List.nil_append] at ho9;have hb9':Below w6.heap.size w6 w9:=B8.trans hb9;obtain⟨s2,c2,rfl,-⟩:=ho9.cap;obtain⟨LN,hLN⟩:∃ k,(r.way++[rq]).length=k:=⟨_,rfl⟩;rw[hLN] at ho9 ⊢;clear hLN;refine hK.out _ _ (SX.out _ (T6.out.later hb9') (GX6.out.later hb9')) (fun hHeld=>?_);clear hK K;try simp only[Act.put,zz])
     clear HB7 HO7
     have T9:=hd0 (T6.out.later hb9')
     have G9:=hd0 (GX6.out.later hb9')
     have HO9:=hd0 ho9
     clear hb9 hb9' ho9
     have f12:=T9.out.gb.fr 21
     have c12:=T9.out.c 21 v.yv rfl
     obtain⟨vn,hvn⟩:∃ y:Rv,y={ v with yv:=.slice s2 LN c2 }:=⟨_,rfl⟩
     have T10:Hid (TKr w (w9.setCell ⟨w.heap.size,21,none⟩ (.slice s2 LN c2)) o vn r1 sr ds):=hd0 (by rw[hvn,HR1.out];exact T9.out.set 21 _ (rfA_way o v r _ _))
     have O10:=hd0 ((HO9.out.wk N6).setLow (t:=w.heap.size) (j:=21) (by omega) (.slice s2 LN c2))
     have G10:=hd0 (G9.out.other (t:=w.heap.size) (o:=21) (by have:=HQX.out;omega) (.slice s2 LN c2))
     have S10:=hd0 (SY.out _ _ _ T10.out G10.out (by rw[HR1.out]))
     refine tkH 6 ?_ ?h ?_
     case h=>(intro w hSw;go_simp;try with_reducible rfl)
     try simp only[Act.put,zz]
     refine rdH 7 fun K hK=>?_
     (go_simp;refine hK.out _ _ S10.out (fun hHeld=>?_);clear hK K;try simp only[Act.put,zz])
     refine wpAnyH_done (by kernel_rfl) ?_ _
     clear hHeld
     go_wp2_with fail
     go_meet
     exact⟨vn,0,rfl,rfl,T10,hd0 ⟨by rw[hvn],by rw[hvn],by rw[HR1.out],by rw[HR1.out],.inl ⟨by rw[hvn],by rw[HR1.out]⟩,.inr (by rw[hvn,HR1.out];exact O10.out)⟩,hd0 (Ow.none _ _)⟩
    ·clear k12
     (go_simp;have B7:Below w6.heap.size w6 (w6.drew.alloc (.cells #[.int .u8 rq.lv,.int .u32 rq.nm,.int .u8 rq.tl,.bool rq.st,.bool rq.en,.int .u8 rq.mi.a,.int .u8 rq.mi.b,.int .u8 rq.mi.c,.int .u8 rq.mi.d,.int .u8 rq.mi.e,.int .u8 rq.mi.f,.int .u8 rq.mo.a,.int .u8 rq.mo.b,.int .u8 rq.mo.c,.int .u8 rq.mo.d,.int .u8 rq.mo.e,.int .u8 rq.mo.f] 153)):=((Below.refl _ _).drew).alloc (Nat.le_refl _) _;have L7:=Ow.lit (E:=153) rqC_len w6.drew 0 rq #[.int .u8 rq.lv,.int .u32 rq.nm,.int .u8 rq.tl,.bool rq.st,.bool rq.en,.int .u8 rq.mi.a,.int .u8 rq.mi.b,.int .u8 rq.mi.c,.int .u8 rq.mi.d,.int .u8 rq.mi.e,.int .u8 rq.mi.f,.int .u8 rq.mo.a,.int .u8 rq.mo.b,.int .u8 rq.mo.c,.int .u8 rq.mo.d,.int .u8 rq.mo.e,.int .u8 rq.mo.f] rfl (Nat.zero_le _);have k12:((w6.alloc (.cells #[.int .u8 rq.lv,.int .u32 rq.nm,.int .u8 rq.tl,.bool rq.st,.bool rq.en,.int .u8 rq.mi.a,.int .u8 rq.mi.b,.int .u8 rq.mi.c,.int .u8 rq.mi.d,.int .u8 rq.mi.e,.int .u8 rq.mi.f,.int .u8 rq.mo.a,.int .u8 rq.mo.b,.int .u8 rq.mo.c,.int .u8 rq.mo.d,.int .u8 rq.mo.e,.int .u8 rq.mo.f] 153)).drew).cell? ⟨w.heap.size,21,none⟩=some v.yv:=(T6.out.later B7).c 21 _ rfl;refine hK.out _ _ (SX.out _ (T6.out.later B7) (GX6.out.later B7)) (fun hHeld=>?_);clear hK K;try simp only[Act.put,zz])
     refine rdH 2 fun K hK=>?_
     (rw[if_pos (by rfl)];refine wp_append_rw rqC_len rqC_one 153 42 _ 24 Tryz.underlying42 info_rrq rfl (by decide) (by decide) (.const (.slice none 0 0)) (.tmp 226) rfl (w6.heap.size+1) (.slice none 0 0) [] rfl (Ow.none _ _) v.yv r.way rfl (RH.out.later rqC_len B7) (by have:=HLEN.out;simp;omega) (by simp) ?_;intro v1 w8 ho8 hb8;have hb8':Below w6.heap.size w6 w8:=B7.trans (hb8.mono (Nat.le_succ _));refine hK.out _ _ (SX.out _ (T6.out.later hb8') (GX6.out.later hb8')) (fun hHeld=>?_);clear hK K;try simp only[Act.put,zz])
     have L8:=hd0 (Rw.below1 rqC_len (L7.rw rqC_len) (C:=w6.heap.size+1) (by intro g hg;cases hg;simp) hb8)
     have HO8:=hd0 ho8
     have HB8:=hd0 hb8'
     clear ho8 hb8 hb8' L7 k12
     refine rdH 5 fun K hK=>?_
     (rw[if_pos (by rfl)];refine wp_append_rw rqC_len rqC_one 153 42 _ 24 Tryz.underlying42 info_rrq rfl (by decide) (by decide) (.tmp 227) (.tmp 229) rfl w6.heap.size _ ([]++r.way) rfl (HO8.out.wk (Nat.le_succ _)) _ [rq] rfl L8.out (by have:=HLEN.out;simp;omega) HB8.out.size ?_;intro v2 w9 ho9 hb9;rw[List.nil_append] at ho9;have hb9':Below w6.heap.size w6 w9:=HB8.out.trans hb9;obtain⟨s2,c2,rfl,-⟩:=ho9.cap;obtain⟨LN,hLN⟩:∃ k,(r.way++[rq]).length=k:=⟨_,rfl⟩;rw[hLN] at ho9 ⊢;clear hLN;refine hK.out _ _ (SX.out _ (T6.out.later hb9') (GX6.out.later hb9')) (fun hHeld=>?_);clear hK K;try simp only[Act.put,zz])
     clear HB8 HO8 L8
     have T9:=hd0 (T6.out.later hb9')
     have G9:=hd0 (GX6.out.later hb9')
     have HO9:=hd0 ho9
     clear hb9 hb9' ho9
     have f12:=T9.out.gb.fr 21
     have c12:=T9.out.c 21 v.yv rfl
     obtain⟨vn,hvn⟩:∃ y:Rv,y={ v with yv:=.slice s2 LN c2 }:=⟨_,rfl⟩
     have T10:Hid (TKr w (w9.setCell ⟨w.heap.size,21,none⟩ (.slice s2 LN c2)) o vn r1 sr ds):=hd0 (by rw[hvn,HR1.out];exact T9.out.set 21 _ (rfA_way o v r _ _))
     have O10:=hd0 ((HO9.out.wk N6).setLow (t:=w.heap.size) (j:=21) (by omega) (.slice s2 LN c2))
     have G10:=hd0 (G9.out.other (t:=w.heap.size) (o:=21) (by have:=HQX.out;omega) (.slice s2 LN c2))
     have S10:=hd0 (SY.out _ _ _ T10.out G10.out (by rw[HR1.out]))
     refine tkH 6 ?_ ?h ?_
     case h=>(intro w hSw;go_simp;try with_reducible rfl)
     try simp only[Act.put,zz]
     refine rdH 7 fun K hK=>?_
     (go_simp;refine hK.out _ _ S10.out (fun hHeld=>?_);clear hK K;try simp only[Act.put,zz])
     refine wpAnyH_done (by kernel_rfl) ?_ _
     clear hHeld
     go_wp2_with fail
     go_meet
     exact⟨vn,0,rfl,rfl,T10,hd0 ⟨by rw[hvn],by rw[hvn],by rw[HR1.out],by rw[HR1.out],.inl ⟨by rw[hvn],by rw[HR1.out]⟩,.inr (by rw[hvn,HR1.out];exact O10.out)⟩,hd0 (Ow.none _ _)⟩
   ·clear k12
    (go_simp;have B7:Below w6.heap.size w6 (w6.drew.alloc (.cells #[.int .u8 rq.lv,.int .u32 rq.nm,.int .u8 rq.tl,.bool rq.st,.bool rq.en,.int .u8 rq.mi.a,.int .u8 rq.mi.b,.int .u8 rq.mi.c,.int .u8 rq.mi.d,.int .u8 rq.mi.e,.int .u8 rq.mi.f,.int .u8 rq.mo.a,.int .u8 rq.mo.b,.int .u8 rq.mo.c,.int .u8 rq.mo.d,.int .u8 rq.mo.e,.int .u8 rq.mo.f] 153)):=((Below.refl _ _).drew).alloc (Nat.le_refl _) _;have L7:=Ow.lit (E:=153) rqC_len w6.drew 0 rq #[.int .u8 rq.lv,.int .u32 rq.nm,.int .u8 rq.tl,.bool rq.st,.bool rq.en,.int .u8 rq.mi.a,.int .u8 rq.mi.b,.int .u8 rq.mi.c,.int .u8 rq.mi.d,.int .u8 rq.mi.e,.int .u8 rq.mi.f,.int .u8 rq.mo.a,.int .u8 rq.mo.b,.int .u8 rq.mo.c,.int .u8 rq.mo.d,.int .u8 rq.mo.e,.int .u8 rq.mo.f] rfl (Nat.zero_le _);have k12:((w6.alloc (.cells #[.int .u8 rq.lv,.int .u32 rq.nm,.int .u8 rq.tl,.bool rq.st,.bool rq.en,.int .u8 rq.mi.a,.int .u8 rq.mi.b,.int .u8 rq.mi.c,.int .u8 rq.mi.d,.int .u8 rq.mi.e,.int .u8 rq.mi.f,.int .u8 rq.mo.a,.int .u8 rq.mo.b,.int .u8 rq.mo.c,.int .u8 rq.mo.d,.int .u8 rq.mo.e,.int .u8 rq.mo.f] 153)).drew).cell? ⟨w.heap.size,21,none⟩=some v.yv:=(T6.out.later B7).c 21 _ rfl;refine hK.out _ _ (SX.out _ (T6.out.later B7) (GX6.out.later B7)) (fun hHeld=>?_);clear hK K;try simp only[Act.put,zz])
    refine rdH 1 fun K hK=>?_
    (go_simp;refine hK.out _ _ (SX.out _ (T6.out.later B7) (GX6.out.later B7)) (fun hHeld=>?_);clear hK K;try simp only[Act.put,zz])
    refine rdH 2 fun K hK=>?_
    (rw[if_pos (by rfl)];refine wp_append_rw rqC_len rqC_one 153 42 _ 24 Tryz.underlying42 info_rrq rfl (by decide) (by decide) (.const (.slice none 0 0)) (.tmp 226) rfl (w6.heap.size+1) (.slice none 0 0) [] rfl (Ow.none _ _) v.yv r.way rfl (RH.out.later rqC_len B7) (by have:=HLEN.out;simp;omega) (by simp) ?_;intro v1 w8 ho8 hb8;have hb8':Below w6.heap.size w6 w8:=B7.trans (hb8.mono (Nat.le_succ _));refine hK.out _ _ (SX.out _ (T6.out.later hb8') (GX6.out.later hb8')) (fun hHeld=>?_);clear hK K;try simp only[Act.put,zz])
    have L8:=hd0 (Rw.below1 rqC_len (L7.rw rqC_len) (C:=w6.heap.size+1) (by intro g hg;cases hg;simp) hb8)
    have HO8:=hd0 ho8
    have HB8:=hd0 hb8'
    clear ho8 hb8 hb8' L7 k12
    refine rdH 5 fun K hK=>?_
    (rw[if_pos (by rfl)];refine wp_append_rw rqC_len rqC_one 153 42 _ 24 Tryz.underlying42 info_rrq rfl (by decide) (by decide) (.tmp 227) (.tmp 229) rfl w6.heap.size _ ([]++r.way) rfl (HO8.out.wk (Nat.le_succ _)) _ [rq] rfl L8.out (by have:=HLEN.out;simp;omega) HB8.out.size ?_;intro v2 w9 ho9 hb9;rw[List.nil_append] at ho9;have hb9':Below w6.heap.size w6 w9:=HB8.out.trans hb9;obtain⟨s2,c2,rfl,-⟩:=ho9.cap;obtain⟨LN,hLN⟩:∃ k,(r.way++[rq]).length=k:=⟨_,rfl⟩;rw[hLN] at ho9 ⊢;clear hLN;refine hK.out _ _ (SX.out _ (T6.out.later hb9') (GX6.out.later hb9')) (fun hHeld=>?_);clear hK K;try simp only[Act.put,zz])
    clear HB8 HO8 L8
    have T9:=hd0 (T6.out.later hb9')
    have G9:=hd0 (GX6.out.later hb9')
    have HO9:=hd0 ho9
    clear hb9 hb9' ho9
    have f12:=T9.out.gb.fr 21
    have c12:=T9.out.c 21 v.yv rfl
    obtain⟨vn,hvn⟩:∃ y:Rv,y={ v with yv:=.slice s2 LN c2 }:=⟨_,rfl⟩
    have T10:Hid (TKr w (w9.setCell ⟨w.heap.size,21,none⟩ (.slice s2 LN c2)) o vn r1 sr ds):=hd0 (by rw[hvn,HR1.out];exact T9.out.set 21 _ (rfA_way o v r _ _))
    have O10:=hd0 ((HO9.out.wk N6).setLow (t:=w.heap.size) (j:=21) (by omega) (.slice s2 LN c2))
    have G10:=hd0 (G9.out.other (t:=w.heap.size) (o:=21) (by have:=HQX.out;omega) (.slice s2 LN c2))
    have S10:=hd0 (SY.out _ _ _ T10.out G10.out (by rw[HR1.out]))
    refine tkH 6 ?_ ?h ?_
    case h=>(intro w hSw;go_simp;try with_reducible rfl)
    try simp only[Act.put,zz]
    refine rdH 7 fun K hK=>?_
    (go_simp;refine hK.out _ _ S10.out (fun hHeld=>?_);clear hK K;try simp only[Act.put,zz])
    refine wpAnyH_done (by kernel_rfl) ?_ _
    clear hHeld
    go_wp2_with fail
    go_meet
    exact⟨vn,0,rfl,rfl,T10,hd0 ⟨by rw[hvn],by rw[hvn],by rw[HR1.out],by rw[HR1.out],.inl ⟨by rw[hvn],by rw[HR1.out]⟩,.inr (by rw[hvn,HR1.out];exact O10.out)⟩,hd0 (Ow.none _ _)⟩
 case rest =>
  obtain⟨v',F,rfl,hF,TA,VA,UA⟩:=hcut
  have ONE:=hd0 (VA.out.one HX.out o)
  have IS:∀ r':Rf,(Tryz.prog.info? 44).map (·.size)=some (rfA o v' r').size:=fun r'=>info_mep
  have IL:∀ r':Rf,(Tryz.prog.info? 44).map (·.size)=some (rfA o v' r').toList.length:=fun r'=>info_mep
  cases g with
  | true =>
   have hF0:(F != 0)=false:=hF
   have BR:bad20 r1 true=r1:=rfl
   clear hF
   go_wp2_with (first
    |((with_reducible refine wpList_load_mid rfl 44 (.tmp 4) rfl w.heap.size 0 ?hx (rfA o v' r1).toList _ TA.out.rng Tryz.underlying44 ?hu (IL r1) ?_);(case hx=>rfl);(case hu=>rfl))
    |((with_reducible refine wpList_store_mid rfl 44 (.tmp 8) (.tmp 238) rfl (w.heap.size+3) 0 (rfA o v' r1) ?hx ?hy TA.out.thr (IS r1) (ONE.out r1) ?_);(case hx=>rfl);(case hy=>rfl)))
   exact bodyPost_ret (v:=.tuple #[.agg (rfA o v' r1),_]) (res_two (p:=8) (u:=9) (d:=_) rfl rfl Tryz.underlying44 _ _ (w.heap.size+3) _ rfl (TA.out.fin (ONE.out r1)) (IS r1)) rfl ⟨v',_,rfl,(VA.out.cells (by omega) _ _).wk (by omega),(UA.out.cellsLow (by omega) _ _).wk (by omega),below_cellsG (by omega) _ _ _ TA.out.bel⟩
  | false =>
   have hF0:(F != 0)=true:=hF
   clear hF
   have b15:∀ W,TKr w W o v' r1 sr ds→W.cell? ⟨w.heap.size,15,none⟩=some (.int .u64 r1.bad):=fun W h=>h.c 15 _ rfl
   have f15:=TA.out.gb.fr 15
   have k15:=b15 _ TA.out
   go_upto_region 49 with fail
   have TB2:=hd0 (TA.out.set 15 (.int .u64 (r1.bad+1)) (rfA_bad o v' r1 (r1.bad+1)))
   have VB2:=hd0 (VA.out.set (t:=w.heap.size) (by omega) 15 (.int .u64 (r1.bad+1)))
   have UB2:=hd0 (UA.out.setLow (t:=w.heap.size) (j:=15) (by omega) (.int .u64 (r1.bad+1)))
   clear b15 f15 k15 TA VA UA
   obtain⟨wb,hwb⟩:∃ z,wc.setCell ⟨w.heap.size,15,none⟩ (.int .u64 (r1.bad+1))=z:=⟨_,rfl⟩
   rw[hwb] at TB2 VB2 UB2 ⊢
   clear hwb
   obtain⟨r2,hr2⟩:∃ x:Rf,x={ r1 with bad:=r1.bad+1 }:=⟨_,rfl⟩
   have BR:bad20 r1 false=r2:=by rw[hr2];rfl
   rw[←hr2] at TB2
   have VB3:Hid (VN (w.heap.size+4) wb v v' r r2):=hd0 (by rw[hr2];exact⟨VB2.out.ov,VB2.out.sv,VB2.out.ws,VB2.out.nw,VB2.out.hd,VB2.out.wy⟩)
   clear hr2 VB2
   go_wp2_with (first
    |((with_reducible refine wpList_load_mid rfl 44 (.tmp 4) rfl w.heap.size 0 ?hx (rfA o v' r2).toList _ TB2.out.rng Tryz.underlying44 ?hu (IL r2) ?_);(case hx=>rfl);(case hu=>rfl))
    |((with_reducible refine wpList_store_mid rfl 44 (.tmp 8) (.tmp 238) rfl (w.heap.size+3) 0 (rfA o v' r2) ?hx ?hy TB2.out.thr (IS r2) (ONE.out r2) ?_);(case hx=>rfl);(case hy=>rfl)))
   exact bodyPost_ret (v:=.tuple #[.agg (rfA o v' r2),_]) (res_two (p:=8) (u:=9) (d:=_) rfl rfl Tryz.underlying44 _ _ (w.heap.size+3) _ rfl (TB2.out.fin (ONE.out r2)) (IS r2)) rfl ⟨v',_,by rw[BR];rfl,by rw[BR];exact(VB3.out.cells (by omega) _ _).wk (by omega),(UB2.out.cellsLow (by omega) _ _).wk (by omega),below_cellsG (by omega) _ _ _ TB2.out.bel⟩
theorem take20_bo (o:Ow20)(ho:o.Ok)(hlv:o.a.lv<8)(ks:List Int)(v:Rv)(r:Rf)(hr:Rk r)(sr ds:Mc)(hsr:sr.Ok)(hds:ds.Ok)(d:List UInt8)(hd:d.length≤1600)(he:(tkP d).2.2.2.2.2=0)(hl:(tkP d).1=o.a.lv)(hb:(tkP d).2.1≠1∧(tkP d).2.1≠2∧(tkP d).2.1≠3∧(tkP d).2.1≠4∧(tkP d).2.1≠5)(w:World)(h:RX w ks v r) :
  Calls Tryz.prog 19 #[.agg (rfA o v r),.agg #[.int .u8 sr.a,.int .u8 sr.b,.int .u8 sr.c,.int .u8 sr.d,.int .u8 sr.e,.int .u8 sr.f],.agg #[.int .u8 ds.a,.int .u8 ds.b,.int .u8 ds.c,.int .u8 ds.d,.int .u8 ds.e,.int .u8 ds.f],.string (bs d)] w fun en w'=>∃ v' u,en=.returned (.tuple #[.agg (rfA o v' (take20 o r sr ds d).1),u])∧VN w.heap.size w' v v' r (take20 o r sr ds d).1∧Ow 7 snC 58 w' w.heap.size u (take20 o r sr ds d).2∧Below w.heap.size w w':=by
 have hpb:=tkP_b d hd
 have hbad:(op20 o r sr ds (tkP d).1 (tkP d).2.1 (tkP d).2.2.1 (tkP d).2.2.2.1 (tkP d).2.2.2.2.1).1.bad=r.bad:=op20_bad _ _ _ _ _ _ _ _ _
 have HT20:take20 o r sr ds d=(bad20 (op20 o r sr ds (tkP d).1 (tkP d).2.1 (tkP d).2.2.1 (tkP d).2.2.2.1 (tkP d).2.2.2.2.1).1 (op20 o r sr ds (tkP d).1 (tkP d).2.1 (tkP d).2.2.1 (tkP d).2.2.2.1 (tkP d).2.2.2.2.1).2.2,(op20 o r sr ds (tkP d).1 (tkP d).2.1 (tkP d).2.2.1 (tkP d).2.2.2.1 (tkP d).2.2.2.2.1).2.1):=by
  unfold take20;rw[if_neg (fun k=>k he),if_neg (fun k=>k hl)]
 have T12:∀ W:World,_:=fun W=>refTake12_any d W (by omega)
 rw[HT20]
 obtain⟨⟨a,b,c,f,l,e⟩,ht⟩:∃ z,tkP d=z:=⟨_,rfl⟩
 rw[ht] at hpb he hl hb hbad ⊢
 simp only[ht] at T12
 simp only at hpb he hl hb hbad ⊢
 subst he hl
 obtain⟨⟨r1,out,g⟩,hop⟩:∃ z,op20 o r sr ds o.a.lv b c f l=z:=⟨_,rfl⟩
 rw[hop] at hbad ⊢
 simp only at hbad ⊢
 have HOP:=hd0 hop
 have T12:=hd0 T12
 have HX:=hd0 h
 have HO:=hd0 ho
 have HR:=hd0 hr
 have HMC:=hd0 (And.intro hsr hds)
 have HPB:=hd0 hpb
 have hb1:0≤r1.bad∧r1.bad≤900:=by rw[hbad];exact⟨hr.ok.bad.1,hr.bad⟩
 have wb1:IntKind.u64.wrap (r1.bad+1)=r1.bad+1:=IntWalk.u64_in _ (by omega)
 have hpc:0≤c∧c<256:=hpb.pc
 have wl:IntKind.i64.wrap o.a.lv=o.a.lv:=IntWalk.i64_in _ (by have:=ho.a.lv;omega)
 have dll:(o.a.lv != o.a.lv)=false:=by simp
 have LV:Hid (∀ W,Calls Tryz.prog 44 #[.int .i64 o.a.lv] W fun en w'=>en=.returned (.tuple #[.agg #[.int .u8 1,.int .u8 128,.int .u8 194,.int .u8 0,.int .u8 0,.int .u8 (48+o.a.lv)],.agg #[.int .u8 1,.int .u8 128,.int .u8 194,.int .u8 0,.int .u8 0,.int .u8 (56+o.a.lv)]])∧Below W.heap.size W w'):=hd0 fun W=>refLevels_any o.a.lv W HO.out.a.lv.1 hlv
 obtain⟨MI,hMI⟩:∃ D,decide (ds=o.mc)=D:=⟨_,rfl⟩
 have EQ:∀ W:World,(binOp .eql 25 (.agg #[.int .u8 ds.a,.int .u8 ds.b,.int .u8 ds.c,.int .u8 ds.d,.int .u8 ds.e,.int .u8 ds.f]) (.agg #[.int .u8 o.mc.a,.int .u8 o.mc.b,.int .u8 o.mc.c,.int .u8 o.mc.d,.int .u8 o.mc.e,.int .u8 o.mc.f])).run Tryz.prog W=.ok (.bool MI) W:=fun W=>by rw[←hMI];exact eql_macG ds o.mc W
 have HMI:=hd0 hMI
 have T0:=hd0 (TKr.begin w o v r sr ds)
 clear hop h ho hr hsr hds hd hpb ht HT20 hMI hlv hbad
 go_enter Tryz.func19,Tryz.ntmps19
 go_upto_region 1 with fail
 obtain⟨w0,hw0⟩:∃ z,(((w.alloc (.cells (rfA o v r) 44)).alloc (.cells #[.int .u8 sr.a,.int .u8 sr.b,.int .u8 sr.c,.int .u8 sr.d,.int .u8 sr.e,.int .u8 sr.f] 25)).alloc (.cells #[.int .u8 ds.a,.int .u8 ds.b,.int .u8 ds.c,.int .u8 ds.d,.int .u8 ds.e,.int .u8 ds.f] 25)).alloc (.cells yP 44)=z:=⟨_,rfl⟩
 rw[hw0] at T0 ⊢
 clear hw0
 go_wp2_with fail
 with_reducible refine(T12.out _).mono ?_
 rintro en w1 ⟨vl,rfl,htl,hb1'⟩
 have T1:=hd0 (T0.out.later hb1')
 obtain⟨ax,cx,hvx,-⟩:=htl.tls.shape
 obtain⟨n1,hn1⟩:∃ n,l.length=n:=⟨_,rfl⟩
 rw[hn1] at hvx
 subst hvx
 have V1:=hd0 htl.tls
 clear htl hb1' T0 hn1 T12
 go_upto_region 2 with fail
 have g2:=PB.new 115 w1 o.a.lv b c f (.slice ax n1 cx)
 have hal:=(Below.refl w1.heap.size w1).alloc (Nat.le_refl _) (.cells #[.int .u8 o.a.lv,.int .u8 b,.int .u8 c,.string (bs f),.slice ax n1 cx] 115)
 have T2:=hd0 (T1.out.later hal)
 have V2:=hd0 (V1.out.later hal)
 have hq2:w.heap.size+4≤w1.heap.size:=T1.out.sz
 obtain⟨w2,hw2⟩:∃ z,w1.alloc (.cells #[.int .u8 o.a.lv,.int .u8 b,.int .u8 c,.string (bs f),.slice ax n1 cx] 115)=z:=⟨_,rfl⟩
 obtain⟨q,hq⟩:∃ z,w1.heap.size=z:=⟨_,rfl⟩
 rw[hw2] at T2 V2 g2 hal ⊢
 have VB0:∀ W,Below w1.heap.size w1 W→Tls W (.slice ax n1 cx) l:=fun W hb=>V1.out.later hb
 rw[hq] at g2 hq2 hal VB0 ⊢
 have VB:=hd0 VB0
 have B2:=hd0 hal
 have HQE:=hd0 hq
 have P2:=hd0 g2
 have HQ:=hd0 hq2
 have c0:w2.cell? ⟨w.heap.size,0,none⟩=some (.int .u8 o.a.lv):=T2.out.c 0 _ rfl
 clear hw2 hq g2 hal T1 V1 hq2 VB0
 go_upto_region 6 with(go_at_call 44;(with_reducible refine(LV.out _).mono ?_);rintro en w3 ⟨rfl,hb3⟩;have T3:=hd0 (T2.out.later hb3);have V3:=hd0 (V2.out.later hb3);have P3:=hd0 (P2.out.later hb3);have B3:Hid (Below q w1 w3):=hd0 (B2.out.trans (hb3.mono (by rw[←HQE.out];exact B2.out.size)));clear hb3)
 have A4:Below w3.heap.size w3 ((w3.alloc (.cells #[.int .u8 1,.int .u8 128,.int .u8 194,.int .u8 0,.int .u8 0,.int .u8 (48+o.a.lv)] 25)).alloc (.cells #[.int .u8 1,.int .u8 128,.int .u8 194,.int .u8 0,.int .u8 0,.int .u8 (56+o.a.lv)] 25)):=(bA _).alloc (by simp) _
 have GM:=GB.new 25 (w3.alloc (.cells #[.int .u8 1,.int .u8 128,.int .u8 194,.int .u8 0,.int .u8 0,.int .u8 (48+o.a.lv)] 25)) #[.int .u8 1,.int .u8 128,.int .u8 194,.int .u8 0,.int .u8 0,.int .u8 (56+o.a.lv)]
 rw[show(w3.alloc (.cells #[.int .u8 1,.int .u8 128,.int .u8 194,.int .u8 0,.int .u8 0,.int .u8 (48+o.a.lv)] 25)).heap.size=w3.heap.size+1 by simp] at GM
 obtain⟨w4,hw4⟩:∃ k,(w3.alloc (.cells #[.int .u8 1,.int .u8 128,.int .u8 194,.int .u8 0,.int .u8 0,.int .u8 (48+o.a.lv)] 25)).alloc (.cells #[.int .u8 1,.int .u8 128,.int .u8 194,.int .u8 0,.int .u8 0,.int .u8 (56+o.a.lv)] 25)=k:=⟨_,rfl⟩
 obtain⟨q3,hq3⟩:∃ k,w3.heap.size=k:=⟨_,rfl⟩
 have hq3s:w.heap.size+4≤w3.heap.size:=T3.out.sz
 rw[hw4] at A4 GM ⊢
 have T4:=hd0 (T3.out.later A4)
 have V4:=hd0 (V3.out.later A4)
 have P4:=hd0 (P3.out.later A4)
 have B4:Hid (Below q w1 w4):=hd0 (B3.out.trans (A4.mono (by rw[←HQE.out];exact B3.out.size)))
 rw[hq3] at GM hq3s ⊢
 have GM4:=hd0 GM
 have HQ3:=hd0 hq3s
 have d0:=T4.out.g6.c 0 _ rfl
 have d1:=T4.out.g6.c 1 _ rfl
 have d2:=T4.out.g6.c 2 _ rfl
 have d3:=T4.out.g6.c 3 _ rfl
 have d4:=T4.out.g6.c 4 _ rfl
 have d5:=T4.out.g6.c 5 _ rfl
 have m0:w4.cell? ⟨w.heap.size,5,none⟩=some (.int .u8 o.mc.a):=T4.out.c 5 _ rfl
 have m1:w4.cell? ⟨w.heap.size,6,none⟩=some (.int .u8 o.mc.b):=T4.out.c 6 _ rfl
 have m2:w4.cell? ⟨w.heap.size,7,none⟩=some (.int .u8 o.mc.c):=T4.out.c 7 _ rfl
 have m3:w4.cell? ⟨w.heap.size,8,none⟩=some (.int .u8 o.mc.d):=T4.out.c 8 _ rfl
 have m4:w4.cell? ⟨w.heap.size,9,none⟩=some (.int .u8 o.mc.e):=T4.out.c 9 _ rfl
 have m5:w4.cell? ⟨w.heap.size,10,none⟩=some (.int .u8 o.mc.f):=T4.out.c 10 _ rfl
 have k0:w4.cell? ⟨w.heap.size,0,none⟩=some (.int .u8 o.a.lv):=T4.out.c 0 _ rfl
 have p0:=P4.out.c0
 have p1:=P4.out.c1
 clear A4 GM hw4 hq3 hq3s T2 T3 V2 V3 P2 P3 B2 B3 c0 wl LV
 go_upto_block 0 with fail
 clear d0 d1 d2 d3 d4 d5 m0 m1 m2 m3 m4 m5 k0 p0 p1 EQ dll
 go_cut [15,16] (fun s15 s16 wx=>∃ (v':Rv) (F:Int),s16=.int .i64 F∧(F != 0)=(!g)∧Hid (TKr w wx o v' r1 sr ds)∧Hid (VN (w.heap.size+4) wx v v' r r1)∧Hid (Ow 7 snC 58 wx (w.heap.size+4) s15 out))
 case first =>
  have hop2:r=r1∧[]=out∧true=g:=by
   have h:=HOP.out
   unfold op20 at h
   rw[if_neg hb.1,if_neg hb.2.2.1,if_neg hb.2.1,if_neg hb.2.2.2.2,if_neg hb.2.2.2.1] at h
   simp only[Prod.mk.injEq] at h
   exact h
  obtain⟨rfl,rfl,rfl⟩:=hop2
  have n1:(b==1)=false:=by rw[beq_eq_false_iff_ne];exact hb.1
  have n2:(b==2)=false:=by rw[beq_eq_false_iff_ne];exact hb.2.1
  have n3:(b==3)=false:=by rw[beq_eq_false_iff_ne];exact hb.2.2.1
  have n4:(b==4)=false:=by rw[beq_eq_false_iff_ne];exact hb.2.2.2.1
  have n5:(b==5)=false:=by rw[beq_eq_false_iff_ne];exact hb.2.2.2.2
  clear hb
  go_wp2_with fail
  go_meet
  exact⟨v,0,rfl,rfl,T4,hd0 (VN.refl _ _ _ _),hd0 (Ow.none _ _)⟩
 case rest =>
  obtain⟨v',F,rfl,hF,TA,VA,UA⟩:=hcut
  have ONE:=hd0 (VA.out.one HX.out o)
  have IS:∀ r':Rf,(Tryz.prog.info? 44).map (·.size)=some (rfA o v' r').size:=fun r'=>info_mep
  have IL:∀ r':Rf,(Tryz.prog.info? 44).map (·.size)=some (rfA o v' r').toList.length:=fun r'=>info_mep
  cases g with
  | true =>
   have hF0:(F != 0)=false:=hF
   have BR:bad20 r1 true=r1:=rfl
   clear hF
   go_wp2_with (first
    |((with_reducible refine wpList_load_mid rfl 44 (.tmp 4) rfl w.heap.size 0 ?hx (rfA o v' r1).toList _ TA.out.rng Tryz.underlying44 ?hu (IL r1) ?_);(case hx=>rfl);(case hu=>rfl))
    |((with_reducible refine wpList_store_mid rfl 44 (.tmp 8) (.tmp 238) rfl (w.heap.size+3) 0 (rfA o v' r1) ?hx ?hy TA.out.thr (IS r1) (ONE.out r1) ?_);(case hx=>rfl);(case hy=>rfl)))
   exact bodyPost_ret (v:=.tuple #[.agg (rfA o v' r1),_]) (res_two (p:=8) (u:=9) (d:=_) rfl rfl Tryz.underlying44 _ _ (w.heap.size+3) _ rfl (TA.out.fin (ONE.out r1)) (IS r1)) rfl ⟨v',_,rfl,(VA.out.cells (by omega) _ _).wk (by omega),(UA.out.cellsLow (by omega) _ _).wk (by omega),below_cellsG (by omega) _ _ _ TA.out.bel⟩
  | false =>
   have hF0:(F != 0)=true:=hF
   clear hF
   have b15:∀ W,TKr w W o v' r1 sr ds→W.cell? ⟨w.heap.size,15,none⟩=some (.int .u64 r1.bad):=fun W h=>h.c 15 _ rfl
   have f15:=TA.out.gb.fr 15
   have k15:=b15 _ TA.out
   go_upto_region 49 with fail
   have TB2:=hd0 (TA.out.set 15 (.int .u64 (r1.bad+1)) (rfA_bad o v' r1 (r1.bad+1)))
   have VB2:=hd0 (VA.out.set (t:=w.heap.size) (by omega) 15 (.int .u64 (r1.bad+1)))
   have UB2:=hd0 (UA.out.setLow (t:=w.heap.size) (j:=15) (by omega) (.int .u64 (r1.bad+1)))
   clear b15 f15 k15 TA VA UA
   obtain⟨wb,hwb⟩:∃ z,wc.setCell ⟨w.heap.size,15,none⟩ (.int .u64 (r1.bad+1))=z:=⟨_,rfl⟩
   rw[hwb] at TB2 VB2 UB2 ⊢
   clear hwb
   obtain⟨r2,hr2⟩:∃ x:Rf,x={ r1 with bad:=r1.bad+1 }:=⟨_,rfl⟩
   have BR:bad20 r1 false=r2:=by rw[hr2];rfl
   rw[←hr2] at TB2
   have VB3:Hid (VN (w.heap.size+4) wb v v' r r2):=hd0 (by rw[hr2];exact⟨VB2.out.ov,VB2.out.sv,VB2.out.ws,VB2.out.nw,VB2.out.hd,VB2.out.wy⟩)
   clear hr2 VB2
   go_wp2_with (first
    |((with_reducible refine wpList_load_mid rfl 44 (.tmp 4) rfl w.heap.size 0 ?hx (rfA o v' r2).toList _ TB2.out.rng Tryz.underlying44 ?hu (IL r2) ?_);(case hx=>rfl);(case hu=>rfl))
    |((with_reducible refine wpList_store_mid rfl 44 (.tmp 8) (.tmp 238) rfl (w.heap.size+3) 0 (rfA o v' r2) ?hx ?hy TB2.out.thr (IS r2) (ONE.out r2) ?_);(case hx=>rfl);(case hy=>rfl)))
   exact bodyPost_ret (v:=.tuple #[.agg (rfA o v' r2),_]) (res_two (p:=8) (u:=9) (d:=_) rfl rfl Tryz.underlying44 _ _ (w.heap.size+3) _ rfl (TB2.out.fin (ONE.out r2)) (IS r2)) rfl ⟨v',_,by rw[BR];rfl,by rw[BR];exact(VB3.out.cells (by omega) _ _).wk (by omega),(UB2.out.cellsLow (by omega) _ _).wk (by omega),below_cellsG (by omega) _ _ _ TB2.out.bel⟩
theorem take20_err (o:Ow20)(ho:o.Ok)(hlv:o.a.lv<8)(ks:List Int)(v:Rv)(r:Rf)(hr:Rk r)(sr ds:Mc)(hsr:sr.Ok)(hds:ds.Ok)(d:List UInt8)(hd:d.length≤1600)(he:(tkP d).2.2.2.2.2≠0)(w:World)(h:RX w ks v r) :
  Calls Tryz.prog 19 #[.agg (rfA o v r),.agg #[.int .u8 sr.a,.int .u8 sr.b,.int .u8 sr.c,.int .u8 sr.d,.int .u8 sr.e,.int .u8 sr.f],.agg #[.int .u8 ds.a,.int .u8 ds.b,.int .u8 ds.c,.int .u8 ds.d,.int .u8 ds.e,.int .u8 ds.f],.string (bs d)] w fun en w'=>∃ v' u,en=.returned (.tuple #[.agg (rfA o v' (take20 o r sr ds d).1),u])∧VN w.heap.size w' v v' r (take20 o r sr ds d).1∧Ow 7 snC 58 w' w.heap.size u (take20 o r sr ds d).2∧Below w.heap.size w w':=by
 have T12:∀ W:World,_:=fun W=>refTake12_any d W (by omega)
 have hbr:0≤r.bad∧r.bad≤900:=⟨hr.ok.bad.1,hr.bad⟩
 have wb1:IntKind.u64.wrap (r.bad+1)=r.bad+1:=IntWalk.u64_in _ (by omega)
 have HX:=hd0 h
 have HO:=hd0 ho
 have ONE:Hid (∀ r':Rf,(rfA o v r').all (·.oneCell')=true):=hd0 fun r'=>h.one o r'
 have IS:∀ r':Rf,(Tryz.prog.info? 44).map (·.size)=some (rfA o v r').size:=fun r'=>info_mep
 have IL:∀ r':Rf,(Tryz.prog.info? 44).map (·.size)=some (rfA o v r').toList.length:=fun r'=>info_mep
 have HT20:take20 o r sr ds d=(bad20 r false,[]):=by unfold take20;rw[if_pos he];rfl
 rw[HT20]
 obtain⟨⟨a,b,c,f,l,e⟩,ht⟩:∃ z,tkP d=z:=⟨_,rfl⟩
 rw[ht] at he
 simp only[ht] at T12
 simp only at he
 have T12:=hd0 T12
 have de:(e != 0)=true:=by rw[bne_iff_ne];exact he
 clear h ho hsr hds hd ht HT20 hlv hr he
 go_enter Tryz.func19,Tryz.ntmps19
 go_upto_region 1 with fail
 have T0:=hd0 (TKr.begin w o v r sr ds)
 obtain⟨w0,hw0⟩:∃ z,(((w.alloc (.cells (rfA o v r) 44)).alloc (.cells #[.int .u8 sr.a,.int .u8 sr.b,.int .u8 sr.c,.int .u8 sr.d,.int .u8 sr.e,.int .u8 sr.f] 25)).alloc (.cells #[.int .u8 ds.a,.int .u8 ds.b,.int .u8 ds.c,.int .u8 ds.d,.int .u8 ds.e,.int .u8 ds.f] 25)).alloc (.cells yP 44)=z:=⟨_,rfl⟩
 rw[hw0] at T0 ⊢
 clear hw0
 go_wp2_with fail
 with_reducible refine(T12.out _).mono ?_
 rintro en w1 ⟨vl,rfl,htl,hb1'⟩
 have T1:=hd0 (T0.out.later hb1')
 obtain⟨ax,cx,hvx,-⟩:=htl.tls.shape
 obtain⟨n1,hn1⟩:∃ n,l.length=n:=⟨_,rfl⟩
 rw[hn1] at hvx
 subst hvx
 clear htl hb1' T0 hn1 T12
 go_upto_region 2 with fail
 have hal:=(Below.refl w1.heap.size w1).alloc (Nat.le_refl _) (.cells #[.int .u8 a,.int .u8 b,.int .u8 c,.string (bs f),.slice ax n1 cx] 115)
 have g2:=PB.new 115 w1 a b c f (.slice ax n1 cx)
 have T2:=hd0 (T1.out.later hal)
 obtain⟨w2,hw2⟩:∃ z,w1.alloc (.cells #[.int .u8 a,.int .u8 b,.int .u8 c,.string (bs f),.slice ax n1 cx] 115)=z:=⟨_,rfl⟩
 obtain⟨q,hq⟩:∃ z,w1.heap.size=z:=⟨_,rfl⟩
 rw[hw2] at T2 g2 ⊢
 rw[hq] at g2 ⊢
 have P2:=hd0 g2
 clear hw2 hal T1 g2 hq
 have k15:w2.cell? ⟨w.heap.size,15,none⟩=some (.int .u64 r.bad):=T2.out.c 15 _ rfl
 have f15:=T2.out.gb.fr 15
 go_upto_region 4 with fail
 have TB2:=hd0 (T2.out.set 15 (.int .u64 (r.bad+1)) (rfA_bad o v r (r.bad+1)))
 obtain⟨wb,hwb⟩:∃ z,w2.setCell ⟨w.heap.size,15,none⟩ (.int .u64 (r.bad+1))=z:=⟨_,rfl⟩
 rw[hwb] at TB2 ⊢
 clear hwb k15 f15 T2
 obtain⟨r2,hr2⟩:∃ x:Rf,x={ r with bad:=r.bad+1 }:=⟨_,rfl⟩
 have BR:bad20 r false=r2:=by rw[hr2];rfl
 have HR2:=hd0 hr2
 rw[←hr2] at TB2
 clear hr2
 go_wp2_with (first
  |((with_reducible refine wpList_load_mid rfl 44 (.tmp 4) rfl w.heap.size 0 ?hx (rfA o v r2).toList _ TB2.out.rng Tryz.underlying44 ?hu (IL r2) ?_);(case hx=>rfl);(case hu=>rfl))
  |((with_reducible refine wpList_store_mid rfl 44 (.tmp 8) (.tmp 38) rfl (w.heap.size+3) 0 (rfA o v r2) ?hx ?hy TB2.out.thr (IS r2) (ONE.out r2) ?_);(case hx=>rfl);(case hy=>rfl)))
 exact bodyPost_ret (v:=.tuple #[.agg (rfA o v r2),.slice none 0 0]) (res_two (p:=8) (u:=9) (d:=_) rfl rfl Tryz.underlying44 _ _ (w.heap.size+3) _ rfl (TB2.out.fin (ONE.out r2)) (IS r2)) rfl ⟨v,_,by rw[BR],by rw[BR,HR2.out];exact⟨rfl,rfl,rfl,rfl,.inl ⟨rfl,rfl⟩,.inl ⟨rfl,rfl⟩⟩,Ow.none _ _,below_cellsG (by omega) _ _ _ TB2.out.bel⟩
theorem take20_lev (o:Ow20)(ho:o.Ok)(hlv:o.a.lv<8)(ks:List Int)(v:Rv)(r:Rf)(hr:Rk r)(sr ds:Mc)(hsr:sr.Ok)(hds:ds.Ok)(d:List UInt8)(hd:d.length≤1600)(he:(tkP d).2.2.2.2.2=0)(hl:(tkP d).1≠o.a.lv)(w:World)(h:RX w ks v r) :
  Calls Tryz.prog 19 #[.agg (rfA o v r),.agg #[.int .u8 sr.a,.int .u8 sr.b,.int .u8 sr.c,.int .u8 sr.d,.int .u8 sr.e,.int .u8 sr.f],.agg #[.int .u8 ds.a,.int .u8 ds.b,.int .u8 ds.c,.int .u8 ds.d,.int .u8 ds.e,.int .u8 ds.f],.string (bs d)] w fun en w'=>∃ v' u,en=.returned (.tuple #[.agg (rfA o v' (take20 o r sr ds d).1),u])∧VN w.heap.size w' v v' r (take20 o r sr ds d).1∧Ow 7 snC 58 w' w.heap.size u (take20 o r sr ds d).2∧Below w.heap.size w w':=by
 have T12:∀ W:World,_:=fun W=>refTake12_any d W (by omega)
 have hbr:0≤r.bad∧r.bad≤900:=⟨hr.ok.bad.1,hr.bad⟩
 have wb1:IntKind.u64.wrap (r.bad+1)=r.bad+1:=IntWalk.u64_in _ (by omega)
 have HX:=hd0 h
 have HO:=hd0 ho
 have ONE:Hid (∀ r':Rf,(rfA o v r').all (·.oneCell')=true):=hd0 fun r'=>h.one o r'
 have IS:∀ r':Rf,(Tryz.prog.info? 44).map (·.size)=some (rfA o v r').size:=fun r'=>info_mep
 have IL:∀ r':Rf,(Tryz.prog.info? 44).map (·.size)=some (rfA o v r').toList.length:=fun r'=>info_mep
 have HT20:take20 o r sr ds d=(r,[]):=by unfold take20;rw[if_neg (fun k=>k he),if_pos hl]
 rw[HT20]
 obtain⟨⟨a,b,c,f,l,e⟩,ht⟩:∃ z,tkP d=z:=⟨_,rfl⟩
 rw[ht] at he hl
 simp only[ht] at T12
 simp only at he hl
 subst he
 have T12:=hd0 T12
 have de:(a != o.a.lv)=true:=by rw[bne_iff_ne];exact hl
 have wl:IntKind.i64.wrap o.a.lv=o.a.lv:=IntWalk.i64_in _ (by have:=ho.a.lv;omega)
 have LV:Hid (∀ W,Calls Tryz.prog 44 #[.int .i64 o.a.lv] W fun en w'=>en=.returned (.tuple #[.agg #[.int .u8 1,.int .u8 128,.int .u8 194,.int .u8 0,.int .u8 0,.int .u8 (48+o.a.lv)],.agg #[.int .u8 1,.int .u8 128,.int .u8 194,.int .u8 0,.int .u8 0,.int .u8 (56+o.a.lv)]])∧Below W.heap.size W w'):=hd0 fun W=>refLevels_any o.a.lv W HO.out.a.lv.1 hlv
 obtain⟨MI,hMI⟩:∃ D,decide (ds=o.mc)=D:=⟨_,rfl⟩
 have EQ:∀ W:World,(binOp .eql 25 (.agg #[.int .u8 ds.a,.int .u8 ds.b,.int .u8 ds.c,.int .u8 ds.d,.int .u8 ds.e,.int .u8 ds.f]) (.agg #[.int .u8 o.mc.a,.int .u8 o.mc.b,.int .u8 o.mc.c,.int .u8 o.mc.d,.int .u8 o.mc.e,.int .u8 o.mc.f])).run Tryz.prog W=.ok (.bool MI) W:=fun W=>by rw[←hMI];exact eql_macG ds o.mc W
 clear h ho hsr hds hd ht HT20 hlv hr hl hMI
 go_enter Tryz.func19,Tryz.ntmps19
 go_upto_region 1 with fail
 have T0:=hd0 (TKr.begin w o v r sr ds)
 obtain⟨w0,hw0⟩:∃ z,(((w.alloc (.cells (rfA o v r) 44)).alloc (.cells #[.int .u8 sr.a,.int .u8 sr.b,.int .u8 sr.c,.int .u8 sr.d,.int .u8 sr.e,.int .u8 sr.f] 25)).alloc (.cells #[.int .u8 ds.a,.int .u8 ds.b,.int .u8 ds.c,.int .u8 ds.d,.int .u8 ds.e,.int .u8 ds.f] 25)).alloc (.cells yP 44)=z:=⟨_,rfl⟩
 rw[hw0] at T0 ⊢
 clear hw0
 go_wp2_with fail
 with_reducible refine(T12.out _).mono ?_
 rintro en w1 ⟨vl,rfl,htl,hb1'⟩
 have T1:=hd0 (T0.out.later hb1')
 obtain⟨ax,cx,hvx,-⟩:=htl.tls.shape
 obtain⟨n1,hn1⟩:∃ n,l.length=n:=⟨_,rfl⟩
 rw[hn1] at hvx
 subst hvx
 clear htl hb1' T0 hn1 T12
 go_upto_region 2 with fail
 have hal:=(Below.refl w1.heap.size w1).alloc (Nat.le_refl _) (.cells #[.int .u8 a,.int .u8 b,.int .u8 c,.string (bs f),.slice ax n1 cx] 115)
 have g2:=PB.new 115 w1 a b c f (.slice ax n1 cx)
 have T2:=hd0 (T1.out.later hal)
 obtain⟨w2,hw2⟩:∃ z,w1.alloc (.cells #[.int .u8 a,.int .u8 b,.int .u8 c,.string (bs f),.slice ax n1 cx] 115)=z:=⟨_,rfl⟩
 obtain⟨q,hq⟩:∃ z,w1.heap.size=z:=⟨_,rfl⟩
 rw[hw2] at T2 g2 ⊢
 rw[hq] at g2 ⊢
 have P2:=hd0 g2
 clear hw2 hal T1 g2 hq
 have c0:w2.cell? ⟨w.heap.size,0,none⟩=some (.int .u8 o.a.lv):=T2.out.c 0 _ rfl
 go_upto_region 6 with(go_at_call 44;(with_reducible refine(LV.out _).mono ?_);rintro en w3 ⟨rfl,hb3⟩;have T3:=hd0 (T2.out.later hb3);have P3:=hd0 (P2.out.later hb3);clear hb3)
 have A4:Below w3.heap.size w3 ((w3.alloc (.cells #[.int .u8 1,.int .u8 128,.int .u8 194,.int .u8 0,.int .u8 0,.int .u8 (48+o.a.lv)] 25)).alloc (.cells #[.int .u8 1,.int .u8 128,.int .u8 194,.int .u8 0,.int .u8 0,.int .u8 (56+o.a.lv)] 25)):=(bA _).alloc (by simp) _
 obtain⟨w4,hw4⟩:∃ k,(w3.alloc (.cells #[.int .u8 1,.int .u8 128,.int .u8 194,.int .u8 0,.int .u8 0,.int .u8 (48+o.a.lv)] 25)).alloc (.cells #[.int .u8 1,.int .u8 128,.int .u8 194,.int .u8 0,.int .u8 0,.int .u8 (56+o.a.lv)] 25)=k:=⟨_,rfl⟩
 rw[hw4] at A4 ⊢
 have T4:=hd0 (T3.out.later A4)
 have P4:=hd0 (P3.out.later A4)
 have d0:=T4.out.g6.c 0 _ rfl
 have d1:=T4.out.g6.c 1 _ rfl
 have d2:=T4.out.g6.c 2 _ rfl
 have d3:=T4.out.g6.c 3 _ rfl
 have d4:=T4.out.g6.c 4 _ rfl
 have d5:=T4.out.g6.c 5 _ rfl
 have m0:w4.cell? ⟨w.heap.size,5,none⟩=some (.int .u8 o.mc.a):=T4.out.c 5 _ rfl
 have m1:w4.cell? ⟨w.heap.size,6,none⟩=some (.int .u8 o.mc.b):=T4.out.c 6 _ rfl
 have m2:w4.cell? ⟨w.heap.size,7,none⟩=some (.int .u8 o.mc.c):=T4.out.c 7 _ rfl
 have m3:w4.cell? ⟨w.heap.size,8,none⟩=some (.int .u8 o.mc.d):=T4.out.c 8 _ rfl
 have m4:w4.cell? ⟨w.heap.size,9,none⟩=some (.int .u8 o.mc.e):=T4.out.c 9 _ rfl
 have m5:w4.cell? ⟨w.heap.size,10,none⟩=some (.int .u8 o.mc.f):=T4.out.c 10 _ rfl
 have k0:w4.cell? ⟨w.heap.size,0,none⟩=some (.int .u8 o.a.lv):=T4.out.c 0 _ rfl
 have p0:=P4.out.c0
 clear A4 hw4 T2 T3 P2 P3 c0 wl LV
 go_wp2_with (first
  |((with_reducible refine wpList_load_mid rfl 44 (.tmp 4) rfl w.heap.size 0 ?hx (rfA o v r).toList _ T4.out.rng Tryz.underlying44 ?hu (IL r) ?_);(case hx=>rfl);(case hu=>rfl))
  |((with_reducible refine wpList_store_mid rfl 44 (.tmp 8) (.tmp 58) rfl (w.heap.size+3) 0 (rfA o v r) ?hx ?hy T4.out.thr (IS r) (ONE.out r) ?_);(case hx=>rfl);(case hy=>rfl)))
 exact bodyPost_ret (v:=.tuple #[.agg (rfA o v r),.slice none 0 0]) (res_two (p:=8) (u:=9) (d:=_) rfl rfl Tryz.underlying44 _ _ (w.heap.size+3) _ rfl (T4.out.fin (ONE.out r)) (IS r)) rfl ⟨v,_,rfl,VN.refl _ _ _ _,Ow.none _ _,below_cellsG (by omega) _ _ _ T4.out.bel⟩
end Go.Proofs.YtlkdfofpnmpidaaGreat
