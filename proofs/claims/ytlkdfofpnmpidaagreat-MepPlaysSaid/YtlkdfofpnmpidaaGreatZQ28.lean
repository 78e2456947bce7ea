/- ZQ28 -/
import Derived.Test.YtlkdfofpnmpidaaGreatZQ24
set_option linter.unusedVariables false
set_option linter.unusedSimpArgs false
set_option maxRecDepth 100000
set_option maxHeartbeats 16000000
namespace Go.Proofs.YtlkdfofpnmpidaaGreat
open Go.RowKit
theorem take20_b3 (o:Ow20)(ho:o.Ok)(hlv:o.a.lv<8)(ks:List Int)(v:Rv)(r:Rf)(hr:Rk r)(sr ds:Mc)(hsr:sr.Ok)(hds:ds.Ok)(d:List UInt8)(hd:d.length≤1600)(he:(tkP d).2.2.2.2.2=0)(hl:(tkP d).1=o.a.lv)(hb:(tkP d).2.1=3)(w:World)(h:RX w ks v r) :
  Calls Tryz.prog 19 #[.agg (rfA o v r),.agg #[.int .u8 sr.a,.int .u8 sr.b,.int .u8 sr.c,.int .u8 sr.d,.int .u8 sr.e,.int .u8 sr.f],.agg #[.int .u8 ds.a,.int .u8 ds.b,.int .u8 ds.c,.int .u8 ds.d,.int .u8 ds.e,.int .u8 ds.f],.string (bs d)] w fun en w'=>∃ v' u,en=.returned (.tuple #[.agg (rfA o v' (take20 o r sr ds d).1),u])∧VN w.heap.size w' v v' r (take20 o r sr ds d).1∧Ow 7 snC 58 w' w.heap.size u (take20 o r sr ds d).2∧Below w.heap.size w w':=by
 have hpb:=tkP_b d hd
 have hbad:(op20 o r sr ds (tkP d).1 (tkP d).2.1 (tkP d).2.2.1 (tkP d).2.2.2.1 (tkP d).2.2.2.2.1).1.bad=r.bad:=op20_bad _ _ _ _ _ _ _ _ _
 have HT20:take20 o r sr ds d=(bad20 (op20 o r sr ds (tkP d).1 (tkP d).2.1 (tkP d).2.2.1 (tkP d).2.2.2.1 (tkP d).2.2.2.2.1).1 (op20 o r sr ds (tkP d).1 (tkP d).2.1 (tkP d).2.2.1 (tkP d).2.2.2.1 (tkP d).2.2.2.2.1).2.2,(op20 o r sr ds (tkP d).1 (tkP d).2.1 (tkP d).2.2.1 (tkP d).2.2.2.1 (tkP d).2.2.2.2.1).2.1):=by
  unfold take20;rw[if_neg (fun k=>k he),if_neg (fun k=>k hl)]
 have T12:∀ W:World,_:=fun W=>refTake12_any d W (by omega)
 rw[HT20]
 obtain⟨⟨a,b,c,f,l,e⟩,ht⟩:∃ z,tkP d=z:=⟨_,rfl⟩
 rw[ht] at hpb he hl hb hbad ⊢
 simp only[ht] at T12
 simp only at hpb he hl hb hbad ⊢
 subst he hl hb
 obtain⟨⟨r1,out,g⟩,hop⟩:∃ z,op20 o r sr ds o.a.lv 3 c f l=z:=⟨_,rfl⟩
 rw[hop] at hbad ⊢
 simp only at hbad ⊢
 have HOP:=hd0 hop
 have T12:=hd0 T12
 have HX:=hd0 h
 have HO:=hd0 ho
 have HR:=hd0 hr
 have HMC:=hd0 (And.intro hsr hds)
 have HPB:=hd0 hpb
 have hb1:0≤r1.bad∧r1.bad≤900:=by rw[hbad];exact⟨hr.ok.bad.1,hr.bad⟩
 have wb1:IntKind.u64.wrap (r1.bad+1)=r1.bad+1:=IntWalk.u64_in _ (by omega)
 have hpc:0≤c∧c<256:=hpb.pc
 have wl:IntKind.i64.wrap o.a.lv=o.a.lv:=IntWalk.i64_in _ (by have:=ho.a.lv;omega)
 have dll:(o.a.lv != o.a.lv)=false:=by simp
 have LV:Hid (∀ W,Calls Tryz.prog 44 #[.int .i64 o.a.lv] W fun en w'=>en=.returned (.tuple #[.agg #[.int .u8 1,.int .u8 128,.int .u8 194,.int .u8 0,.int .u8 0,.int .u8 (48+o.a.lv)],.agg #[.int .u8 1,.int .u8 128,.int .u8 194,.int .u8 0,.int .u8 0,.int .u8 (56+o.a.lv)]])∧Below W.heap.size W w'):=hd0 fun W=>refLevels_any o.a.lv W HO.out.a.lv.1 hlv
 obtain⟨MI,hMI⟩:∃ D,decide (ds=o.mc)=D:=⟨_,rfl⟩
 have EQ:∀ W:World,(binOp .eql 25 (.agg #[.int .u8 ds.a,.int .u8 ds.b,.int .u8 ds.c,.int .u8 ds.d,.int .u8 ds.e,.int .u8 ds.f]) (.agg #[.int .u8 o.mc.a,.int .u8 o.mc.b,.int .u8 o.mc.c,.int .u8 o.mc.d,.int .u8 o.mc.e,.int .u8 o.mc.f])).run Tryz.prog W=.ok (.bool MI) W:=fun W=>by rw[←hMI];exact eql_macG ds o.mc W
 have HMI:=hd0 hMI
 have T0:=hd0 (TKr.begin w o v r sr ds)
 clear hop h ho hr hsr hds hd hpb ht HT20 hMI hlv hbad
 go_enter Tryz.func19,Tryz.ntmps19
 go_upto_region 1 with fail
 obtain⟨w0,hw0⟩:∃ z,(((w.alloc (.cells (rfA o v r) 44)).alloc (.cells #[.int .u8 sr.a,.int .u8 sr.b,.int .u8 sr.c,.int .u8 sr.d,.int .u8 sr.e,.int .u8 sr.f] 25)).alloc (.cells #[.int .u8 ds.a,.int .u8 ds.b,.int .u8 ds.c,.int .u8 ds.d,.int .u8 ds.e,.int .u8 ds.f] 25)).alloc (.cells yP 44)=z:=⟨_,rfl⟩
 rw[hw0] at T0 ⊢
 clear hw0
 go_wp2_with fail
 with_reducible refine(T12.out _).mono ?_
 rintro en w1 ⟨vl,rfl,htl,hb1'⟩
 have T1:=hd0 (T0.out.later hb1')
 obtain⟨ax,cx,hvx,-⟩:=htl.tls.shape
 obtain⟨n1,hn1⟩:∃ n,l.length=n:=⟨_,rfl⟩
 rw[hn1] at hvx
 subst hvx
 have V1:=hd0 htl.tls
 clear htl hb1' T0 hn1 T12
 go_upto_region 2 with fail
 have g2:=PB.new 115 w1 o.a.lv 3 c f (.slice ax n1 cx)
 have hal:=(Below.refl w1.heap.size w1).alloc (Nat.le_refl _) (.cells #[.int .u8 o.a.lv,.int .u8 3,.int .u8 c,.string (bs f),.slice ax n1 cx] 115)
 have T2:=hd0 (T1.out.later hal)
 have V2:=hd0 (V1.out.later hal)
 have hq2:w.heap.size+4≤w1.heap.size:=T1.out.sz
 obtain⟨w2,hw2⟩:∃ z,w1.alloc (.cells #[.int .u8 o.a.lv,.int .u8 3,.int .u8 c,.string (bs f),.slice ax n1 cx] 115)=z:=⟨_,rfl⟩
 obtain⟨q,hq⟩:∃ z,w1.heap.size=z:=⟨_,rfl⟩
 rw[hw2] at T2 V2 g2 hal ⊢
 have VB0:∀ W,Below w1.heap.size w1 W→Tls W (.slice ax n1 cx) l:=fun W hb=>V1.out.later hb
 rw[hq] at g2 hq2 hal VB0 ⊢
 have VB:=hd0 VB0
 have B2:=hd0 hal
 have HQE:=hd0 hq
 have P2:=hd0 g2
 have HQ:=hd0 hq2
 have c0:w2.cell? ⟨w.heap.size,0,none⟩=some (.int .u8 o.a.lv):=T2.out.c 0 _ rfl
 clear hw2 hq g2 hal T1 V1 hq2 VB0
 go_upto_region 6 with(go_at_call 44;(with_reducible refine(LV.out _).mono ?_);rintro en w3 ⟨rfl,hb3⟩;have T3:=hd0 (T2.out.later hb3);have V3:=hd0 (V2.out.later hb3);have P3:=hd0 (P2.out.later hb3);have B3:Hid (Below q w1 w3):=hd0 (B2.out.trans (hb3.mono (by rw[←HQE.out];exact B2.out.size)));clear hb3)
 have A4:Below w3.heap.size w3 ((w3.alloc (.cells #[.int .u8 1,.int .u8 128,.int .u8 194,.int .u8 0,.int .u8 0,.int .u8 (48+o.a.lv)] 25)).alloc (.cells #[.int .u8 1,.int .u8 128,.int .u8 194,.int .u8 0,.int .u8 0,.int .u8 (56+o.a.lv)] 25)):=(bA _).alloc (by simp) _
 have GM:=GB.new 25 (w3.alloc (.cells #[.int .u8 1,.int .u8 128,.int .u8 194,.int .u8 0,.int .u8 0,.int .u8 (48+o.a.lv)] 25)) #[.int .u8 1,.int .u8 128,.int .u8 194,.int .u8 0,.int .u8 0,.int .u8 (56+o.a.lv)]
 rw[show(w3.alloc (.cells #[.int .u8 1,.int .u8 128,.int .u8 194,.int .u8 0,.int .u8 0,.int .u8 (48+o.a.lv)] 25)).heap.size=w3.heap.size+1 by simp] at GM
 obtain⟨w4,hw4⟩:∃ k,(w3.alloc (.cells #[.int .u8 1,.int .u8 128,.int .u8 194,.int .u8 0,.int .u8 0,.int .u8 (48+o.a.lv)] 25)).alloc (.cells #[.int .u8 1,.int .u8 128,.int .u8 194,.int .u8 0,.int .u8 0,.int .u8 (56+o.a.lv)] 25)=k:=⟨_,rfl⟩
 obtain⟨q3,hq3⟩:∃ k,w3.heap.size=k:=⟨_,rfl⟩
 have hq3s:w.heap.size+4≤w3.heap.size:=T3.out.sz
 rw[hw4] at A4 GM ⊢
 have T4:=hd0 (T3.out.later A4)
 have V4:=hd0 (V3.out.later A4)
 have P4:=hd0 (P3.out.later A4)
 have B4:Hid (Below q w1 w4):=hd0 (B3.out.trans (A4.mono (by rw[←HQE.out];exact B3.out.size)))
 rw[hq3] at GM hq3s ⊢
 have GM4:=hd0 GM
 have HQ3:=hd0 hq3s
 have d0:=T4.out.g6.c 0 _ rfl
 have d1:=T4.out.g6.c 1 _ rfl
 have d2:=T4.out.g6.c 2 _ rfl
 have d3:=T4.out.g6.c 3 _ rfl
 have d4:=T4.out.g6.c 4 _ rfl
 have d5:=T4.out.g6.c 5 _ rfl
 have m0:w4.cell? ⟨w.heap.size,5,none⟩=some (.int .u8 o.mc.a):=T4.out.c 5 _ rfl
 have m1:w4.cell? ⟨w.heap.size,6,none⟩=some (.int .u8 o.mc.b):=T4.out.c 6 _ rfl
 have m2:w4.cell? ⟨w.heap.size,7,none⟩=some (.int .u8 o.mc.c):=T4.out.c 7 _ rfl
 have m3:w4.cell? ⟨w.heap.size,8,none⟩=some (.int .u8 o.mc.d):=T4.out.c 8 _ rfl
 have m4:w4.cell? ⟨w.heap.size,9,none⟩=some (.int .u8 o.mc.e):=T4.out.c 9 _ rfl
 have m5:w4.cell? ⟨w.heap.size,10,none⟩=some (.int .u8 o.mc.f):=T4.out.c 10 _ rfl
 have k0:w4.cell? ⟨w.heap.size,0,none⟩=some (.int .u8 o.a.lv):=T4.out.c 0 _ rfl
 have p0:=P4.out.c0
 have p1:=P4.out.c1
 clear A4 GM hw4 hq3 hq3s T2 T3 V2 V3 P2 P3 B2 B3 c0 wl LV
 go_upto_block 0 with fail
 clear d0 d1 d2 d3 d4 d5 m0 m1 m2 m3 m4 m5 k0 p0 p1 EQ dll
 go_cut [15,16] (fun s15 s16 wx=>∃ (v':Rv) (F:Int),s16=.int .i64 F∧(F != 0)=(!g)∧Hid (TKr w wx o v' r1 sr ds)∧Hid (VN (w.heap.size+4) wx v v' r r1)∧Hid (Ow 7 snC 58 wx (w.heap.size+4) s15 out))
 case first =>
  have hop2:r=r1∧(out,g)=an20 o sr ds o.a.lv 3 c f l:=by
   have h:=HOP.out
   unfold op20 at h
   rw[if_neg (by decide),if_pos rfl] at h
   simp only[Prod.mk.injEq] at h
   obtain⟨h1,h2,h3⟩:=h
   exact⟨h1,by rw[←h2,← h3]⟩
  obtain⟨rfl,hag⟩:=hop2
  unfold an20 at hag
  have hmi:=HMI.out
  obtain⟨SE,hSE⟩:∃ D,(sr.a % 2==0)=D:=⟨_,rfl⟩
  have s0:w4.cell? ⟨w.heap.size+1,0,none⟩=some (.int .u8 sr.a):=T4.out.g5.c 0 _ rfl
  have y1:sr.a.tmod 2=sr.a % 2:=Int.tmod_eq_emod_of_nonneg HMC.out.1.a.1
  have y2:IntKind.u8.wrap (sr.a % 2)=sr.a % 2:=IntWalk.u8_in _ (by omega)
  cases MI with
  | false =>
   rw[if_neg (fun k=>by rw[decide_eq_true k.1] at hmi;cases hmi)] at hag
   simp only[Prod.mk.injEq] at hag
   obtain⟨rfl,rfl⟩:=hag
   clear hmi
   go_wp2_with fail
   go_meet
   exact⟨v,0,rfl,rfl,T4,hd0 (VN.refl _ _ _ _),hd0 (Ow.none _ _)⟩
  | true =>
   cases SE with
   | false =>
    rw[if_neg (fun k=>by rw[k.2] at hSE;cases hSE)] at hag
    simp only[Prod.mk.injEq] at hag
    obtain⟨rfl,rfl⟩:=hag
    clear hmi
    go_wp2_with fail
    go_meet
    exact⟨v,0,rfl,rfl,T4,hd0 (VN.refl _ _ _ _),hd0 (Ow.none _ _)⟩
   | true =>
    rw[if_pos ⟨of_decide_eq_true hmi,by simpa using hSE⟩] at hag
    obtain⟨⟨lv2,rp,nm,dt,e2⟩,htk⟩:∃ z,tkL o.a.lv 3 f l=z:=⟨_,rfl⟩
    obtain⟨sn,hsn⟩:∃ z,sentR sr o.a.lv 2 c f l=z:=⟨_,rfl⟩
    obtain⟨LN,hLN⟩:∃ z,sn.length=z:=⟨_,rfl⟩
    have LT:Hid (∀ W,Tls W (.slice ax n1 cx) l→Calls Tryz.prog 58 #[.agg #[.int .u8 o.a.lv,.int .u8 3,.int .u8 c,.string (bs f),.slice ax n1 cx]] W fun en w'=>en=.returned (.tuple #[.agg #[.int .u8 lv2,.bool rp,.int .u32 nm,.string (bs dt)],.int .i64 e2])∧Below W.heap.size W w'):=hd0 fun W hv=>by
     have h:=refTake14_any (.slice ax n1 cx) l o.a.lv 3 c f W HPB.out.pf hv HPB.out.pl
     rw[htk] at h;exact h
    have PT:Hid (∀ W,Tls W (.slice ax n1 cx) l→Calls Tryz.prog 45 #[.agg #[.int .u8 sr.a,.int .u8 sr.b,.int .u8 sr.c,.int .u8 sr.d,.int .u8 sr.e,.int .u8 sr.f],.agg #[.int .u8 o.a.lv,.int .u8 2,.int .u8 c,.string (bs f),.slice ax n1 cx]] W fun en w'=>∃ ua uc,en=.returned (.slice ua LN uc)∧Ow 7 snC 58 w' W.heap.size (.slice ua LN uc) sn∧Below W.heap.size W w'):=hd0 fun W hv=>by
     have h:=rsent_any sr (.slice ax n1 cx) o.a.lv 2 c f l W hv (by have:=HPB.out.pl;omega) (fun x hx=>by have:=HPB.out.ps x hx;unfold maxLen;omega) (by have:=HPB.out.pf;omega) HPB.out.pm HO.out.a.lv (by decide) hpc
     rw[hsn] at h
     refine h.mono fun en w' ⟨u,he,hu,hb⟩=>?_
     obtain⟨ua,uc,rfl,-⟩:=hu.cap
     rw[hLN] at he hu
     exact⟨ua,uc,he,hu,hb⟩
    have HLN:=hd0 hLN
    rw[htk,hsn] at hag
    simp only[] at hag
    have p0:=P4.out.c0
    have p1:=P4.out.c1
    have p2:=P4.out.c2
    have p3:=P4.out.c3
    have p4:=P4.out.c4
    clear hmi htk hsn hLN
    go_upto_region 20 with(go_at_call 58;(with_reducible refine(LT.out _ V4.out).mono ?_);rintro en w5 ⟨rfl,hb5⟩;have T5:=hd0 (T4.out.later hb5);have B5:Hid (Below q w1 w5):=hd0 (B4.out.trans (hb5.mono (by rw[←HQE.out];exact B4.out.size)));have P5:Hid (GB 115 w5 q #[.int .u8 o.a.lv,.int .u8 3,.int .u8 c,.string (bs f),.slice ax n1 cx]):=hd0 (P4.out.later hb5);clear hb5)
    clear p0 p1 p2 p3 p4 s0
    have p1:=P5.out.c 1 _ rfl
    have f1:=P5.out.fr 1
    go_upto_region 21 with fail
    have T6:=hd0 (T5.out.setHi HQ.out 1 (.int .u8 2))
    have P6:Hid (GB 115 (w5.setCell ⟨q,1,none⟩ (.int .u8 2)) q #[.int .u8 o.a.lv,.int .u8 2,.int .u8 c,.string (bs f),.slice ax n1 cx]):=hd0 (P5.out.set 1 (.int .u8 2))
    have V6:=hd0 (VB.out _ (below_set B5.out (Nat.le_refl q) (.int .u8 2) (o:=1)))
    obtain⟨w6,hw6⟩:∃ k,w5.setCell ⟨q,1,none⟩ (.int .u8 2)=k:=⟨_,rfl⟩
    rw[hw6] at T6 P6 V6 ⊢
    clear hw6 p1 f1 T5 P5 B5
    have p0:=P6.out.c 0 _ rfl
    have p1:=P6.out.c 1 _ rfl
    have p2:=P6.out.c 2 _ rfl
    have p3:=P6.out.c 3 _ rfl
    have p4:=P6.out.c 4 _ rfl
    have s0:=T6.out.g5.c 0 _ rfl
    have s1:=T6.out.g5.c 1 _ rfl
    have s2:=T6.out.g5.c 2 _ rfl
    have s3:=T6.out.g5.c 3 _ rfl
    have s4:=T6.out.g5.c 4 _ rfl
    have s5:=T6.out.g5.c 5 _ rfl
    go_upto_region 22 with(go_at_call 45;(with_reducible refine(PT.out _ V6.out).mono ?_);rintro en w7 ⟨ua,uc,rfl,hu,hb7⟩;have T7:=hd0 (T6.out.later hb7);have U7:=hd0 (hu.wk T6.out.sz);clear hb7 hu)
    clear p0 p1 p2 p3 p4 s0 s1 s2 s3 s4 s5
    by_cases he2:e2=0
    rotate_left
    ·rw[if_neg he2] at hag
     simp only[Prod.mk.injEq] at hag
     obtain⟨rfl,rfl⟩:=hag
     have de:(e2 != 0)=true:=by rw[bne_iff_ne];exact he2
     clear he2
     go_wp2_with fail
     go_meet
     exact⟨v,e2,rfl,de,T7,hd0 (VN.refl _ _ _ _),hd0 (Ow.none _ _)⟩
    subst he2
    rw[if_pos rfl] at hag
    simp only[Prod.mk.injEq] at hag
    obtain⟨rfl,hg⟩:=hag
    by_cases hz:LN=0
    ·have dz:(((LN:Nat):Int)==0)=true:=by rw[hz];rfl
     have hg2:g=false:=by rw[hg,HLN.out,hz];rfl
     subst hg2
     clear hz hg
     go_wp2_with fail
     go_meet
     exact⟨v,5,rfl,rfl,T7,hd0 (VN.refl _ _ _ _),U7⟩
    ·have dz:(((LN:Nat):Int)==0)=false:=by rw[beq_eq_false_iff_ne];omega
     have hg2:g=true:=by rw[hg,HLN.out];exact decide_eq_true (by omega)
     subst hg2
     clear hz hg
     go_wp2_with fail
     go_meet
     exact⟨v,0,rfl,rfl,T7,hd0 (VN.refl _ _ _ _),U7⟩
 case rest =>
  obtain⟨v',F,rfl,hF,TA,VA,UA⟩:=hcut
  have ONE:=hd0 (VA.out.one HX.out o)
  have IS:∀ r':Rf,(Tryz.prog.info? 44).map (·.size)=some (rfA o v' r').size:=fun r'=>info_mep
  have IL:∀ r':Rf,(Tryz.prog.info? 44).map (·.size)=some (rfA o v' r').toList.length:=fun r'=>info_mep
  cases g with
  | true =>
   have hF0:(F != 0)=false:=hF
   have BR:bad20 r1 true=r1:=rfl
   clear hF
   go_wp2_with (first
    |((with_reducible refine wpList_load_mid rfl 44 (.tmp 4) rfl w.heap.size 0 ?hx (rfA o v' r1).toList _ TA.out.rng Tryz.underlying44 ?hu (IL r1) ?_);(case hx=>rfl);(case hu=>rfl))
    |((with_reducible refine wpList_store_mid rfl 44 (.tmp 8) (.tmp 238) rfl (w.heap.size+3) 0 (rfA o v' r1) ?hx ?hy TA.out.thr (IS r1) (ONE.out r1) ?_);(case hx=>rfl);(case hy=>rfl)))
   exact bodyPost_ret (v:=.tuple #[.agg (rfA o v' r1),_]) (res_two (p:=8) (u:=9) (d:=_) rfl rfl Tryz.underlying44 _ _ (w.heap.size+3) _ rfl (TA.out.fin (ONE.out r1)) (IS r1)) rfl ⟨v',_,rfl,(VA.out.cells (by omega) _ _).wk (by omega),(UA.out.cellsLow (by omega) _ _).wk (by omega),below_cellsG (by omega) _ _ _ TA.out.bel⟩
  | false =>
   have hF0:(F != 0)=true:=hF
   clear hF
   have b15:∀ W,TKr w W o v' r1 sr ds→W.cell? ⟨w.heap.size,15,none⟩=some (.int .u64 r1.bad):=fun W h=>h.c 15 _ rfl
   have f15:=TA.out.gb.fr 15
   have k15:=b15 _ TA.out
   go_upto_region 49 with fail
   have TB2:=hd0 (TA.out.set 15 (.int .u64 (r1.bad+1)) (rfA_bad o v' r1 (r1.bad+1)))
   have VB2:=hd0 (VA.out.set (t:=w.heap.size) (by omega) 15 (.int .u64 (r1.bad+1)))
   have UB2:=hd0 (UA.out.setLow (t:=w.heap.size) (j:=15) (by omega) (.int .u64 (r1.bad+1)))
   clear b15 f15 k15 TA VA UA
   obtain⟨wb,hwb⟩:∃ z,wc.setCell ⟨w.heap.size,15,none⟩ (.int .u64 (r1.bad+1))=z:=⟨_,rfl⟩
   rw[hwb] at TB2 VB2 UB2 ⊢
   clear hwb
   obtain⟨r2,hr2⟩:∃ x:Rf,x={ r1 with bad:=r1.bad+1 }:=⟨_,rfl⟩
   have BR:bad20 r1 false=r2:=by rw[hr2];rfl
   rw[←hr2] at TB2
   have VB3:Hid (VN (w.heap.size+4) wb v v' r r2):=hd0 (by rw[hr2];exact⟨VB2.out.ov,VB2.out.sv,VB2.out.ws,VB2.out.nw,VB2.out.hd,VB2.out.wy⟩)
   clear hr2 VB2
   go_wp2_with (first
    |((with_reducible refine wpList_load_mid rfl 44 (.tmp 4) rfl w.heap.size 0 ?hx (rfA o v' r2).toList _ TB2.out.rng Tryz.underlying44 ?hu (IL r2) ?_);(case hx=>rfl);(case hu=>rfl))
    |((with_reducible refine wpList_store_mid rfl 44 (.tmp 8) (.tmp 238) rfl (w.heap.size+3) 0 (rfA o v' r2) ?hx ?hy TB2.out.thr (IS r2) (ONE.out r2) ?_);(case hx=>rfl);(case hy=>rfl)))
   exact bodyPost_ret (v:=.tuple #[.agg (rfA o v' r2),_]) (res_two (p:=8) (u:=9) (d:=_) rfl rfl Tryz.underlying44 _ _ (w.heap.size+3) _ rfl (TB2.out.fin (ONE.out r2)) (IS r2)) rfl ⟨v',_,by rw[BR];rfl,by rw[BR];exact(VB3.out.cells (by omega) _ _).wk (by omega),(UB2.out.cellsLow (by omega) _ _).wk (by omega),below_cellsG (by omega) _ _ _ TB2.out.bel⟩
theorem take20_b2 (o:Ow20)(ho:o.Ok)(hlv:o.a.lv<8)(ks:List Int)(v:Rv)(r:Rf)(hr:Rk r)(sr ds:Mc)(hsr:sr.Ok)(hds:ds.Ok)(d:List UInt8)(hd:d.length≤1600)(he:(tkP d).2.2.2.2.2=0)(hl:(tkP d).1=o.a.lv)(hb:(tkP d).2.1=2)(w:World)(h:RX w ks v r) :
  Calls Tryz.prog 19 #[.agg (rfA o v r),.agg #[.int .u8 sr.a,.int .u8 sr.b,.int .u8 sr.c,.int .u8 sr.d,.int .u8 sr.e,.int .u8 sr.f],.agg #[.int .u8 ds.a,.int .u8 ds.b,.int .u8 ds.c,.int .u8 ds.d,.int .u8 ds.e,.int .u8 ds.f],.string (bs d)] w fun en w'=>∃ v' u,en=.returned (.tuple #[.agg (rfA o v' (take20 o r sr ds d).1),u])∧VN w.heap.size w' v v' r (take20 o r sr ds d).1∧Ow 7 snC 58 w' w.heap.size u (take20 o r sr ds d).2∧Below w.heap.size w w':=by
 have hpb:=tkP_b d hd
 have hbad:(op20 o r sr ds (tkP d).1 (tkP d).2.1 (tkP d).2.2.1 (tkP d).2.2.2.1 (tkP d).2.2.2.2.1).1.bad=r.bad:=op20_bad _ _ _ _ _ _ _ _ _
 have HT20:take20 o r sr ds d=(bad20 (op20 o r sr ds (tkP d).1 (tkP d).2.1 (tkP d).2.2.1 (tkP d).2.2.2.1 (tkP d).2.2.2.2.1).1 (op20 o r sr ds (tkP d).1 (tkP d).2.1 (tkP d).2.2.1 (tkP d).2.2.2.1 (tkP d).2.2.2.2.1).2.2,(op20 o r sr ds (tkP d).1 (tkP d).2.1 (tkP d).2.2.1 (tkP d).2.2.2.1 (tkP d).2.2.2.2.1).2.1):=by
  unfold take20;rw[if_neg (fun k=>k he),if_neg (fun k=>k hl)]
 have T12:∀ W:World,_:=fun W=>refTake12_any d W (by omega)
 rw[HT20]
 obtain⟨⟨a,b,c,f,l,e⟩,ht⟩:∃ z,tkP d=z:=⟨_,rfl⟩
 rw[ht] at hpb he hl hb hbad ⊢
 simp only[ht] at T12
 simp only at hpb he hl hb hbad ⊢
 subst he hl hb
 obtain⟨⟨r1,out,g⟩,hop⟩:∃ z,op20 o r sr ds o.a.lv 2 c f l=z:=⟨_,rfl⟩
 rw[hop] at hbad ⊢
 simp only at hbad ⊢
 have HOP:=hd0 hop
 have T12:=hd0 T12
 have HX:=hd0 h
 have HO:=hd0 ho
 have HR:=hd0 hr
 have HMC:=hd0 (And.intro hsr hds)
 have HPB:=hd0 hpb
 have hb1:0≤r1.bad∧r1.bad≤900:=by rw[hbad];exact⟨hr.ok.bad.1,hr.bad⟩
 have wb1:IntKind.u64.wrap (r1.bad+1)=r1.bad+1:=IntWalk.u64_in _ (by omega)
 have hpc:0≤c∧c<256:=hpb.pc
 have wl:IntKind.i64.wrap o.a.lv=o.a.lv:=IntWalk.i64_in _ (by have:=ho.a.lv;omega)
 have dll:(o.a.lv != o.a.lv)=false:=by simp
 have LV:Hid (∀ W,Calls Tryz.prog 44 #[.int .i64 o.a.lv] W fun en w'=>en=.returned (.tuple #[.agg #[.int .u8 1,.int .u8 128,.int .u8 194,.int .u8 0,.int .u8 0,.int .u8 (48+o.a.lv)],.agg #[.int .u8 1,.int .u8 128,.int .u8 194,.int .u8 0,.int .u8 0,.int .u8 (56+o.a.lv)]])∧Below W.heap.size W w'):=hd0 fun W=>refLevels_any o.a.lv W HO.out.a.lv.1 hlv
 obtain⟨MI,hMI⟩:∃ D,decide (ds=o.mc)=D:=⟨_,rfl⟩
 have EQ:∀ W:World,(binOp .eql 25 (.agg #[.int .u8 ds.a,.int .u8 ds.b,.int .u8 ds.c,.int .u8 ds.d,.int .u8 ds.e,.int .u8 ds.f]) (.agg #[.int .u8 o.mc.a,.int .u8 o.mc.b,.int .u8 o.mc.c,.int .u8 o.mc.d,.int .u8 o.mc.e,.int .u8 o.mc.f])).run Tryz.prog W=.ok (.bool MI) W:=fun W=>by rw[←hMI];exact eql_macG ds o.mc W
 have HMI:=hd0 hMI
 have T0:=hd0 (TKr.begin w o v r sr ds)
 clear hop h ho hr hsr hds hd hpb ht HT20 hMI hlv hbad
 go_enter Tryz.func19,Tryz.ntmps19
 go_upto_region 1 with fail
 obtain⟨w0,hw0⟩:∃ z,(((w.alloc (.cells (rfA o v r) 44)).alloc (.cells #[.int .u8 sr.a,.int .u8 sr.b,.int .u8 sr.c,.int .u8 sr.d,.int .u8 sr.e,.int .u8 sr.f] 25)).alloc (.cells #[.int .u8 ds.a,.int .u8 ds.b,.int .u8 ds.c,.int .u8 ds.d,.int .u8 ds.e,.int .u8 ds.f] 25)).alloc (.cells yP 44)=z:=⟨_,rfl⟩
 rw[hw0] at T0 ⊢
 clear hw0
 go_wp2_with fail
 with_reducible refine(T12.out _).mono ?_
 rintro en w1 ⟨vl,rfl,htl,hb1'⟩
 have T1:=hd0 (T0.out.later hb1')
 obtain⟨ax,cx,hvx,-⟩:=htl.tls.shape
 obtain⟨n1,hn1⟩:∃ n,l.length=n:=⟨_,rfl⟩
 rw[hn1] at hvx
 subst hvx
 have V1:=hd0 htl.tls
 clear htl hb1' T0 hn1 T12
 go_upto_region 2 with fail
 have g2:=PB.new 115 w1 o.a.lv 2 c f (.slice ax n1 cx)
 have hal:=(Below.refl w1.heap.size w1).alloc (Nat.le_refl _) (.cells #[.int .u8 o.a.lv,.int .u8 2,.int .u8 c,.string (bs f),.slice ax n1 cx] 115)
 have T2:=hd0 (T1.out.later hal)
 have V2:=hd0 (V1.out.later hal)
 have hq2:w.heap.size+4≤w1.heap.size:=T1.out.sz
 obtain⟨w2,hw2⟩:∃ z,w1.alloc (.cells #[.int .u8 o.a.lv,.int .u8 2,.int .u8 c,.string (bs f),.slice ax n1 cx] 115)=z:=⟨_,rfl⟩
 obtain⟨q,hq⟩:∃ z,w1.heap.size=z:=⟨_,rfl⟩
 rw[hw2] at T2 V2 g2 hal ⊢
 have VB0:∀ W,Below w1.heap.size w1 W→Tls W (.slice ax n1 cx) l:=fun W hb=>V1.out.later hb
 rw[hq] at g2 hq2 hal VB0 ⊢
 have VB:=hd0 VB0
 have B2:=hd0 hal
 have HQE:=hd0 hq
 have P2:=hd0 g2
 have HQ:=hd0 hq2
 have c0:w2.cell? ⟨w.heap.size,0,none⟩=some (.int .u8 o.a.lv):=T2.out.c 0 _ rfl
 clear hw2 hq g2 hal T1 V1 hq2 VB0
 go_upto_region 6 with(go_at_call 44;(with_reducible refine(LV.out _).mono ?_);rintro en w3 ⟨rfl,hb3⟩;have T3:=hd0 (T2.out.later hb3);have V3:=hd0 (V2.out.later hb3);have P3:=hd0 (P2.out.later hb3);have B3:Hid (Below q w1 w3):=hd0 (B2.out.trans (hb3.mono (by rw[←HQE.out];exact B2.out.size)));clear hb3)
 have A4:Below w3.heap.size w3 ((w3.alloc (.cells #[.int .u8 1,.int .u8 128,.int .u8 194,.int .u8 0,.int .u8 0,.int .u8 (48+o.a.lv)] 25)).alloc (.cells #[.int .u8 1,.int .u8 128,.int .u8 194,.int .u8 0,.int .u8 0,.int .u8 (56+o.a.lv)] 25)):=(bA _).alloc (by simp) _
 have GM:=GB.new 25 (w3.alloc (.cells #[.int .u8 1,.int .u8 128,.int .u8 194,.int .u8 0,.int .u8 0,.int .u8 (48+o.a.lv)] 25)) #[.int .u8 1,.int .u8 128,.int .u8 194,.int .u8 0,.int .u8 0,.int .u8 (56+o.a.lv)]
 rw[show(w3.alloc (.cells #[.int .u8 1,.int .u8 128,.int .u8 194,.int .u8 0,.int .u8 0,.int .u8 (48+o.a.lv)] 25)).heap.size=w3.heap.size+1 by simp] at GM
 obtain⟨w4,hw4⟩:∃ k,(w3.alloc (.cells #[.int .u8 1,.int .u8 128,.int .u8 194,.int .u8 0,.int .u8 0,.int .u8 (48+o.a.lv)] 25)).alloc (.cells #[.int .u8 1,.int .u8 128,.int .u8 194,.int .u8 0,.int .u8 0,.int .u8 (56+o.a.lv)] 25)=k:=⟨_,rfl⟩
 obtain⟨q3,hq3⟩:∃ k,w3.heap.size=k:=⟨_,rfl⟩
 have hq3s:w.heap.size+4≤w3.heap.size:=T3.out.sz
 rw[hw4] at A4 GM ⊢
 have T4:=hd0 (T3.out.later A4)
 have V4:=hd0 (V3.out.later A4)
 have P4:=hd0 (P3.out.later A4)
 have B4:Hid (Below q w1 w4):=hd0 (B3.out.trans (A4.mono (by rw[←HQE.out];exact B3.out.size)))
 rw[hq3] at GM hq3s ⊢
 have GM4:=hd0 GM
 have HQ3:=hd0 hq3s
 have d0:=T4.out.g6.c 0 _ rfl
 have d1:=T4.out.g6.c 1 _ rfl
 have d2:=T4.out.g6.c 2 _ rfl
 have d3:=T4.out.g6.c 3 _ rfl
 have d4:=T4.out.g6.c 4 _ rfl
 have d5:=T4.out.g6.c 5 _ rfl
 have m0:w4.cell? ⟨w.heap.size,5,none⟩=some (.int .u8 o.mc.a):=T4.out.c 5 _ rfl
 have m1:w4.cell? ⟨w.heap.size,6,none⟩=some (.int .u8 o.mc.b):=T4.out.c 6 _ rfl
 have m2:w4.cell? ⟨w.heap.size,7,none⟩=some (.int .u8 o.mc.c):=T4.out.c 7 _ rfl
 have m3:w4.cell? ⟨w.heap.size,8,none⟩=some (.int .u8 o.mc.d):=T4.out.c 8 _ rfl
 have m4:w4.cell? ⟨w.heap.size,9,none⟩=some (.int .u8 o.mc.e):=T4.out.c 9 _ rfl
 have m5:w4.cell? ⟨w.heap.size,10,none⟩=some (.int .u8 o.mc.f):=T4.out.c 10 _ rfl
 have k0:w4.cell? ⟨w.heap.size,0,none⟩=some (.int .u8 o.a.lv):=T4.out.c 0 _ rfl
 have p0:=P4.out.c0
 have p1:=P4.out.c1
 clear A4 GM hw4 hq3 hq3s T2 T3 V2 V3 P2 P3 B2 B3 c0 wl LV
 go_upto_block 0 with fail
 clear d0 d1 d2 d3 d4 d5 m0 m1 m2 m3 m4 m5 k0 p0 p1 EQ dll
 go_cut [15,16] (fun s15 s16 wx=>∃ (v':Rv) (F:Int),s16=.int .i64 F∧(F != 0)=(!g)∧Hid (TKr w wx o v' r1 sr ds)∧Hid (VN (w.heap.size+4) wx v v' r r1)∧Hid (Ow 7 snC 58 wx (w.heap.size+4) s15 out))
 case first =>
  have hop2:(lr20 o r ds o.a.lv 2 f l).1=r1∧[]=out∧(lr20 o r ds o.a.lv 2 f l).2=g:=by
   have h:=HOP.out
   unfold op20 at h
   rw[if_neg (by decide),if_neg (by decide),if_pos rfl] at h
   simp only[Prod.mk.injEq] at h
   exact h
  obtain⟨hr1,rfl,hg⟩:=hop2
  have hmi:=HMI.out
  cases MI with
  | false =>
   unfold lr20 at hr1 hg
   rw[if_neg (of_decide_eq_false hmi)] at hr1 hg
   simp only[] at hr1 hg
   subst hr1;subst hg
   clear hmi
   go_wp2_with fail
   go_meet
   exact⟨v,0,rfl,rfl,T4,hd0 (VN.refl _ _ _ _),hd0 (Ow.none _ _)⟩
  | true =>
   obtain⟨⟨lv2,rp,nm,dt,e2⟩,htk⟩:∃ z,tkL o.a.lv 2 f l=z:=⟨_,rfl⟩
   have LT:Hid (∀ W,Tls W (.slice ax n1 cx) l→Calls Tryz.prog 58 #[.agg #[.int .u8 o.a.lv,.int .u8 2,.int .u8 c,.string (bs f),.slice ax n1 cx]] W fun en w'=>en=.returned (.tuple #[.agg #[.int .u8 lv2,.bool rp,.int .u32 nm,.string (bs dt)],.int .i64 e2])∧Below W.heap.size W w'):=hd0 fun W hv=>by
    have h:=refTake14_any (.slice ax n1 cx) l o.a.lv 2 c f W HPB.out.pf hv HPB.out.pl
    rw[htk] at h;exact h
   have hR1:r1=if e2=0∧0<r.lp∧nm=r.lp then(if dt=r.dat then { r with rep:=r.rep+1,ali:=r.ali+1 } else { r with rep:=r.rep+1 }) else r:=by
    rw[←hr1];unfold lr20;rw[if_pos (of_decide_eq_true hmi),htk]
   have hG:g=decide (e2=0):=by
    rw[←hg];unfold lr20;rw[if_pos (of_decide_eq_true hmi),htk]
   clear hr1 hg
   have p0:=P4.out.c0
   have p1:=P4.out.c1
   have p2:=P4.out.c2
   have p3:=P4.out.c3
   have p4:=P4.out.c4
   clear hmi htk
   go_upto_region 29 with(go_at_call 58;(with_reducible refine(LT.out _ V4.out).mono ?_);rintro en w5 ⟨rfl,hb5⟩;have T5:=hd0 (T4.out.later hb5);clear hb5)
   have GX:=GB.new 129 w5 #[.int .u8 lv2,.bool rp,.int .u32 nm,.string (bs dt)]
   have T6:=hd0 (T5.out.later (bA (.cells #[.int .u8 lv2,.bool rp,.int .u32 nm,.string (bs dt)] 129)))
   obtain⟨w6,hw6⟩:∃ k,w5.alloc (.cells #[.int .u8 lv2,.bool rp,.int .u32 nm,.string (bs dt)] 129)=k:=⟨_,rfl⟩
   have hqx:w.heap.size+4≤w5.heap.size:=T5.out.sz
   obtain⟨q19,hq19⟩:∃ k,w5.heap.size=k:=⟨_,rfl⟩
   rw[hw6] at GX T6 ⊢
   rw[hq19] at GX hqx ⊢
   have HQX:=hd0 hqx
   have x2:=GX.c 2 (.int .u32 nm) rfl
   have GX6:=hd0 GX
   clear hw6 hq19 GX T5 p0 p1 p2 p3 p4 hqx
   by_cases he2:e2=0
   rotate_left
   ·rw[if_neg (fun k=>he2 k.1)] at hR1
    subst hR1
    have hg2:g=false:=by rw[hG];exact decide_eq_false he2
    subst hg2
    have de:(e2==0)=false:=by rw[beq_eq_false_iff_ne];exact he2
    have HE:=hd0 (show(e2 != 0)=(!false) by rw[Bool.not_false,bne_iff_ne];exact he2)
    clear he2 hG
    go_wp2_with fail
    go_meet
    exact⟨v,e2,rfl,HE.out,T6,hd0 (VN.refl _ _ _ _),hd0 (Ow.none _ _)⟩
   subst he2
   have hg2:g=true:=hG
   subst hg2
   clear hG
   have k16:w6.cell? ⟨w.heap.size,16,none⟩=some (.int .u32 r.lp):=T6.out.c 16 _ rfl
   by_cases hlp:0<r.lp
   rotate_left
   ·rw[if_neg (fun k=>hlp k.2.1)] at hR1
    subst hR1
    have dl:decide (0<r1.lp)=false:=decide_eq_false hlp
    clear hlp
    go_wp2_with fail
    go_meet
    exact⟨v,0,rfl,rfl,T6,hd0 (VN.refl _ _ _ _),hd0 (Ow.none _ _)⟩
   have dl:decide (0<r.lp)=true:=decide_eq_true hlp
   by_cases hnm:nm=r.lp
   rotate_left
   ·rw[if_neg (fun k=>hnm k.2.2)] at hR1
    subst hR1
    have dn:(nm==r1.lp)=false:=by rw[beq_eq_false_iff_ne];exact hnm
    clear hlp hnm
    go_wp2_with fail
    go_meet
    exact⟨v,0,rfl,rfl,T6,hd0 (VN.refl _ _ _ _),hd0 (Ow.none _ _)⟩
   have dn:(nm==r.lp)=true:=by rw[hnm];simp
   rw[if_pos ⟨rfl,hlp,hnm⟩] at hR1
   clear hlp hnm
   have x3:=GX6.out.c 3 (.string (bs dt)) rfl
   have k17:w6.cell? ⟨w.heap.size,17,none⟩=some (.string (bs r.dat)):=T6.out.c 17 _ rfl
   have k18:w6.cell? ⟨w.heap.size,18,none⟩=some (.int .i64 r.rep):=T6.out.c 18 _ rfl
   have k19:w6.cell? ⟨w.heap.size,19,none⟩=some (.int .i64 r.ali):=T6.out.c 19 _ rfl
   have f18:=T6.out.gb.fr 18
   have f19:=T6.out.gb.fr 19
   have w18:IntKind.i64.wrap (r.rep+1)=r.rep+1:=IntWalk.i64_in _ (by have:=HR.out.ok.rep;have:=HR.out.rep;omega)
   have w19:IntKind.i64.wrap (r.ali+1)=r.ali+1:=IntWalk.i64_in _ (by have:=HR.out.ok.ali;have:=HR.out.ali;omega)
   have T7:=hd0 (T6.out.set 18 (.int .i64 (r.rep+1)) (rfA_rep o v r (r.rep+1)))
   obtain⟨ra,hra⟩:∃ x:Rf,x={ r with rep:=r.rep+1 }:=⟨_,rfl⟩
   have HRA:=hd0 hra
   rw[←hra] at T7
   have hqne:¬ q19=w.heap.size:=by have:=HQX.out;omega
   by_cases hdt:dt=r.dat
   ·have dd:((bs dt).toList==(bs r.dat).toList)=true:=by rw[bs_tl_eq];exact decide_eq_true hdt
    have dd2:(bs dt==bs r.dat)=true:=by rw[bs_beq];exact decide_eq_true hdt
    rw[if_pos hdt] at hR1
    have T8:=hd0 (T7.out.set 19 (.int .i64 (r.ali+1)) (rfA_ali o v ra (r.ali+1)))
    have hR2:r1={ ra with ali:=r.ali+1 }:=by rw[hR1,hra]
    rw[←hR2] at T8
    have HR2:=hd0 (And.intro hR1 trivial)
    clear hdt hR1 hR2 hra
    go_wp2_with fail
    go_meet
    exact⟨v,0,rfl,rfl,T8,hd0 (by rw[HR2.out.1];exact⟨rfl,rfl,rfl,rfl,.inl ⟨rfl,rfl⟩,.inl ⟨rfl,rfl⟩⟩),hd0 (Ow.none _ _)⟩
   ·have dd:((bs dt).toList==(bs r.dat).toList)=false:=by rw[bs_tl_eq];exact decide_eq_false hdt
    have dd2:(bs dt==bs r.dat)=false:=by rw[bs_beq];exact decide_eq_false hdt
    rw[if_neg hdt,← hra] at hR1
    subst hR1
    clear hdt hra
    go_wp2_with fail
    go_meet
    exact⟨v,0,rfl,rfl,T7,hd0 (by rw[HRA.out];exact⟨rfl,rfl,rfl,rfl,.inl ⟨rfl,rfl⟩,.inl ⟨rfl,rfl⟩⟩),hd0 (Ow.none _ _)⟩
 case rest =>
  obtain⟨v',F,rfl,hF,TA,VA,UA⟩:=hcut
  have ONE:=hd0 (VA.out.one HX.out o)
  have IS:∀ r':Rf,(Tryz.prog.info? 44).map (·.size)=some (rfA o v' r').size:=fun r'=>info_mep
  have IL:∀ r':Rf,(Tryz.prog.info? 44).map (·.size)=some (rfA o v' r').toList.length:=fun r'=>info_mep
  cases g with
  | true =>
   have hF0:(F != 0)=false:=hF
   have BR:bad20 r1 true=r1:=rfl
   clear hF
   go_wp2_with (first
    |((with_reducible refine wpList_load_mid rfl 44 (.tmp 4) rfl w.heap.size 0 ?hx (rfA o v' r1).toList _ TA.out.rng Tryz.underlying44 ?hu (IL r1) ?_);(case hx=>rfl);(case hu=>rfl))
    |((with_reducible refine wpList_store_mid rfl 44 (.tmp 8) (.tmp 238) rfl (w.heap.size+3) 0 (rfA o v' r1) ?hx ?hy TA.out.thr (IS r1) (ONE.out r1) ?_);(case hx=>rfl);(case hy=>rfl)))
   exact bodyPost_ret (v:=.tuple #[.agg (rfA o v' r1),_]) (res_two (p:=8) (u:=9) (d:=_) rfl rfl Tryz.underlying44 _ _ (w.heap.size+3) _ rfl (TA.out.fin (ONE.out r1)) (IS r1)) rfl ⟨v',_,rfl,(VA.out.cells (by omega) _ _).wk (by omega),(UA.out.cellsLow (by omega) _ _).wk (by omega),below_cellsG (by omega) _ _ _ TA.out.bel⟩
  | false =>
   have hF0:(F != 0)=true:=hF
   clear hF
   have b15:∀ W,TKr w W o v' r1 sr ds→W.cell? ⟨w.heap.size,15,none⟩=some (.int .u64 r1.bad):=fun W h=>h.c 15 _ rfl
   have f15:=TA.out.gb.fr 15
   have k15:=b15 _ TA.out
   go_upto_region 49 with fail
   have TB2:=hd0 (TA.out.set 15 (.int .u64 (r1.bad+1)) (rfA_bad o v' r1 (r1.bad+1)))
   have VB2:=hd0 (VA.out.set (t:=w.heap.size) (by omega) 15 (.int .u64 (r1.bad+1)))
   have UB2:=hd0 (UA.out.setLow (t:=w.heap.size) (j:=15) (by omega) (.int .u64 (r1.bad+1)))
   clear b15 f15 k15 TA VA UA
   obtain⟨wb,hwb⟩:∃ z,wc.setCell ⟨w.heap.size,15,none⟩ (.int .u64 (r1.bad+1))=z:=⟨_,rfl⟩
   rw[hwb] at TB2 VB2 UB2 ⊢
   clear hwb
   obtain⟨r2,hr2⟩:∃ x:Rf,x={ r1 with bad:=r1.bad+1 }:=⟨_,rfl⟩
   have BR:bad20 r1 false=r2:=by rw[hr2];rfl
   rw[←hr2] at TB2
   have VB3:Hid (VN (w.heap.size+4) wb v v' r r2):=hd0 (by rw[hr2];exact⟨VB2.out.ov,VB2.out.sv,VB2.out.ws,VB2.out.nw,VB2.out.hd,VB2.out.wy⟩)
   clear hr2 VB2
   go_wp2_with (first
    |((with_reducible refine wpList_load_mid rfl 44 (.tmp 4) rfl w.heap.size 0 ?hx (rfA o v' r2).toList _ TB2.out.rng Tryz.underlying44 ?hu (IL r2) ?_);(case hx=>rfl);(case hu=>rfl))
    |((with_reducible refine wpList_store_mid rfl 44 (.tmp 8) (.tmp 238) rfl (w.heap.size+3) 0 (rfA o v' r2) ?hx ?hy TB2.out.thr (IS r2) (ONE.out r2) ?_);(case hx=>rfl);(case hy=>rfl)))
   exact bodyPost_ret (v:=.tuple #[.agg (rfA o v' r2),_]) (res_two (p:=8) (u:=9) (d:=_) rfl rfl Tryz.underlying44 _ _ (w.heap.size+3) _ rfl (TB2.out.fin (ONE.out r2)) (IS r2)) rfl ⟨v',_,by rw[BR];rfl,by rw[BR];exact(VB3.out.cells (by omega) _ _).wk (by omega),(UB2.out.cellsLow (by omega) _ _).wk (by omega),below_cellsG (by omega) _ _ _ TB2.out.bel⟩
end Go.Proofs.YtlkdfofpnmpidaaGreat
