/- ZQ32 -/
import Derived.Test.YtlkdfofpnmpidaaGreatZQ26
set_option linter.unusedVariables false
set_option linter.unusedSimpArgs false
set_option maxRecDepth 100000
set_option maxHeartbeats 16000000
namespace Go.Proofs.YtlkdfofpnmpidaaGreat
open Go.RowKit
theorem seek20_any (o:Ow20)(ho:o.Ok)(hlv:o.a.lv<8)(ks:List Int)(v:Rv)(r:Rf)(hr:r.Ok)(htr:r.tr≤900)(m:Mc)(hm:m.Ok)(tl:Int)(htl:0≤tl∧tl<256)(w:World)(h:RX w ks v r) :
  Calls Tryz.prog 17 #[.agg (rfA o v r),.agg #[.int .u8 m.a,.int .u8 m.b,.int .u8 m.c,.int .u8 m.d,.int .u8 m.e,.int .u8 m.f],.int .u8 tl] w fun en w'=>∃ v',en=.returned (.tuple #[.agg (rfA o v' (seek20 o r m tl).1),.agg (snC (seek20 o r m tl).2.1).toArray,.int .i64 (seek20 o r m tl).2.2])∧VN w.heap.size w' v v' r (seek20 o r m tl).1∧Below w.heap.size w w':=by
 have HH:Hid (∀ w,Calls Tryz.prog 32 #[.agg #[.int .u8 m.a,.int .u8 m.b,.int .u8 m.c,.int .u8 m.d,.int .u8 m.e,.int .u8 m.f]] w fun en w'=>en=.returned (.bool (hostV m))∧Below w.heap.size w w'):=hd0 fun w=>refHost_any m hm w
 have HO:=hd0 ho
 have ONE:Hid (∀ r':Rf,(rfA o v r').all (·.oneCell')=true):=hd0 fun r'=>h.one o r'
 have IS:∀ r':Rf,(Tryz.prog.info? 44).map (·.size)=some (rfA o v r').size:=fun r'=>info_mep
 have IL:∀ r':Rf,(Tryz.prog.info? 44).map (·.size)=some (rfA o v r').toList.length:=fun r'=>info_mep
 have HIS:Hid ((Tryz.prog.info? 58).map (·.size)=some (snC sn0).toArray.size):=hd0 info_sn
 have htr0:=hr.tr
 have HM:=hd0 hm
 have ONE1:Hid (∀ r':Rf,(rfA o { v with yv:=.slice none 0 0 } r').all (·.oneCell')=true):=hd0 fun r'=>rfA_one o _ r' h.ks.oneC h.hd.oneC h.ws.oneC rfl
 obtain⟨R,hR⟩:∃ R,seek20 o r m tl=R:=⟨_,rfl⟩
 have HR:=hd0 hR
 rw[hR]
 have A0:=hd0 (AQ.begin w o v r m)
 obtain⟨HV,hHV⟩:∃ z,hostV m=z:=⟨_,rfl⟩
 have HHV:=hd0 hHV
 rw[hHV] at HH
 clear hR h ho hr hm hHV
 go_enter Tryz.func17,Tryz.ntmps17
 go_upto_region 1 with fail
 obtain⟨w0,hw0⟩:∃ z,(((w.alloc (.cells (rfA o v r) 44)).alloc (.cells #[.int .u8 m.a,.int .u8 m.b,.int .u8 m.c,.int .u8 m.d,.int .u8 m.e,.int .u8 m.f] 25)).alloc (.cells yP 44)).alloc (.cells yS 58)=z:=⟨_,rfl⟩
 rw[hw0] at A0 ⊢
 clear hw0
 have s0:=A0.out.g4.c 0 _ rfl
 have s1:=A0.out.g4.c 1 _ rfl
 have s2:=A0.out.g4.c 2 _ rfl
 have s3:=A0.out.g4.c 3 _ rfl
 have s4:=A0.out.g4.c 4 _ rfl
 have s5:=A0.out.g4.c 5 _ rfl
 go_wp2_with fail
 with_reducible refine(HH.out _).mono ?_
 rintro en w1 ⟨rfl,hb1⟩
 have A1:=hd0 (A0.out.later hb1)
 clear hb1 A0 s0 s1 s2 s3 s4 s5
 cases HV with
 | false =>
  have HE:Hid (R=(r,sn0,2)):=hd0 (by rw[←HR.out];unfold seek20;rw[if_pos (.inl HHV.out)])
  go_wp2_with (first
   |((with_reducible refine wpList_load_mid rfl 44 (.tmp 3) rfl w.heap.size 0 ?hx (rfA o v r).toList _ A1.out.rng Tryz.underlying44 ?hu (IL r) ?_);(case hx=>rfl);(case hu=>rfl))
   |((with_reducible refine wpList_store_mid rfl 44 (.tmp 6) (.tmp 20) rfl (w.heap.size+2) 0 (rfA o v r) ?hx ?hy A1.out.thr (IS r) (ONE.out r) ?_);(case hx=>rfl);(case hy=>rfl);have g2:GB 44 (w1.setCells (w.heap.size+2) 0 (rfA o v r).toList) (w.heap.size+2) (rfA o v r):=A1.out.gz.store rfl (ONE.out r);have g3:GB 58 (w1.setCells (w.heap.size+2) 0 (rfA o v r).toList) (w.heap.size+3) sz7:=GB.cellsOther (by omega) _ _ _ A1.out.gs;have b2:=below_cellsG (B:=w.heap.size) (t:=w.heap.size+2) (by omega) (rfA o v r).toList 0 w1 A1.out.bel;obtain⟨w2,hw2⟩:∃ k,w1.setCells (w.heap.size+2) 0 (rfA o v r).toList=k:=⟨_,rfl⟩;rw[hw2] at g2 g3 b2 ⊢;have TH3:Hid (w2.there (w.heap.size+3) 0 (snC sn0).toArray.size):=hd0 (g3.there (Nat.le_refl _));have G2:=hd0 g2;have G3:=hd0 g3;have B2:=hd0 b2;clear g2 g3 b2 hw2)
   |((with_reducible refine wpList_store_mid rfl 58 (.tmp 7) (.tmp 21) rfl (w.heap.size+3) 0 (snC sn0).toArray ?hx ?hy TH3.out HIS.out (snA_one sn0) ?_);(case hx=>rfl);(case hy=>rfl);simp only[List.toList_toArray];have g2:GB 44 (w2.setCells (w.heap.size+3) 0 (snC sn0)) (w.heap.size+2) (rfA o v r):=GB.cellsOther (by omega) _ _ _ G2.out;have g3:GB 58 (w2.setCells (w.heap.size+3) 0 (snC sn0)) (w.heap.size+3) (snC sn0).toArray:=G3.out.store (A:=(snC sn0).toArray) rfl (snA_one sn0);have b2:=below_cellsG (B:=w.heap.size) (t:=w.heap.size+3) (by omega) (snC sn0) 0 w2 B2.out;obtain⟨w3,hw3⟩:∃ k,w2.setCells (w.heap.size+3) 0 (snC sn0)=k:=⟨_,rfl⟩;rw[hw3] at g2 g3 b2 ⊢;have F1:=hd0 g2;have F2:=hd0 g3;have F3:=hd0 b2;clear g2 g3 b2 hw3))
  exact bodyPost_ret (v:=.tuple #[.agg (rfA o v r),.agg (snC sn0).toArray,.int .i64 2]) (res_cct (p:=6) (p':=7) (u:=8) (d:=_) (d':=_) rfl rfl rfl Tryz.underlying44 Tryz.underlying58 _ _ (w.heap.size+2) (w.heap.size+3) _ _ rfl rfl F1.out F2.out (IS r) info_sn) rfl ⟨v,by rw[HE.out],by rw[HE.out];exact VN.refl _ _ _ _,F3.out⟩
 | true =>
  by_cases h0:tl=0
  ·have d0:(tl==0)=true:=by rw[h0];rfl
   have HE:Hid (R=(r,sn0,2)):=hd0 (by rw[←HR.out];unfold seek20;rw[if_pos (.inr h0)])
   clear h0
   go_wp2_with (first
    |((with_reducible refine wpList_load_mid rfl 44 (.tmp 3) rfl w.heap.size 0 ?hx (rfA o v r).toList _ A1.out.rng Tryz.underlying44 ?hu (IL r) ?_);(case hx=>rfl);(case hu=>rfl))
    |((with_reducible refine wpList_store_mid rfl 44 (.tmp 6) (.tmp 20) rfl (w.heap.size+2) 0 (rfA o v r) ?hx ?hy A1.out.thr (IS r) (ONE.out r) ?_);(case hx=>rfl);(case hy=>rfl);have g2:GB 44 (w1.setCells (w.heap.size+2) 0 (rfA o v r).toList) (w.heap.size+2) (rfA o v r):=A1.out.gz.store rfl (ONE.out r);have g3:GB 58 (w1.setCells (w.heap.size+2) 0 (rfA o v r).toList) (w.heap.size+3) sz7:=GB.cellsOther (by omega) _ _ _ A1.out.gs;have b2:=below_cellsG (B:=w.heap.size) (t:=w.heap.size+2) (by omega) (rfA o v r).toList 0 w1 A1.out.bel;obtain⟨w2,hw2⟩:∃ k,w1.setCells (w.heap.size+2) 0 (rfA o v r).toList=k:=⟨_,rfl⟩;rw[hw2] at g2 g3 b2 ⊢;have TH3:Hid (w2.there (w.heap.size+3) 0 (snC sn0).toArray.size):=hd0 (g3.there (Nat.le_refl _));have G2:=hd0 g2;have G3:=hd0 g3;have B2:=hd0 b2;clear g2 g3 b2 hw2)
    |((with_reducible refine wpList_store_mid rfl 58 (.tmp 7) (.tmp 21) rfl (w.heap.size+3) 0 (snC sn0).toArray ?hx ?hy TH3.out HIS.out (snA_one sn0) ?_);(case hx=>rfl);(case hy=>rfl);simp only[List.toList_toArray];have g2:GB 44 (w2.setCells (w.heap.size+3) 0 (snC sn0)) (w.heap.size+2) (rfA o v r):=GB.cellsOther (by omega) _ _ _ G2.out;have g3:GB 58 (w2.setCells (w.heap.size+3) 0 (snC sn0)) (w.heap.size+3) (snC sn0).toArray:=G3.out.store (A:=(snC sn0).toArray) rfl (snA_one sn0);have b2:=below_cellsG (B:=w.heap.size) (t:=w.heap.size+3) (by omega) (snC sn0) 0 w2 B2.out;obtain⟨w3,hw3⟩:∃ k,w2.setCells (w.heap.size+3) 0 (snC sn0)=k:=⟨_,rfl⟩;rw[hw3] at g2 g3 b2 ⊢;have F1:=hd0 g2;have F2:=hd0 g3;have F3:=hd0 b2;clear g2 g3 b2 hw3))
   exact bodyPost_ret (v:=.tuple #[.agg (rfA o v r),.agg (snC sn0).toArray,.int .i64 2]) (res_cct (p:=6) (p':=7) (u:=8) (d:=_) (d':=_) rfl rfl rfl Tryz.underlying44 Tryz.underlying58 _ _ (w.heap.size+2) (w.heap.size+3) _ _ rfl rfl F1.out F2.out (IS r) info_sn) rfl ⟨v,by rw[HE.out],by rw[HE.out];exact VN.refl _ _ _ _,F3.out⟩
  have d0:(tl==0)=false:=by rw[beq_eq_false_iff_ne];exact h0
  obtain⟨n,hn⟩:∃ n,r.tr+1=n:=⟨_,rfl⟩
  have HN:=hd0 (show 0≤n∧n<4294967296 by omega)
  have wn:IntKind.u32.wrap (r.tr+1)=n:=by rw[hn];exact IntWalk.u32_in _ (by omega)
  obtain⟨r1,hr1⟩:∃ x:Rf,x={ r with tr:=n,way:=[] }:=⟨_,rfl⟩
  obtain⟨v1,hv1⟩:∃ x:Rv,x={ v with yv:=.slice none 0 0 }:=⟨_,rfl⟩
  have HE:Hid (R=(r1,⟨trcG o.a.lv,(tracP (askT o n m tl)).1⟩,0)):=hd0 (by rw[←HR.out];unfold seek20;rw[if_neg (by rw[HHV.out];rintro (k|k) <;> first|exact h0 k|cases k),hn,hr1])
  have HR1:=hd0 hr1
  have HV1:=hd0 hv1
  have HTL:=hd0 htl
  have k20:=A1.out.c 20 (.int .u32 r.tr) rfl
  have k21:=A1.out.c 21 v.yv rfl
  have f20:=A1.out.gb.fr 20
  have f21:=A1.out.gb.fr 21
  go_upto_region 5 with fail
  have A5:Hid (AQ w ((w1.setCell ⟨w.heap.size,20,none⟩ (.int .u32 n)).setCell ⟨w.heap.size,21,none⟩ (.slice none 0 0)) o v1 r1 m):=hd0 (by
   rw[hr1,hv1]
   exact(A1.out.set 20 _ (rfA_tr o v r n)).set 21 _ (rfA_way o v _ (.slice none 0 0) []))
  obtain⟨w5,hw5⟩:∃ k,(w1.setCell ⟨w.heap.size,20,none⟩ (.int .u32 n)).setCell ⟨w.heap.size,21,none⟩ (.slice none 0 0)=k:=⟨_,rfl⟩
  rw[hw5] at A5 ⊢
  have ONE2:Hid (∀ r':Rf,(rfA o v1 r').all (·.oneCell')=true):=hd0 (by rw[hv1];exact ONE1.out)
  have IS1:∀ r':Rf,(Tryz.prog.info? 44).map (·.size)=some (rfA o v1 r').size:=fun r'=>info_mep
  have IL1:∀ r':Rf,(Tryz.prog.info? 44).map (·.size)=some (rfA o v1 r').toList.length:=fun r'=>info_mep
  clear hw5 hr1 hv1 k20 k21 f20 f21 A1 wn hn h0 d0 ONE1
  have k0:w5.cell? ⟨w.heap.size,0,none⟩=some (.int .u8 o.a.lv):=A5.out.c 0 _ rfl
  have k20:w5.cell? ⟨w.heap.size,20,none⟩=some (.int .u32 n):=A5.out.c 20 _ (by rw[HR1.out];rfl)
  have k5:w5.cell? ⟨w.heap.size,5,none⟩=some (.int .u8 o.mc.a):=A5.out.c 5 _ rfl
  have k6:w5.cell? ⟨w.heap.size,6,none⟩=some (.int .u8 o.mc.b):=A5.out.c 6 _ rfl
  have k7:w5.cell? ⟨w.heap.size,7,none⟩=some (.int .u8 o.mc.c):=A5.out.c 7 _ rfl
  have k8:w5.cell? ⟨w.heap.size,8,none⟩=some (.int .u8 o.mc.d):=A5.out.c 8 _ rfl
  have k9:w5.cell? ⟨w.heap.size,9,none⟩=some (.int .u8 o.mc.e):=A5.out.c 9 _ rfl
  have k10:w5.cell? ⟨w.heap.size,10,none⟩=some (.int .u8 o.mc.f):=A5.out.c 10 _ rfl
  have s0:=A5.out.g4.c 0 _ rfl
  have s1:=A5.out.g4.c 1 _ rfl
  have s2:=A5.out.g4.c 2 _ rfl
  have s3:=A5.out.g4.c 3 _ rfl
  have s4:=A5.out.g4.c 4 _ rfl
  have s5:=A5.out.g4.c 5 _ rfl
  obtain⟨hlo,hpl⟩:=trac_ok (t:=askT o n m tl) hlv
  obtain⟨P4,hP4⟩:∃ x,byTr (askT o n m tl)=x:=⟨_,rfl⟩
  have PU:Hid (∀ W,Calls Tryz.prog 52 #[.agg #[.int .u8 o.a.lv,.int .u32 n,.int .u8 tl,.int .u8 o.mc.a,.int .u8 o.mc.b,.int .u8 o.mc.c,.int .u8 o.mc.d,.int .u8 o.mc.e,.int .u8 o.mc.f,.int .u8 m.a,.int .u8 m.b,.int .u8 m.c,.int .u8 m.d,.int .u8 m.e,.int .u8 m.f]] W fun en w'=>en=.returned (.tuple #[.agg #[.int .u8 o.a.lv,.int .u8 5,.int .u8 128,.string (bs P4),.slice none 0 0],.int .i64 0])∧Below W.heap.size W w'):=hd0 fun W=>by
   have h:=refPut15_any (askT o n m tl) W ⟨HO.out.a.lv,HN.out,HTL.out,HO.out.mc,HM.out⟩
   rw[hpl,hP4] at h
   exact h
  obtain⟨X,hX⟩:∃ x:Sn,x=⟨trcG o.a.lv,(tracP (askT o n m tl)).1⟩:=⟨_,rfl⟩
  have hsr:sentR (trcG o.a.lv) o.a.lv 5 128 P4 []=[X]:=by
   unfold sentR
   have e1:putP o.a.lv 5 128 P4 []=tracP (askT o n m tl):=by unfold tracP;rw[hpl,hP4];rfl
   rw[e1,if_pos hlo,hX]
  have hpl4:P4.length=17:=by rw[←hP4];exact byTr_len _
  have HX:=hd0 hX
  have PT:Hid (∀ W,Calls Tryz.prog 45 #[.agg #[.int .u8 1,.int .u8 128,.int .u8 194,.int .u8 0,.int .u8 0,.int .u8 (56+o.a.lv)],.agg #[.int .u8 o.a.lv,.int .u8 5,.int .u8 128,.string (bs P4),.slice none 0 0]] W fun en w'=>∃ g uc,en=.returned (.slice (some ⟨g,0,none⟩) 1 uc)∧(w'.rangeAt g 0 (snC X)∧W.heap.size≤g)∧Below W.heap.size W w'):=hd0 fun W=>by
   have h:=rsent_any (trcG o.a.lv) (.slice none 0 0) o.a.lv 5 128 P4 [] W (Tls.nil _) (by simp) (by simp) (by omega) (by simp[putT]) HO.out.a.lv (by decide) (by decide)
   rw[hsr] at h
   exact h.mono fun en w' ⟨u,he,hu,hb⟩=>by
    obtain⟨g,uc,rfl,hr⟩:=hu.one
    exact⟨g,uc,he,hr,hb⟩
  have wl:IntKind.i64.wrap o.a.lv=o.a.lv:=IntWalk.i64_in _ (by have:=HO.out.a.lv;omega)
  have LV:Hid (∀ W,Calls Tryz.prog 44 #[.int .i64 o.a.lv] W fun en w'=>en=.returned (.tuple #[.agg #[.int .u8 1,.int .u8 128,.int .u8 194,.int .u8 0,.int .u8 0,.int .u8 (48+o.a.lv)],.agg #[.int .u8 1,.int .u8 128,.int .u8 194,.int .u8 0,.int .u8 0,.int .u8 (56+o.a.lv)]])∧Below W.heap.size W w'):=hd0 fun W=>refLevels_any o.a.lv W HO.out.a.lv.1 hlv
  clear hsr hpl hlo hX hpl4 hP4
  go_upto_region 6 with(go_at_call 52;(with_reducible refine(PU.out _).mono ?_);rintro en w6 ⟨rfl,hb6⟩;have A6:=hd0 (A5.out.later hb6);clear hb6)
  have hal:=(Below.refl w6.heap.size w6).alloc (Nat.le_refl _) (.cells #[.int .u8 o.a.lv,.int .u8 5,.int .u8 128,.string (bs P4),.slice none 0 0] 115)
  have GP:=GB.new 115 w6 #[.int .u8 o.a.lv,.int .u8 5,.int .u8 128,.string (bs P4),.slice none 0 0]
  obtain⟨w7,hw7⟩:∃ k,w6.alloc (.cells #[.int .u8 o.a.lv,.int .u8 5,.int .u8 128,.string (bs P4),.slice none 0 0] 115)=k:=⟨_,rfl⟩
  have hqs:=A6.out.sz
  obtain⟨q9,hq9⟩:∃ k,w6.heap.size=k:=⟨_,rfl⟩
  rw[hw7] at hal GP ⊢
  have A7:=hd0 (A6.out.later hal)
  rw[hq9] at GP hqs ⊢
  have G7:=hd0 GP
  have HQ9:=hd0 hqs
  have l0:w7.cell? ⟨w.heap.size,0,none⟩=some (.int .u8 o.a.lv):=A7.out.c 0 _ rfl
  clear hal GP hw7 hq9 hqs A5 A6 k0 k20 k5 k6 k7 k8 k9 k10 s0 s1 s2 s3 s4 s5 PU
  go_upto_region 7 with(go_at_call 44;(with_reducible refine(LV.out _).mono ?_);rintro en w8 ⟨rfl,hb8⟩;have A8:=hd0 (A7.out.later hb8);have G8:=hd0 (G7.out.later hb8);clear hb8)
  have hal:Below w8.heap.size w8 ((w8.alloc (.cells #[.int .u8 1,.int .u8 128,.int .u8 194,.int .u8 0,.int .u8 0,.int .u8 (48+o.a.lv)] 25)).alloc (.cells #[.int .u8 1,.int .u8 128,.int .u8 194,.int .u8 0,.int .u8 0,.int .u8 (56+o.a.lv)] 25)):=(bA _).alloc (by simp) _
  have GM:=GB.new 25 (w8.alloc (.cells #[.int .u8 1,.int .u8 128,.int .u8 194,.int .u8 0,.int .u8 0,.int .u8 (48+o.a.lv)] 25)) #[.int .u8 1,.int .u8 128,.int .u8 194,.int .u8 0,.int .u8 0,.int .u8 (56+o.a.lv)]
  rw[show(w8.alloc (.cells #[.int .u8 1,.int .u8 128,.int .u8 194,.int .u8 0,.int .u8 0,.int .u8 (48+o.a.lv)] 25)).heap.size=w8.heap.size+1 by simp] at GM
  obtain⟨w9,hw9⟩:∃ k,(w8.alloc (.cells #[.int .u8 1,.int .u8 128,.int .u8 194,.int .u8 0,.int .u8 0,.int .u8 (48+o.a.lv)] 25)).alloc (.cells #[.int .u8 1,.int .u8 128,.int .u8 194,.int .u8 0,.int .u8 0,.int .u8 (56+o.a.lv)] 25)=k:=⟨_,rfl⟩
  have hqm:=A8.out.sz
  obtain⟨q12,hq12⟩:∃ k,w8.heap.size+1=k:=⟨_,rfl⟩
  rw[hw9] at hal GM ⊢
  have A9:=hd0 (A8.out.later hal.drew)
  have GQ9:=hd0 (G8.out.later hal.drew)
  rw[hq12] at GM ⊢
  have GM9:=hd0 GM.drew
  have HQM:=hd0 (show w.heap.size+4≤q12 by omega)
  clear hal GM hw9 hq12 hqm A7 A8 G7 G8 l0 wl LV
  have SX:Hid (∀ W,GB 44 W w.heap.size (rfA o v1 r1)→GB 25 W q12 #[.int .u8 1,.int .u8 128,.int .u8 194,.int .u8 0,.int .u8 0,.int .u8 (56+o.a.lv)]→GB 115 W q9 #[.int .u8 o.a.lv,.int .u8 5,.int .u8 128,.string (bs P4),.slice none 0 0]→W.rangeAt w.heap.size 0 (rfA o v1 r1).toList∧(W.cell? ⟨q12,0,none⟩=some (.int .u8 1)∧W.cell? ⟨q12,1,none⟩=some (.int .u8 128)∧W.cell? ⟨q12,2,none⟩=some (.int .u8 194)∧W.cell? ⟨q12,3,none⟩=some (.int .u8 0)∧W.cell? ⟨q12,4,none⟩=some (.int .u8 0)∧W.cell? ⟨q12,5,none⟩=some (.int .u8 (56+o.a.lv)))∧W.cell? ⟨q9,0,none⟩=some (.int .u8 o.a.lv)∧W.cell? ⟨q9,1,none⟩=some (.int .u8 5)∧W.cell? ⟨q9,2,none⟩=some (.int .u8 128)∧W.cell? ⟨q9,3,none⟩=some (.string (bs P4))∧W.cell? ⟨q9,4,none⟩=some (.slice none 0 0)):=hd0 fun W h1 h2 h3 =>
   ⟨h1.range,⟨h2.c 0 _ rfl,h2.c 1 _ rfl,h2.c 2 _ rfl,h2.c 3 _ rfl,h2.c 4 _ rfl,h2.c 5 _ rfl⟩,h3.c 0 _ rfl,h3.c 1 _ rfl,h3.c 2 _ rfl,h3.c 3 _ rfl,h3.c 4 _ rfl⟩
  refine wp_region_held_drew (S:=fun W=>W.rangeAt w.heap.size 0 (rfA o v1 r1).toList∧(W.cell? ⟨q12,0,none⟩=some (.int .u8 1)∧W.cell? ⟨q12,1,none⟩=some (.int .u8 128)∧W.cell? ⟨q12,2,none⟩=some (.int .u8 194)∧W.cell? ⟨q12,3,none⟩=some (.int .u8 0)∧W.cell? ⟨q12,4,none⟩=some (.int .u8 0)∧W.cell? ⟨q12,5,none⟩=some (.int .u8 (56+o.a.lv)))∧W.cell? ⟨q9,0,none⟩=some (.int .u8 o.a.lv)∧W.cell? ⟨q9,1,none⟩=some (.int .u8 5)∧W.cell? ⟨q9,2,none⟩=some (.int .u8 128)∧W.cell? ⟨q9,3,none⟩=some (.string (bs P4))∧W.cell? ⟨q9,4,none⟩=some (.slice none 0 0)) (by kernel_rfl) (SX.out _ A9.out.gb GM9.out GQ9.out) (fun hHeld=>?_)
  refine wpAnyH_take (i:=0) (v:=.agg (rfA o v1 r1).toList.toArray) rfl (by kernel_rfl) (by kernel_rfl) (by kernel_rfl) (fun _ _ _ h=>h) (yieldsIf_load_mid (by rfl) 44 (.tmp 3) rfl w.heap.size 0 rfl (rfA o v1 r1).toList _ (fun _ h=>h.1) Tryz.underlying44 rfl (IL1 r1)) (by assumption) ?_
  try simp only[Array.toArray_toList]
  try simp only[Act.put,zz]
  refine tkH 1 ?_ ?h ?_
  case h=>(intro w hSw;go_simp;try with_reducible rfl)
  try simp only[Act.put,zz]
  refine tkH 2 ?_ ?h ?_
  case h=>(intro w hSw;go_simp;try with_reducible rfl)
  try simp only[Act.put,zz]
  refine rdH 3 fun K hK=>?_
  (go_simp;go_at_call 45;(with_reducible refine(PT.out _).mono ?_);rintro en wq ⟨g,uc,rfl,hu,hbq⟩;have A10:=hd0 (A9.out.later hbq);have GM10:=hd0 (GM9.out.later hbq);have GQ10:=hd0 (GQ9.out.later hbq);have HU:=hd0 hu;clear hbq hu;refine hK.out _ _ (SX.out _ A10.out.gb GM10.out GQ10.out) (fun hHeld=>?_);clear hK K;try simp only[Act.put,zz])
  have A11:Hid (GB 44 (wq.setCells (w.heap.size+2) 0 (rfA o v1 r1).toList) w.heap.size (rfA o v1 r1)):=hd0 (GB.cellsOther (by omega) _ _ _ A10.out.gb)
  have GM11:Hid (GB 25 (wq.setCells (w.heap.size+2) 0 (rfA o v1 r1).toList) q12 #[.int .u8 1,.int .u8 128,.int .u8 194,.int .u8 0,.int .u8 0,.int .u8 (56+o.a.lv)]):=hd0 (GB.cellsOther (by have:=HQM.out;omega) _ _ _ GM10.out)
  have GQ11:Hid (GB 115 (wq.setCells (w.heap.size+2) 0 (rfA o v1 r1).toList) q9 #[.int .u8 o.a.lv,.int .u8 5,.int .u8 128,.string (bs P4),.slice none 0 0]):=hd0 (GB.cellsOther (by have:=HQ9.out;omega) _ _ _ GQ10.out)
  have A12:Hid (GB 44 ((wq.setCells (w.heap.size+2) 0 (rfA o v1 r1).toList).setCells (w.heap.size+3) 0 (snC X)) w.heap.size (rfA o v1 r1)):=hd0 (GB.cellsOther (by omega) _ _ _ A11.out)
  have GM12:Hid (GB 25 ((wq.setCells (w.heap.size+2) 0 (rfA o v1 r1).toList).setCells (w.heap.size+3) 0 (snC X)) q12 #[.int .u8 1,.int .u8 128,.int .u8 194,.int .u8 0,.int .u8 0,.int .u8 (56+o.a.lv)]):=hd0 (GB.cellsOther (by have:=HQM.out;omega) _ _ _ GM11.out)
  have GQ12:Hid (GB 115 ((wq.setCells (w.heap.size+2) 0 (rfA o v1 r1).toList).setCells (w.heap.size+3) 0 (snC X)) q9 #[.int .u8 o.a.lv,.int .u8 5,.int .u8 128,.string (bs P4),.slice none 0 0]):=hd0 (GB.cellsOther (by have:=HQ9.out;omega) _ _ _ GQ11.out)
  have TH7:Hid ((wq.setCells (w.heap.size+2) 0 (rfA o v1 r1).toList).there (w.heap.size+3) 0 7):=hd0 ((show GB 58 _ _ sz7 from GB.cellsOther (by omega) _ _ _ A10.out.gs).there (Nat.le_refl _))
  refine tkH 4 ?_ ?h ?_
  case h=>(intro w hSw;go_simp;try with_reducible rfl)
  try simp only[Act.put,zz]
  have RG11:Hid ((wq.setCells (w.heap.size+2) 0 (rfA o v1 r1).toList).rangeAt g 0 (snC X)):=hd0 (rng_other (by have h1:=HU.out.2;have h2:=A9.out.sz;omega) _ _ _ _ HU.out.1)
  obtain⟨f1,f2,f3⟩:=A10.out.fin (ONE2.out r1) X
  have F1:=hd0 f1
  have F2:=hd0 f2
  have F3:=hd0 f3
  clear f1 f2 f3
  obtain⟨w11,hw11⟩:∃ k,wq.setCells (w.heap.size+2) 0 (rfA o v1 r1).toList=k:=⟨_,rfl⟩
  rw[hw11] at A11 GM11 GQ11 A12 GM12 GQ12 TH7 RG11 F1 F2 F3
  obtain⟨wf,hwf⟩:∃ k,w11.setCells (w.heap.size+3) 0 (snC X)=k:=⟨_,rfl⟩
  rw[hwf] at A12 GM12 GQ12 F1 F2 F3
  refine wpAnyH_ready (rs:=[5,6]) (by kernel_rfl) (by simp) (AllReadyH.cons rfl (fun K hK=>?_) (AllReadyH.cons rfl (fun K hK=>?_) AllReadyH.nil))
  ·(rw[if_pos (by rfl)];refine wp_load_mid 58 (.tmp 54) rfl g 0 rfl (snC X) _ HU.out.1 Tryz.underlying58 rfl info_sn ?_;refine hK.out _ _ (SX.out _ A10.out.gb GM10.out GQ10.out) (fun hHeld=>?_);clear hK K;try simp only[Act.put,zz])
   refine rdH 6 fun K hK=>?_
   (rw[if_pos (by rfl)];refine wp_store_mid 44 (.tmp 6) (.tmp 50) rfl (w.heap.size+2) 0 (rfA o v1 r1) rfl rfl A10.out.thr (IS1 r1) (ONE2.out r1) ?_;rw[hw11];refine hK.out _ _ (SX.out _ A11.out GM11.out GQ11.out) (fun hHeld=>?_);clear hK K;try simp only[Act.put,List.setIfInBounds_toArray])
   refine rdH 7 fun K hK=>?_
   (rw[if_pos (by rfl)];refine wp_store_mid 58 (.tmp 7) (.tmp 55) rfl (w.heap.size+3) 0 (snC X).toArray rfl rfl TH7.out info_sn (snA_one X) ?_;simp only[List.toList_toArray];rw[hwf];refine hK.out _ _ (SX.out _ A12.out GM12.out GQ12.out) (fun hHeld=>?_);clear hK K;try simp only[Act.put,List.setIfInBounds_toArray])
   refine tkH 8 ?_ ?h ?_
   case h=>(intro w hSw;go_simp;try with_reducible rfl)
   try simp only[Act.put,zz]
   refine wpAnyH_done (by kernel_rfl) ?_ _
   clear hHeld hw11 hwf A12 GM12 GQ12 A11 GM11 GQ11 TH7 RG11
   go_wp2_with fail
   exact bodyPost_ret (v:=.tuple #[.agg (rfA o v1 r1),.agg (snC X).toArray,.int .i64 0]) (res_cct (p:=6) (p':=7) (u:=8) (d:=_) (d':=_) rfl rfl rfl Tryz.underlying44 Tryz.underlying58 _ _ (w.heap.size+2) (w.heap.size+3) _ _ rfl rfl F1.out F2.out (IS1 r1) info_sn) rfl ⟨v1,by rw[HE.out,← HX.out],by rw[HE.out,HR1.out,HV1.out];exact⟨rfl,rfl,rfl,rfl,.inl ⟨rfl,rfl⟩,.inr (Ow.none _ _)⟩,F3.out⟩
  ·(rw[if_pos (by rfl)];refine wp_store_mid 44 (.tmp 6) (.tmp 50) rfl (w.heap.size+2) 0 (rfA o v1 r1) rfl rfl A10.out.thr (IS1 r1) (ONE2.out r1) ?_;rw[hw11];refine hK.out _ _ (SX.out _ A11.out GM11.out GQ11.out) (fun hHeld=>?_);clear hK K;try simp only[Act.put,List.setIfInBounds_toArray])
   refine rdH 5 fun K hK=>?_
   (rw[if_pos (by rfl)];refine wp_load_mid 58 (.tmp 54) rfl g 0 rfl (snC X) _ RG11.out Tryz.underlying58 rfl info_sn ?_;refine hK.out _ _ (SX.out _ A11.out GM11.out GQ11.out) (fun hHeld=>?_);clear hK K;try simp only[Act.put,zz])
   refine rdH 7 fun K hK=>?_
   (rw[if_pos (by rfl)];refine wp_store_mid 58 (.tmp 7) (.tmp 55) rfl (w.heap.size+3) 0 (snC X).toArray rfl rfl TH7.out info_sn (snA_one X) ?_;simp only[List.toList_toArray];rw[hwf];refine hK.out _ _ (SX.out _ A12.out GM12.out GQ12.out) (fun hHeld=>?_);clear hK K;try simp only[Act.put,List.setIfInBounds_toArray])
   refine tkH 8 ?_ ?h ?_
   case h=>(intro w hSw;go_simp;try with_reducible rfl)
   try simp only[Act.put,zz]
   refine wpAnyH_done (by kernel_rfl) ?_ _
   clear hHeld hw11 hwf A12 GM12 GQ12 A11 GM11 GQ11 TH7 RG11
   go_wp2_with fail
   exact bodyPost_ret (v:=.tuple #[.agg (rfA o v1 r1),.agg (snC X).toArray,.int .i64 0]) (res_cct (p:=6) (p':=7) (u:=8) (d:=_) (d':=_) rfl rfl rfl Tryz.underlying44 Tryz.underlying58 _ _ (w.heap.size+2) (w.heap.size+3) _ _ rfl rfl F1.out F2.out (IS1 r1) info_sn) rfl ⟨v1,by rw[HE.out,← HX.out],by rw[HE.out,HR1.out,HV1.out];exact⟨rfl,rfl,rfl,rfl,.inl ⟨rfl,rfl⟩,.inr (Ow.none _ _)⟩,F3.out⟩
theorem Ow.cellsOff {α:Type}{k:Nat}{f:α→List Value}{E:TypeId}{B:Nat}{v:Value}{l:List α}{t:Nat}{W:World}(h:Ow k f E W B v l)(ht:∀ g,v.ownBlock=some g→g≠t)(vs:List Value)(o:Nat):Ow k f E (W.setCells t o vs) B v l:=by
 induction vs generalizing o W with
 | nil=>exact h
 | cons u r ih =>
  refine ih ?_ (o+1)
  obtain⟨h1,h2⟩:=h
  refine⟨h1,?_⟩
  rcases h2 with h2|⟨g,cap,cur,rfl,hg,hh,hr⟩
  ·exact .inl h2
  ·refine .inr ⟨g,cap,cur,rfl,hg,?_,hr⟩
   have:=ht g rfl
   rw[Below.heap_setCell _ _ _ _ (by intro e;simp at e;omega)];exact hh
theorem rfA_nw (o:Ow20)(v:Rv)(r:Rf)(x:Int):(rfA o v r).setIfInBounds 13 (.int .i64 x)=rfA o v { r with nw:=x }:=rfl
theorem rfA_ws (o:Ow20)(v:Rv)(r:Rf)(s:Value)(l:List Int):(rfA o v r).setIfInBounds 14 s=rfA o { v with sv:=s } { r with ws:=l }:=rfl
theorem tick20_any (o:Ow20)(ho:o.Ok)(hlv:o.a.lv<8)(ks:List Int)(hkl:ks.length≤1000)(hkb:∀ x∈ks,1≤x∧x≤8191)(v:Rv)(r:Rf)(hr:r.Ok)(hnw:r.nw≤900)(hwl:r.ws.length≤900)(w:World)(h:RX w ks v r) :
  Calls Tryz.prog 12 #[.agg (rfA o v r)] w fun en w'=>∃ s u,en=.returned (.tuple #[.agg (rfA o { v with sv:=s } (tick20 o ks r).1),u,.int .u8 (tick20 o ks r).2.2])∧Ow 1 u8C 5 w' w.heap.size s (tick20 o ks r).1.ws∧Ow 7 snC 58 w' w.heap.size u (tick20 o ks r).2.1∧Below w.heap.size w w':=by
 have HX:=hd0 h
 have HO:=hd0 ho
 have HWL:=hd0 hwl
 obtain⟨r1,hr1⟩:∃ x:Rf,x={ r with nw:=r.nw+1 }:=⟨_,rfl⟩
 have hok1:r1.Ok:=by rw[hr1];exact⟨hr.hl,hr.hd,⟨by have:=hr.nw;show 0≤r.nw+1;omega,by show r.nw+1≤1000;omega⟩,hr.wl,hr.ws,hr.bad,hr.lp,hr.rep,hr.ali,hr.tr,hr.wy⟩
 have HRX1:Hid (∀ W,Below w.heap.size w W→RX W ks v r1):=hd0 fun W hb=>by rw[hr1];exact⟨h.ks.later u1_len hb,h.hd.later hdC_len hb,h.ws.later u8C_len hb,h.wy.later rqC_len hb⟩
 have WO:Hid (∀ W,Below w.heap.size w W→Calls Tryz.prog 41 #[.agg (rfA o v r1)] W fun en w'=>en=.returned (.int .u8 (worst20 o ks r1))∧Below W.heap.size W w'):=hd0 fun W hb=>worst20_any o ks hkl hkb v r1 hok1 W (HRX1.out W hb)
 have hwb:=worst20_b o ks r1
 obtain⟨N0,hN0⟩:∃ n,r.nw=n:=⟨_,rfl⟩
 obtain⟨N,hN⟩:∃ n,N0+1=n:=⟨_,rfl⟩
 have hn0:0≤N0∧N0≤900:=by have:=hr.nw;omega
 obtain⟨wo,hwo⟩:∃ x,worst20 o ks r1=x:=⟨_,rfl⟩
 have hr1':r1={ r with nw:=N }:=by rw[hr1,hN0,hN]
 have HR1:=hd0 hr1'
 have HR1':=hd0 hr1
 obtain⟨ws2,hws2⟩:∃ x,r.ws++[wo]=x:=⟨_,rfl⟩
 obtain⟨r2,hr2⟩:∃ x:Rf,x={ r1 with ws:=ws2 }:=⟨_,rfl⟩
 have HWS2:=hd0 hws2
 obtain⟨L2,hL2⟩:∃ x,ws2.length=x:=⟨_,rfl⟩
 have HL2:=hd0 hL2
 have HR2:=hd0 hr2
 have hwsb:∀ x∈ws2,0≤x∧x<256:=by
  rw[←hws2]
  intro x hx
  rcases List.mem_append.1 hx with hx|hx
  ·exact hr.ws x hx
  ·rw[List.mem_singleton.1 hx];omega
 have hws2l:ws2.length≤1000:=by rw[←hws2];simp;omega
 have AT:Hid (∀ W s,Ow 1 u8C 5 W (w.heap.size+2) s ws2→Calls Tryz.prog 42 #[.int .u8 o.lw,s] W fun en w'=>en=.returned (.tuple #[.int .u8 (atA o.lw ws2.reverse).1,.int .u8 (atA o.lw ws2.reverse).2.1,.int .u8 (atA o.lw ws2.reverse).2.2])∧w'=W):=hd0 fun W s hs=>at19_any o.lw HO.out.lw _ s ws2 W rfl hws2l (hs.rw u8C_len) hs.cap hwsb
 obtain⟨⟨a1,a2,a3⟩,ha⟩:∃ z,atA o.lw ws2.reverse=z:=⟨_,rfl⟩
 obtain⟨n,hn⟩:∃ n,every o.a.iv=n:=⟨_,rfl⟩
 obtain⟨kq,hkq⟩:∃ k,N0 / n=k:=⟨_,rfl⟩
 have hn1:n=1∨n=10:=by rw[←hn];unfold every;split <;> simp
 have hT:tick20 o ks r=(r2,if N0 % n=0 then ckS o wo (kq+1) else[],a3):=by
  unfold tick20
  rw[←hr1,hwo,hN0,hn,hkq,hws2,ha,hr2,hr1]
  simp only[hN0]
 have HT:=hd0 hT
 rw[hwo] at WO hwb
 rw[ha] at AT
 rw[hT]
 simp only[] at AT
 clear hT ha hws2 hL2 hws2l hwsb hr2 hr1' hr1 hok1 hkb hkl hr hnw hwl h ho hwo
 have T0:=hd0 (TB.begin w o v r)
 go_enter Tryz.func12,Tryz.ntmps12
 go_upto_region 1 with fail
 obtain⟨w0,hw0⟩:∃ k,(w.alloc (.cells (rfA o v r) 44)).alloc (.cells yP 44)=k:=⟨_,rfl⟩
 rw[hw0] at T0 ⊢
 clear hw0
 have c13:w0.cell? ⟨w.heap.size,13,none⟩=some (.int .i64 N0):=T0.out.c 13 _ (by rw[←hN0];rfl)
 have f13:=T0.out.gb.fr 13
 have hw13:IntKind.i64.wrap (N0+1)=N:=by rw[hN];exact IntWalk.i64_in _ (by omega)
 go_upto_region 2 with fail
 have T1:Hid (TB w (w0.setCell ⟨w.heap.size,13,none⟩ (.int .i64 N)) o v r1):=hd0 (by rw[HR1.out];exact T0.out.set 13 _ (rfA_nw o v r N))
 obtain⟨w1,hw1⟩:∃ k,w0.setCell ⟨w.heap.size,13,none⟩ (.int .i64 N)=k:=⟨_,rfl⟩
 rw[hw1] at T1 ⊢
 clear hw1 c13 f13 T0 hw13
 have HI1:=hd0 (show(Tryz.prog.info? 44).map (·.size)=some (rfA o v r1).toList.length by show _=some 22;exact info_mep)
 obtain⟨sa,sc,hsv,-⟩:=HX.out.ws.shape
 have c14:∀ W,TB w W o v r1→W.cell? ⟨w.heap.size,14,none⟩=some v.sv:=fun W hW=>hW.c 14 _ rfl
 have f14:∀ W,TB w W o v r1→W.frozen? ⟨w.heap.size,14,none⟩=false:=fun W hW=>hW.gb.fr 14
 have C14:=hd0 c14
 have F14:=hd0 f14
 clear c14 f14 hsv
 go_upto_region 3 with(first
  |((with_reducible refine wpList_load_mid rfl 44 (.tmp 1) rfl w.heap.size 0 ?hx (rfA o v r1).toList _ T1.out.rng Tryz.underlying44 ?hu HI1.out ?_);(case hx=>rfl);(case hu=>rfl))
  |(go_at_call 41;(with_reducible refine(WO.out _ T1.out.bel).mono ?_);rintro en w2 ⟨rfl,hb2⟩;have T2:=hd0 (T1.out.later hb2);have c14:=C14.out _ T2.out;clear hb2))
 have HW2:=hd0 T2.out.sz
 have HX2:Hid (Rw 1 u8C w2 v.sv r.ws):=hd0 (HX.out.ws.later u8C_len T2.out.bel)
 go_upto_region 4 with(first
  |(at_builtin;refine wpList_append_rw u8C_len u8C_one 5 39 (.int .u8 0) 1 Tryz.underlying39 info_u8 rfl (by decide) (by decide) rfl (.const (.slice none 0 0)) (.tmp 21) rfl (w.heap.size+2) (.slice none 0 0) [] rfl (Ow.none _ _) v.sv r.ws rfl HX2.out (by have:=HWL.out;simp;omega) HW2.out ?_;intro v1 w3 ho3 hb3;have HO3:=hd0 ho3;have T3:=hd0 (T2.out.low hb3);clear ho3 hb3)
  |(at_builtin;refine wpList_append_rw u8C_len u8C_one 5 39 (.int .u8 0) 1 Tryz.underlying39 info_u8 rfl (by decide) (by decide) rfl (.tmp 22) (.tmp 24) rfl (w.heap.size+2) _ ([]++r.ws) rfl (HO3.out.later (bA _)) _ [wo] rfl ((Ow.lit (E:=5) u8C_len _ 0 wo #[.int .u8 wo] rfl (Nat.zero_le _)).rw u8C_len) (by have:=HWL.out;simp;omega) (by have:=T3.out.sz;simp;omega) ?_;intro v2 w4 ho4 hb4;rw[List.nil_append,HWS2.out] at ho4;obtain⟨s2,k2',rfl,-⟩:=ho4.cap;rw[HL2.out] at ho4 ⊢;have HO4:=hd0 ho4;have T4:Hid (TB w w4 o v r1):=hd0 (T3.out.low (((Below.refl _ _).alloc T3.out.sz _).trans hb4));have c14b:=C14.out _ T4.out;have f14b:=F14.out _ T4.out;clear ho4 hb4))
 obtain⟨v2,hv2⟩:∃ x:Rv,x={ v with sv:=.slice s2 L2 k2' }:=⟨_,rfl⟩
 have HV2:=hd0 hv2
 have T5:Hid (TB w (w4.setCell ⟨w.heap.size,14,none⟩ (.slice s2 L2 k2')) o v2 r2):=hd0 (by rw[hv2,HR2.out];exact T4.out.set 14 _ (rfA_ws o v r1 _ ws2))
 have HO5:Hid (Ow 1 u8C 5 (w4.setCell ⟨w.heap.size,14,none⟩ (.slice s2 L2 k2')) (w.heap.size+2) (.slice s2 L2 k2') ws2):=hd0 (HO4.out.setLow (by omega) _)
 obtain⟨w5,hw5⟩:∃ k,w4.setCell ⟨w.heap.size,14,none⟩ (.slice s2 L2 k2')=k:=⟨_,rfl⟩
 rw[hw5] at T5 HO5 ⊢
 have c11:w5.cell? ⟨w.heap.size,11,none⟩=some (.int .u8 o.lw):=T5.out.c 11 _ rfl
 have c14:w5.cell? ⟨w.heap.size,14,none⟩=some (.slice s2 L2 k2'):=T5.out.c 14 _ (by rw[hv2];rfl)
 have c1:w5.cell? ⟨w.heap.size,1,none⟩=some (.int .u8 o.a.iv):=T5.out.c 1 _ rfl
 have c13:w5.cell? ⟨w.heap.size,13,none⟩=some (.int .i64 N):=T5.out.c 13 _ (by rw[HR2.out,HR1.out];rfl)
 have HI2:=hd0 (show(Tryz.prog.info? 44).map (·.size)=some (rfA o v2 r2).size by show _=some 22;exact info_mep)
 have HI2L:=hd0 (show(Tryz.prog.info? 44).map (·.size)=some (rfA o v2 r2).toList.length by show _=some 22;exact info_mep)
 have ONE:Hid ((rfA o v2 r2).all (·.oneCell')=true):=hd0 (by rw[hv2];exact rfA_one o _ r2 HX.out.ks.oneC HX.out.hd.oneC rfl HX.out.wy.oneC)
 clear hw5 hv2 T1 T2 T3 T4 HO3 HO4 HX2 HW2 c14b f14b C14 F14 WO HRX1
 go_upto_region 5 with(go_at_call 42;(with_reducible refine(AT.out _ _ HO5.out).mono ?_);rintro en w6 ⟨rfl,rfl⟩)
 have e1:IntKind.i64.wrap (N-1)=N0:=by rw[show N-1=N0 by omega];exact IntWalk.i64_in _ (by omega)
 have kw:0≤kq∧kq≤900:=by rw[←hkq];rcases hn1 with rfl|rfl <;> omega
 have k1:IntKind.i64.wrap kq=kq:=IntWalk.i64_in _ (by omega)
 have k2:IntKind.i64.wrap (kq+1)=kq+1:=IntWalk.i64_in _ (by omega)
 have k3:IntKind.u32.wrap (kq+1)=kq+1:=IntWalk.u32_in _ (by omega)
 go_upto_if 40 with fail
 go_cut [9] (fun s9 wx=>s9=.int .i64 n∧wx=w6)
 case first =>
  rcases hn1 with rfl|rfl
  ·have d5:(o.a.iv==5)=false:=by
    rw[beq_eq_false_iff_ne];intro h;unfold every at hn;rw[if_pos h] at hn;cases hn
   clear hn hkq hN
   go_wp2_with fail
   go_meet
   exact⟨rfl,rfl⟩
  ·have d5:(o.a.iv==5)=true:=by
    rw[beq_iff_eq]
    by_cases h:o.a.iv=5
    ·exact h
    ·unfold every at hn;rw[if_neg h] at hn;cases hn
   clear hn hkq hN
   go_wp2_with fail
   go_meet
   exact⟨rfl,rfl⟩
 case rest =>
  obtain⟨rfl,hwx⟩:=hcut
  rw[hwx]
  clear hwx
  have z1:(n==0)=false:=by rw[beq_eq_false_iff_ne];omega
  have z2:¬ n=0:=by omega
  have z3:decide (n=0)=false:=decide_eq_false z2
  obtain⟨M,hM⟩:∃ m,N0 % n=m:=⟨_,rfl⟩
  have m1:N0.tmod n=M:=by rw[←hM];exact Int.tmod_eq_emod_of_nonneg hn0.1
  have q1:N0.tdiv n=kq:=by rw[←hkq];exact Int.tdiv_eq_ediv_of_nonneg hn0.1
  have hMb:0≤M∧M<10:=by rw[←hM];rcases hn1 with rfl|rfl <;> omega
  have m2:IntKind.i64.wrap M=M:=IntWalk.i64_in _ (by omega)
  by_cases hM0:M=0
  rotate_left
  ·have dM:(M != 0)=true:=by rw[bne_iff_ne];exact hM0
   have HM0:Hid (¬ N0 % n=0):=hd0 (by rw[hM];exact hM0)
   clear hM0 hn hkq hM
   go_wp2_with (first
    |((with_reducible refine wpList_load_mid rfl 44 (.tmp 1) rfl w.heap.size 0 ?hx (rfA o v2 r2).toList _ T5.out.rng Tryz.underlying44 ?hu HI2L.out ?_);(case hx=>rfl);(case hu=>rfl))
    |((with_reducible refine wpList_store_mid rfl 44 (.tmp 2) (.tmp 47) rfl (w.heap.size+1) 0 (rfA o v2 r2) ?hx ?hy T5.out.thr HI2.out ONE.out ?_);(case hx=>rfl);(case hy=>rfl)))
   exact bodyPost_ret (v:=.tuple #[.agg (rfA o v2 r2),.slice none 0 0,.int .u8 a3]) (res_ctt (p:=2) (u1:=3) (u2:=4) (d:=_) rfl rfl Tryz.underlying44 _ _ (w.heap.size+1) _ rfl (T5.out.fin ONE.out) HI2.out) rfl ⟨.slice s2 L2 k2',.slice none 0 0,by rw[HV2.out],by rw[HR2.out];exact(Ow.cellsLow (by omega) _ _ _ HO5.out).wk (by omega),by first|exact Ow.none _ _|(rw[if_neg HM0.out];exact Ow.none _ _),below_cellsG (by omega) _ _ _ T5.out.bel⟩
  have dM:(M != 0)=false:=by rw[hM0];rfl
  have HZ:Hid (N0 % n=0):=hd0 (by rw[hM];exact hM0)
  subst hM0
  clear hn hkq hM
  go_upto_region 10 with fail
  obtain⟨D,hD⟩:∃ D,decide (1<wo)=D:=⟨_,rfl⟩
  have hpb:=ckP_b o HO.out wo (kq+1)
  obtain⟨⟨p1,p2,p3,P4,pe⟩,hP⟩:∃ z,ckP o wo (kq+1)=z:=⟨_,rfl⟩
  have hP':putC o.a.lv D o.a.iv (kq+1) o.a.mp o.a.md=(p1,p2,p3,P4,pe):=by
   rw[←hP,← hD];unfold ckP
   rw[show decide (1<wo)=decide (2≤wo) from by rw[decide_eq_decide];omega]
  have HPB:Hid (ckS o wo (kq+1)=sentR (chkG o.a.lv) p1 p2 p3 P4 []):=hd0 (by unfold ckS;rw[hP])
  rw[hP] at hpb
  have HPQ:=hd0 hpb
  have PU:Hid (∀ W,Calls Tryz.prog 43 #[.agg #[.int .u8 o.a.lv,.bool D,.int .u8 o.a.iv,.int .u32 (kq+1),.int .u16 o.a.mp,.string (bs o.a.md)]] W fun en w'=>en=.returned (.tuple #[.agg #[.int .u8 p1,.int .u8 p2,.int .u8 p3,.string (bs P4),.slice none 0 0],.int .i64 pe])∧Below W.heap.size W w'):=hd0 fun W=>by
   have h:=refPut13_any o.a.lv D o.a.iv (kq+1) o.a.mp o.a.md W HO.out.a.md (by omega) HO.out.a.mp
   rw[hP'] at h;exact h
  clear hP hP' hpb
  have T6:=hd0 T5.out.drew
  have HO6:=hd0 (HO5.out.later (Below.refl _ _).drew)
  have KN:=hd0 (show r2.nw=N by rw[HR2.out,HR1.out])
  have S5:Hid (∀ W,TB w W o v2 r2→W.cell? ⟨w.heap.size,0,none⟩=some (.int .u8 o.a.lv)∧W.cell? ⟨w.heap.size,1,none⟩=some (.int .u8 o.a.iv)∧W.cell? ⟨w.heap.size,2,none⟩=some (.string (bs o.a.md))∧W.cell? ⟨w.heap.size,3,none⟩=some (.int .u16 o.a.mp)∧W.cell? ⟨w.heap.size,13,none⟩=some (.int .i64 N)):=hd0 fun W h=>⟨h.c 0 _ rfl,h.c 1 _ rfl,h.c 2 _ rfl,h.c 3 _ rfl,h.c 13 _ (by rw[←KN.out];rfl)⟩
  obtain⟨FA,hFA⟩:∃ A:Array Value,A=#[.int .u8 p1,.int .u8 p2,.int .u8 p3,.string (bs P4),.slice none 0 0]:=⟨_,rfl⟩
  have HSZ:Hid (FA.size=5):=hd0 (by rw[hFA];rfl)
  have HIF:Hid ((Tryz.prog.info? 115).map (·.size)=some FA.size):=hd0 (by rw[HSZ.out];kernel_rfl)
  have O1F:Hid (FA.all (·.oneCell')=true):=hd0 (by rw[hFA];simp[Value.oneCell'])
  have HFA:=hd0 hFA
  clear hFA c1 c11 c13 c14 T5 HO5
  go_cut [10] (fun s10 wx=>∃ q:Nat,s10=.pointer (some ⟨q,0,none⟩)∧Hid (GB 115 wx q FA∧q<wx.heap.size∧w.heap.size+2≤q)∧Hid (TB w wx o v2 r2)∧Hid (Ow 1 u8C 5 wx (w.heap.size+2) (.slice s2 L2 k2') ws2))
  case first =>
   refine wp_region_held_drew (S:=fun W=>W.cell? ⟨w.heap.size,0,none⟩=some (.int .u8 o.a.lv)∧W.cell? ⟨w.heap.size,1,none⟩=some (.int .u8 o.a.iv)∧W.cell? ⟨w.heap.size,2,none⟩=some (.string (bs o.a.md))∧W.cell? ⟨w.heap.size,3,none⟩=some (.int .u16 o.a.mp)∧W.cell? ⟨w.heap.size,13,none⟩=some (.int .i64 N)) (by kernel_rfl) (S5.out _ T6.out) (fun hHeld=>?_)
   refine tkH 0 ?_ ?h ?_
   case h=>(intro w hSw;go_simp;try with_reducible rfl)
   try simp only[Act.put,zz]
   refine tkH 1 ?_ ?h ?_
   case h=>(intro w hSw;go_simp;try with_reducible rfl)
   try simp only[Act.put,zz]
   refine tkH 2 ?_ ?h ?_
   case h=>(intro w hSw;go_simp;try with_reducible rfl)
   try simp only[Act.put,zz]
   refine tkH 3 ?_ ?h ?_
   case h=>(intro w hSw;go_simp;try with_reducible rfl)
   try simp only[Act.put,zz]
   refine tkH 4 ?_ ?h ?_
   case h=>(intro w hSw;go_simp;try with_reducible rfl)
   try simp only[Act.put,zz]
   refine tkH 5 ?_ ?h ?_
   case h=>(intro w hSw;go_simp;try with_reducible rfl)
   try simp only[Act.put,zz]
   refine tkH 6 ?_ ?h ?_
   case h=>(intro w hSw;go_simp;try with_reducible rfl)
   try simp only[Act.put,zz]
   refine tkH 7 ?_ ?h ?_
   case h=>(intro w hSw;go_simp;try with_reducible rfl)
   try simp only[Act.put,zz]
   refine tkH 8 ?_ ?h ?_
   case h=>(intro w hSw;go_simp;try with_reducible rfl)
   try simp only[Act.put,zz]
   refine tkH 9 ?_ ?h ?_
   case h=>(intro w hSw;go_simp;try with_reducible rfl)
   try simp only[Act.put,zz]
   refine tkH 10 ?_ ?h ?_
   case h=>(intro w hSw;go_simp;try with_reducible rfl)
   try simp only[Act.put,zz]
   refine tkH 11 ?_ ?h ?_
   case h=>(intro w hSw;go_simp;try with_reducible rfl)
   try simp only[Act.put,zz]
   refine tkH 12 ?_ ?h ?_
   case h=>(intro w hSw;go_simp;try with_reducible rfl)
   try simp only[Act.put,zz]
   refine tkH 13 ?_ ?h ?_
   case h=>(intro w hSw;go_simp;try with_reducible rfl)
   try simp only[Act.put,zz]
   refine tkH 14 ?_ ?h ?_
   case h=>(intro w hSw;go_simp;try with_reducible rfl)
   try simp only[Act.put,zz]
   refine tkH 15 ?_ ?h ?_
   case h=>(intro w hSw;go_simp;try with_reducible rfl)
   try simp only[Act.put,zz]
   refine tkH 16 ?_ ?h ?_
   case h=>(intro w hSw;go_simp;try with_reducible rfl)
   try simp only[Act.put,zz]
   refine tkH 17 ?_ ?h ?_
   case h=>(intro w hSw;go_simp;try with_reducible rfl)
   try simp only[Act.put,zz]
   refine tkH 18 ?_ ?h ?_
   case h=>(intro w hSw;go_simp;try with_reducible rfl)
   try simp only[Act.put,zz]
   refine tkH 19 ?_ ?h ?_
   case h=>(intro w hSw;go_simp;try with_reducible rfl)
   try simp only[Act.put,zz]
   refine tkH 20 ?_ ?h ?_
   case h=>(intro w hSw;go_simp;try with_reducible rfl)
   try simp only[Act.put,zz]
   refine tkH 21 ?_ ?h ?_
   case h=>(intro w hSw;go_simp;try with_reducible rfl)
   try simp only[Act.put,zz]
   refine wpAnyH_ready (rs:=[22,26]) (by kernel_rfl) (by simp) (AllReadyH.cons rfl (fun K hK=>?_) (AllReadyH.cons rfl (fun K hK=>?_) AllReadyH.nil))
   ·(go_simp;go_at_call 43;(with_reducible refine(PU.out _).mono ?_);rintro en wp ⟨rfl,hbp⟩;have T7:=hd0 (T6.out.later hbp);have HO7:=hd0 (HO6.out.later hbp);clear hbp;refine hK.out _ _ (S5.out _ T7.out) (fun hHeld=>?_);clear hK K;try simp only[Act.put,zz])
    have ab:=below_cellsG (Nat.le_refl _) FA.toList 0 _ ((Below.refl wp.heap.size wp).alloc (Nat.le_refl _) (.cells yU 115))
    have GN:Hid (GB 115 (wp.alloc (.cells yU 115)) wp.heap.size #[.int .u8 0,.int .u8 0,.int .u8 0,.string { data:=#[] },.slice none 0 0]):=hd0 (GB.new _ wp _)
    have T8:=hd0 (T7.out.later ((Below.refl wp.heap.size wp).alloc (Nat.le_refl _) (.cells yU 115)))
    have T9:=hd0 (T7.out.later ab)
    have HO9:=hd0 (HO7.out.later ab)
    have G9:=hd0 (GB.store GN.out HSZ.out.symm O1F.out)
    clear ab
    refine tkH 23 ?_ ?h ?_
    case h=>(intro w hSw;go_simp;try with_reducible rfl)
    try simp only[Act.put,zz]
    refine tkH 24 ?_ ?h ?_
    case h=>(intro w hSw;go_simp;try with_reducible rfl)
    try simp only[Act.put,zz]
    refine tkH 25 ?_ ?h ?_
    case h=>(intro w hSw;go_simp;try with_reducible rfl)
    try simp only[Act.put,zz]
    refine rdH 26 fun K hK=>?_
    (go_simp;refine hK.out _ _ (S5.out _ T8.out) (fun hHeld=>?_);clear hK K;try simp only[Act.put,zz])
    refine rdH 27 fun K hK=>?_
    (rw[if_pos (by rfl)];refine wp_store_mid 115 (.tmp 10) (.tmp 73) rfl wp.heap.size 0 FA rfl (by rw[HFA.out];rfl) (GN.out.there (Nat.le_of_eq HSZ.out)) HIF.out O1F.out ?_;refine hK.out _ _ (S5.out _ T9.out) (fun hHeld=>?_);clear hK K;try simp only[Act.put,List.setIfInBounds_toArray])
    refine tkH 28 ?_ ?h ?_
    case h=>(intro w hSw;go_simp;try with_reducible rfl)
    try simp only[Act.put,zz]
    refine wpAnyH_done (by kernel_rfl) ?_ _
    go_wp2_with fail
    go_meet
    exact⟨_,rfl,hd0 ⟨G9.out,G9.out.lt,T7.out.sz⟩,T9,HO9⟩
   ·(go_simp;have GN:Hid (GB 115 (w6.drew.alloc (.cells yU 115)) w6.drew.heap.size #[.int .u8 0,.int .u8 0,.int .u8 0,.string { data:=#[] },.slice none 0 0]):=hd0 (GB.new _ w6.drew _);have T7:=hd0 (T6.out.later (bA (.cells yU 115)));have HO7:=hd0 (HO6.out.later (bA (.cells yU 115)));refine hK.out _ _ (S5.out _ T7.out) (fun hHeld=>?_);clear hK K;try simp only[Act.put,zz])
    refine rdH 22 fun K hK=>?_
    (go_simp;go_at_call 43;(with_reducible refine(PU.out _).mono ?_);rintro en wp ⟨rfl,hbp⟩;have T8:=hd0 (T7.out.later hbp);have HO8:=hd0 (HO7.out.later hbp);have GN:=hd0 (GN.out.later hbp);clear hbp;refine hK.out _ _ (S5.out _ T8.out) (fun hHeld=>?_);clear hK K;try simp only[Act.put,zz])
    have hq:w.heap.size+2≤w6.drew.heap.size:=T6.out.sz
    have T9:Hid (TB w (wp.setCells w6.drew.heap.size 0 FA.toList) o v2 r2):=hd0 (T8.out.low (below_cellsG hq FA.toList 0 _ (Below.refl _ _)))
    have G9:=hd0 (GB.store GN.out HSZ.out.symm O1F.out)
    have HO9:Hid (Ow 1 u8C 5 (wp.setCells w6.drew.heap.size 0 FA.toList) (w.heap.size+2) (.slice s2 L2 k2') ws2):=hd0 (HO8.out.cellsOff (fun g hg=>by have:=HO6.out.lt hg;omega) FA.toList 0)
    refine tkH 23 ?_ ?h ?_
    case h=>(intro w hSw;go_simp;try with_reducible rfl)
    try simp only[Act.put,zz]
    refine tkH 24 ?_ ?h ?_
    case h=>(intro w hSw;go_simp;try with_reducible rfl)
    try simp only[Act.put,zz]
    refine tkH 25 ?_ ?h ?_
    case h=>(intro w hSw;go_simp;try with_reducible rfl)
    try simp only[Act.put,zz]
    refine rdH 27 fun K hK=>?_
    (rw[if_pos (by rfl)];refine wp_store_mid 115 (.tmp 10) (.tmp 73) rfl w6.drew.heap.size 0 FA rfl (by rw[HFA.out];rfl) (GN.out.there (Nat.le_of_eq HSZ.out)) HIF.out O1F.out ?_;refine hK.out _ _ (S5.out _ T9.out) (fun hHeld=>?_);clear hK K;try simp only[Act.put,List.setIfInBounds_toArray])
    refine tkH 28 ?_ ?h ?_
    case h=>(intro w hSw;go_simp;try with_reducible rfl)
    try simp only[Act.put,zz]
    refine wpAnyH_done (by kernel_rfl) ?_ _
    go_wp2_with fail
    go_meet
    exact⟨_,rfl,hd0 ⟨G9.out,G9.out.lt,hq⟩,T9,HO9⟩
  case rest =>
   obtain⟨q,rfl,GQ,T7,HO7⟩:=hcut
   have c0:=T7.out.c 0 (.int .u8 o.a.lv) rfl
   have LV:Hid (∀ W,Calls Tryz.prog 44 #[.int .i64 o.a.lv] W fun en w'=>en=.returned (.tuple #[.agg #[.int .u8 1,.int .u8 128,.int .u8 194,.int .u8 0,.int .u8 0,.int .u8 (48+o.a.lv)],.agg #[.int .u8 1,.int .u8 128,.int .u8 194,.int .u8 0,.int .u8 0,.int .u8 (56+o.a.lv)]])∧Below W.heap.size W w'):=hd0 fun W=>refLevels_any o.a.lv W HO.out.a.lv.1 hlv
   have wl:IntKind.i64.wrap o.a.lv=o.a.lv:=IntWalk.i64_in _ (by have:=HO.out.a.lv;omega)
   go_upto_region 12 with(go_at_call 44;(with_reducible refine(LV.out _).mono ?_);rintro en w8 ⟨rfl,hb8⟩;have T8:=hd0 (T7.out.later hb8);have HO8:=hd0 (HO7.out.later hb8);have GQ8:Hid (GB 115 w8 q FA∧q<w8.heap.size):=hd0 ⟨GQ.out.1.later hb8,Nat.lt_of_lt_of_le GQ.out.2.1 hb8.size⟩;clear hb8)
   have A8:Below w8.heap.size w8 ((w8.alloc (.cells #[.int .u8 1,.int .u8 128,.int .u8 194,.int .u8 0,.int .u8 0,.int .u8 (48+o.a.lv)] 25)).alloc (.cells #[.int .u8 1,.int .u8 128,.int .u8 194,.int .u8 0,.int .u8 0,.int .u8 (56+o.a.lv)] 25)):=(bA _).alloc (by simp) _
   have GM:GB 25 ((w8.alloc (.cells #[.int .u8 1,.int .u8 128,.int .u8 194,.int .u8 0,.int .u8 0,.int .u8 (48+o.a.lv)] 25)).alloc (.cells #[.int .u8 1,.int .u8 128,.int .u8 194,.int .u8 0,.int .u8 0,.int .u8 (56+o.a.lv)] 25)) w8.heap.size #[.int .u8 1,.int .u8 128,.int .u8 194,.int .u8 0,.int .u8 0,.int .u8 (48+o.a.lv)]:=(GB.new 25 w8 #[.int .u8 1,.int .u8 128,.int .u8 194,.int .u8 0,.int .u8 0,.int .u8 (48+o.a.lv)]).later (bA _)
   obtain⟨w9,hw9⟩:∃ k,(w8.alloc (.cells #[.int .u8 1,.int .u8 128,.int .u8 194,.int .u8 0,.int .u8 0,.int .u8 (48+o.a.lv)] 25)).alloc (.cells #[.int .u8 1,.int .u8 128,.int .u8 194,.int .u8 0,.int .u8 0,.int .u8 (56+o.a.lv)] 25)=k:=⟨_,rfl⟩
   rw[hw9] at A8 GM ⊢
   have T9:=hd0 (T8.out.later A8.drew)
   have HO9:=hd0 (HO8.out.later A8.drew)
   have GQ9:Hid (GB 115 w9.drew q FA):=hd0 (GQ8.out.1.later A8.drew)
   have hq2s:w.heap.size+2≤w8.heap.size:=T8.out.sz
   obtain⟨q2,hq2⟩:∃ k,w8.heap.size=k:=⟨_,rfl⟩
   rw[hq2] at GM hq2s ⊢
   have GM9:Hid (GB 25 w9.drew q2 #[.int .u8 1,.int .u8 128,.int .u8 194,.int .u8 0,.int .u8 0,.int .u8 (48+o.a.lv)]):=hd0 GM.drew
   have HQQ:=hd0 (And.intro hq2s GQ.out.2.2)
   clear A8 GM hw9 hq2 hq2s T7 T8 HO7 HO8 GQ8 c0 wl LV
   have PT:Hid (∀ W,Calls Tryz.prog 45 #[.agg #[.int .u8 1,.int .u8 128,.int .u8 194,.int .u8 0,.int .u8 0,.int .u8 (48+o.a.lv)],.agg #[.int .u8 p1,.int .u8 p2,.int .u8 p3,.string (bs P4),.slice none 0 0]] W fun en w'=>∃ u,en=.returned u∧Ow 7 snC 58 w' W.heap.size u (ckS o wo (kq+1))∧Below W.heap.size W w'):=hd0 fun W=>by
    rw[HPB.out]
    exact rsent_any (chkG o.a.lv) (.slice none 0 0) p1 p2 p3 P4 [] W (Tls.nil _) (by simp) (by simp) HPQ.out.2.2.2 (by simp[putT]) HPQ.out.1 HPQ.out.2.1 HPQ.out.2.2.1
   have SX:Hid (∀ W,GB 44 W w.heap.size (rfA o v2 r2)→GB 25 W q2 #[.int .u8 1,.int .u8 128,.int .u8 194,.int .u8 0,.int .u8 0,.int .u8 (48+o.a.lv)]→GB 115 W q FA→W.rangeAt w.heap.size 0 (rfA o v2 r2).toList∧(W.cell? ⟨q2,0,none⟩=some (.int .u8 1)∧W.cell? ⟨q2,1,none⟩=some (.int .u8 128)∧W.cell? ⟨q2,2,none⟩=some (.int .u8 194)∧W.cell? ⟨q2,3,none⟩=some (.int .u8 0)∧W.cell? ⟨q2,4,none⟩=some (.int .u8 0)∧W.cell? ⟨q2,5,none⟩=some (.int .u8 (48+o.a.lv))) ∧
     W.cell? ⟨q,0,none⟩=some (.int .u8 p1)∧W.cell? ⟨q,1,none⟩=some (.int .u8 p2)∧W.cell? ⟨q,2,none⟩=some (.int .u8 p3)∧W.cell? ⟨q,3,none⟩=some (.string (bs P4))∧W.cell? ⟨q,4,none⟩=some (.slice none 0 0)):=hd0 fun W h1 h2 h3 =>
    ⟨h1.range,⟨h2.c 0 _ rfl,h2.c 1 _ rfl,h2.c 2 _ rfl,h2.c 3 _ rfl,h2.c 4 _ rfl,h2.c 5 _ rfl⟩,h3.c 0 _ (by rw[HFA.out];rfl),h3.c 1 _ (by rw[HFA.out];rfl),h3.c 2 _ (by rw[HFA.out];rfl),h3.c 3 _ (by rw[HFA.out];rfl),h3.c 4 _ (by rw[HFA.out];rfl)⟩
   refine wp_region_held_drew (S:=fun W=>W.rangeAt w.heap.size 0 (rfA o v2 r2).toList∧(W.cell? ⟨q2,0,none⟩=some (.int .u8 1)∧W.cell? ⟨q2,1,none⟩=some (.int .u8 128)∧W.cell? ⟨q2,2,none⟩=some (.int .u8 194)∧W.cell? ⟨q2,3,none⟩=some (.int .u8 0)∧W.cell? ⟨q2,4,none⟩=some (.int .u8 0)∧W.cell? ⟨q2,5,none⟩=some (.int .u8 (48+o.a.lv))) ∧
     W.cell? ⟨q,0,none⟩=some (.int .u8 p1)∧W.cell? ⟨q,1,none⟩=some (.int .u8 p2)∧W.cell? ⟨q,2,none⟩=some (.int .u8 p3)∧W.cell? ⟨q,3,none⟩=some (.string (bs P4))∧W.cell? ⟨q,4,none⟩=some (.slice none 0 0)) (by kernel_rfl) (SX.out _ T9.out.gb GM9.out GQ9.out) (fun hHeld=>?_)
   refine wpAnyH_take (i:=0) (v:=.agg (rfA o v2 r2).toList.toArray) rfl (by kernel_rfl) (by kernel_rfl) (by kernel_rfl) (fun _ _ _ h=>h) (yieldsIf_load_mid (by rfl) 44 (.tmp 1) rfl w.heap.size 0 rfl (rfA o v2 r2).toList _ (fun _ h=>h.1) Tryz.underlying44 rfl HI2L.out) (by assumption) ?_
   simp only[Array.toArray_toList]
   try simp only[Act.put,zz]
   refine tkH 1 ?_ ?h ?_
   case h=>(intro w hSw;go_simp;try with_reducible rfl)
   try simp only[Act.put,zz]
   refine tkH 2 ?_ ?h ?_
   case h=>(intro w hSw;go_simp;try with_reducible rfl)
   try simp only[Act.put,zz]
   refine tkH 4 ?_ ?h ?_
   case h=>(intro w hSw;go_simp;try with_reducible rfl)
   try simp only[Act.put,zz]
   refine rdH 3 fun K hK=>?_
   (go_simp;go_at_call 45;(with_reducible refine(PT.out _).mono ?_);rintro en wq ⟨u,rfl,hu,hbq⟩;have T10:=hd0 (T9.out.later hbq);have HO10:=hd0 (HO9.out.later hbq);have GM10:=hd0 (GM9.out.later hbq);have GQ10:=hd0 (GQ9.out.later hbq);have HU:=hd0 (hu.wk T9.out.sz);clear hbq hu;refine hK.out _ _ (SX.out _ T10.out.gb GM10.out GQ10.out) (fun hHeld=>?_);clear hK K;try simp only[Act.put,zz])
   have GB11:Hid (GB 44 (wq.setCells (w.heap.size+1) 0 (rfA o v2 r2).toList) w.heap.size (rfA o v2 r2)):=hd0 (GB.cellsOther (by omega) _ _ _ T10.out.gb)
   have GM11:Hid (GB 25 (wq.setCells (w.heap.size+1) 0 (rfA o v2 r2).toList) q2 #[.int .u8 1,.int .u8 128,.int .u8 194,.int .u8 0,.int .u8 0,.int .u8 (48+o.a.lv)]):=hd0 (GB.cellsOther (by have:=HQQ.out;omega) _ _ _ GM10.out)
   have GQ11:Hid (GB 115 (wq.setCells (w.heap.size+1) 0 (rfA o v2 r2).toList) q FA):=hd0 (GB.cellsOther (by have:=HQQ.out;omega) _ _ _ GQ10.out)
   refine rdH 5 fun K hK=>?_
   (rw[if_pos (by rfl)];refine wp_store_mid 44 (.tmp 2) (.tmp 83) rfl (w.heap.size+1) 0 (rfA o v2 r2) rfl rfl T10.out.thr HI2.out ONE.out ?_;refine hK.out _ _ (SX.out _ GB11.out GM11.out GQ11.out) (fun hHeld=>?_);clear hK K;try simp only[Act.put,List.setIfInBounds_toArray])
   refine tkH 6 ?_ ?h ?_
   case h=>(intro w hSw;go_simp;try with_reducible rfl)
   try simp only[Act.put,zz]
   refine tkH 7 ?_ ?h ?_
   case h=>(intro w hSw;go_simp;try with_reducible rfl)
   try simp only[Act.put,zz]
   refine wpAnyH_done (by kernel_rfl) ?_ _
   have GF:=hd0 (T10.out.fin ONE.out)
   have OF:Hid (Ow 1 u8C 5 (wq.setCells (w.heap.size+1) 0 (rfA o v2 r2).toList) w.heap.size (.slice s2 L2 k2') ws2):=hd0 ((Ow.cellsLow (by omega) _ _ _ HO10.out).wk (by omega))
   have UF:Hid (Ow 7 snC 58 (wq.setCells (w.heap.size+1) 0 (rfA o v2 r2).toList) w.heap.size u (ckS o wo (kq+1))):=hd0 ((Ow.cellsLow (by omega) _ _ _ HU.out).wk (by omega))
   have BF:Hid (Below w.heap.size w (wq.setCells (w.heap.size+1) 0 (rfA o v2 r2).toList)):=hd0 (below_cellsG (by omega) _ _ _ T10.out.bel)
   clear hHeld GB11 GM11 GQ11
   obtain⟨wf,hwf⟩:∃ k,wq.setCells (w.heap.size+1) 0 (rfA o v2 r2).toList=k:=⟨_,rfl⟩
   rw[hwf] at GF OF UF BF ⊢
   clear hwf
   go_wp2_with fail
   exact bodyPost_ret (v:=.tuple #[.agg (rfA o v2 r2),u,.int .u8 a3]) (res_ctt (p:=2) (u1:=3) (u2:=4) (d:=_) rfl rfl Tryz.underlying44 _ _ (w.heap.size+1) _ rfl GF.out HI2.out) rfl ⟨.slice s2 L2 k2',u,by rw[HV2.out],by rw[HR2.out];exact OF.out,by first|exact UF.out|(rw[if_pos HZ.out];exact UF.out),BF.out⟩
end Go.Proofs.YtlkdfofpnmpidaaGreat
