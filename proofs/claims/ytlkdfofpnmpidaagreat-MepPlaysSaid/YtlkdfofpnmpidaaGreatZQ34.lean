/- ZQ34 -/
import Derived.Test.YtlkdfofpnmpidaaGreatZQ33
set_option linter.unusedVariables false
set_option linter.unusedSimpArgs false
set_option maxRecDepth 100000
set_option maxHeartbeats 16000000
namespace Go.Proofs.YtlkdfofpnmpidaaGreat
open Go.RowKit
theorem tqA (W:World)(o:Ow20)(v:Rv)(r:Rf):Hid (World.there (W.alloc (.cells yP 44)) W.heap.size 0 (rfA o v r).size):=hd0 ((GB.new 44 W #[.int .u8 0,.int .u8 0,.string { data:=#[] },.int .u16 0,.slice none 0 0,.int .u8 0,.int .u8 0,.int .u8 0,.int .u8 0,.int .u8 0,.int .u8 0,.int .u8 0,.slice none 0 0,.int .i64 0,.slice none 0 0,.int .u64 0,.int .u32 0,.string { data:=#[] },.int .i64 0,.int .i64 0,.int .u32 0,.slice none 0 0]).there (Nat.le_refl _))
theorem tqB (W:World)(o:Ow20)(v:Rv)(r:Rf):Hid (World.there ((W.alloc (.cells yP 44)).alloc (.cells yS 58)) W.heap.size 0 (rfA o v r).size):=hd0 (((GB.new 44 W #[.int .u8 0,.int .u8 0,.string { data:=#[] },.int .u16 0,.slice none 0 0,.int .u8 0,.int .u8 0,.int .u8 0,.int .u8 0,.int .u8 0,.int .u8 0,.int .u8 0,.slice none 0 0,.int .i64 0,.slice none 0 0,.int .u64 0,.int .u32 0,.string { data:=#[] },.int .i64 0,.int .i64 0,.int .u32 0,.slice none 0 0]).later (bA _)).there (Nat.le_refl _))
theorem tqC (W:World)(L:Array Value)(y:Sn):Hid (World.there (((W.alloc (.cells yP 44)).alloc (.cells yS 58)).setCells W.heap.size 0 L.toList) (W.heap.size+1) 0 (snC y).toArray.size):=hd0 (there_two W _ (snC y).toArray rfl)
theorem ob12 {W:World}{B:Nat}{o:Ow20}{ov:Value}(h:GB 27 W B #[.int .u8 o.a.lv,.int .u8 o.a.iv,.string (bs o.a.md),.int .u16 o.a.mp,ov,.int .u8 o.mc.a,.int .u8 o.mc.b,.int .u8 o.mc.c,.int .u8 o.mc.d,.int .u8 o.mc.e,.int .u8 o.mc.f,.int .u8 o.lw]):W.cell? ⟨B,0,none⟩=some (.int .u8 o.a.lv)∧W.cell? ⟨B,1,none⟩=some (.int .u8 o.a.iv)∧W.cell? ⟨B,2,none⟩=some (.string (bs o.a.md))∧W.cell? ⟨B,3,none⟩=some (.int .u16 o.a.mp)∧W.cell? ⟨B,4,none⟩=some ov∧W.cell? ⟨B,5,none⟩=some (.int .u8 o.mc.a)∧W.cell? ⟨B,6,none⟩=some (.int .u8 o.mc.b)∧W.cell? ⟨B,7,none⟩=some (.int .u8 o.mc.c)∧W.cell? ⟨B,8,none⟩=some (.int .u8 o.mc.d)∧W.cell? ⟨B,9,none⟩=some (.int .u8 o.mc.e)∧W.cell? ⟨B,10,none⟩=some (.int .u8 o.mc.f)∧W.cell? ⟨B,11,none⟩=some (.int .u8 o.lw) :=
 ⟨h.c 0 _ rfl,h.c 1 _ rfl,h.c 2 _ rfl,h.c 3 _ rfl,h.c 4 _ rfl,h.c 5 _ rfl,h.c 6 _ rfl,h.c 7 _ rfl,h.c 8 _ rfl,h.c 9 _ rfl,h.c 10 _ rfl,h.c 11 _ rfl⟩
theorem acA_one (y:Ac):(acC y).toArray.all (·.oneCell')=true:=by unfold acC;simp[Value.oneCell']
theorem grD_false {l:List Ac}(h:grD l=false):∀ x∈l,x.dt.length≤1600:=by
 intro x hx
 unfold grD at h
 rw[List.any_eq_false] at h
 have:=h x hx
 simp at this
 omega
theorem MepPlays_walk (o:Ow20)(ov:Value)(ks:List Int)(lv:Value)(l:List Ac)(w:World)(hO:OwE w o ov ks)(hL:Rw 15 acC w lv l∧l.length≤maxLen∧∀ x∈l,x.Ok) :
  Calls Tryz.prog 3 #[.agg #[.int .u8 o.a.lv,.int .u8 o.a.iv,.string (bs o.a.md),.int .u16 o.a.mp,ov,.int .u8 o.mc.a,.int .u8 o.mc.b,.int .u8 o.mc.c,.int .u8 o.mc.d,.int .u8 o.mc.e,.int .u8 o.mc.f,.int .u8 o.lw],lv] w fun en w'=>en=.returned (.bool true)∧Below w.heap.size w w':=by
 obtain⟨hA,hM,hW,hK1,hK2,hK3⟩:=hO
 obtain⟨hL1,hL2,hL3⟩:=hL
 have WK:=hd0 wakes20_any
 obtain⟨oa,oc,hov,-⟩:=hK1.shape
 have OF:Hid (∀ w,Calls Tryz.prog 9 #[.agg #[.int .u8 o.a.lv,.int .u8 o.a.iv,.string (bs o.a.md),.int .u16 o.a.mp,ov,.int .u8 o.mc.a,.int .u8 o.mc.b,.int .u8 o.mc.c,.int .u8 o.mc.d,.int .u8 o.mc.e,.int .u8 o.mc.f,.int .u8 o.lw]] w fun en w'=>en=.returned (.agg #[.int .u8 o.a.lv,.int .u8 o.a.iv,.string (bs o.a.md),.int .u16 o.a.mp,ov,.int .u8 o.mc.a,.int .u8 o.mc.b,.int .u8 o.mc.c,.int .u8 o.mc.d,.int .u8 o.mc.e,.int .u8 o.mc.f,.int .u8 o.lw])∧Below w.heap.size w w'):=hd0 fun w=>of20_any o ov ⟨_,_,_,hov⟩ w
 have GR:Hid (∀ W,Below w.heap.size w W→Calls Tryz.prog 6 #[.agg #[.int .u8 o.a.lv,.int .u8 o.a.iv,.string (bs o.a.md),.int .u16 o.a.mp,ov,.int .u8 o.mc.a,.int .u8 o.mc.b,.int .u8 o.mc.c,.int .u8 o.mc.d,.int .u8 o.mc.e,.int .u8 o.mc.f,.int .u8 o.lw],lv] W fun en w'=>en=.returned (.bool (grE o ks l))∧Below W.heap.size W w'):=hd0 fun W hb=>great20_any o ov ks lv l W (hK1.later u1_len hb) (hL1.later acC_len hb) (fun x hx=>(hL3 x hx).dt) hA.2.2.2 hK2 hL2
 obtain⟨G,hG⟩:∃ G,grE o ks l=G:=⟨_,rfl⟩
 rw[hG] at GR
 have HG:=hd0 hG
 have HKL:=hd0 (And.intro hK1 (And.intro hL1 (And.intro hK3 hL3)))
 have HAM:=hd0 (And.intro hA (And.intro hM hW))
 clear hK1 hL1 hK2 hL2 hK3 hL3 hA hM hW hG hov oa oc
 go_enter Tryz.func3,Tryz.ntmps3
 go_upto_region 1 with fail
 have g0:GB 27 (w.alloc (.cells #[.int .u8 o.a.lv,.int .u8 o.a.iv,.string (bs o.a.md),.int .u16 o.a.mp,ov,.int .u8 o.mc.a,.int .u8 o.mc.b,.int .u8 o.mc.c,.int .u8 o.mc.d,.int .u8 o.mc.e,.int .u8 o.mc.f,.int .u8 o.lw] 27)) w.heap.size #[.int .u8 o.a.lv,.int .u8 o.a.iv,.string (bs o.a.md),.int .u16 o.a.mp,ov,.int .u8 o.mc.a,.int .u8 o.mc.b,.int .u8 o.mc.c,.int .u8 o.mc.d,.int .u8 o.mc.e,.int .u8 o.mc.f,.int .u8 o.lw]:=heap_alloc_new _ _
 have b0:Below w.heap.size w (w.alloc (.cells #[.int .u8 o.a.lv,.int .u8 o.a.iv,.string (bs o.a.md),.int .u16 o.a.mp,ov,.int .u8 o.mc.a,.int .u8 o.mc.b,.int .u8 o.mc.c,.int .u8 o.mc.d,.int .u8 o.mc.e,.int .u8 o.mc.f,.int .u8 o.lw] 27)):=bA _
 obtain⟨w0,hw0⟩:∃ k,w.alloc (.cells #[.int .u8 o.a.lv,.int .u8 o.a.iv,.string (bs o.a.md),.int .u16 o.a.mp,ov,.int .u8 o.mc.a,.int .u8 o.mc.b,.int .u8 o.mc.c,.int .u8 o.mc.d,.int .u8 o.mc.e,.int .u8 o.mc.f,.int .u8 o.lw] 27)=k:=⟨_,rfl⟩
 rw[hw0] at g0 b0 ⊢
 obtain⟨B,hB⟩:∃ k,w.heap.size=k:=⟨_,rfl⟩
 have HB:=hd0 hB
 rw[hB] at g0
 have S0:Hid (GB 27 w0 B #[.int .u8 o.a.lv,.int .u8 o.a.iv,.string (bs o.a.md),.int .u16 o.a.mp,ov,.int .u8 o.mc.a,.int .u8 o.mc.b,.int .u8 o.mc.c,.int .u8 o.mc.d,.int .u8 o.mc.e,.int .u8 o.mc.f,.int .u8 o.lw]∧Below w.heap.size w w0):=hd0 ⟨g0,b0⟩
 rw[hB]
 clear hw0 g0 b0 hB
 obtain⟨k0,k1,k2,k3,k4,k5,k6,k7,k8,k9,k10,k11⟩:=ob12 S0.out.1
 go_wp2_with fail
 with_reducible refine(GR.out _ S0.out.2).mono ?_
 rintro en w1 ⟨rfl,hb1⟩
 have S1:=hd0 (And.intro (S0.out.1.later hb1) (S0.out.2.trans (hb1.mono S0.out.2.size)))
 clear hb1 S0 k0 k1 k2 k3 k4 k5 k6 k7 k8 k9 k10 k11 GR
 cases G
 rotate_left
 ·go_wp2_with (go_at_call 7;with_reducible refine(WK.out _).mono ?_;rintro e w' ⟨rfl,hb⟩)
  go_ret
  exact⟨rfl,S1.out.2.trans (hb.mono S1.out.2.size)⟩
 have hg:=HG.out
 unfold grE at hg
 simp only[Bool.or_eq_false_iff,decide_eq_false_iff_not] at hg
 obtain⟨hg1,hg2,hg3,hg4⟩:=hg
 have HN:=hd0 (And.intro (show l.length≤60 by omega) (And.intro (show ks.length≤20 by omega) (And.intro (show o.a.md.length≤100 by omega) (grD_false hg4))))
 have HAO:Hid o.Ok:=hd0 ⟨⟨HAM.out.1.1,HAM.out.1.2.1,HAM.out.1.2.2.1,by have:=HN.out.2.2.1;omega⟩,HAM.out.2.1,HAM.out.2.2⟩
 clear hg1 hg2 hg3 hg4 HG
 obtain⟨k0,k1,k2,k3,k4,k5,k6,k7,k8,k9,k10,k11⟩:=ob12 S1.out.1
 go_wp2_with fail
 with_reducible refine(OF.out _).mono ?_
 rintro en w2 ⟨rfl,hb1⟩
 have S2:=hd0 (And.intro (S1.out.1.later hb1) (S1.out.2.trans (hb1.mono S1.out.2.size)))
 clear hb1 S1 k0 k1 k2 k3 k4 k5 k6 k7 k8 k9 k10 k11
 have NW:Hid (Calls Tryz.prog 8 #[.agg #[.int .u8 o.a.lv,.int .u8 o.a.iv,.string (bs o.a.md),.int .u16 o.a.mp,ov,.int .u8 o.mc.a,.int .u8 o.mc.b,.int .u8 o.mc.c,.int .u8 o.mc.d,.int .u8 o.mc.e,.int .u8 o.mc.f,.int .u8 o.lw]] w2 fun en w' =>
  ((newV o.a ks=none∨¬(1≤o.lw∧o.lw≤4)∨hostV o.mc=false)∧en=.returned (.tuple #[.pointer none,.int .i64 2])∧Below w2.heap.size w2 w') ∨
  ∃ V x,newV o.a ks=some V∧(1≤o.lw∧o.lw≤4)∧hostV o.mc=true∧en=.returned (.tuple #[.pointer (some ⟨x.p,0,none⟩),.int .i64 0])∧MM w' o ov x (ms0 V) (.slice none 0 0)∧(w2.heap.size≤x.p∧w2.heap.size≤x.q∧w2.heap.size≤x.m∧w2.heap.size≤x.r)∧Below w2.heap.size w2 w'):=hd0
  (mnew_any o HAO.out ov ks HKL.out.2.2.1 w2 (HKL.out.1.later u1_len S2.out.2) (by have:=HN.out.2.1;omega))
 have MY:Hid (∀ W,Below w.heap.size w W→Calls Tryz.prog 10 #[.agg #[.int .u8 o.a.lv,.int .u8 o.a.iv,.string (bs o.a.md),.int .u16 o.a.mp,ov,.int .u8 o.mc.a,.int .u8 o.mc.b,.int .u8 o.mc.c,.int .u8 o.mc.d,.int .u8 o.mc.e,.int .u8 o.mc.f,.int .u8 o.lw]] W fun en w'=>en=.returned (.bool (may20 o ks))∧Below W.heap.size W w'):=hd0 fun W hb =>
  may20_any o HAO.out ov ks (by have:=HN.out.2.1;omega) W (HKL.out.1.later u1_len hb)
 go_wp2_with fail
 with_reducible refine NW.out.mono ?_
 rintro en w3 hnew
 clear NW
 cases hm:may20 o ks
 ·rw[hm] at MY
  rcases hnew with⟨_,rfl,hb3⟩|⟨V',x',hv',h1',h2',_⟩
  rotate_left
  ·exfalso
   rcases may_n hm with h|h|h
   ·rw[hv'] at h;cases h
   ·exact h h1'
   ·rw[h2'] at h;cases h
  have S3:=hd0 (And.intro (S2.out.1.later hb3) (S2.out.2.trans (hb3.mono S2.out.2.size)))
  clear hb3 S2 hm
  obtain⟨k0,k1,k2,k3,k4,k5,k6,k7,k8,k9,k10,k11⟩:=ob12 S3.out.1
  go_wp2_with fail
  with_reducible refine(MY.out _ S3.out.2).mono ?_
  rintro en w4 ⟨rfl,hb4⟩
  have S4:=hd0 (S3.out.2.trans (hb4.mono S3.out.2.size))
  clear hb4 S3 k0 k1 k2 k3 k4 k5 k6 k7 k8 k9 k10 k11
  go_wp2_with (go_at_call 7;with_reducible refine(WK.out _).mono ?_;rintro e w' ⟨rfl,hb⟩)
  go_ret
  exact⟨rfl,S4.out.trans (hb.mono S4.out.size)⟩
 ·rw[hm] at MY
  have MF:=hd0 (may_f hm)
  rcases hnew with⟨h,_⟩|⟨V,x,hv',h1',h2',rfl,hmm,hlo,hb3⟩
  ·exfalso
   obtain⟨V,hv,_⟩:=MF.out.nv
   rcases h with h|h|h
   ·rw[hv] at h;cases h
   ·exact h MF.out.lw
   ·rw[MF.out.ho] at h;cases h
  have S3:=hd0 (And.intro (S2.out.1.later hb3) (And.intro (S2.out.2.trans (hb3.mono S2.out.2.size)) (And.intro hmm (show w.heap.size≤x.p∧w.heap.size≤x.q∧w.heap.size≤x.m∧w.heap.size≤x.r by have:=S2.out.2.size;omega))))
  have HREL:Hid (Rel o ks (ms0 V) rf0):=hd0 (by
   obtain⟨V2,hv2,_,hi⟩:=MF.out.nv
   rw[hv'] at hv2
   cases hv2
   exact Rel.new hi hmm.mc.ri MF.out.iv)
  clear hb3 S2 hm hmm hlo hv' h1' h2'
  obtain⟨k0,k1,k2,k3,k4,k5,k6,k7,k8,k9,k10,k11⟩:=ob12 S3.out.1
  go_wp2_with fail
  with_reducible refine(MY.out _ S3.out.2.1).mono ?_
  rintro en w4 ⟨rfl,hb4⟩
  have S4:=hd0 (And.intro (S3.out.1.later hb4) (And.intro (S3.out.2.1.trans (hb4.mono S3.out.2.1.size)) (And.intro (S3.out.2.2.1.later hb4) S3.out.2.2.2)))
  clear hb4 S3 k0 k1 k2 k3 k4 k5 k6 k7 k8 k9 k10 k11 MY
  obtain⟨k0,k1,k2,k3,k4,k5,k6,k7,k8,k9,k10,k11⟩:=ob12 S4.out.1
  have IS:=hd0 (show(Tryz.prog.info? 44).map (·.size)=some (rfA o ⟨ov,.slice none 0 0,.slice none 0 0,.slice none 0 0⟩ rf0).size from info_mep)
  have O1:Hid ((rfA o ⟨ov,.slice none 0 0,.slice none 0 0,.slice none 0 0⟩ rf0).all (·.oneCell')=true):=hd0 (rfA_one o _ rf0 HKL.out.1.oneC rfl rfl rfl)
  have GN:=GB.new 44 w4 #[.int .u8 0,.int .u8 0,.string { data:=#[] },.int .u16 0,.slice none 0 0,.int .u8 0,.int .u8 0,.int .u8 0,.int .u8 0,.int .u8 0,.int .u8 0,.int .u8 0,.slice none 0 0,.int .i64 0,.slice none 0 0,.int .u64 0,.int .u32 0,.string { data:=#[] },.int .i64 0,.int .i64 0,.int .u32 0,.slice none 0 0]
  have BN:=(Below.refl w4.heap.size w4).alloc (Nat.le_refl _) (.cells yP 44)
  have HGN:=hd0 (And.intro GN BN)
  have TH:Hid (World.there (w4.alloc (.cells yP 44)) w4.heap.size 0 (rfA o ⟨ov,.slice none 0 0,.slice none 0 0,.slice none 0 0⟩ rf0).size):=hd0 (GN.there (Nat.le_refl _))
  clear GN BN
  go_upto_region 9 with(first
   |((with_reducible refine wpList_store_mid rfl 44 (.tmp 7) (.tmp 57) rfl w4.heap.size 0 (rfA o ⟨ov,.slice none 0 0,.slice none 0 0,.slice none 0 0⟩ rf0) ?hx ?hy TH.out IS.out O1.out ?_);(case hx=>rfl);(case hy=>rfl)))
  obtain⟨v0,hv0⟩:∃ z:Rv,z=⟨ov,.slice none 0 0,.slice none 0 0,.slice none 0 0⟩:=⟨_,rfl⟩
  rw[←hv0] at IS O1 TH ⊢
  have P0:Hid (PM w ((w4.alloc (.cells yP 44)).setCells w4.heap.size 0 (rfA o v0 rf0).toList) w4.heap.size (rfA o v0 rf0) o ov x (ms0 V) (.slice none 0 0) v0 rf0):=hd0 (by
   have hb:=below_cellsG (B:=w4.heap.size) (t:=w4.heap.size) (Nat.le_refl _) (rfA o v0 rf0).toList 0 _ HGN.out.2
   have hsz:=S4.out.2.1.size
   have hD:∀ k,x.D (.slice none 0 0) k→w.heap.size≤k∧k<w4.heap.size:=fun k hk=>by
    have hx:=S4.out.2.2.2
    refine⟨?_,S4.out.2.2.1.ltD hk⟩
    rcases hk with e|e|e|e|e
    ·omega
    ·omega
    ·omega
    ·omega
    ·cases e
   exact⟨S4.out.2.2.1.later hb,HGN.out.1.store (by rfl) O1.out,by rw[hv0];exact Ow.none _ _,by rw[hv0];exact Ow.none _ _,by rw[hv0];exact Ow.none _ _,by rw[hv0],S4.out.2.1.trans (hb.mono hsz),fun k hk=>(hD k hk).1,hsz,fun k hk=>by have:=(hD k hk).2;omega,fun g hg=>by(rw[hv0] at hg;rcases hg with hg|hg|hg <;> cases hg),rfA_size _ _ _⟩)
  obtain⟨w5,hw5⟩:∃ z,(w4.alloc (.cells yP 44)).setCells w4.heap.size 0 (rfA o v0 rf0).toList=z:=⟨_,rfl⟩
  rw[hw5] at P0 ⊢
  obtain⟨R,hR⟩:∃ z,w4.heap.size=z:=⟨_,rfl⟩
  rw[hR] at P0 ⊢
  have A0:Hid ((ms0 V).al.Ok):=hd0 al0_ok
  obtain⟨s0,hs0⟩:∃ z,ms0 V=z:=⟨_,rfl⟩
  rw[hs0] at P0 HREL A0
  obtain⟨OA,hOA⟩:∃ z,(Value.agg #[.int .u8 o.a.lv,.int .u8 o.a.iv,.string (bs o.a.md),.int .u16 o.a.mp,ov,.int .u8 o.mc.a,.int .u8 o.mc.b,.int .u8 o.mc.c,.int .u8 o.mc.d,.int .u8 o.mc.e,.int .u8 o.mc.f,.int .u8 o.lw])=z:=⟨_,rfl⟩
  rw[hOA]
  clear hOA hw5 hR IS O1 TH HGN S4 k0 k1 k2 k3 k4 k5 k6 k7 k8 k9 k10 k11 hv0 hs0 OF HAM
  obtain⟨la,lc,rfl,hsh⟩:=HKL.out.2.1.shape
  have HSH:=hd0 hsh
  obtain⟨L,hLL⟩:∃ L,l.length=L:=⟨_,rfl⟩
  have HL:=hd0 hLL
  have hL60:L≤60:=by have:=HN.out.1;omega
  have HLO:Hid (∀ y∈l,y.Ok∧y.dt.length≤1600):=hd0 fun y hy=>⟨HKL.out.2.2.2 y hy,HN.out.2.2.2 y hy⟩
  have KK:Hid (Rw 1 u1 w ov ks):=hd0 HKL.out.1
  have HKN:Hid (ks.length≤1000):=hd0 (by have:=HN.out.2.1;omega)
  have HIL:Hid (∀ (v:Rv) (r:Rf),(Tryz.prog.info? 44).map (·.size)=some (rfA o v r).toList.length):=hd0 fun v r=>info_mep
  have HIS:Hid (∀ (v:Rv) (r:Rf),(Tryz.prog.info? 44).map (·.size)=some (rfA o v r).size):=hd0 fun v r=>info_mep
  rw[hLL]
  clear hsh hLL HKL HN HB
  go_wp2_with fail
  go_loopw [8] (fun i wr=>∃ (j:Nat) (s:Ms) (wv:Value) (v:Rv) (r:Rf),j≤L∧i=.int .i64 j∧Hid (PM w wr R (rfA o v r) o ov x s wv v r)∧Hid (Rel o ks s r∧RJ j r∧s.al.Ok)) (fun i _=>L-(intOf i).toNat)
  case atStart=>exact⟨0,s0,_,v0,rf0,Nat.zero_le _,rfl,P0,hd0 ⟨HREL.out,RJ.zero,A0.out⟩⟩
  case round =>
   obtain⟨j,s,wv,v,r,hj,rfl,HP,HI⟩:=hrel
   have hjb:(j:Int)<1000:=by omega
   clear P0 HREL A0
   by_cases hlt:j<L
   rotate_left
   ·obtain rfl:j=L:=by omega
    have dk:decide ((j:Int)<(j:Int))=false:=decide_eq_false (by omega)
    have HPD:=hd0 HP.out.drew
    have ST:=hd0 (HPD.out.state KK.out HKN.out MF.out.kb HAO.out.lw HI.out.2.1 (by omega) HI.out.1)
    clear hlt hj
    go_upto_region 39 with fail
    refine wp_region_held_drew (S:=fun W=>W.rangeAt R 0 (rfA o v r).toList) (by kernel_rfl) (HPD.out.gb.range) (fun hHeld=>?_)
    refine tkH 0 ?_ ?h ?_
    case h=>(intro w hSw;go_simp;try with_reducible rfl)
    try simp only[Act.put,zz]
    refine wpAnyH_take (i:=2) (v:=.agg (rfA o v r).toList.toArray) rfl (by kernel_rfl) (by kernel_rfl) (by kernel_rfl) (fun _ _ _ h=>h) (yieldsIf_load_mid (by rfl) 44 (.tmp 7) rfl R 0 rfl (rfA o v r).toList _ (fun _ h=>h) Tryz.underlying44 rfl (HIL.out v r)) (by assumption) ?_
    try simp only[Array.toArray_toList]
    try simp only[Act.put,zz]
    refine rdH 1 fun K hK=>?_
    (go_simp;go_at_call 21;(with_reducible refine ST.out.mono ?_);rintro en wx ⟨z,rfl,hpz,hsz⟩;have P1:=hd0 hpz;have SM:=hd0 hsz;clear hpz hsz;refine hK.out _ _ P1.out.gb.range (fun hHeld=>?_);clear hK K;try simp only[Act.put,zz])
    refine rdH 3 fun K hK=>?_
    (go_simp;go_at_call 20;(with_reducible refine SM.out.mono ?_);rintro en wx2 ⟨rfl,hbx⟩;have P2:=hd0 (P1.out.later hbx);clear hbx;refine hK.out _ _ P2.out.gb.range (fun hHeld=>?_);clear hK K;try simp only[Act.put,zz])
    refine tkH 4 ?_ ?h ?_
    case h=>(intro w hSw;go_simp;try with_reducible rfl)
    try simp only[Act.put,zz]
    refine rdH 5 fun K hK=>?_
    (go_simp;go_at_call 7;(with_reducible refine(WK.out _).mono ?_);rintro en wx3 ⟨rfl,hbx⟩;have P3:=hd0 (P2.out.later hbx);clear hbx;refine hK.out _ _ P3.out.gb.range (fun hHeld=>?_);clear hK K;try simp only[Act.put,zz])
    refine tkH 6 ?_ ?h ?_
    case h=>(intro w hSw;go_simp;try with_reducible rfl)
    try simp only[Act.put,zz]
    refine tkH 7 ?_ ?h ?_
    case h=>(intro w hSw;go_simp;try with_reducible rfl)
    try simp only[Act.put,zz]
    refine wpAnyH_done (by kernel_rfl) ?_ _
    clear hHeld
    go_wp2_with fail
    go_ret
    exact⟨rfl,P3.out.bel⟩
   have dk:decide ((j:Int)<(L:Int))=true:=decide_eq_true (by omega)
   obtain⟨b,off,rfl,hcc⟩:=HSH.out.resolve_left (by intro h;have:=HL.out;rw[h] at this;simp at this;omega)
   have hjl:j<l.length:=by rw[HL.out];exact hlt
   obtain⟨y,hy⟩:∃ y,l[j]=y:=⟨_,rfl⟩
   have HYO:Hid (y.Ok∧y.dt.length≤1600):=hd0 (by rw[←hy];exact HLO.out _ (List.getElem_mem _))
   have RGY:Hid (∀ W,Below w.heap.size w W→W.rangeAt b (off+j*15) (acC y)):=hd0 fun W hW i u hu=>by
    have hi:i<15:=(acC_len y) ▸ (List.getElem?_eq_some_iff.1 hu).1
    have h1:w.cell? ⟨b,off+j*15+i,none⟩=some u:=by rw[hcc j hjl i hi,hy];exact hu
    exact(hW.cell (World.block_lt_of_cell? w _ h1)).trans h1
   clear hcc hjl hy
   have HIA:Hid ((Tryz.prog.info? 46).map (·.size)=some (acC y).length):=hd0 (by show _=some 15;kernel_rfl)
   have GN:=GB.new 46 wr #[.int .u8 0,.int .u8 0,.int .u8 0,.int .u8 0,.int .u8 0,.int .u8 0,.int .u8 0,.int .u8 0,.int .u8 0,.int .u8 0,.int .u8 0,.int .u8 0,.int .u8 0,.string { data:=#[] },.int .u8 0]
   have BN:=(Below.refl wr.heap.size wr).alloc (Nat.le_refl _) (.cells #[.int .u8 0,.int .u8 0,.int .u8 0,.int .u8 0,.int .u8 0,.int .u8 0,.int .u8 0,.int .u8 0,.int .u8 0,.int .u8 0,.int .u8 0,.int .u8 0,.int .u8 0,.string { data:=#[] },.int .u8 0] 46)
   have HGN:=hd0 (And.intro GN BN)
   have TH:Hid (World.there _ wr.heap.size 0 (acC y).toArray.size):=hd0 (GN.there (Nat.le_refl _))
   clear GN BN
   have O1:Hid ((acC y).toArray.all (·.oneCell')=true):=hd0 (acA_one y)
   have HIA2:Hid ((Tryz.prog.info? 46).map (·.size)=some (acC y).toArray.size):=hd0 (by show _=some 15;kernel_rfl)
   have RG:=RGY.out _ HP.out.bel
   go_upto_region 13 with(first
    |((with_reducible refine wpList_load_mid rfl 46 (.tmp 66) rfl b (off+j*15) ?hx (acC y) _ RG Tryz.underlying46 ?hu HIA.out ?_);(case hx=>rfl);(case hu=>rfl))
    |((with_reducible refine wpList_store_mid rfl 46 (.tmp 9) (.tmp 67) rfl wr.heap.size 0 (acC y).toArray ?hx ?hy TH.out HIA2.out O1.out ?_);(case hx=>rfl);(case hy=>rfl)))
   have hCR:R<wr.heap.size:=HP.out.gb.lt
   have PA:=hd0 (HP.out.later (below_cellsG (Nat.le_refl _) (acC y) 0 _ HGN.out.2))
   have GA:=hd0 (HGN.out.1.store (A:=(acC y).toArray) rfl O1.out)
   simp only[List.toList_toArray] at GA
   obtain⟨w6,hw6⟩:∃ z,World.setCells (wr.alloc (.cells #[.int .u8 0,.int .u8 0,.int .u8 0,.int .u8 0,.int .u8 0,.int .u8 0,.int .u8 0,.int .u8 0,.int .u8 0,.int .u8 0,.int .u8 0,.int .u8 0,.int .u8 0,.string { data:=#[] },.int .u8 0] 46)) wr.heap.size 0 (acC y)=z:=⟨_,rfl⟩
   rw[hw6] at PA GA ⊢
   have hCD:¬ x.D wv wr.heap.size:=fun h=>by have:=HP.out.mm.ltD h;omega
   obtain⟨C,hC⟩:∃ z,wr.heap.size=z:=⟨_,rfl⟩
   rw[hC] at GA hCR hCD ⊢
   have HCD:=hd0 hCD
   have HCR:=hd0 hCR
   clear hw6 hC hCD HGN TH RG HIA HIA2 O1 RGY HP hCR dk
   have y0:w6.cell? ⟨C,0,none⟩=some (.int .u8 y.dq):=GA.out.c 0 _ rfl
   go_upto_block 2 with fail
   go_cut [69] (fun s69 wx=>∃ (s':Ms) (wv':Value) (v':Rv) (r':Rf),Hid (PM w wx R (rfA o v' r') o ov x s' wv' v' r')∧Hid (Rel o ks s' r'∧RJ (j+1) r'∧s'.al.Ok))
   case first =>
    by_cases h0:y.dq=0
    ·have d0:(y.dq==0)=true:=by rw[h0];rfl
     have RT:=Rel.tick MF.out.kb MF.out.iv MF.out.lw.1 HI.out.1
     have AL:(tickM o s).1.al.Ok:=tickM_al o s HI.out.2.2
     have RJT:=HI.out.2.1.tick (ks:=ks) (o:=o)
     have MT:=PA.out.mTick HAO.out MF.out.lv (HI.out.1.mok HI.out.2.1 (by omega) HI.out.2.2)
     have RR:=fun(W:World) (s1:Ms) (w1:Value) (h:PM w W R (rfA o v r) o ov x s1 w1 v r)=>h.rTick KK.out HAO.out MF.out.lv HKN.out MF.out.kb HI.out.2.1 (show j≤900 by omega)
     have TL:=tick20_len o ks r
     obtain⟨⟨s1,l1,t1⟩,hs1⟩:∃ z,tickM o s=z:=⟨_,rfl⟩
     obtain⟨⟨r1,l2,t2⟩,hr1⟩:∃ z,tick20 o ks r=z:=⟨_,rfl⟩
     simp only[hs1] at MT AL
     simp only[hr1] at RR RJT TL
     simp only[hs1,hr1] at RT
     obtain⟨rel1,rfl,rfl⟩:=RT
     have HTL:=hd0 TL
     clear TL
     have H1:Hid (Rel o ks s1 r1∧RJ (j+1) r1∧s1.al.Ok):=hd0 ⟨rel1,RJT,AL⟩
     have HMT:=hd0 MT
     have HRR:=hd0 RR
     have HRA:Hid (R<w6.heap.size):=hd0 PA.out.gb.lt
     clear MT RR rel1 RJT AL hs1 hr1
     go_upto_region 21 with(go_at_call 11;(with_reducible refine HMT.out.mono ?_);rintro en wa ⟨u,rfl,hp,hu,hf⟩;have P1:=hd0 hp;have U1:=hd0 hu;clear hp hu hf)
     have HT2:=hd0 (HRR.out wa s1 wv P1.out)
     go_upto_region 22 with(first
      |((with_reducible refine wpList_load_mid rfl 44 (.tmp 7) rfl R 0 ?hx (rfA o v r).toList _ P1.out.gb.range Tryz.underlying44 ?hu (HIL.out v r) ?_);(case hx=>rfl);(case hu=>rfl))
      |(go_at_call 12;(with_reducible refine HT2.out.mono ?_);rintro en wb ⟨v2,u2,rfl,hp,hu,hb⟩;have P2:=hd0 hp;have U2:=hd0 hu;have HB2:=hd0 hb;have TH:=tqA wb o v2 r1;clear hp hu hb)
      |((with_reducible refine wpList_store_mid rfl 44 (.tmp 12) (.tmp 104) rfl wb.heap.size 0 (rfA o v2 r1) ?hx ?hy TH.out (HIS.out v2 r1) P2.out.2 ?_);(case hx=>rfl);(case hy=>rfl)))
     clear TH
     obtain⟨P4,B3,G3⟩:=P2.out.1.box P2.out.2
     have T5:Hid (World.there ((wb.alloc (.cells yP 44)).setCells wb.heap.size 0 (rfA o v2 r1).toList) R 0 (rfA o v2 r1).size):=hd0 ((P2.out.1.later B3).gb.there (by rw[rfA_size,rfA_size];exact Nat.le_refl _))
     have Q1:=hd0 (rowStay U1.out HRA.out (HB2.out.trans (B3.mono HB2.out.size)) (rfA o v2 r1).toList)
     have Q2:=hd0 (rowStay U2.out P1.out.gb.lt B3 (rfA o v2 r1).toList)
     have P5:=hd0 P4
     have G5:=hd0 G3.range
     have O5:=hd0 P2.out.2
     obtain⟨wc,hwc⟩:∃ z,(wb.alloc (.cells yP 44)).setCells wb.heap.size 0 (rfA o v2 r1).toList=z:=⟨_,rfl⟩
     rw[hwc] at T5 Q1 Q2 P5 G5 ⊢
     obtain⟨q,hq⟩:∃ z,wb.heap.size=z:=⟨_,rfl⟩
     rw[hq] at G5 ⊢
     clear P4 B3 G3 hwc hq P1 P2 U1 U2 HB2 HT2 PA HMT HRR
     go_upto_region 23 with(first
      |((with_reducible refine wpList_load_mid rfl 44 (.tmp 12) rfl q 0 ?hx (rfA o v2 r1).toList _ G5.out Tryz.underlying44 ?hu (HIL.out v2 r1) ?_);(case hx=>rfl);(case hu=>rfl))
      |((with_reducible refine wpList_store_mid rfl 44 (.tmp 7) (.tmp 107) rfl R 0 (rfA o v2 r1) ?hx ?hy T5.out (HIS.out v2 r1) O5.out ?_);(case hx=>rfl);(case hy=>rfl)))
     obtain⟨wd,hwd⟩:∃ z,wc.setCells R 0 (rfA o v2 r1).toList=z:=⟨_,rfl⟩
     rw[hwd] at Q1 Q2 P5 ⊢
     clear hwd T5 G5 O5
     have RW5:=hd0 (row20_any u u2 l1 l1 wd Q1.out Q2.out HTL.out rfl)
     go_wp2_with (go_at_call 13;(with_reducible refine RW5.out.mono ?_);rintro en we ⟨rfl,hb⟩;have P6:=hd0 (P5.out.later hb);clear hb)
     go_meet
     exact⟨s1,wv,v2,r1,P6,H1⟩
    by_cases h1:y.dq=1
    ·have d0:(y.dq==0)=false:=beq_eq_false_iff_ne.2 h0
     have d1:(y.dq==1)=true:=by rw[h1];rfl
     have RT:=Rel.ask HI.out.1 y.ds y.dt (by by_cases h:y.dt.length≤64;exact .inl (loop_ok _ MF.out.lv h).1;exact .inr (.inr (by omega)))
     have AL:(loopM o s y.ds y.dt).1.al.Ok:=by rw[loopM_al];exact HI.out.2.2
     have RJT:=HI.out.2.1.ask (o:=o) y.ds y.dt
     have MT:=PA.out.mLoop HAO.out (by rw[HI.out.1.lp];have:=HI.out.2.1.lp;omega) y.ds HYO.out.1.ds y.dt HYO.out.2
     have RR:=fun(W:World) (s1:Ms) (w1:Value) (h:PM w W R (rfA o v r) o ov x s1 w1 v r)=>h.rAsk KK.out HAO.out MF.out.lv HI.out.2.1 (show j≤900 by omega) y.ds HYO.out.1.ds y.dt HYO.out.2
     obtain⟨⟨s1,l1,t1⟩,hs1⟩:∃ z,loopM o s y.ds y.dt=z:=⟨_,rfl⟩
     obtain⟨⟨r1,l2,t2⟩,hr1⟩:∃ z,ask20 o r y.ds y.dt=z:=⟨_,rfl⟩
     simp only[hs1] at MT AL
     simp only[hr1] at RR RJT
     simp only[hs1,hr1] at RT
     obtain⟨rel1,ee⟩:=RT
     cases ee
     have H1:Hid (Rel o ks s1 r1∧RJ (j+1) r1∧s1.al.Ok):=hd0 ⟨rel1,RJT,AL⟩
     have HMT:=hd0 MT
     have HRR:=hd0 RR
     have HRA:Hid (R<w6.heap.size):=hd0 PA.out.gb.lt
     clear MT RR rel1 RJT AL hs1 hr1
     clear y0
     obtain⟨y0,y1,y2,y3,y4,y5,y6,y7,y8,y9,y10,y11,y12,y13,y14⟩:=act15 GA.out
     have TH0:∀ W:World,Hid (World.there (W.alloc (.cells yS 55)) W.heap.size 0 (snC l1).toArray.size):=fun W=>hd0 ((GB.new 55 W #[.int .u8 0,.int .u8 0,.int .u8 0,.int .u8 0,.int .u8 0,.int .u8 0,.string { data:=#[] }]).there (Nat.le_refl _))
     have IM:Hid ((Tryz.prog.info? 55).map (·.size)=some (snC l1).toArray.size):=hd0 info_sm
     go_upto_region 27 with(first
      |(go_at_call 14;(with_reducible refine HMT.out.mono ?_);rintro en wa ⟨rfl,hp,hf⟩;have P0:=hd0 hp;have GA1:=hd0 (GA.out.fr' hf HCD.out);clear hp hf)
      |((with_reducible refine wpList_store_mid rfl 55 (.tmp 15) (.tmp 126) rfl wa.heap.size 0 (snC l1).toArray ?hx ?hy (TH0 wa).out IM.out (snA_one l1) ?_);(case hx=>rfl);(case hy=>rfl);simp only[List.toList_toArray]))
     obtain⟨w7,hw7,P1,B1,K1⟩:=P0.out.box1 l1
     rw[←hw7]
     have P1:=hd0 P1
     have GA2:=hd0 (GA1.out.later B1)
     obtain⟨p,hp⟩:∃ z,wa.heap.size=z:=⟨_,rfl⟩
     have HPR:Hid (R<p):=hd0 (by rw[←hp];exact P0.out.gb.lt)
     rw[hp] at K1 ⊢
     have K1:=hd0 K1
     clear hp hw7 B1 TH0 GA GA1 P0 y0 y1 y2 y3 y4 y5 y6 y7 y8 y9 y10 y11 y12 y13 y14
     obtain⟨y0,y1,y2,y3,y4,y5,y6,y7,y8,y9,y10,y11,y12,y13,y14⟩:=act15 GA2.out
     have HT2:=hd0 (HRR.out w7 s1 wv P1.out)
     have IR:Hid ((Tryz.prog.info? 58).map (·.size)=some (snC l1).toArray.size):=hd0 info_sn
     go_upto_region 28 with(first
      |((with_reducible refine wpList_load_mid rfl 44 (.tmp 7) rfl R 0 ?hx (rfA o v r).toList _ P1.out.gb.range Tryz.underlying44 ?hu (HIL.out v r) ?_);(case hx=>rfl);(case hu=>rfl))
      |(go_at_call 15;(with_reducible refine HT2.out.mono ?_);rintro en wb ⟨v2,rfl,hp,hb⟩;have P2:=hd0 hp;have HB2:=hd0 hb;have TH:=tqB wb o v2 r1;have TH7:=tqC wb (rfA o v2 r1) l1;clear hp hb)
      |((with_reducible refine wpList_store_mid rfl 44 (.tmp 17) (.tmp 135) rfl wb.heap.size 0 (rfA o v2 r1) ?hx ?hy TH.out (HIS.out v2 r1) P2.out.2 ?_);(case hx=>rfl);(case hy=>rfl))
      |((with_reducible refine wpList_store_mid rfl 58 (.tmp 18) (.tmp 136) rfl (wb.heap.size+1) 0 (snC l1).toArray ?hx ?hy TH7.out IR.out (snA_one l1) ?_);(case hx=>rfl);(case hy=>rfl);simp only[List.toList_toArray]))
     obtain⟨wc,hwc,P4,B3,G3,G4⟩:=P2.out.1.box2 P2.out.2 l1
     rw[←hwc]
     have T5:Hid (World.there wc R 0 (rfA o v2 r1).size):=hd0 ((P2.out.1.later B3).gb.there (by rw[rfA_size,rfA_size];exact Nat.le_refl _))
     have P5:=hd0 P4
     have G5:=hd0 G3.range
     have G7:=hd0 G4
     have O5:=hd0 P2.out.2
     have K5:Hid (GB 55 (wc.setCells R 0 (rfA o v2 r1).toList) p (snC l1).toArray):=hd0 (GB.cellsOther (by have:=HPR.out;omega) _ _ _ ((K1.out.later HB2.out).later B3))
     obtain⟨q,hq⟩:∃ z,wb.heap.size=z:=⟨_,rfl⟩
     rw[hq] at G5 G7 ⊢
     clear P4 B3 G3 G4 hwc hq P1 P2 HB2 HT2 PA HMT HRR TH TH7 K1 y0 y1 y2 y3 y4 y5 y6 y7 y8 y9 y10 y11 y12 y13 y14 GA2
     go_upto_region 29 with(first
      |((with_reducible refine wpList_load_mid rfl 44 (.tmp 17) rfl q 0 ?hx (rfA o v2 r1).toList _ G5.out Tryz.underlying44 ?hu (HIL.out v2 r1) ?_);(case hx=>rfl);(case hu=>rfl))
      |((with_reducible refine wpList_store_mid rfl 44 (.tmp 7) (.tmp 138) rfl R 0 (rfA o v2 r1) ?hx ?hy T5.out (HIS.out v2 r1) O5.out ?_);(case hx=>rfl);(case hy=>rfl)))
     obtain⟨wd,hwd⟩:∃ z,wc.setCells R 0 (rfA o v2 r1).toList=z:=⟨_,rfl⟩
     rw[hwd] at P5 K5 G7 ⊢
     clear hwd T5 G5 O5
     obtain⟨a0,a1,a2,a3,a4,a5,a6⟩:=sent7 K5.out
     obtain⟨b0,b1,b2,b3,b4,b5,b6⟩:=sent7 (G7.out.later (bA (.cells #[.int .u8 l1.m.a,.int .u8 l1.m.b,.int .u8 l1.m.c,.int .u8 l1.m.d,.int .u8 l1.m.e,.int .u8 l1.m.f,.string (bs l1.d)] 55)))
     have RW5:=hd0 (rowOne wd l1)
     go_wp2_with (go_at_call 13;(with_reducible refine RW5.out.mono ?_);rintro en we ⟨rfl,hb⟩;have P6:=hd0 (P5.out.later hb);clear hb)
     go_meet
     exact⟨s1,wv,v2,r1,P6,H1⟩
    by_cases h2:y.dq=2
    ·have d0:(y.dq==0)=false:=beq_eq_false_iff_ne.2 h0
     have d1:(y.dq==1)=false:=beq_eq_false_iff_ne.2 h1
     have d2:(y.dq==2)=true:=by rw[h2];rfl
     have RT:=Rel.seek HI.out.1 y.ds y.tl (trac_ok MF.out.lv).1
     have AL:(traceM o s y.ds y.tl).1.al.Ok:=by rw[traceM_al];exact HI.out.2.2
     have RJT:=HI.out.2.1.seek (o:=o) y.ds y.tl
     have MT:=PA.out.mTrace HAO.out MF.out.lv (by rw[HI.out.1.tr];have:=HI.out.2.1.tr;omega) y.ds HYO.out.1.ds y.tl HYO.out.1.tl
     have RR:=fun(W:World) (s1:Ms) (w1:Value) (h:PM w W R (rfA o v r) o ov x s1 w1 v r)=>h.rSeek KK.out HAO.out MF.out.lv HI.out.2.1 (show j≤900 by omega) y.ds HYO.out.1.ds y.tl HYO.out.1.tl
     obtain⟨⟨s1,l1,t1⟩,hs1⟩:∃ z,traceM o s y.ds y.tl=z:=⟨_,rfl⟩
     obtain⟨⟨r1,l2,t2⟩,hr1⟩:∃ z,seek20 o r y.ds y.tl=z:=⟨_,rfl⟩
     simp only[hs1] at MT AL
     simp only[hr1] at RR RJT
     simp only[hs1,hr1] at RT
     obtain⟨rel1,ee⟩:=RT
     cases ee
     have H1:Hid (Rel o ks s1 r1∧RJ (j+1) r1∧s1.al.Ok):=hd0 ⟨rel1,RJT,AL⟩
     have HMT:=hd0 MT
     have HRR:=hd0 RR
     have HRA:Hid (R<w6.heap.size):=hd0 PA.out.gb.lt
     clear MT RR rel1 RJT AL hs1 hr1
     clear y0
     obtain⟨y0,y1,y2,y3,y4,y5,y6,y7,y8,y9,y10,y11,y12,y13,y14⟩:=act15 GA.out
     have TH0:∀ W:World,Hid (World.there (W.alloc (.cells yS 55)) W.heap.size 0 (snC l1).toArray.size):=fun W=>hd0 ((GB.new 55 W #[.int .u8 0,.int .u8 0,.int .u8 0,.int .u8 0,.int .u8 0,.int .u8 0,.string { data:=#[] }]).there (Nat.le_refl _))
     have IM:Hid ((Tryz.prog.info? 55).map (·.size)=some (snC l1).toArray.size):=hd0 info_sm
     go_upto_region 33 with(first
      |(go_at_call 16;(with_reducible refine HMT.out.mono ?_);rintro en wa ⟨wv1,rfl,hp,hf⟩;have P0:=hd0 hp;have GA1:=hd0 (GA.out.fr' hf HCD.out);clear hp hf)
      |((with_reducible refine wpList_store_mid rfl 55 (.tmp 20) (.tmp 159) rfl wa.heap.size 0 (snC l1).toArray ?hx ?hy (TH0 wa).out IM.out (snA_one l1) ?_);(case hx=>rfl);(case hy=>rfl);simp only[List.toList_toArray]))
     obtain⟨w7,hw7,P1,B1,K1⟩:=P0.out.box1 l1
     rw[←hw7]
     have P1:=hd0 P1
     have GA2:=hd0 (GA1.out.later B1)
     obtain⟨p,hp⟩:∃ z,wa.heap.size=z:=⟨_,rfl⟩
     have HPR:Hid (R<p):=hd0 (by rw[←hp];exact P0.out.gb.lt)
     rw[hp] at K1 ⊢
     have K1:=hd0 K1
     clear hp hw7 B1 TH0 GA GA1 P0 y0 y1 y2 y3 y4 y5 y6 y7 y8 y9 y10 y11 y12 y13 y14
     obtain⟨y0,y1,y2,y3,y4,y5,y6,y7,y8,y9,y10,y11,y12,y13,y14⟩:=act15 GA2.out
     have HT2:=hd0 (HRR.out w7 s1 wv1 P1.out)
     have IR:Hid ((Tryz.prog.info? 58).map (·.size)=some (snC l1).toArray.size):=hd0 info_sn
     go_upto_region 34 with(first
      |((with_reducible refine wpList_load_mid rfl 44 (.tmp 7) rfl R 0 ?hx (rfA o v r).toList _ P1.out.gb.range Tryz.underlying44 ?hu (HIL.out v r) ?_);(case hx=>rfl);(case hu=>rfl))
      |(go_at_call 17;(with_reducible refine HT2.out.mono ?_);rintro en wb ⟨v2,rfl,hp,hb⟩;have P2:=hd0 hp;have HB2:=hd0 hb;have TH:=tqB wb o v2 r1;have TH7:=tqC wb (rfA o v2 r1) l1;clear hp hb)
      |((with_reducible refine wpList_store_mid rfl 44 (.tmp 22) (.tmp 168) rfl wb.heap.size 0 (rfA o v2 r1) ?hx ?hy TH.out (HIS.out v2 r1) P2.out.2 ?_);(case hx=>rfl);(case hy=>rfl))
      |((with_reducible refine wpList_store_mid rfl 58 (.tmp 23) (.tmp 169) rfl (wb.heap.size+1) 0 (snC l1).toArray ?hx ?hy TH7.out IR.out (snA_one l1) ?_);(case hx=>rfl);(case hy=>rfl);simp only[List.toList_toArray]))
     obtain⟨wc,hwc,P4,B3,G3,G4⟩:=P2.out.1.box2 P2.out.2 l1
     rw[←hwc]
     have T5:Hid (World.there wc R 0 (rfA o v2 r1).size):=hd0 ((P2.out.1.later B3).gb.there (by rw[rfA_size,rfA_size];exact Nat.le_refl _))
     have P5:=hd0 P4
     have G5:=hd0 G3.range
     have G7:=hd0 G4
     have O5:=hd0 P2.out.2
     have K5:Hid (GB 55 (wc.setCells R 0 (rfA o v2 r1).toList) p (snC l1).toArray):=hd0 (GB.cellsOther (by have:=HPR.out;omega) _ _ _ ((K1.out.later HB2.out).later B3))
     obtain⟨q,hq⟩:∃ z,wb.heap.size=z:=⟨_,rfl⟩
     rw[hq] at G5 G7 ⊢
     clear P4 B3 G3 G4 hwc hq P1 P2 HB2 HT2 PA HMT HRR TH TH7 K1 y0 y1 y2 y3 y4 y5 y6 y7 y8 y9 y10 y11 y12 y13 y14 GA2
     go_upto_region 35 with(first
      |((with_reducible refine wpList_load_mid rfl 44 (.tmp 22) rfl q 0 ?hx (rfA o v2 r1).toList _ G5.out Tryz.underlying44 ?hu (HIL.out v2 r1) ?_);(case hx=>rfl);(case hu=>rfl))
      |((with_reducible refine wpList_store_mid rfl 44 (.tmp 7) (.tmp 171) rfl R 0 (rfA o v2 r1) ?hx ?hy T5.out (HIS.out v2 r1) O5.out ?_);(case hx=>rfl);(case hy=>rfl)))
     obtain⟨wd,hwd⟩:∃ z,wc.setCells R 0 (rfA o v2 r1).toList=z:=⟨_,rfl⟩
     rw[hwd] at P5 K5 G7 ⊢
     clear hwd T5 G5 O5
     obtain⟨a0,a1,a2,a3,a4,a5,a6⟩:=sent7 K5.out
     obtain⟨b0,b1,b2,b3,b4,b5,b6⟩:=sent7 (G7.out.later (bA (.cells #[.int .u8 l1.m.a,.int .u8 l1.m.b,.int .u8 l1.m.c,.int .u8 l1.m.d,.int .u8 l1.m.e,.int .u8 l1.m.f,.string (bs l1.d)] 55)))
     have RW5:=hd0 (rowOne wd l1)
     go_wp2_with (go_at_call 13;(with_reducible refine RW5.out.mono ?_);rintro en we ⟨rfl,hb⟩;have P6:=hd0 (P5.out.later hb);clear hb)
     go_meet
     exact⟨s1,wv1,v2,r1,P6,H1⟩
    have d0:(y.dq==0)=false:=beq_eq_false_iff_ne.2 h0
    have d1:(y.dq==1)=false:=beq_eq_false_iff_ne.2 h1
    have d2:(y.dq==2)=false:=beq_eq_false_iff_ne.2 h2
    have RT:=Rel.take HI.out.1 y.sr y.ds y.dt
    have AL:(takeM o s y.sr y.ds y.dt).1.al.Ok:=by rw[takeM_al];exact HI.out.2.2
    have RJT:=HI.out.2.1.take (o:=o) (by omega) y.sr y.ds y.dt HYO.out.2
    have MT:=PA.out.mTake HAO.out MF.out.lv (HI.out.1.mok HI.out.2.1 (by omega) HI.out.2.2) HI.out.1 HI.out.2.1 (by omega) y.sr y.ds HYO.out.1.sr y.dt HYO.out.2
    have RR:=fun(W:World) (s1:Ms) (w1:Value) (h:PM w W R (rfA o v r) o ov x s1 w1 v r)=>h.rTake KK.out HAO.out MF.out.lv HI.out.2.1 (show j≤900 by omega) y.sr y.ds HYO.out.1.sr HYO.out.1.ds y.dt HYO.out.2
    have TL:=take20_len o r y.sr y.ds y.dt
    obtain⟨⟨s1,l1⟩,hs1⟩:∃ z,takeM o s y.sr y.ds y.dt=z:=⟨_,rfl⟩
    obtain⟨⟨r1,l2⟩,hr1⟩:∃ z,take20 o r y.sr y.ds y.dt=z:=⟨_,rfl⟩
    simp only[hs1] at MT AL
    simp only[hr1] at RR RJT TL
    simp only[hs1,hr1] at RT
    obtain⟨rel1,rfl⟩:=RT
    have HTL:=hd0 TL
    clear TL
    have H1:Hid (Rel o ks s1 r1∧RJ (j+1) r1∧s1.al.Ok):=hd0 ⟨rel1,RJT,AL⟩
    have HMT:=hd0 MT
    have HRR:=hd0 RR
    have HRA:Hid (R<w6.heap.size):=hd0 PA.out.gb.lt
    clear MT RR rel1 RJT AL hs1 hr1
    clear y0
    obtain⟨y0,y1,y2,y3,y4,y5,y6,y7,y8,y9,y10,y11,y12,y13,y14⟩:=act15 GA.out
    go_upto_region 15 with(go_at_call 18;(with_reducible refine HMT.out.mono ?_);rintro en wa ⟨u,wv1,rfl,hp,hu,hf⟩;have P1:=hd0 hp;have U1:=hd0 hu;have GA1:=hd0 (GA.out.fr' hf HCD.out);clear hp hu hf)
    clear y0 y1 y2 y3 y4 y5 y6 y7 y8 y9 y10 y11 y12 y13 y14
    obtain⟨y0,y1,y2,y3,y4,y5,y6,y7,y8,y9,y10,y11,y12,y13,y14⟩:=act15 GA1.out
    have HT2:=hd0 (HRR.out wa s1 wv1 P1.out)
    go_upto_region 16 with(first
     |((with_reducible refine wpList_load_mid rfl 44 (.tmp 7) rfl R 0 ?hx (rfA o v r).toList _ P1.out.gb.range Tryz.underlying44 ?hu (HIL.out v r) ?_);(case hx=>rfl);(case hu=>rfl))
     |(go_at_call 19;(with_reducible refine HT2.out.mono ?_);rintro en wb ⟨v2,u2,rfl,hp,hu,hb⟩;have P2:=hd0 hp;have U2:=hd0 hu;have HB2:=hd0 hb;have TH:=tqA wb o v2 r1;clear hp hu hb)
     |((with_reducible refine wpList_store_mid rfl 44 (.tmp 26) (.tmp 87) rfl wb.heap.size 0 (rfA o v2 r1) ?hx ?hy TH.out (HIS.out v2 r1) P2.out.2 ?_);(case hx=>rfl);(case hy=>rfl)))
    clear TH GA GA1 y0 y1 y2 y3 y4 y5 y6 y7 y8 y9 y10 y11 y12 y13 y14
    obtain⟨P4,B3,G3⟩:=P2.out.1.box P2.out.2
    have T5:Hid (World.there ((wb.alloc (.cells yP 44)).setCells wb.heap.size 0 (rfA o v2 r1).toList) R 0 (rfA o v2 r1).size):=hd0 ((P2.out.1.later B3).gb.there (by rw[rfA_size,rfA_size];exact Nat.le_refl _))
    have Q1:=hd0 (rowStay U1.out HRA.out (HB2.out.trans (B3.mono HB2.out.size)) (rfA o v2 r1).toList)
    have Q2:=hd0 (rowStay U2.out P1.out.gb.lt B3 (rfA o v2 r1).toList)
    have P5:=hd0 P4
    have G5:=hd0 G3.range
    have O5:=hd0 P2.out.2
    obtain⟨wc,hwc⟩:∃ z,(wb.alloc (.cells yP 44)).setCells wb.heap.size 0 (rfA o v2 r1).toList=z:=⟨_,rfl⟩
    rw[hwc] at T5 Q1 Q2 P5 G5 ⊢
    obtain⟨q,hq⟩:∃ z,wb.heap.size=z:=⟨_,rfl⟩
    rw[hq] at G5 ⊢
    clear P4 B3 G3 hwc hq P1 P2 U1 U2 HB2 HT2 PA HMT HRR
    go_upto_region 17 with(first
     |((with_reducible refine wpList_load_mid rfl 44 (.tmp 26) rfl q 0 ?hx (rfA o v2 r1).toList _ G5.out Tryz.underlying44 ?hu (HIL.out v2 r1) ?_);(case hx=>rfl);(case hu=>rfl))
     |((with_reducible refine wpList_store_mid rfl 44 (.tmp 7) (.tmp 89) rfl R 0 (rfA o v2 r1) ?hx ?hy T5.out (HIS.out v2 r1) O5.out ?_);(case hx=>rfl);(case hy=>rfl)))
    obtain⟨wd,hwd⟩:∃ z,wc.setCells R 0 (rfA o v2 r1).toList=z:=⟨_,rfl⟩
    rw[hwd] at Q1 Q2 P5 ⊢
    clear hwd T5 G5 O5
    have RW5:=hd0 (row20_any u u2 l1 l1 wd Q1.out Q2.out HTL.out rfl)
    go_wp2_with (go_at_call 13;(with_reducible refine RW5.out.mono ?_);rintro en we ⟨rfl,hb⟩;have P6:=hd0 (P5.out.later hb);clear hb)
    go_meet
    exact⟨s1,wv1,v2,r1,P6,H1⟩
   case rest =>
    obtain⟨s2,wv2,v2,r2,HP2,HI2⟩:=hcut
    clear y0 PA GA HI HYO
    go_upto_region 37 with fail
    go_cut [192] (fun s192 wx=>s192=.bool false∧Hid (PM w wx R (rfA o v2 r2) o ov x s2 wv2 v2 r2))
    case first =>
     have HPD:=hd0 HP2.out.drew
     have ST:=hd0 (HPD.out.state KK.out HKN.out MF.out.kb HAO.out.lw HI2.out.2.1 (by omega) HI2.out.1)
     have e8:(j:Int).tmod 8=(j:Int) % 8:=Int.tmod_eq_emod_of_nonneg (by omega)
     cases h7:((j:Int) % 8==7)
     ·clear e8
      refine wp_region_later (by kernel_rfl) (by kernel_rfl) ?_
      repeat (go_big_quiet_step (fail))
      refine wpQuiet_nil ?_
      rintro _ ⟨kk,rfl⟩
      go_wp2_with fail
      go_meet
      exact⟨rfl,hd0 (HP2.out.later kk.h)⟩
     ·have h8:((j:Int).tmod 8==7)=true:=by rw[e8];exact h7
      clear e8 h7
      refine wp_region_held_drew (S:=fun W=>W.rangeAt R 0 (rfA o v2 r2).toList) (by kernel_rfl) (HPD.out.gb.range) (fun hHeld=>?_)
      refine tkH 0 ?_ ?h ?_
      case h=>(intro w hSw;go_simp;try with_reducible rfl)
      try simp only[Act.put,zz]
      refine tkH 1 ?_ ?h ?_
      case h=>(intro w hSw;go_simp;try with_reducible rfl)
      try simp only[Act.put,zz]
      refine tkH 2 ?_ ?h ?_
      case h=>(intro w hSw;go_simp;try with_reducible rfl)
      try simp only[Act.put,zz]
      refine tkH 3 ?_ ?h ?_
      case h=>(intro w hSw;go_simp;try with_reducible rfl)
      try simp only[Act.put,zz]
      refine tkH 4 ?_ ?h ?_
      case h=>(intro w hSw;go_simp;try with_reducible rfl)
      try simp only[Act.put,zz]
      refine wpAnyH_take (i:=6) (v:=.agg (rfA o v2 r2).toList.toArray) rfl (by kernel_rfl) (by kernel_rfl) (by kernel_rfl) (fun _ _ _ h=>h) (yieldsIf_load_mid (by rfl) 44 (.tmp 7) rfl R 0 rfl (rfA o v2 r2).toList _ (fun _ h=>h) Tryz.underlying44 rfl (HIL.out v2 r2)) (by assumption) ?_
      try simp only[Array.toArray_toList]
      try simp only[Act.put,zz]
      refine rdH 5 fun K hK=>?_
      (go_simp;go_at_call 21;(with_reducible refine ST.out.mono ?_);rintro en wx ⟨z,rfl,hpz,hsz⟩;have P1:=hd0 hpz;have SM:=hd0 hsz;clear hpz hsz;refine hK.out _ _ P1.out.gb.range (fun hHeld=>?_);clear hK K;try simp only[Act.put,zz])
      refine rdH 7 fun K hK=>?_
      (go_simp;go_at_call 20;(with_reducible refine SM.out.mono ?_);rintro en wx2 ⟨rfl,hbx⟩;have P2:=hd0 (P1.out.later hbx);clear hbx;refine hK.out _ _ P2.out.gb.range (fun hHeld=>?_);clear hK K;try simp only[Act.put,zz])
      refine tkH 8 ?_ ?h ?_
      case h=>(intro w hSw;go_simp;try with_reducible rfl)
      try simp only[Act.put,zz]
      refine tkH 9 ?_ ?h ?_
      case h=>(intro w hSw;go_simp;try with_reducible rfl)
      try simp only[Act.put,zz]
      refine wpAnyH_done (by kernel_rfl) ?_ _
      clear hHeld
      go_wp2_with fail
      go_meet
      exact⟨rfl,P2⟩
    case rest =>
     obtain⟨rfl,HP3⟩:=hcut
     clear HP2
     go_wp2_with fail
     exact⟨⟨j+1,s2,wv2,v2,r2,by omega,by go_num,HP3,HI2⟩,by simp[intOf];omega⟩
end Go.Proofs.YtlkdfofpnmpidaaGreat
