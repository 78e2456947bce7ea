/- ZR38 -/
import Derived.Test.YtghaobakpdninaaGreatDoorZR37
set_option linter.unusedVariables false
set_option linter.unusedSimpArgs false
set_option maxRecDepth 100000
set_option maxHeartbeats 16000000
namespace Go.Proofs.YtghaobakpdninaaGreatDoor
open Go.RowKit
open Go.Maps (Keyed int_keyed keyOf_int_mk)
theorem nnew (gi gp gl ci cp cl:Nat)(w:World)(h1:w.rangeAt gi 0 [.int .u64 16,.int .u64 32])(h2:w.rangeAt gp 0 [.int .i64 2,.int .i64 2])(h3:w.rangeAt gl 0 (lnC ())) :
  Calls Tryz.prog 20 #[.agg #[.slice (some ⟨gi,0,none⟩) 2 ci,.slice (some ⟨gp,0,none⟩) 2 cp,.slice (some ⟨gl,0,none⟩) 1 cl]] w fun en w'=>∃ N:NPos,en=.returned (.tuple #[.pointer (some ⟨N.n,0,none⟩),.int .i64 0])∧NZ w' N (sw (mS 16 true true) (mS 32 true true) [0,0,0,0,0,0,0,0] [] [] [])∧(∀ k,NK N k→w.heap.size≤k)∧Below w.heap.size w w':=by
 have hb:=(Below.refl w.heap.size w).alloc (Nat.le_refl _) (.cells #[.slice (some ⟨gi,0,none⟩) 2 ci,.slice (some ⟨gp,0,none⟩) 2 cp,.slice (some ⟨gl,0,none⟩) 1 cl] 70)
 have g1:=GB.new 70 w #[.slice (some ⟨gi,0,none⟩) 2 ci,.slice (some ⟨gp,0,none⟩) 2 cp,.slice (some ⟨gl,0,none⟩) 1 cl]
 have hz:(w.alloc (.cells #[.slice (some ⟨gi,0,none⟩) 2 ci,.slice (some ⟨gp,0,none⟩) 2 cp,.slice (some ⟨gl,0,none⟩) 1 cl] 70)).heap.size=w.heap.size+1:=by simp
 obtain⟨w0,hw0⟩:∃ z,w.alloc (.cells #[.slice (some ⟨gi,0,none⟩) 2 ci,.slice (some ⟨gp,0,none⟩) 2 cp,.slice (some ⟨gl,0,none⟩) 1 cl] 70)=z:=⟨_,rfl⟩
 rw[hw0] at hb g1 hz
 have CO:=hd0 (ncosts gi gp gl ci cp cl w0 (range_later h1 hb) (range_later h2 hb) (range_later h3 hb))
 have d0:w0.cell? ⟨w.heap.size,0,none⟩=some (.slice (some ⟨gi,0,none⟩) 2 ci):=g1.c 0 _ rfl
 have d1:w0.cell? ⟨w.heap.size,1,none⟩=some (.slice (some ⟨gp,0,none⟩) 2 cp):=g1.c 1 _ rfl
 have d2:w0.cell? ⟨w.heap.size,2,none⟩=some (.slice (some ⟨gl,0,none⟩) 1 cl):=g1.c 2 _ rfl
 go_enter Tryz.func20,Tryz.ntmps20
 go_upto_region 2 with(go_at_call 36;with_reducible refine CO.out.mono ?_;rintro en w1 ⟨g,c,a,ca,b,cb,rfl,hrg,hra,hrb,hb1⟩)
 have HB1:=hd0 (hb.trans (hb1.mono hb.size))
 have K1:Hid (w.heap.size<w1.heap.size):=hd0 (by have:=hb1.size;omega)
 have RD:Hid (∀ W,Below w1.heap.size w1 W→W.cell? ⟨w.heap.size,0,none⟩=some (.slice (some ⟨gi,0,none⟩) 2 ci)∧W.cell? ⟨w.heap.size,2,none⟩=some (.slice (some ⟨gl,0,none⟩) 1 cl)∧W.rangeAt gi 0 [.int .u64 16,.int .u64 32]∧W.rangeAt gl 0 (lnC ())∧W.rangeAt g 0 [.slice (some ⟨a,0,none⟩) 2 ca,.slice (some ⟨b,0,none⟩) 2 cb]∧W.rangeAt a 0 [.int .u32 0,.int .u32 5]∧W.rangeAt b 0 [.int .u32 0,.int .u32 5]):=hd0 fun W hW=>⟨(hW.cell (World.block_lt_of_cell? _ _ ((hb1.cell (World.block_lt_of_cell? _ _ d0)).trans d0))).trans ((hb1.cell (World.block_lt_of_cell? _ _ d0)).trans d0),(hW.cell (World.block_lt_of_cell? _ _ ((hb1.cell (World.block_lt_of_cell? _ _ d2)).trans d2))).trans ((hb1.cell (World.block_lt_of_cell? _ _ d2)).trans d2),range_later (range_later h1 HB1.out) hW,range_later (range_later h3 HB1.out) hW,range_later hrg hW,range_later hra hW,range_later hrb hW⟩
 clear hrg hra hrb hb1 hb g1 hz CO d0 d1 d2 h1 h2 h3 hw0
 have run0:∀ W:World,(Instr.makeMap 95 none).run Tryz.prog W=.ok (.map (some W.heap.size)) (W.alloc (.map #[] 0)):=fun W=>rfl
 have run1:∀ W:World,(Instr.makeMap 134 none).run Tryz.prog W=.ok (.map (some W.heap.size)) (W.alloc (.map #[] 0)):=fun W=>rfl
 go_upto_region 6 with fail
 have N0:Hid (NL w1 (((w1.alloc (.map #[] 0)).alloc (.cells #[.slice none 0 0,.slice none 0 0,.map (some w1.heap.size),.int .u64 0] 97)).alloc (.map #[] 0)) (w1.heap.size+3) (.slice none 0 0) [] 0 (.map [])):=hd0 (by
  have s1:=World.ownsMap_made w1 Tryz.prog 142 sEl
  have b1:Below w1.heap.size w1 (w1.alloc (.map #[] 0)):=bAo _
  have z1:(w1.alloc (.map #[] 0)).heap.size=w1.heap.size+1:=by simp
  have g2:=GB.new 97 (w1.alloc (.map #[] 0)) #[.slice none 0 0,.slice none 0 0,.map (some w1.heap.size),.int .u64 0]
  have b2:Below (w1.alloc (.map #[] 0)).heap.size (w1.alloc (.map #[] 0)) ((w1.alloc (.map #[] 0)).alloc (.cells #[.slice none 0 0,.slice none 0 0,.map (some w1.heap.size),.int .u64 0] 97)):=bAo _
  have z2:((w1.alloc (.map #[] 0)).alloc (.cells #[.slice none 0 0,.slice none 0 0,.map (some w1.heap.size),.int .u64 0] 97)).heap.size=w1.heap.size+1+1:=by simp
  have s2:=s1.alloc (.cells #[.slice none 0 0,.slice none 0 0,.map (some w1.heap.size),.int .u64 0] 97)
  obtain⟨X1,e1⟩:∃ z,w1.alloc (.map #[] 0)=z:=⟨_,rfl⟩
  rw[e1] at b1 z1 g2 b2 z2 s2 ⊢
  rw[z1] at g2
  obtain⟨X2,e2⟩:∃ z,X1.alloc (.cells #[.slice none 0 0,.slice none 0 0,.map (some w1.heap.size),.int .u64 0] 97)=z:=⟨_,rfl⟩
  rw[e2] at g2 b2 z2 s2 ⊢
  have u3:UM (X2.alloc (.map #[] 0)) X2.heap.size 0 (.map []):=World.ownsMap_made X2 Tryz.prog 63 _
  rw[z2] at u3
  have b3:Below X2.heap.size X2 (X2.alloc (.map #[] 0)):=bAo _
  exact⟨b1.trans ((b2.trans (b3.mono b2.size)).mono b1.size),s2.alloc _,u3,g2.later b3,Ow.none _ _,Nat.le_refl _,by simp;omega⟩)
 obtain⟨x0,hx0⟩:∃ z,((w1.alloc (.map #[] 0)).alloc (.cells #[.slice none 0 0,.slice none 0 0,.map (some w1.heap.size),.int .u64 0] 97)).alloc (.map #[] 0)=z:=⟨_,rfl⟩
 rw[hx0] at N0 ⊢
 clear hx0 run0 run1
 have e0:x0.cell? ⟨w.heap.size,0,none⟩=some (.slice (some ⟨gi,0,none⟩) 2 ci):=(RD.out _ N0.out.bel).1
 go_wp2_with fail
 refine wp_loop_rounds 3 ?_
 clear e0
 have AND0:bits .and .u64 16 281474976710655=16:=by decide
 have AND1:bits .and .u64 32 281474976710655=32:=by decide
 rw[rounds_succ]
 have r0:=RD.out _ N0.out.bel
 have ei0:x0.cell? ⟨gi,0,none⟩=some (.int .u64 16):=by have:=r0.2.2.1 0 _ rfl;rwa [Nat.zero_add] at this
 have eg0:x0.cell? ⟨g,0,none⟩=some (.slice (some ⟨a,0,none⟩) 2 ca):=by have:=r0.2.2.2.2.1 0 _ rfl;rwa [Nat.zero_add] at this
 have NB0:=hd0 (bnew16 a ca x0 (by have:=r0.2.2.2.2.2.1 0 _ rfl;rwa [Nat.zero_add] at this) (by have:=r0.2.2.2.2.2.1 1 _ rfl;rwa [Nat.zero_add] at this))
 clear r0
 go_upto_region 10 with(go_at_call 37;with_reducible refine NB0.out.mono ?_;rintro en y0 ⟨P0,rfl,hbn0,hby0⟩)
 have M0:=hd0 (N0.out.later hby0)
 have Q0:=hd0 hbn0
 have Z0:=hd0 hby0.size
 have lk0:=M0.out.um.look 16 (by decide) (fun z=>rfl)
 obtain⟨u0,ru0,hm0,hg0⟩:=World.ownsMap.update M0.out.um u64_keyed Tryz.underlying134 (by decide) (key:=.int .u64 16) (val:=.bool true) (kl:=.int .u64 16) (d:=.lit (.bool true)) (ps:=[]) (keyOf_int_mk Tryz.underlying63 (by decide)) (plainElem_bool Tryz.underlying4 true)
 clear hbn0 hby0 ei0 eg0 NB0
 go_upto_region 14 with fail
 have W0:=hd0 (M0.out.upd hm0 hg0)
 have zz0:=hg0.size
 have nb0:=N0.out.hB
 have V0':=hd0 (W0.out.rebase (B':=y0.heap.size) (by have:=Z0.out;omega) zz0)
 have ba0:Below u0.heap.size u0 (u0.alloc (.cells #[.pointer (some ⟨P0.b,0,none⟩)] 59)):=bAo _
 have V0:=hd0 (V0'.out.later ba0)
 have QB0:=hd0 ((Q0.out.blk fun k hk hi=>hg0.block k hk (by have:=hi.1;have:=Z0.out;simp;omega)).later ba0)
 have SR0:Hid (∀ j (hj:j<[P0.b].length) i,i<1→(u0.alloc (.cells #[.pointer (some ⟨P0.b,0,none⟩)] 59)).cell? ⟨u0.heap.size,j*1+i,none⟩=(ptC [P0.b][j])[i]?):=hd0 fun j hj i hi=>by
  obtain rfl:j=0:=by simpa using hj
  obtain rfl:i=0:=by omega
  exact(GB.new 59 u0 #[.pointer (some ⟨P0.b,0,none⟩)]).c 0 _ rfl
 have cn0:u0.cell? ⟨w1.heap.size+1,0,none⟩=some (.slice none 0 0):=V0'.out.net.c 0 _ rfl
 clear ru0 hm0 hg0 lk0
 go_upto_region 15 with(at_builtin;refine wpList_plain rfl fun K hK=>?_;refine wp_append_rwG ptC_len ptC_one 59 93 _ 8 Tryz.underlying93 info_ptb rfl (by decide) (by decide) (.tmp 65) (.tmp 67) rfl y0.heap.size (.slice none 0 0) [] rfl V0.out.ow u0.heap.size 1 [P0.b] rfl SR0.out (by simp) V0.out.hB.2 ?_;intro v0 t0 ho0 hq0 hp0;obtain⟨a0,n0,m0,rfl⟩:=ho0.shape;have gn0:=V0.out.net.grown hq0 (by intro e;have:=World.ownsRow.lt V0.out.ow _ e.symm;have:=V0.out.hB;omega);have gc0:=gn0.c 0 _ rfl;have gf0:=gn0.fr 0;refine hK _ _ ?_)
 obtain⟨g0,c0,tt0,hv0,hg0',hc0,-⟩:=ho0.ne (by simp)
 replace hv0:Value.slice a0 n0 m0=.slice (some ⟨g0,0,none⟩) 1 c0:=hv0
 injection hv0 with e1 e2 e3
 have e3:=e3.symm
 subst e1 e2 e3
 have N1:Hid (NL w1 (t0.setCell ⟨w1.heap.size+1,0,none⟩ (.slice (some ⟨g0,0,none⟩) 1 c0)) y0.heap.size (.slice (some ⟨g0,0,none⟩) 1 c0) [P0.b] 1 ((DataW.map []).put (.int .u64 16) (.lit (.bool true)))):=hd0 (V0.out.app ho0 hq0)
 have QA0:Hid (BN (t0.setCell ⟨w1.heap.size+1,0,none⟩ (.slice (some ⟨g0,0,none⟩) 1 c0)) x0.heap.size y0.heap.size P0 (mS 16 false false) [0,0,0,0,0,0,0,0] [] (.slice none 0 0)):=hd0 ((QB0.out.blk fun k hk hi=>hq0.block k hk (by simp[Value.ownBlock])).blk fun k hk hi=>Below.heap_setCell _ _ _ _ (by intro e;have:=hi.1;simp at e;omega))
 obtain⟨x1,hx1⟩:∃ z,t0.setCell ⟨w1.heap.size+1,0,none⟩ (.slice (some ⟨g0,0,none⟩) 1 c0)=z:=⟨_,rfl⟩
 rw[hx1] at N1 QA0 ⊢
 clear hx1 ho0 hq0 hp0 gn0 gc0 gf0 hc0 cn0 SR0 V0 V0' W0 ba0 QB0 M0 zz0
 go_wp2_with fail
 rw[rounds_succ]
 have r1:=RD.out _ N1.out.bel
 have ei1:x1.cell? ⟨gi,1,none⟩=some (.int .u64 32):=by have:=r1.2.2.1 1 _ rfl;rwa [Nat.zero_add] at this
 have eg1:x1.cell? ⟨g,1,none⟩=some (.slice (some ⟨b,0,none⟩) 2 cb):=by have:=r1.2.2.2.2.1 1 _ rfl;rwa [Nat.zero_add] at this
 have NB1:=hd0 (bnew32 b cb x1 (by have:=r1.2.2.2.2.2.2 0 _ rfl;rwa [Nat.zero_add] at this) (by have:=r1.2.2.2.2.2.2 1 _ rfl;rwa [Nat.zero_add] at this))
 clear r1
 go_upto_region 10 with(go_at_call 37;with_reducible refine NB1.out.mono ?_;rintro en y1 ⟨P1,rfl,hbn1,hby1⟩)
 have M1:=hd0 (N1.out.later hby1)
 have Q1:=hd0 hbn1
 have Z1:=hd0 hby1.size
 have lk1:=M1.out.um.look 32 (by decide) (fun z=>rfl)
 obtain⟨u1,ru1,hm1,hg1⟩:=World.ownsMap.update M1.out.um u64_keyed Tryz.underlying134 (by decide) (key:=.int .u64 32) (val:=.bool true) (kl:=.int .u64 32) (d:=.lit (.bool true)) (ps:=[]) (keyOf_int_mk Tryz.underlying63 (by decide)) (plainElem_bool Tryz.underlying4 true)
 go_upto_region 14 with fail
 have W1:=hd0 (M1.out.upd hm1 hg1)
 have zz1:=hg1.size
 have nb1:=N1.out.hB
 have V1':=W1
 have ba1:Below u1.heap.size u1 (u1.alloc (.cells #[.pointer (some ⟨P1.b,0,none⟩)] 59)):=bAo _
 have V1:=hd0 (V1'.out.later ba1)
 have QB1:=hd0 ((Q1.out.blk fun k hk hi=>hg1.block k hk (by have:=hi.1;have:=Z1.out;simp;omega)).later ba1)
 have QA1:=hd0 (((QA0.out.later hby1).blk fun k hk hi=>hg1.block k hk (by have:=hi.1;have:=nb0;simp;omega)).later ba1)
 have SR1:=hd0 (show(u1.alloc (.cells #[.pointer (some ⟨P1.b,0,none⟩)] 59)).cell? ⟨u1.heap.size,0,none⟩=some (.pointer (some ⟨P1.b,0,none⟩)) from(GB.new 59 u1 #[.pointer (some ⟨P1.b,0,none⟩)]).c 0 _ rfl)
 have cn1:u1.cell? ⟨w1.heap.size+1,0,none⟩=some (.slice (some ⟨g0,0,none⟩) 1 c0):=V1'.out.net.c 0 _ rfl
 clear ru1 hm1 hg1 lk1
 go_upto_region 15 with(at_builtin;refine wpList_plain rfl fun K hK=>?_;refine bapp (.tmp 65) (.tmp 67) rfl y0.heap.size g0 1 c0 [P0.b] rfl V1.out.ow u1.heap.size 1 P1.b rfl SR1.out (by simp) V1.out.hB.2 ?_;intro v1 t1 ho1 hq1 hp1;obtain⟨a1,n1,m1,rfl⟩:=ho1.shape;have gn1:=V1.out.net.grown hq1 (by intro e;have:=World.ownsRow.lt V1.out.ow _ e.symm;have:=V1.out.hB;omega);have gc1:=gn1.c 0 _ rfl;have gf1:=gn1.fr 0;refine hK _ _ ?_)
 obtain⟨g1,c1,tt1,hv1,hg1',hc1,-⟩:=ho1.ne (by simp)
 replace hv1:Value.slice a1 n1 m1=.slice (some ⟨g1,0,none⟩) 2 c1:=hv1
 injection hv1 with e1 e2 e3
 have e3:=e3.symm
 subst e1 e2 e3
 have N2:NL w1 (t1.setCell ⟨w1.heap.size+1,0,none⟩ (.slice (some ⟨g1,0,none⟩) 2 c1)) y0.heap.size (.slice (some ⟨g1,0,none⟩) 2 c1) [P0.b,P1.b] 2 (((DataW.map []).put (.int .u64 16) (.lit (.bool true))).put (.int .u64 32) (.lit (.bool true))):=V1.out.app ho1 hq1
 have og0:=World.ownsRow.lt N1.out.ow g0 rfl
 have og1:=World.ownsRow.lt N2.ow g1 rfl
 have hsl:(u1.alloc (.cells #[.pointer (some ⟨P1.b,0,none⟩)] 59)).heap.size=u1.heap.size+1:=by simp
 have hwh:=hp1 g1 rfl
 have Z0':=Z0.out
 have Z1':=Z1.out
 have NGx:Hid (NG w1 (t1.setCell ⟨w1.heap.size+1,0,none⟩ (.slice (some ⟨g1,0,none⟩) 2 c1)) g1 c1 x0.heap.size y0.heap.size x1.heap.size y1.heap.size P0 P1 (mS 16 false false) (mS 32 false false) (.slice none 0 0) 0 (.map [])):=hd0 (by
  have fs:∀ k,k≠w1.heap.size+1→(t1.setCell ⟨w1.heap.size+1,0,none⟩ (.slice (some ⟨g1,0,none⟩) 2 c1)).heap[k]?=t1.heap[k]?:=fun k hk=>Below.heap_setCell _ _ _ _ (by intro e;exact hk e)
  refine⟨N2.bel,N2.net,fun j v hv=>?_,N2.sm,(QA1.out.blk fun k hk hi=>hq1.block k hk (by have:=hi.2;simp;omega)).blk fun k hk hi=>fs k (by have:=hi.1;omega),(QB1.out.blk fun k hk hi=>hq1.block k hk (by have:=hi.1;simp;omega)).blk fun k hk hi=>fs k (by have:=hi.1;omega),by omega,by have:=N1.out.hB.2;omega,?_,⟨og1.1,by omega⟩,og1.2⟩
  ·have hj:j<2:=by have:=(List.getElem?_eq_some_iff.1 hv).1;simpa using this
   have hr:(t1.setCell ⟨w1.heap.size+1,0,none⟩ (.slice (some ⟨g1,0,none⟩) 2 c1)).ownsRow y0.heap.size 59 1 (.slice (some ⟨g1,0,none⟩) 2 c1) 2 ([P0.b,P1.b].flatMap ptC):=N2.ow
   rw[Nat.zero_add,World.ownsRow.cellAt hr j (by omega)];exact hv
  ·rw[World.size_setCell];have:=hq1.size;omega)
 obtain⟨x2,hx2⟩:∃ z,t1.setCell ⟨w1.heap.size+1,0,none⟩ (.slice (some ⟨g1,0,none⟩) 2 c1)=z:=⟨_,rfl⟩
 rw[hx2] at NGx ⊢
 clear hx2 N2 og0 og1 hsl hwh Z0' Z1' ho1 hq1 hp1 gn1 gc1 gf1 hc1 cn1 SR1 V1 V1' W1 ba1 QB1 QA1 QA0 M1 zz1 hbn1 hby1 ei1 eg1 NB1 N0 N1 Q0 Q1 AND0 AND1 nb0 nb1
 go_wp2_with fail
 rw[rounds_succ]
 have e2:=(RD.out _ NGx.out.bel).2.1
 go_wp2_with fail
 refine wp_loop_rounds 2 ?_
 rw[rounds_succ]
 clear e2
 have f0:x2.cell? ⟨gl,0,none⟩=some (.int .i64 0):=by have:=(RD.out _ NGx.out.bel).2.2.2.1 0 _ rfl;rwa [Nat.zero_add] at this
 have f1:x2.cell? ⟨gl,1,none⟩=some (.int .u8 1):=by have:=(RD.out _ NGx.out.bel).2.2.2.1 1 _ rfl;rwa [Nat.zero_add] at this
 have f2:x2.cell? ⟨gl,2,none⟩=some (.int .u32 5):=by have:=(RD.out _ NGx.out.bel).2.2.2.1 2 _ rfl;rwa [Nat.zero_add] at this
 have f3:x2.cell? ⟨gl,3,none⟩=some (.int .i64 1):=by have:=(RD.out _ NGx.out.bel).2.2.2.1 3 _ rfl;rwa [Nat.zero_add] at this
 have f4:x2.cell? ⟨gl,4,none⟩=some (.int .u8 1):=by have:=(RD.out _ NGx.out.bel).2.2.2.1 4 _ rfl;rwa [Nat.zero_add] at this
 have f5:x2.cell? ⟨gl,5,none⟩=some (.int .u32 5):=by have:=(RD.out _ NGx.out.bel).2.2.2.1 5 _ rfl;rwa [Nat.zero_add] at this
 go_upto_region 19 with fail
 have b3:Below x2.heap.size x2 (x2.alloc (.cells #[.int .i64 0,.int .u8 1,.int .u32 5,.int .i64 1,.int .u8 1,.int .u32 5] 104)):=bAo _
 have ge:=GB.new 104 x2 #[.int .i64 0,.int .u8 1,.int .u32 5,.int .i64 1,.int .u8 1,.int .u32 5]
 have z3:(x2.alloc (.cells #[.int .i64 0,.int .u8 1,.int .u32 5,.int .i64 1,.int .u8 1,.int .u32 5] 104)).heap.size=x2.heap.size+1:=by simp
 obtain⟨x3,hx3⟩:∃ z,x2.alloc (.cells #[.int .i64 0,.int .u8 1,.int .u32 5,.int .i64 1,.int .u8 1,.int .u32 5] 104)=z:=⟨_,rfl⟩
 rw[hx3] at b3 ge z3 ⊢
 have G3:=hd0 (NGx.out.later b3)
 have E3:=hd0 ge
 have LN:=hd0 (lnew x3)
 clear hx3 b3 ge f0 f1 f2 f3 f4 f5
 go_upto_region 20 with(go_at_call 38;with_reducible refine LN.out.mono ?_;rintro en x4 ⟨l,q0,d0,q1,d1,rfl,hl4,ho4,hb4⟩)
 have LU:=hd0 (lup l q0 d0 q1 d1 [] [] x4 hl4)
 have G4:=hd0 (G3.out.later hb4)
 have E4:=hd0 (E3.out.later hb4)
 go_upto_region 21 with(go_at_call 39;with_reducible refine LU.out.mono ?_;rintro en x5 ⟨rfl,hl5,on5⟩)
 have oG:=G4.out.ord
 have lG:=G4.out.le
 have z2b:=NGx.out.ord.2.2.1
 have g1x:=NGx.out.ord.2.2.2.2
 have LO:Hid (w1.heap.size+3≤l∧w1.heap.size+3≤q0∧w1.heap.size+3≤d0∧w1.heap.size+3≤q1∧w1.heap.size+3≤d1∧y1.heap.size≤l∧y1.heap.size≤q0∧y1.heap.size≤d0∧y1.heap.size≤q1∧y1.heap.size≤d1∧w1.heap.size+1<x2.heap.size):=hd0 (by omega)
 have fl5:Fr (fun k=>k=l) x4 x5:=Fr.of_only on5 rfl
 have G5:=hd0 (G4.out.in fl5 (fun x hx=>by subst hx;omega) (G4.out.net.fr' fl5 (by omega)) (own_blk G4.out.sm (fl5.block _ (World.ownsMap.lt G4.out.sm) (by omega))) (G4.out.A.fr fl5 fun x hx hi=>by have:=hi.2;omega) (G4.out.B.fr fl5 fun x hx hi=>by have:=hi.2;omega))
 have E5:=hd0 (E4.out.fr' fl5 (by omega))
 have z5:x2.heap.size+1≤x5.heap.size:=by have:=fl5.size;have:=hb4.size;omega
 clear on5 fl5 oG lG hb4 LN LU
 have SX:Hid (∀ W,Fr (fun k=>k=w1.heap.size+1) x5 W→W.rangeAt x2.heap.size 0 [.int .i64 0,.int .u8 1,.int .u32 5,.int .i64 1,.int .u8 1,.int .u32 5]):=hd0 fun W hf=>range_fr E5.out.range hf (by have:=LO.out;omega)
 have BL:Hid (Below x5.heap.size x5 (x5.alloc (.cells #[.pointer (some ⟨l,0,none⟩),.int .i64 0,.int .u8 1,.int .u32 5,.int .i64 1,.int .u8 1,.int .u32 5] 106)).drew):=hd0 (bAo _).drew
 have HE:Hid (Rw 7 jtC (x5.alloc (.cells #[.pointer (some ⟨l,0,none⟩),.int .i64 0,.int .u8 1,.int .u32 5,.int .i64 1,.int .u8 1,.int .u32 5] 106)).drew (.slice (some ⟨x5.heap.size,0,none⟩) 1 1) [l]):=hd0 (Ow.rw jtC_len (show Ow 7 jtC 106 (x5.alloc (.cells #[.pointer (some ⟨l,0,none⟩),.int .i64 0,.int .u8 1,.int .u32 5,.int .i64 1,.int .u8 1,.int .u32 5] 106)).drew 0 (.slice (some ⟨x5.heap.size,0,none⟩) 1 1) [l] from Ow.lit (E:=106) jtC_len x5 0 l #[.pointer (some ⟨l,0,none⟩),.int .i64 0,.int .u8 1,.int .u32 5,.int .i64 1,.int .u8 1,.int .u32 5] rfl (Nat.zero_le _)))
 have IE:Hid ((Tryz.prog.info? 104).map (·.size)=some 6):=hd0 (by kernel_rfl)
 have cn5:x5.drew.cell? ⟨w1.heap.size+1,1,none⟩=some (.slice none 0 0):=G5.out.net.c 1 _ rfl
 have cm5:(x5.alloc (.cells #[.pointer (some ⟨l,0,none⟩),.int .i64 0,.int .u8 1,.int .u32 5,.int .i64 1,.int .u8 1,.int .u32 5] 106)).drew.cell? ⟨w1.heap.size+1,1,none⟩=some (.slice none 0 0):=(G5.out.later BL.out).net.c 1 _ rfl
 go_cut [] (fun wx=>∃ g2 c2:Nat,Hid (NG w1 wx g1 c1 x0.heap.size y0.heap.size x1.heap.size y1.heap.size P0 P1 (mS 16 false false) (mS 32 false false) (.slice (some ⟨g2,0,none⟩) 1 c2) 0 (.map [])∧wx.rangeAt g2 0 (jtC l)∧LK wx l q0 d0 q1 d1 true [] []∧GB 104 wx x2.heap.size #[.int .i64 0,.int .u8 1,.int .u32 5,.int .i64 1,.int .u8 1,.int .u32 5]∧y1.heap.size≤g2))
 case first =>
  refine wp_region_held_drew (S:=fun W=>W.rangeAt x2.heap.size 0 [.int .i64 0,.int .u8 1,.int .u32 5,.int .i64 1,.int .u8 1,.int .u32 5]) (by kernel_rfl) (SX.out _ (Fr.of_below (Below.refl _ _).drew)) (fun hHeld=>?_)
  refine tkH 0 ?_ ?h ?_
  case h=>(intro w hSw;go_simp;try with_reducible rfl)
  try simp only[Act.put,zz]
  refine tkH 1 ?_ ?h ?_
  case h=>(intro w hSw;go_simp;try with_reducible rfl)
  try simp only[Act.put,zz]
  refine tkH 2 ?_ ?h ?_
  case h=>(intro w hSw;go_simp;try with_reducible rfl)
  try simp only[Act.put,zz]
  refine tkH 3 ?_ ?h ?_
  case h=>(intro w hSw;go_simp;try with_reducible rfl)
  try simp only[Act.put,zz]
  refine tkH 5 ?_ ?h ?_
  case h=>(intro w hSw;go_simp;try with_reducible rfl)
  try simp only[Act.put,zz]
  refine wpAnyH_take (i:=6) (v:=.agg #[.int .i64 0,.int .u8 1,.int .u32 5,.int .i64 1,.int .u8 1,.int .u32 5]) rfl (by kernel_rfl) (by kernel_rfl) (by kernel_rfl) (fun _ _ _ h=>h) (yieldsIf_load_mid (by rfl) 104 (.tmp 14) rfl x2.heap.size 0 rfl [.int .i64 0,.int .u8 1,.int .u32 5,.int .i64 1,.int .u8 1,.int .u32 5] _ (fun w h=>h) Tryz.underlying104 rfl IE.out) (by assumption) ?_
  try simp only[Act.put,zz]
  refine tkH 7 ?_ ?h ?_
  case h=>(intro w hSw;go_simp;try with_reducible rfl)
  try simp only[Act.put,zz]
  refine wpAnyH_ready (rs:=[4,8]) (by kernel_rfl) (by simp) (AllReadyH.cons rfl (fun K hK=>?_) (AllReadyH.cons rfl (fun K hK=>?_) AllReadyH.nil))
  ·(go_simp;refine hK.out _ _ hHeld (fun hHeld=>?_);clear hK K;try simp only[Act.put,zz])
   refine rdH 8 fun K hK=>?_
   (go_simp;refine hK.out _ _ (SX.out _ (Fr.of_below (BL.out))) (fun hHeld=>?_);clear hK K;try simp only[Act.put,zz])
   refine rdH 9 fun K hK=>?_
   (rw[if_pos (by rfl)];refine wp_append_rw jtC_len jtC_one 106 94 _ 40 Tryz.underlying94 info_jt rfl (by decide) (by decide) (.tmp 87) (.tmp 91) rfl x5.heap.size (.slice none 0 0) [] rfl (Ow.none _ _) _ [l] rfl HE.out (by simp) BL.out.size ?_;intro v6 x6 ho6 hb6;refine hK.out _ _ (SX.out _ (Fr.of_below (BL.out.trans hb6))) (fun hHeld=>?_);clear hK K;try simp only[Act.put,zz])
   obtain⟨g2,c2,tt2,hv2,hg2',hc2,-⟩:=ho6.ne (by simp)
   replace hv2:v6=.slice (some ⟨g2,0,none⟩) 1 c2:=hv2
   subst hv2
   have G6:=hd0 (G5.out.later (BL.out.trans hb6))
   have cc6:=G6.out.net.c 1 _ rfl
   have ff6:=G6.out.net.fr 1
   have rl6:x6.rangeAt g2 0 (jtC l):=fun j v hv=>by
    have hj:j<7:=by have:=(List.getElem?_eq_some_iff.1 hv).1;simpa [jtC] using this
    have h2:x6.ownsRow x5.heap.size 106 7 (.slice (some ⟨g2,0,none⟩) 1 c2) 1 ([l].flatMap jtC):=ho6
    rw[Nat.zero_add,World.ownsRow.cellAt h2 j (by omega)];exact hv
   have F6:Fr (fun k=>k=w1.heap.size+1) x6 (x6.setCell ⟨w1.heap.size+1,1,none⟩ (.slice (some ⟨g2,0,none⟩) 1 c2)):=Fr.of_only (Only.set _ _ _ _) rfl
   have F56:Fr (fun k=>k=w1.heap.size+1) x5 (x6.setCell ⟨w1.heap.size+1,1,none⟩ (.slice (some ⟨g2,0,none⟩) 1 c2)):=(Fr.of_below (BL.out.trans hb6)).trans F6
   refine tkH 10 ?_ ?h ?_
   case h=>(intro w hSw;go_simp;try with_reducible rfl)
   try simp only[Act.put,zz]
   refine tkH 11 ?_ ?h ?_
   case h=>(intro w hSw;go_simp;try with_reducible rfl)
   try simp only[Act.put,zz]
   refine rdH 12 fun K hK=>?_
   (go_simp;refine hK.out _ _ (SX.out _ F56) (fun hHeld=>?_);clear hK K;try simp only[Act.put,zz])
   refine wpAnyH_done (by kernel_rfl) ?_ _
   go_wp2_with fail
   go_meet
   exact⟨g2,c2,hd0 ⟨G6.out.setNet _,range_fr rl6 F6 (by have:=LO.out;omega),hl5.blk fun k hk hx=>F56.block k hk (by have:=LO.out;rcases hx with rfl|rfl|rfl|rfl|rfl <;> omega),E5.out.fr' F56 (by have:=LO.out;omega),by omega⟩⟩
  ·(go_simp;refine hK.out _ _ (SX.out _ (Fr.of_below (BL.out))) (fun hHeld=>?_);clear hK K;try simp only[Act.put,zz])
   refine rdH 4 fun K hK=>?_
   (go_simp;refine hK.out _ _ hHeld (fun hHeld=>?_);clear hK K;try simp only[Act.put,zz])
   refine rdH 9 fun K hK=>?_
   (rw[if_pos (by rfl)];refine wp_append_rw jtC_len jtC_one 106 94 _ 40 Tryz.underlying94 info_jt rfl (by decide) (by decide) (.tmp 87) (.tmp 91) rfl x5.heap.size (.slice none 0 0) [] rfl (Ow.none _ _) _ [l] rfl HE.out (by simp) BL.out.size ?_;intro v6 x6 ho6 hb6;refine hK.out _ _ (SX.out _ (Fr.of_below (BL.out.trans hb6))) (fun hHeld=>?_);clear hK K;try simp only[Act.put,zz])
   obtain⟨g2,c2,tt2,hv2,hg2',hc2,-⟩:=ho6.ne (by simp)
   replace hv2:v6=.slice (some ⟨g2,0,none⟩) 1 c2:=hv2
   subst hv2
   have G6:=hd0 (G5.out.later (BL.out.trans hb6))
   have cc6:=G6.out.net.c 1 _ rfl
   have ff6:=G6.out.net.fr 1
   have rl6:x6.rangeAt g2 0 (jtC l):=fun j v hv=>by
    have hj:j<7:=by have:=(List.getElem?_eq_some_iff.1 hv).1;simpa [jtC] using this
    have h2:x6.ownsRow x5.heap.size 106 7 (.slice (some ⟨g2,0,none⟩) 1 c2) 1 ([l].flatMap jtC):=ho6
    rw[Nat.zero_add,World.ownsRow.cellAt h2 j (by omega)];exact hv
   have F6:Fr (fun k=>k=w1.heap.size+1) x6 (x6.setCell ⟨w1.heap.size+1,1,none⟩ (.slice (some ⟨g2,0,none⟩) 1 c2)):=Fr.of_only (Only.set _ _ _ _) rfl
   have F56:Fr (fun k=>k=w1.heap.size+1) x5 (x6.setCell ⟨w1.heap.size+1,1,none⟩ (.slice (some ⟨g2,0,none⟩) 1 c2)):=(Fr.of_below (BL.out.trans hb6)).trans F6
   refine tkH 10 ?_ ?h ?_
   case h=>(intro w hSw;go_simp;try with_reducible rfl)
   try simp only[Act.put,zz]
   refine tkH 11 ?_ ?h ?_
   case h=>(intro w hSw;go_simp;try with_reducible rfl)
   try simp only[Act.put,zz]
   refine rdH 12 fun K hK=>?_
   (go_simp;refine hK.out _ _ (SX.out _ F56) (fun hHeld=>?_);clear hK K;try simp only[Act.put,zz])
   refine wpAnyH_done (by kernel_rfl) ?_ _
   go_wp2_with fail
   go_meet
   exact⟨g2,c2,hd0 ⟨G6.out.setNet _,range_fr rl6 F6 (by have:=LO.out;omega),hl5.blk fun k hk hx=>F56.block k hk (by have:=LO.out;rcases hx with rfl|rfl|rfl|rfl|rfl <;> omega),E5.out.fr' F56 (by have:=LO.out;omega),by omega⟩⟩
 case rest =>
  obtain⟨g2,c2,hcut⟩:=hcut
  have hy2:=hcut.out.2.2.2.2
  have gb:=hcut.out.2.2.2.1
  have f0:wc.cell? ⟨x2.heap.size,0,none⟩=some (.int .i64 0):=gb.c 0 _ rfl
  have f1:wc.cell? ⟨x2.heap.size,1,none⟩=some (.int .u8 1):=gb.c 1 _ rfl
  have f2:wc.cell? ⟨x2.heap.size,2,none⟩=some (.int .u32 5):=gb.c 2 _ rfl
  have f3:wc.cell? ⟨x2.heap.size,3,none⟩=some (.int .i64 1):=gb.c 3 _ rfl
  have f4:wc.cell? ⟨x2.heap.size,4,none⟩=some (.int .u8 1):=gb.c 4 _ rfl
  have f5:wc.cell? ⟨x2.heap.size,5,none⟩=some (.int .u32 5):=gb.c 5 _ rfl
  have IX0:∀ W:World,(Instr.index 104 (.agg #[.int .i64 0,.int .u8 1,.int .u32 5,.int .i64 1,.int .u8 1,.int .u32 5]) (.int .i64 0)).run Tryz.prog W=.ok (.agg #[.int .i64 0,.int .u8 1,.int .u32 5]) W:=fun W=>by kernel_rfl
  have IX1:∀ W:World,(Instr.index 104 (.agg #[.int .i64 0,.int .u8 1,.int .u32 5,.int .i64 1,.int .u8 1,.int .u32 5]) (.int .i64 1)).run Tryz.prog W=.ok (.agg #[.int .i64 1,.int .u8 1,.int .u32 5]) W:=fun W=>by kernel_rfl
  have lo2:=LO.out
  have y1w:w1.heap.size+3≤y1.heap.size:=by have:=hcut.out.1.le;have:=hcut.out.1.ord;omega
  have C0:=hd0 (show _∧_∧_ from⟨hcut.out.1,hcut.out.2.1,hcut.out.2.2.1⟩)
  go_wp2_with fail
  clear f0 f1 f2 f3 f4 f5 gb hcut
  refine wp_loop_rounds 3 ?_
  rw[rounds_succ]
  go_upto_region 25 with fail
  have bx0:Below wc.heap.size wc (wc.alloc (.cells #[.int .i64 0,.int .u8 1,.int .u32 5] 103)):=bAo _
  have gx0:=GB.new 103 wc #[.int .i64 0,.int .u8 1,.int .u32 5]
  have zx0:(wc.alloc (.cells #[.int .i64 0,.int .u8 1,.int .u32 5] 103)).heap.size=wc.heap.size+1:=by simp
  obtain⟨p0,hp0⟩:∃ z,wc.alloc (.cells #[.int .i64 0,.int .u8 1,.int .u32 5] 103)=z:=⟨_,rfl⟩
  rw[hp0] at bx0 gx0 zx0 ⊢
  have H0:Hid (NG w1 p0.drew g1 c1 x0.heap.size y0.heap.size x1.heap.size y1.heap.size P0 P1 (mS 16 false false) (mS 32 false false) (.slice (some ⟨g2,0,none⟩) 1 c2) 0 (.map [])∧p0.drew.rangeAt g2 0 (jtC l)∧LK p0.drew l q0 d0 q1 d1 true [] []):=hd0 (by
   have bd:=bx0.drew
   exact⟨C0.out.1.later bd,range_later C0.out.2.1 bd,C0.out.2.2.later bd⟩)
  have sw0:wc.heap.size≠w1.heap.size:=by have:=C0.out.1.le;have:=C0.out.1.ord;omega
  obtain⟨u1,ru0,hm0,hg0⟩:=World.ownsMap.update H0.out.1.sm nplace_keyed Tryz.underlying95 (by decide) (key:=.agg #[.int .i64 0,.int .u8 1]) (val:=.agg #[.int .i64 0,.int .i64 0]) (kl:=npK 0 1) (d:=.lit (.int .i64 0)) (ps:=[]) npK01 (sEl_mk 0 0 (by decide))
  have gd0:=gx0.drew
  have cn0:p0.drew.cell? ⟨w1.heap.size+1,2,none⟩=some (.map (some w1.heap.size)):=H0.out.1.net.c 2 _ rfl
  have J0:=hd0 (H0.out.1.setMap hm0 hg0)
  have gu0:=gd0.grown hg0 (by simpa using sw0)
  refine wp_region_held_drew (S:=fun W=>W.cell? ⟨w1.heap.size+1,2,none⟩=some (.map (some w1.heap.size))∧W.cell? ⟨wc.heap.size,0,none⟩=some (.int .i64 0)∧W.cell? ⟨wc.heap.size,1,none⟩=some (.int .u8 1)) (by kernel_rfl) ⟨cn0,gd0.c 0 _ rfl,gd0.c 1 _ rfl⟩ (fun hHeld=>?_)
  refine tkH 0 ?_ ?h ?_
  case h=>(intro w hSw;go_simp;try with_reducible rfl)
  try simp only[Act.put,zz]
  refine tkH 1 ?_ ?h ?_
  case h=>(intro w hSw;go_simp;try with_reducible rfl)
  try simp only[Act.put,zz]
  refine tkH 2 ?_ ?h ?_
  case h=>(intro w hSw;go_simp;try with_reducible rfl)
  try simp only[Act.put,zz]
  refine tkH 3 ?_ ?h ?_
  case h=>(intro w hSw;go_simp;try with_reducible rfl)
  try simp only[Act.put,zz]
  refine tkH 4 ?_ ?h ?_
  case h=>(intro w hSw;go_simp;try with_reducible rfl)
  try simp only[Act.put,zz]
  refine tkH 5 ?_ ?h ?_
  case h=>(intro w hSw;go_simp;try with_reducible rfl)
  try simp only[Act.put,zz]
  refine tkH 6 ?_ ?h ?_
  case h=>(intro w hSw;go_simp;try with_reducible rfl)
  try simp only[Act.put,zz]
  refine tkH 7 ?_ ?h ?_
  case h=>(intro w hSw;go_simp;try with_reducible rfl)
  try simp only[Act.put,zz]
  refine tkH 8 ?_ ?h ?_
  case h=>(intro w hSw;go_simp;try with_reducible rfl)
  try simp only[Act.put,zz]
  refine tkH 9 ?_ ?h ?_
  case h=>(intro w hSw;go_simp;try with_reducible rfl)
  try simp only[Act.put,zz]
  refine tkH 10 ?_ ?h ?_
  case h=>(intro w hSw;go_simp;try with_reducible rfl)
  try simp only[Act.put,zz]
  refine tkH 11 ?_ ?h ?_
  case h=>(intro w hSw;go_simp;try with_reducible rfl)
  try simp only[Act.put,zz]
  refine rdH 12 fun K hK=>?_
  (go_simp;refine hK.out _ _ ⟨J0.out.net.c 2 _ rfl,gu0.c 0 _ rfl,gu0.c 1 _ rfl⟩ (fun hHeld=>?_);clear hK K;try simp only[Act.put,zz])
  refine wpAnyH_done (by kernel_rfl) ?_ _
  have C1:Hid (NG w1 u1 g1 c1 x0.heap.size y0.heap.size x1.heap.size y1.heap.size P0 P1 (mS 16 false false) (mS 32 false false) (.slice (some ⟨g2,0,none⟩) 1 c2) 1 ((DataW.map []).put (npK 0 1) (.lit (.int .i64 0)))∧u1.rangeAt g2 0 (jtC l)∧LK u1 l q0 d0 q1 d1 true [] []):=hd0 ⟨J0.out,range_fr (D:=fun k=>k=w1.heap.size) H0.out.2.1 ⟨hg0.os,hg0.tape,hg0.output,hg0.size,fun i hi hx=>hg0.block i hi (by simpa using hx)⟩ (by have:=LO.out;omega),H0.out.2.2.blk fun k hk hx=>hg0.block k hk (by have:=LO.out;simp;rcases hx with rfl|rfl|rfl|rfl|rfl <;> omega)⟩
  clear ru0 hm0 hg0 gu0 gd0 cn0 gx0 bx0 zx0 hp0 sw0 hHeld
  go_wp2_with fail
  rw[rounds_succ]
  go_upto_region 25 with fail
  have bx1:Below u1.heap.size u1 (u1.alloc (.cells #[.int .i64 1,.int .u8 1,.int .u32 5] 103)):=bAo _
  have gx1:=GB.new 103 u1 #[.int .i64 1,.int .u8 1,.int .u32 5]
  have zx1:(u1.alloc (.cells #[.int .i64 1,.int .u8 1,.int .u32 5] 103)).heap.size=u1.heap.size+1:=by simp
  obtain⟨p1,hp1⟩:∃ z,u1.alloc (.cells #[.int .i64 1,.int .u8 1,.int .u32 5] 103)=z:=⟨_,rfl⟩
  rw[hp1] at bx1 gx1 zx1 ⊢
  have H1:Hid (NG w1 p1.drew g1 c1 x0.heap.size y0.heap.size x1.heap.size y1.heap.size P0 P1 (mS 16 false false) (mS 32 false false) (.slice (some ⟨g2,0,none⟩) 1 c2) 1 ((DataW.map []).put (npK 0 1) (.lit (.int .i64 0)))∧p1.drew.rangeAt g2 0 (jtC l)∧LK p1.drew l q0 d0 q1 d1 true [] []):=hd0 (by
   have bd:=bx1.drew
   exact⟨C1.out.1.later bd,range_later C1.out.2.1 bd,C1.out.2.2.later bd⟩)
  have sw1:u1.heap.size≠w1.heap.size:=by have:=C1.out.1.le;have:=C1.out.1.ord;omega
  obtain⟨u2,ru1,hm1,hg1⟩:=World.ownsMap.update H1.out.1.sm nplace_keyed Tryz.underlying95 (by decide) (key:=.agg #[.int .i64 1,.int .u8 1]) (val:=.agg #[.int .i64 0,.int .i64 1]) (kl:=npK 1 1) (d:=.lit (.int .i64 1)) (ps:=[]) npK11 (sEl_mk 0 1 (by decide))
  have gd1:=gx1.drew
  have cn1:p1.drew.cell? ⟨w1.heap.size+1,2,none⟩=some (.map (some w1.heap.size)):=H1.out.1.net.c 2 _ rfl
  have J1:=hd0 (H1.out.1.setMap hm1 hg1)
  have gu1:=gd1.grown hg1 (by simpa using sw1)
  refine wp_region_held_drew (S:=fun W=>W.cell? ⟨w1.heap.size+1,2,none⟩=some (.map (some w1.heap.size))∧W.cell? ⟨u1.heap.size,0,none⟩=some (.int .i64 1)∧W.cell? ⟨u1.heap.size,1,none⟩=some (.int .u8 1)) (by kernel_rfl) ⟨cn1,gd1.c 0 _ rfl,gd1.c 1 _ rfl⟩ (fun hHeld=>?_)
  refine tkH 0 ?_ ?h ?_
  case h=>(intro w hSw;go_simp;try with_reducible rfl)
  try simp only[Act.put,zz]
  refine tkH 1 ?_ ?h ?_
  case h=>(intro w hSw;go_simp;try with_reducible rfl)
  try simp only[Act.put,zz]
  refine tkH 2 ?_ ?h ?_
  case h=>(intro w hSw;go_simp;try with_reducible rfl)
  try simp only[Act.put,zz]
  refine tkH 3 ?_ ?h ?_
  case h=>(intro w hSw;go_simp;try with_reducible rfl)
  try simp only[Act.put,zz]
  refine tkH 4 ?_ ?h ?_
  case h=>(intro w hSw;go_simp;try with_reducible rfl)
  try simp only[Act.put,zz]
  refine tkH 5 ?_ ?h ?_
  case h=>(intro w hSw;go_simp;try with_reducible rfl)
  try simp only[Act.put,zz]
  refine tkH 6 ?_ ?h ?_
  case h=>(intro w hSw;go_simp;try with_reducible rfl)
  try simp only[Act.put,zz]
  refine tkH 7 ?_ ?h ?_
  case h=>(intro w hSw;go_simp;try with_reducible rfl)
  try simp only[Act.put,zz]
  refine tkH 8 ?_ ?h ?_
  case h=>(intro w hSw;go_simp;try with_reducible rfl)
  try simp only[Act.put,zz]
  refine tkH 9 ?_ ?h ?_
  case h=>(intro w hSw;go_simp;try with_reducible rfl)
  try simp only[Act.put,zz]
  refine tkH 10 ?_ ?h ?_
  case h=>(intro w hSw;go_simp;try with_reducible rfl)
  try simp only[Act.put,zz]
  refine tkH 11 ?_ ?h ?_
  case h=>(intro w hSw;go_simp;try with_reducible rfl)
  try simp only[Act.put,zz]
  refine rdH 12 fun K hK=>?_
  (go_simp;refine hK.out _ _ ⟨J1.out.net.c 2 _ rfl,gu1.c 0 _ rfl,gu1.c 1 _ rfl⟩ (fun hHeld=>?_);clear hK K;try simp only[Act.put,zz])
  refine wpAnyH_done (by kernel_rfl) ?_ _
  have C2:Hid (NG w1 u2 g1 c1 x0.heap.size y0.heap.size x1.heap.size y1.heap.size P0 P1 (mS 16 false false) (mS 32 false false) (.slice (some ⟨g2,0,none⟩) 1 c2) 2 (((DataW.map []).put (npK 0 1) (.lit (.int .i64 0))).put (npK 1 1) (.lit (.int .i64 1)))∧u2.rangeAt g2 0 (jtC l)∧LK u2 l q0 d0 q1 d1 true [] []):=hd0 ⟨J1.out,range_fr (D:=fun k=>k=w1.heap.size) H1.out.2.1 ⟨hg1.os,hg1.tape,hg1.output,hg1.size,fun i hi hx=>hg1.block i hi (by simpa using hx)⟩ (by have:=LO.out;omega),H1.out.2.2.blk fun k hk hx=>hg1.block k hk (by have:=LO.out;simp;rcases hx with rfl|rfl|rfl|rfl|rfl <;> omega)⟩
  clear ru1 hm1 hg1 gu1 gd1 cn1 gx1 bx1 zx1 hp1 sw1 hHeld
  go_wp2_with fail
  rw[rounds_succ]
  go_wp2_with fail
  rw[rounds_succ]
  have R0:Hid (NG w1 u2 g1 c1 x0.heap.size y0.heap.size x1.heap.size y1.heap.size P0 P1 (mS 16 false false) (mS 32 false false) (.slice (some ⟨g2,0,none⟩) 1 c2) 2 sD∧u2.rangeAt g2 0 (jtC l)∧LK u2 l q0 d0 q1 d1 true [] []):=hd0 C2.out
  have hg5:w1.heap.size+3≤w1.heap.size+3:=Nat.le_refl _
  have cb0:u2.cell? ⟨w1.heap.size+1,0,none⟩=some (.slice (some ⟨g1,0,none⟩) 2 c1):=R0.out.1.net.c 0 _ rfl
  go_wp2_with fail
  refine wp_loop_rounds 3 ?_
  clear cb0
  rw[rounds_succ]
  have ra0:=RD.out _ R0.out.1.bel
  have cp0:u2.cell? ⟨g1,0,none⟩=some (.pointer (some ⟨P0.b,0,none⟩)):=by have:=R0.out.1.rb 0 _ rfl;rwa [Nat.zero_add] at this
  have cg0:u2.cell? ⟨g,0,none⟩=some (.slice (some ⟨a,0,none⟩) 2 ca):=by have:=ra0.2.2.2.2.1 0 _ rfl;rwa [Nat.zero_add] at this
  clear ra0
  go_wp2_with fail
  refine wp_loop_rounds 3 ?_
  clear cp0 cg0
  rw[rounds_succ]
  have UP0:=hd0 (bupN0 x0.heap.size y0.heap.size P0 [0,0,0,0,0,0,0,0] [] 16 u2 R0.out.1.A)
  go_wp2_with (go_at_call 40;with_reducible refine UP0.out.mono ?_;rintro en v1 ⟨rfl,hu0,hf0⟩)
  have R1:Hid (NG w1 v1 g1 c1 x0.heap.size y0.heap.size x1.heap.size y1.heap.size P0 P1 (mS 16 true false) (mS 32 false false) (.slice (some ⟨g2,0,none⟩) 1 c2) 2 sD∧v1.rangeAt g2 0 (jtC l)∧LK v1 l q0 d0 q1 d1 true [] []):=hd0 (by
   have hx:=R0.out.1.ord
   have hy:=R0.out.1.le
   exact⟨R0.out.1.setA hu0 hf0,range_fr R0.out.2.1 hf0 (fun hx=>by have:=hx.1;have:=hx.2;omega),R0.out.2.2.blk fun k hk hh=>hf0.block k hk (fun hx=>by have:=hx.1;have:=hx.2;have:=LO.out;rcases hh with rfl|rfl|rfl|rfl|rfl <;> omega)⟩)
  clear UP0 hu0 hf0
  rw[rounds_succ]
  have UP1:=hd0 (bupN1 x0.heap.size y0.heap.size P0 [0,0,0,0,0,0,0,0] [] 16 v1 R1.out.1.A)
  go_wp2_with (go_at_call 40;with_reducible refine UP1.out.mono ?_;rintro en v2 ⟨rfl,hu1,hf1⟩)
  have R2:Hid (NG w1 v2 g1 c1 x0.heap.size y0.heap.size x1.heap.size y1.heap.size P0 P1 (mS 16 true true) (mS 32 false false) (.slice (some ⟨g2,0,none⟩) 1 c2) 2 sD∧v2.rangeAt g2 0 (jtC l)∧LK v2 l q0 d0 q1 d1 true [] []):=hd0 (by
   have hx:=R1.out.1.ord
   have hy:=R1.out.1.le
   exact⟨R1.out.1.setA hu1 hf1,range_fr R1.out.2.1 hf1 (fun hx=>by have:=hx.1;have:=hx.2;omega),R1.out.2.2.blk fun k hk hh=>hf1.block k hk (fun hx=>by have:=hx.1;have:=hx.2;have:=LO.out;rcases hh with rfl|rfl|rfl|rfl|rfl <;> omega)⟩)
  clear UP1 hu1 hf1
  rw[rounds_succ]
  go_wp2_with fail
  rw[rounds_succ]
  have ra1:=RD.out _ R2.out.1.bel
  have cp1:v2.cell? ⟨g1,1,none⟩=some (.pointer (some ⟨P1.b,0,none⟩)):=by have:=R2.out.1.rb 1 _ rfl;rwa [Nat.zero_add] at this
  have cg1:v2.cell? ⟨g,1,none⟩=some (.slice (some ⟨b,0,none⟩) 2 cb):=by have:=ra1.2.2.2.2.1 1 _ rfl;rwa [Nat.zero_add] at this
  clear ra1
  go_wp2_with fail
  refine wp_loop_rounds 3 ?_
  clear cp1 cg1
  rw[rounds_succ]
  have UP2:=hd0 (bupN0 x1.heap.size y1.heap.size P1 [0,0,0,0,0,0,0,0] [] 32 v2 R2.out.1.B)
  go_wp2_with (go_at_call 40;with_reducible refine UP2.out.mono ?_;rintro en v3 ⟨rfl,hu2,hf2⟩)
  have R3:Hid (NG w1 v3 g1 c1 x0.heap.size y0.heap.size x1.heap.size y1.heap.size P0 P1 (mS 16 true true) (mS 32 true false) (.slice (some ⟨g2,0,none⟩) 1 c2) 2 sD∧v3.rangeAt g2 0 (jtC l)∧LK v3 l q0 d0 q1 d1 true [] []):=hd0 (by
   have hx:=R2.out.1.ord
   have hy:=R2.out.1.le
   exact⟨R2.out.1.setB hu2 hf2,range_fr R2.out.2.1 hf2 (fun hx=>by have:=hx.1;have:=hx.2;omega),R2.out.2.2.blk fun k hk hh=>hf2.block k hk (fun hx=>by have:=hx.1;have:=hx.2;have:=LO.out;rcases hh with rfl|rfl|rfl|rfl|rfl <;> omega)⟩)
  clear UP2 hu2 hf2
  rw[rounds_succ]
  have UP3:=hd0 (bupN1 x1.heap.size y1.heap.size P1 [0,0,0,0,0,0,0,0] [] 32 v3 R3.out.1.B)
  go_wp2_with (go_at_call 40;with_reducible refine UP3.out.mono ?_;rintro en v4 ⟨rfl,hu3,hf3⟩)
  have R4:Hid (NG w1 v4 g1 c1 x0.heap.size y0.heap.size x1.heap.size y1.heap.size P0 P1 (mS 16 true true) (mS 32 true true) (.slice (some ⟨g2,0,none⟩) 1 c2) 2 sD∧v4.rangeAt g2 0 (jtC l)∧LK v4 l q0 d0 q1 d1 true [] []):=hd0 (by
   have hx:=R3.out.1.ord
   have hy:=R3.out.1.le
   exact⟨R3.out.1.setB hu3 hf3,range_fr R3.out.2.1 hf3 (fun hx=>by have:=hx.1;have:=hx.2;omega),R3.out.2.2.blk fun k hk hh=>hf3.block k hk (fun hx=>by have:=hx.1;have:=hx.2;have:=LO.out;rcases hh with rfl|rfl|rfl|rfl|rfl <;> omega)⟩)
  clear UP3 hu3 hf3
  rw[rounds_succ]
  go_wp2_with fail
  rw[rounds_succ]
  go_wp2_with fail
  refine bodyPost_ret (v:=.tuple #[.pointer (some ⟨w1.heap.size+1,0,none⟩),.int .i64 0]) (by simp[results,Tryz.results20,go_sem]) rfl ?_
  have lo:=LO.out
  have hz:=R4.out.1.nz R4.out.2.1 R4.out.2.2 ⟨hy2,by omega,by omega,by omega,by omega,by omega⟩
  refine⟨_,rfl,hz,fun k hk=>?_,HB1.out.trans (R4.out.1.bel.mono HB1.out.size)⟩
  have ho:=R4.out.1.ord
  have hle:=R4.out.1.le
  have hw:=HB1.out.size
  rcases hk with hk|hk|hk|hk
  ·have:=hk.1;show w.heap.size≤k;simp only at this;omega
  ·have:=hk.1;show w.heap.size≤k;simp only at this;omega
  ·rw[hk];show w.heap.size≤d0;omega
  ·rw[hk];show w.heap.size≤d1;omega
end Go.Proofs.YtghaobakpdninaaGreatDoor
