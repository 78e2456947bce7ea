/- ZQ16 -/
import Derived.Test.YtlkdfofpnmpidaaGreatZQ15
import Derived.Test.YtlkdfofpnmpidaaGreatZQ13
set_option linter.unusedVariables false
set_option linter.unusedSimpArgs false
set_option maxRecDepth 100000
set_option maxHeartbeats 16000000
namespace Go.Proofs.YtlkdfofpnmpidaaGreat
open Go.RowKit
def pt1 (s:List UInt8):=rdText s 0 1
def pt2 (s:List UInt8):=rdText (pt1 s).2.1 (pt1 s).2.2 6
def ptE (s:List UInt8):Int:=(rdEnd (pt2 s).2.1 (pt2 s).2.2).2
def ptG (s:List UInt8):Bool:=decide (numOf (pt1 s).1=1)&&(decide (ptE s=0)&&!decide (mcOf (pt2 s).1=mc0))
def prtT (l:List Th)(k:UInt8):Mc × Bool:=if (findT l k).2=true then(mcOf (pt2 (findT l k).1).1,ptG (findT l k).1) else(mc0,true)
theorem findT_le:∀ (l:List Th)(k:UInt8)(M:Nat),(∀ x∈l,x.2.length≤M)→(findT l k).1.length≤M
 |[],_,_,_=>Nat.zero_le _
 | x::l,k,M,h=>by
  unfold findT
  split
  ·exact h x (List.mem_cons_self ..)
  ·exact findT_le l k M (fun y hy=>h y (List.mem_cons_of_mem _ hy))
theorem GB.setB {W:World}{q:Nat}{b:Bool}(h:GB 4 W q #[.bool b])(d:Bool):GB 4 (W.setCell ⟨q,0,none⟩ (.bool d)) q #[.bool d]:=by
 unfold GB at *;simp[World.setCell,Array.getElem?_modify,h]
structure TP (w W:World)(O:Nat)(ok:Bool)(u:Nat):Prop where
 o:GB 4 W O #[.bool ok]
 m:GB 25 W u #[.int .u8 0,.int .u8 0,.int .u8 0,.int .u8 0,.int .u8 0,.int .u8 0]
 only:Only O w W
section
variable {w W W':World} {O u:Nat} {ok:Bool}
theorem TP.later (h:TP w W O ok u)(hb:Below W.heap.size W W'):TP w W' O ok u :=
 ⟨h.o.later hb,h.m.later hb,h.only.trans ⟨hb.os,hb.tape,hb.output,hb.size,fun i hi _=>hb.block i hi⟩⟩
theorem TP.by (h:TP w W O ok u){p:Nat}(ho:Only p W W')(hp:w.heap.size≤p)(hO:O<w.heap.size)(hu:u≠p):TP w W' O ok u :=
 ⟨h.o.only ho (by omega),h.m.only ho hu,⟨ho.os.trans h.only.os,ho.tape.trans h.only.tape,ho.output.trans h.only.output,Nat.le_trans h.only.size ho.size,fun i hi hne=>(ho.block i (Nat.lt_of_lt_of_le hi h.only.size) (by intro e;injection e with e;omega)).trans (h.only.block i hi hne)⟩⟩
end
theorem portT_any (k:UInt8)(K:Int)(hk:(k.toNat:Int)=K)(P O:Nat)(a b c:Int)(f:List UInt8)(v:Value)(l:List Th)(ok:Bool)(w:World)(hp:PB 103 w P a b c f v)(hv:Tls w v l)(hl:l.length≤1000)(hs:∀ x∈l,x.2.length≤100000)(ho:GB 4 w O #[.bool ok])(hPO:P≠O) :
  Calls Tryz.prog 146 #[.int .u8 K,.pointer (some ⟨P,0,none⟩),.pointer (some ⟨O,0,none⟩)] w fun en w' =>
   en=.returned (.agg #[.int .u8 (prtT l k).1.a,.int .u8 (prtT l k).1.b,.int .u8 (prtT l k).1.c,.int .u8 (prtT l k).1.d,.int .u8 (prtT l k).1.e,.int .u8 (prtT l k).1.f])∧GB 4 w' O #[.bool (ok&&(prtT l k).2)]∧Only O w w':=by
 obtain⟨R,hR⟩:∃ R,prtT l k=R:=⟨_,rfl⟩
 rw[hR]
 obtain⟨s,is,hF⟩:∃ s is,findT l k=(s,is):=⟨_,_,rfl⟩
 have hRR:R=if is=true then(mcOf (pt2 s).1,ptG s) else(mc0,true):=by rw[←hR];unfold prtT;rw[hF]
 have HRR:=hd0 hRR
 have F1:Hid (∀ w,Tls w v l→Calls Tryz.prog 142 #[v,.int .u8 K] w fun en w'=>en=.returned (.tuple #[.string (bs s),.bool is])∧Below w.heap.size w w'):=fun w hv=>by
  have h:=find_any v l k w hv (by omega)
  rw[hF,hk] at h;exact h
 have hOl:=ho.lt
 have HOL:=hd0 hOl
 have HP:=hd0 hp
 have HO:=hd0 ho
 have HV:=hd0 hv
 have HPO:=hd0 hPO
 clear hR hRR hp ho hv hOl hPO
 go_enter Tryz.func146,Tryz.ntmps146
 go_upto_region 1 with fail
 have bb:Below w.heap.size w (w.alloc (.cells yM 25)):=bA _
 have gm:=GB.new 25 w #[.int .u8 0,.int .u8 0,.int .u8 0,.int .u8 0,.int .u8 0,.int .u8 0]
 obtain⟨u,hu⟩:∃ u,w.heap.size=u:=⟨_,rfl⟩
 obtain⟨w0,hw0⟩:∃ k,w.alloc (.cells yM 25)=k:=⟨_,rfl⟩
 have on0:Only O w w0:=⟨by rw[←hw0];exact bb.os,by rw[←hw0];exact bb.tape,by rw[←hw0];exact bb.output,by rw[←hw0];exact bb.size,fun i hi _=>by rw[←hw0];exact bb.block i hi⟩
 rw[hw0] at bb gm ⊢
 have PB0:=hd0 (HP.out.later bb)
 have TP0:Hid (TP w w0 O ok u):=hd0 ⟨HO.out.later bb,by rw[←hu];exact gm,on0⟩
 have HV0:=hd0 (HV.out.later bb)
 have HU:=hd0 hu
 rw[hu]
 have c4:=PB0.out.c4
 clear bb gm hw0 on0 hu HP HV
 go_wp2_with fail
 with_reducible refine(F1.out _ HV0.out).mono ?_
 rintro en w1 ⟨rfl,hb1⟩
 have TP1:=hd0 (TP0.out.later hb1)
 clear hb1 PB0 TP0 HV0 c4
 cases is with
 | false =>
  have hR2:R=(mc0,true):=by rw[HRR.out,if_neg (by decide)]
  have HR2:=hd0 hR2
  clear hR2
  have m0:w1.cell? ⟨u,0,none⟩=some (.int .u8 0):=TP1.out.m.c 0 _ rfl
  have m1:w1.cell? ⟨u,1,none⟩=some (.int .u8 0):=TP1.out.m.c 1 _ rfl
  have m2:w1.cell? ⟨u,2,none⟩=some (.int .u8 0):=TP1.out.m.c 2 _ rfl
  have m3:w1.cell? ⟨u,3,none⟩=some (.int .u8 0):=TP1.out.m.c 3 _ rfl
  have m4:w1.cell? ⟨u,4,none⟩=some (.int .u8 0):=TP1.out.m.c 4 _ rfl
  have m5:w1.cell? ⟨u,5,none⟩=some (.int .u8 0):=TP1.out.m.c 5 _ rfl
  have f0:=TP1.out.m.fr 0
  have f1:=TP1.out.m.fr 1
  have f2:=TP1.out.m.fr 2
  have f3:=TP1.out.m.fr 3
  have f4:=TP1.out.m.fr 4
  have f5:=TP1.out.m.fr 5
  go_wp2_with fail
  refine bodyPost_ret (v:=.agg #[.int .u8 0,.int .u8 0,.int .u8 0,.int .u8 0,.int .u8 0,.int .u8 0]) (by simp[results,Tryz.results146,go_sem,m0,m1,m2,m3,m4,m5]) rfl ⟨by rw[HR2.out];rfl,?_,?_⟩
  ·rw[HR2.out,Bool.and_true]
   exact(((((TP1.out.o.other (by have:=HU.out;have:=HOL.out;omega) _).other (by have:=HU.out;have:=HOL.out;omega) _).other (by have:=HU.out;have:=HOL.out;omega) _).other (by have:=HU.out;have:=HOL.out;omega) _).other (by have:=HU.out;have:=HOL.out;omega) _).other (by have:=HU.out;have:=HOL.out;omega) _
  ·exact(((((TP1.out.only.setNew (by have:=HU.out;omega) _).setNew (by have:=HU.out;omega) _).setNew (by have:=HU.out;omega) _).setNew (by have:=HU.out;omega) _).setNew (by have:=HU.out;omega) _).setNew (by have:=HU.out;omega) _
 | true =>
  have hR2:R=(mcOf (pt2 s).1,ptG s):=by rw[HRR.out,if_pos rfl]
  have HR2:=hd0 hR2
  clear hR2
  obtain⟨N,l1,e1,hN⟩:∃ y l e,numOf (pt1 s).1=y∧(pt1 s).2.1=l∧(pt1 s).2.2=e:=⟨_,_,_,rfl,rfl,rfl⟩
  obtain⟨M,l2,e2,hM⟩:∃ y l e,mcOf (pt2 s).1=y∧(pt2 s).2.1=l∧(pt2 s).2.2=e:=⟨_,_,_,rfl,rfl,rfl⟩
  obtain⟨l5,E,h5⟩:∃ l e,(rdEnd l2 e2).1=l∧(rdEnd l2 e2).2=e:=⟨_,_,rfl,rfl⟩
  have q2:rdText l1 e1 6=pt2 s:=by unfold pt2;rw[hN.2.1,hN.2.2]
  have hE:ptE s=E:=by unfold ptE;rw[hM.2.1,hM.2.2,h5.2]
  have hsl:s.length≤100000:=by have h:=findT_le l k 100000 hs;rw[hF] at h;exact h
  have n1:l1.length≤s.length:=by have:=rd_le s 0 1;rw[show rdText s 0 1=pt1 s from rfl,hN.2.1] at this;exact this
  have n2:l2.length≤l1.length:=by have:=rd_le l1 e1 6;rw[q2,hM.2.1] at this;exact this
  have U1:Hid (∀ w p,Rd w p s 0→Calls Tryz.prog 90 #[.pointer (some ⟨p,0,none⟩)] w fun en w'=>en=.returned (.int .u8 N)∧Rd w' p l1 e1∧Only p w w'):=fun w p hr=>by
   have h:=U8_any p s 0 w hr (by omega)
   rw[show rdText s 0 1=pt1 s from rfl,hN.1,hN.2.1,hN.2.2] at h;exact h
  have U2:Hid (∀ w p,Rd w p l1 e1→Calls Tryz.prog 143 #[.pointer (some ⟨p,0,none⟩)] w fun en w'=>en=.returned (.agg #[.int .u8 M.a,.int .u8 M.b,.int .u8 M.c,.int .u8 M.d,.int .u8 M.e,.int .u8 M.f])∧Rd w' p l2 e2∧Only p w w'):=fun w p hr=>by
   have h:=addressM_any p l1 e1 w hr (by omega)
   rw[q2,hM.1,hM.2.1,hM.2.2] at h;exact h
  have U5:Hid (∀ w p,Rd w p l2 e2→Calls Tryz.prog 140 #[.pointer (some ⟨p,0,none⟩)] w fun en w'=>en=.returned (.int .i64 E)∧Rd w' p l5 E∧Only p w w'):=fun w p hr=>by
   have h:=end_any p l2 e2 w hr (by omega)
   rw[h5.1,h5.2] at h;exact h
  obtain⟨G,hG⟩:∃ G,ptG s=G:=⟨_,rfl⟩
  have HG:Hid (G=(decide (N=1)&&(decide (E=0)&&!decide (M=mc0)))):=hd0 (by rw[←hG];unfold ptG;rw[hN.1,hE,hM.1])
  rw[hG,hM.1] at HR2
  clear hG hE hN hM h5 q2 hsl n1 n2 hF F1 HRR
  go_wp2_with fail
  with_reducible refine(of_any s w1).mono ?_
  rintro en w2 ⟨rfl,hr2,hb2,hlt2⟩
  have TP2:=hd0 (TP1.out.later hb2)
  have HX:=hd0 (show w.heap.size<w1.heap.size by have:=TP1.out.m.lt;have:=HU.out;omega)
  obtain⟨x,hx⟩:∃ p,w1.heap.size=p:=⟨_,rfl⟩
  rw[hx] at hr2 HX ⊢
  have HUX:=hd0 (show u≠x by have:=HX.out;have:=HU.out;omega)
  clear hb2 hlt2 hx TP1
  go_wp2_with fail
  with_reducible refine(U1.out _ _ hr2).mono ?_
  rintro en w3 ⟨rfl,hr3,ho3⟩
  have TP3:=hd0 (TP2.out.by ho3 (by have:=HX.out;omega) HOL.out HUX.out)
  clear hr2 ho3 TP2
  go_wp2_with fail
  with_reducible refine(U2.out _ _ hr3).mono ?_
  rintro en w4 ⟨rfl,hr4,ho4⟩
  have TP4:=hd0 (TP3.out.by ho4 (by have:=HX.out;omega) HOL.out HUX.out)
  clear hr3 ho4 TP3
  go_upto_region 7 with fail
  have gm:=GB.new 25 w4 #[.int .u8 M.a,.int .u8 M.b,.int .u8 M.c,.int .u8 M.d,.int .u8 M.e,.int .u8 M.f]
  have bb:=(Below.refl w4.heap.size w4).alloc (Nat.le_refl _) (.cells #[.int .u8 M.a,.int .u8 M.b,.int .u8 M.c,.int .u8 M.d,.int .u8 M.e,.int .u8 M.f] 25)
  have hys:=hr4.lt
  have hyo:=TP4.out.o.lt
  have hyu:=TP4.out.m.lt
  obtain⟨y,hy⟩:∃ k,w4.heap.size=k:=⟨_,rfl⟩
  obtain⟨w5,hw5⟩:∃ k,w4.alloc (.cells #[.int .u8 M.a,.int .u8 M.b,.int .u8 M.c,.int .u8 M.d,.int .u8 M.e,.int .u8 M.f] 25)=k:=⟨_,rfl⟩
  rw[hw5] at gm bb ⊢
  have TP5:=hd0 (TP4.out.later bb)
  have RD5:=hd0 (hr4.later bb)
  rw[hy] at gm hys hyo hyu ⊢
  have GM5:=hd0 gm
  have HY:=hd0 (And.intro hys (And.intro hyo hyu))
  clear gm bb hys hyo hyu hy hw5 hr4 TP4
  go_cut [7] (fun s7 wx=>s7=.pointer (some ⟨x,0,none⟩)∧Hid (GB 4 wx O #[.bool (ok&&G)])∧Hid (GB 25 wx y #[.int .u8 M.a,.int .u8 M.b,.int .u8 M.c,.int .u8 M.d,.int .u8 M.e,.int .u8 M.f])∧Hid (GB 25 wx u #[.int .u8 0,.int .u8 0,.int .u8 0,.int .u8 0,.int .u8 0,.int .u8 0])∧Hid (Only O w wx))
  case first =>
   have hOy:O≠y:=by have:=HY.out.2.1;omega
   have hOu:O≠u:=by have:=HU.out;have:=HOL.out;omega
   have c0:w5.cell? ⟨O,0,none⟩=some (.bool ok):=TP5.out.o.c 0 _ rfl
   have r0:=TP5.out.o.fr 0
   cases ok with
   | false =>
    go_wp2_with fail
    go_meet
    exact⟨rfl,hd0 (TP5.out.o.setB (false&&G)),hd0 (GM5.out.other hOy _),hd0 (TP5.out.m.other hOu _),hd0 (TP5.out.only.trans (Only.set O _ 0 _))⟩
   | true =>
   by_cases h1:N=1
   rotate_left
   ·have d1:(N==1)=false:=by rw[beq_eq_false_iff_ne];exact h1
    have hg:G=false:=by rw[HG.out,decide_eq_false h1];rfl
    have HGF:=hd0 hg
    clear h1 hg
    go_wp2_with fail
    go_meet
    exact⟨rfl,hd0 (by rw[HGF.out];exact TP5.out.o.setB false),hd0 (GM5.out.other hOy _),hd0 (TP5.out.m.other hOu _),hd0 (TP5.out.only.trans (Only.set O _ 0 _))⟩
   have d1:(N==1)=true:=by rw[h1];rfl
   have HN1:=hd0 h1
   clear h1 r0
   go_wp2_with fail
   with_reducible refine(U5.out _ _ RD5.out).mono ?_
   rintro en w6 ⟨rfl,hr6,ho6⟩
   have TP6:=hd0 (TP5.out.by ho6 (by have:=HX.out;omega) HOL.out HUX.out)
   have GM6:=hd0 (GM5.out.only ho6 (by have:=HY.out.1;omega))
   clear hr6 ho6 c0
   have c0:w6.cell? ⟨O,0,none⟩=some (.bool true):=TP6.out.o.c 0 _ rfl
   have r0:=TP6.out.o.fr 0
   by_cases hE0:E=0
   rotate_left
   ·have dE:(E==0)=false:=by rw[beq_eq_false_iff_ne];exact hE0
    have hg:G=false:=by rw[HG.out,decide_eq_false hE0];simp
    have HGF:=hd0 hg
    clear hE0 hg
    go_wp2_with fail
    go_meet
    exact⟨rfl,hd0 (by rw[HGF.out];exact TP6.out.o.setB false),hd0 (GM6.out.other hOy _),hd0 (TP6.out.m.other hOu _),hd0 (TP6.out.only.trans (Only.set O _ 0 _))⟩
   have dE:(E==0)=true:=by rw[hE0];rfl
   have hg:G=!decide (M=mc0):=by rw[HG.out,decide_eq_true HN1.out,decide_eq_true hE0];rfl
   have HGF:=hd0 hg
   have hne:∀ W:World,(binOp .neq 25 (.agg #[.int .u8 M.a,.int .u8 M.b,.int .u8 M.c,.int .u8 M.d,.int .u8 M.e,.int .u8 M.f]) (.agg #[.int .u8 0,.int .u8 0,.int .u8 0,.int .u8 0,.int .u8 0,.int .u8 0])).run Tryz.prog W=.ok (.bool G) W:=fun W=>(neq_macG M mc0 W).trans (by rw[hg])
   have m0:w6.cell? ⟨y,0,none⟩=some (.int .u8 M.a):=GM6.out.c 0 _ rfl
   have m1:w6.cell? ⟨y,1,none⟩=some (.int .u8 M.b):=GM6.out.c 1 _ rfl
   have m2:w6.cell? ⟨y,2,none⟩=some (.int .u8 M.c):=GM6.out.c 2 _ rfl
   have m3:w6.cell? ⟨y,3,none⟩=some (.int .u8 M.d):=GM6.out.c 3 _ rfl
   have m4:w6.cell? ⟨y,4,none⟩=some (.int .u8 M.e):=GM6.out.c 4 _ rfl
   have m5:w6.cell? ⟨y,5,none⟩=some (.int .u8 M.f):=GM6.out.c 5 _ rfl
   clear hE0 hg
   go_wp2_with fail
   go_meet
   exact⟨rfl,hd0 (TP6.out.o.setB G),hd0 (GM6.out.other hOy _),hd0 (TP6.out.m.other hOu _),hd0 (TP6.out.only.trans (Only.set O _ 0 _))⟩
  case rest =>
   obtain⟨rfl,GO,GM,GU,ON⟩:=hcut
   clear TP5 GM5 RD5
   have m0:wc.cell? ⟨y,0,none⟩=some (.int .u8 M.a):=GM.out.c 0 _ rfl
   have m1:wc.cell? ⟨y,1,none⟩=some (.int .u8 M.b):=GM.out.c 1 _ rfl
   have m2:wc.cell? ⟨y,2,none⟩=some (.int .u8 M.c):=GM.out.c 2 _ rfl
   have m3:wc.cell? ⟨y,3,none⟩=some (.int .u8 M.d):=GM.out.c 3 _ rfl
   have m4:wc.cell? ⟨y,4,none⟩=some (.int .u8 M.e):=GM.out.c 4 _ rfl
   have m5:wc.cell? ⟨y,5,none⟩=some (.int .u8 M.f):=GM.out.c 5 _ rfl
   have z0:wc.cell? ⟨u,0,none⟩=some (.int .u8 0):=GU.out.c 0 _ rfl
   have z1:wc.cell? ⟨u,1,none⟩=some (.int .u8 0):=GU.out.c 1 _ rfl
   have z2:wc.cell? ⟨u,2,none⟩=some (.int .u8 0):=GU.out.c 2 _ rfl
   have z3:wc.cell? ⟨u,3,none⟩=some (.int .u8 0):=GU.out.c 3 _ rfl
   have z4:wc.cell? ⟨u,4,none⟩=some (.int .u8 0):=GU.out.c 4 _ rfl
   have z5:wc.cell? ⟨u,5,none⟩=some (.int .u8 0):=GU.out.c 5 _ rfl
   have f0:=GU.out.fr 0
   have f1:=GU.out.fr 1
   have f2:=GU.out.fr 2
   have f3:=GU.out.fr 3
   have f4:=GU.out.fr 4
   have f5:=GU.out.fr 5
   go_wp2_with fail
   refine bodyPost_ret (v:=.agg #[.int .u8 M.a,.int .u8 M.b,.int .u8 M.c,.int .u8 M.d,.int .u8 M.e,.int .u8 M.f]) (by simp[results,Tryz.results146,go_sem,z0,z1,z2,z3,z4,z5]) rfl ⟨by rw[HR2.out],?_,?_⟩
   ·rw[HR2.out]
    exact(((((GO.out.other (by have:=HU.out;have:=HOL.out;omega) _).other (by have:=HU.out;have:=HOL.out;omega) _).other (by have:=HU.out;have:=HOL.out;omega) _).other (by have:=HU.out;have:=HOL.out;omega) _).other (by have:=HU.out;have:=HOL.out;omega) _).other (by have:=HU.out;have:=HOL.out;omega) _
   ·exact(((((ON.out.setNew (by have:=HU.out;omega) _).setNew (by have:=HU.out;omega) _).setNew (by have:=HU.out;omega) _).setNew (by have:=HU.out;omega) _).setNew (by have:=HU.out;omega) _).setNew (by have:=HU.out;omega) _
theorem nat_andP (i m:Nat):m &&& 2 ^ i=m / 2 ^ i % 2*2 ^ i:=by
 apply Nat.eq_of_testBit_eq
 intro j
 rw[Nat.testBit_and,Nat.testBit_two_pow]
 have h2:m / 2 ^ i % 2=0∨m / 2 ^ i % 2=1:=by omega
 by_cases hi:i=j
 ·subst hi
  rcases h2 with h2|h2
  ·rw[Nat.testBit_eq_decide_div_mod_eq,h2];simp
  ·rw[Nat.testBit_eq_decide_div_mod_eq,h2];simp
 ·rw[decide_eq_false hi,Bool.and_false]
  rcases h2 with h2|h2
  ·rw[h2];simp
  ·rw[h2,Nat.one_mul,Nat.testBit_two_pow,decide_eq_false hi]
theorem and_64 (n:Int)(h0:0≤n)(h1:n<256):bits .and .u8 n 64=n / 64 % 2*64:=by
 obtain⟨m,rfl⟩:∃ m:Nat,n=m:=⟨n.toNat,by omega⟩
 rw[u8_and (m:Int) 64 (by omega) (by omega) (by omega) (by omega)]
 have e:(m:Int).toNat &&& (64:Int).toNat=m / 2 ^ 6 % 2*2 ^ 6:=nat_andP 6 m
 rw[e];omega
theorem and_32 (n:Int)(h0:0≤n)(h1:n<256):bits .and .u8 n 32=n / 32 % 2*32:=by
 obtain⟨m,rfl⟩:∃ m:Nat,n=m:=⟨n.toNat,by omega⟩
 rw[u8_and (m:Int) 32 (by omega) (by omega) (by omega) (by omega)]
 have e:(m:Int).toNat &&& (32:Int).toNat=m / 2 ^ 5 % 2*2 ^ 5:=nat_andP 5 m
 rw[e];omega
def tr1 (f:List UInt8):=rdText f 0 4
def tr2 (f:List UInt8):=rdText (tr1 f).2.1 (tr1 f).2.2 1
def tr3 (f:List UInt8):=rdText (tr2 f).2.1 (tr2 f).2.2 1
def trE (f:List UInt8):Int:=(rdEnd (tr3 f).2.1 (tr3 f).2.2).2
def rp0:Rp:=⟨0,0,0,false,false,mc0,mc0⟩
def tkRp (a b c:Int)(f:List UInt8)(l:List Th):Rp × Int :=
 if numOf (tr3 f).1=(if c / 32 % 2=1 then 1 else 2)∧trE f=0∧b=4∧(prtT l 5).2=true∧(prtT l 6).2=true then
  (⟨a,numOf (tr1 f).1,numOf (tr2 f).1,decide (c / 64 % 2=1),decide (c / 32 % 2=1),(prtT l 5).1,(prtT l 6).1⟩,0) else(rp0,4)
structure RQ (w W:World)(x:Nat)(l:List UInt8)(e a b c:Int)(f:List UInt8)(v:Value):Prop where
 rd:Rd W x l e
 pb:PB 103 W w.heap.size a b c f v
 pz:GB 81 W (w.heap.size+1) #[.int .u8 0,.int .u32 0,.int .u8 0,.bool false,.bool false,.int .u8 0,.int .u8 0,.int .u8 0,.int .u8 0,.int .u8 0,.int .u8 0,.int .u8 0,.int .u8 0,.int .u8 0,.int .u8 0,.int .u8 0,.int .u8 0]
 bel:Below w.heap.size w W
 hx:w.heap.size+1<x
section
variable {w W W':World} {x:Nat} {l l' f:List UInt8} {e e' a b c:Int} {v:Value}
theorem RQ.next (h:RQ w W x l e a b c f v)(hr:Rd W' x l' e')(ho:Only x W W'):RQ w W' x l' e' a b c f v :=
 ⟨hr,h.pb.only ho (by have:=h.hx;omega),h.pz.only ho (by have:=h.hx;omega),h.bel.trans (ho.below (by have:=h.hx;omega) h.bel.size),h.hx⟩
theorem RQ.later (h:RQ w W x l e a b c f v)(hb:Below W.heap.size W W'):RQ w W' x l e a b c f v :=
 ⟨h.rd.later hb,h.pb.later hb,h.pz.later hb,h.bel.trans (hb.mono h.bel.size),h.hx⟩
theorem RQ.alloc (h:RQ w W x l e a b c f v)(o:Obj):RQ w (W.alloc o) x l e a b c f v:=h.later (bA o)
theorem RQ.drew (h:RQ w W x l e a b c f v):RQ w W.drew x l e a b c f v:=h.later (Below.refl _ _).drew
theorem RQ.set (h:RQ w W x l e a b c f v){q o:Nat}(hq:x<q)(u:Value):RQ w (W.setCell ⟨q,o,none⟩ u) x l e a b c f v :=
 ⟨h.rd.setOther (by omega) _,h.pb.other (by have:=h.hx;omega) _,h.pz.other (by have:=h.hx;omega) _,below_set h.bel (by have:=h.hx;omega) _,h.hx⟩
theorem RQ.two (h:RQ w W x l e a b c f v):W.cell? ⟨w.heap.size,0,none⟩=some (.int .u8 a)∧W.cell? ⟨w.heap.size,2,none⟩=some (.int .u8 c):=⟨h.pb.c0,h.pb.c2⟩
end
end Go.Proofs.YtlkdfofpnmpidaaGreat
