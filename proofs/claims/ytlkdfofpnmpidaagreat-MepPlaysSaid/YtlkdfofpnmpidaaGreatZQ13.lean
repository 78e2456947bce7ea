/- ZQ13 -/
import Derived.Test.YtlkdfofpnmpidaaGreatZQ12
import Derived.Maps.OwnOps
import Derived.Deep.OwnRows
set_option linter.unusedVariables false
set_option linter.unusedSimpArgs false
set_option maxRecDepth 100000
set_option maxHeartbeats 16000000
namespace Go.Proofs.YtlkdfofpnmpidaaGreat
open Go.RowKit
def thL (dt:List UInt8):List Th:=if dt=[] then[] else[(3,dt)]
def putL (lv:Int)(rp:Bool)(nm:Int)(dt:List UInt8):Int × Int × List UInt8 × List Th × Int :=
 if 7<lv then(0,0,[],[],2) else if 64<dt.length then(0,0,[],[],5) else(lv,if rp=true then 2 else 3,be 4 nm,thL dt,0)
structure LT (w W:World)(xlv:Int)(xrp:Bool)(xnm:Int)(xdt:List UInt8):Prop where
 lb:LB 125 W w.heap.size xlv xrp xnm xdt
 pz:PB 103 W (w.heap.size+1) 0 0 0 [] (.slice none 0 0)
 bel:Below w.heap.size w W
section
variable {w W W':World} {xlv:Int} {xrp:Bool} {xnm:Int} {xdt:List UInt8}
theorem LT.later (h:LT w W xlv xrp xnm xdt)(hb:Below W.heap.size W W'):LT w W' xlv xrp xnm xdt:=⟨h.lb.later hb,h.pz.later hb,h.bel.trans (hb.mono h.bel.size)⟩
theorem LT.alloc (h:LT w W xlv xrp xnm xdt)(o:Obj):LT w (W.alloc o) xlv xrp xnm xdt:=h.later (bA o)
theorem LT.drew (h:LT w W xlv xrp xnm xdt):LT w W.drew xlv xrp xnm xdt:=h.later (Below.refl _ _).drew
theorem LT.sets (h:LT w W xlv xrp xnm xdt){q:Nat}(hq:w.heap.size+1<q)(v0 v1 v2 v3 v4:Value):LT w (((((W.setCell ⟨q,0,none⟩ v0).setCell ⟨q,1,none⟩ v1).setCell ⟨q,2,none⟩ v2).setCell ⟨q,3,none⟩ v3).setCell ⟨q,4,none⟩ v4) xlv xrp xnm xdt:=by
 have o:∀ (W:World) (o:Nat) (v:Value),LT w W xlv xrp xnm xdt→LT w (W.setCell ⟨q,o,none⟩ v) xlv xrp xnm xdt:=fun W o v h =>
  ⟨by unfold LB;rw[Below.heap_setCell _ _ _ _ (by intro e;simp at e;omega)];exact h.lb,by unfold PB;rw[Below.heap_setCell _ _ _ _ (by intro e;simp at e;omega)];exact h.pz,below_set h.bel (by omega) _⟩
 exact o _ _ _ (o _ _ _ (o _ _ _ (o _ _ _ (o _ _ _ h))))
theorem PB.sets5 {T:TypeId}{W:World}{q:Nat}{a b c a' b' c':Int}{f f':List UInt8}{v v':Value}(h:PB T W q a b c f v) :
  PB T (((((W.setCell ⟨q,0,none⟩ (.int .u8 a')).setCell ⟨q,1,none⟩ (.int .u8 b')).setCell ⟨q,2,none⟩ (.int .u8 c')).setCell ⟨q,3,none⟩ (.string (bs f'))).setCell ⟨q,4,none⟩ v') q a' b' c' f' v':=by
 unfold PB at *
 simp[World.setCell,Array.getElem?_modify,h]
theorem LT.set (h:LT w W xlv xrp xnm xdt){q o:Nat}(hq:w.heap.size+1<q)(v:Value):LT w (W.setCell ⟨q,o,none⟩ v) xlv xrp xnm xdt :=
 ⟨by unfold LB;rw[Below.heap_setCell _ _ _ _ (by intro e;simp at e;omega)];exact h.lb,by unfold PB;rw[Below.heap_setCell _ _ _ _ (by intro e;simp at e;omega)];exact h.pz,below_set h.bel (by omega) _⟩
theorem PB.set1 {T:TypeId}{W:World}{q:Nat}{a b c:Int}{f:List UInt8}{v:Value}(h:PB T W q a b c f v)(d:Int):PB T (W.setCell ⟨q,1,none⟩ (.int .u8 d)) q a d c f v:=by
 unfold PB at *;simp[World.setCell,Array.getElem?_modify,h]
theorem PB.setv4 {T:TypeId}{W:World}{q:Nat}{a b c:Int}{f:List UInt8}{v:Value}(h:PB T W q a b c f v)(d:Value):PB T (W.setCell ⟨q,4,none⟩ d) q a b c f d:=by
 unfold PB at *;simp[World.setCell,Array.getElem?_modify,h]
theorem LT.lt (h:LT w W xlv xrp xnm xdt):w.heap.size+1<W.heap.size:=h.pz.lt
end
theorem lbput_any (xlv:Int)(xrp:Bool)(xnm:Int)(xdt:List UInt8)(w:World)(hm:xdt.length≤1000)(hnm:0≤xnm∧xnm<4294967296):Calls Tryz.prog 47 #[.agg #[.int .u8 xlv,.bool xrp,.int .u32 xnm,.string (bs xdt)]] w fun en w' =>
  ∃ v',en=.returned (.tuple #[.agg #[.int .u8 (putL xlv xrp xnm xdt).1,.int .u8 (putL xlv xrp xnm xdt).2.1,.int .u8 0,.string (bs (putL xlv xrp xnm xdt).2.2.1),v'],.int .i64 (putL xlv xrp xnm xdt).2.2.2.2])∧TlT w' w.heap.size v' (putL xlv xrp xnm xdt).2.2.2.1∧Below w.heap.size w w':=by
 obtain⟨R,hR⟩:∃ R,putL xlv xrp xnm xdt=R:=⟨_,rfl⟩
 rw[hR]
 have HR:=hd0 hR
 have HNM:=hd0 hnm
 have hsd:=bs_size xdt
 clear hR hnm
 go_enter Tryz.func47,Tryz.ntmps47
 go_upto_region 1 with fail
 have cb0:=(LB.new 125 w xlv xrp xnm xdt).later (bA (.cells yU 103))
 have pz:PB 103 ((w.alloc (.cells #[.int .u8 xlv,.bool xrp,.int .u32 xnm,.string (bs xdt)] 125)).alloc (.cells yU 103)) (w.heap.size+1) 0 0 0 [] (.slice none 0 0):=by
  have:=PB.new 103 (w.alloc (.cells #[.int .u8 xlv,.bool xrp,.int .u32 xnm,.string (bs xdt)] 125)) 0 0 0 [] (.slice none 0 0)
  rw[show(w.alloc (.cells #[.int .u8 xlv,.bool xrp,.int .u32 xnm,.string (bs xdt)] 125)).heap.size=w.heap.size+1 by simp] at this
  exact this
 have hb0:Below w.heap.size w ((w.alloc (.cells #[.int .u8 xlv,.bool xrp,.int .u32 xnm,.string (bs xdt)] 125)).alloc (.cells yU 103)):=(bA _).alloc (by simp) _
 obtain⟨w0,hw0⟩:∃ k,(w.alloc (.cells #[.int .u8 xlv,.bool xrp,.int .u32 xnm,.string (bs xdt)] 125)).alloc (.cells yU 103)=k:=⟨_,rfl⟩
 rw[hw0] at cb0 pz hb0 ⊢
 have c0:=cb0.c0
 have c3:=cb0.c3
 have z0:=pz.c0
 have z1:=pz.c1
 have z2:=pz.c2
 have z3:=pz.c3
 have z4:=pz.c4
 have y0:=pz.fr 0
 have y1:=pz.fr 1
 have y2:=pz.fr 2
 have y3:=pz.fr 3
 have y4:=pz.fr 4
 have LT0:=hd0 (LT.mk cb0 pz hb0)
 clear hw0 cb0 pz hb0
 by_cases h7:7<xlv
 ·have d7:decide ((7:Int)<xlv)=true:=decide_eq_true h7
  have hRR:R=(0,0,[],[],2):=by rw[←HR.out];unfold putL;rw[if_pos h7]
  have HRR:=hd0 hRR
  clear hRR h7
  go_wp2_with fail
  refine bodyPost_ret (v:=.tuple #[.agg #[.int .u8 0,.int .u8 0,.int .u8 0,.string (bs []),.slice none 0 0],.int .i64 2]) (by simp[results,Tryz.results47,go_sem,z0,z1,z2,z3,z4];rfl) rfl ⟨_,by rw[HRR.out],by rw[HRR.out];exact TlT.none _ _,below_set (below_set (below_set (below_set (below_set LT0.out.bel (by omega) _) (by omega) _) (by omega) _) (by omega) _) (by omega) _⟩
 have d7:decide ((7:Int)<xlv)=false:=decide_eq_false h7
 by_cases h64:64<xdt.length
 ·have d64:decide ((64:Int)<(xdt.length:Int))=true:=decide_eq_true (by omega)
  have hRR:R=(0,0,[],[],5):=by rw[←HR.out];unfold putL;rw[if_neg h7,if_pos h64]
  have HRR:=hd0 hRR
  clear hRR h7
  go_wp2_with fail
  refine bodyPost_ret (v:=.tuple #[.agg #[.int .u8 0,.int .u8 0,.int .u8 0,.string (bs []),.slice none 0 0],.int .i64 5]) (by simp[results,Tryz.results47,go_sem,z0,z1,z2,z3,z4];rfl) rfl ⟨_,by rw[HRR.out],by rw[HRR.out];exact TlT.none _ _,below_set (below_set (below_set (below_set (below_set LT0.out.bel (by omega) _) (by omega) _) (by omega) _) (by omega) _) (by omega) _⟩
 have d64:decide ((64:Int)<(xdt.length:Int))=false:=decide_eq_false (by omega)
 have hRR:R=(xlv,if xrp=true then 2 else 3,be 4 xnm,thL xdt,0):=by rw[←HR.out];unfold putL;rw[if_neg h7,if_neg h64]
 have HRR:=hd0 hRR
 clear hRR h7 h64 z0 z1 z2 z3 z4 y0 y1 y2 y3 y4
 go_upto_region 5 with fail
 obtain⟨X,hX⟩:∃ X,be 4 xnm=X:=⟨_,rfl⟩
 have A1:Hid (∀ W,Calls Tryz.prog 79 #[.slice none 0 0,.int .u32 xnm] W fun e w'=>∃ v',e=.returned v'∧Bys w' W.heap.size v' X∧Below W.heap.size W w'):=fun W=>by
  rw[←hX];exact put_uint32 W.heap.size _ [] xnm W (Nat.le_refl _) (Bys.none _ _) HNM.out.1 HNM.out.2 (by decide)
 have HX:=hd0 hX
 clear hX
 go_cut [4] (fun s4 wx=>∃ q:Nat,s4=.pointer (some ⟨q,0,none⟩)∧Hid (PB 103 wx q xlv 3 0 X (.slice none 0 0))∧Hid (w.heap.size+1<q)∧Hid (LT w wx xlv xrp xnm xdt))
 case first =>
  have LTd:=hd0 LT0.out.drew
  have a0:=LTd.out.lb.c0
  have a2:=LTd.out.lb.c2
  have b0:=(LTd.out.alloc (.cells yU 103)).lb.c0
  have b2:=(LTd.out.alloc (.cells yU 103)).lb.c2
  have e0:=(LT0.out.alloc (.cells yU 103)).drew.lb.c0
  have e2:=(LT0.out.alloc (.cells yU 103)).drew.lb.c2
  clear c0 c3
  go_region_law
   (first
    |(go_simp;go_at_call 79;(with_reducible refine(A1.out _).mono ?_);rintro en wx ⟨vx,rfl,hox,hbx⟩;(first
      |(have LTx:=hd0 (LTd.out.later hbx))
      |(have LTx:=hd0 ((LT0.out.alloc _).drew.later hbx);have NPq:=hd0 ((PB.new 103 w0 0 0 0 [] (.slice none 0 0)).later (Below.trans (Below.refl _ _).drew hbx));have HQq:=hd0 LT0.out.lt;have r0:=NPq.out.fr 0;have r1:=NPq.out.fr 1;have r2:=NPq.out.fr 2;have r3:=NPq.out.fr 3;have r4:=NPq.out.fr 4;have k0:=NPq.out.c0;have k1:=NPq.out.c1;have k2:=NPq.out.c2;have k3:=NPq.out.c3;have k4:=NPq.out.c4)
      |(have LTx:=hd0 ((LTd.out.alloc _).later hbx);have NPq:=hd0 ((PB.new 103 w0.drew 0 0 0 [] (.slice none 0 0)).later hbx);have HQq:=hd0 LTd.out.lt;have r0:=NPq.out.fr 0;have r1:=NPq.out.fr 1;have r2:=NPq.out.fr 2;have r3:=NPq.out.fr 3;have r4:=NPq.out.fr 4;have k0:=NPq.out.c0;have k1:=NPq.out.c1;have k2:=NPq.out.c2;have k3:=NPq.out.c3;have k4:=NPq.out.c4));have f0:=LTx.out.lb.c0;have f2:=LTx.out.lb.c2;have g0:=(LTx.out.alloc (.cells yU 103)).lb.c0;have g2:=(LTx.out.alloc (.cells yU 103)).lb.c2;have hcv:(convert 39 9 vx).run Tryz.prog wx=.ok (.string (bs X)) wx:=run_string_bys hox;have hcw:(convert 39 9 vx).run Tryz.prog (wx.alloc (.cells yU 103))=.ok (.string (bs X)) (wx.alloc (.cells yU 103)):=run_string_bys (hox.later (bA _))))
  all_goals go_wp2_with fail
  all_goals go_meet
  all_goals first
   | exact⟨_,rfl,hd0 NPq.out.sets5,hd0 HQq.out,hd0 (LTx.out.sets HQq.out _ _ _ _ _)⟩
   | exact⟨_,rfl,hd0 (PB.new _ _ _ _ _ _ _),hd0 LTx.out.lt,hd0 (LTx.out.alloc _)⟩
 case rest =>
  clear c0 c3 LT0 A1
  obtain⟨q,rfl,PQ1,HQ,LT1⟩:=hcut
  obtain⟨J,hJ⟩:∃ J:Int,(if xrp=true then(2:Int) else 3)=J:=⟨_,rfl⟩
  have c1:=LT1.out.lb.c1
  have k1:=PQ1.out.c1
  have r1:=PQ1.out.fr 1
  have hR2:=HRR.out
  rw[hJ,HX.out] at hR2
  have HR2:=hd0 hR2
  have HJ:=hd0 hJ
  clear hJ hR2 HRR
  go_upto_if 24 with fail
  go_cut [4] (fun s4 wx=>s4=.pointer (some ⟨q,0,none⟩)∧Hid (PB 103 wx q xlv J 0 X (.slice none 0 0))∧Hid (LT w wx xlv xrp xnm xdt))
  case first =>
   cases xrp with
   | true =>
    have hj:J=2:=HJ.out.symm
    go_wp2_with fail
    go_meet
    exact⟨rfl,hd0 (by rw[hj];exact PQ1.out.set1 2),hd0 (LT1.out.set HQ.out _)⟩
   | false =>
    have hj:J=3:=HJ.out.symm
    go_wp2_with fail
    go_meet
    exact⟨rfl,by rw[hj];exact PQ1,LT1⟩
  clear c1 k1 r1 PQ1 LT1
  obtain⟨rfl,PQ2,LT2⟩:=hcut
  have c3:=LT2.out.lb.c3
  have k0:=PQ2.out.c0
  have k1:=PQ2.out.c1
  have k2:=PQ2.out.c2
  have k3:=PQ2.out.c3
  have k4:=PQ2.out.c4
  have r4:=PQ2.out.fr 4
  have z0:=LT2.out.pz.c0
  have z1:=LT2.out.pz.c1
  have z2:=LT2.out.pz.c2
  have z3:=LT2.out.pz.c3
  have z4:=LT2.out.pz.c4
  have y0:=LT2.out.pz.fr 0
  have y1:=LT2.out.pz.fr 1
  have y2:=LT2.out.pz.fr 2
  have y3:=LT2.out.pz.fr 3
  have y4:=LT2.out.pz.fr 4
  by_cases hd:xdt=[]
  ·have hE:(bs xdt).toList.isEmpty=true:=by rw[empty_eq];exact decide_eq_true hd
   have hE2:(bs xdt).toList=[]:=by rw[bs_tl];exact hd
   have HD:=hd0 hd
   clear hd
   go_wp2_with fail
   refine bodyPost_ret (v:=.tuple #[.agg #[.int .u8 xlv,.int .u8 J,.int .u8 0,.string (bs X),.slice none 0 0],.int .i64 0]) (by simp[results,Tryz.results47,go_sem,z0,z1,z2,z3,z4]) rfl ⟨_,by rw[HR2.out],by rw[HR2.out];unfold thL;rw[if_pos HD.out];exact TlT.none _ _,below_set (below_set (below_set (below_set (below_set LT2.out.bel (by omega) _) (by omega) _) (by omega) _) (by omega) _) (by omega) _⟩
  ·have hE:(bs xdt).toList.isEmpty=false:=by rw[empty_eq];exact decide_eq_false hd
   have hE2:((bs xdt).toList==[])=false:=by rw[bs_tl,beq_eq_false_iff_ne];exact hd
   have hE3:¬(bs xdt).toList=[]:=by rw[bs_tl];exact hd
   have HD:=hd0 hd
   clear hd
   have m4:=(PQ2.out.later (bA (.cells #[.int .u8 3,.string (bs xdt)] 182))).c4
   have f4:=(PQ2.out.later (bA (.cells #[.int .u8 3,.string (bs xdt)] 182))).fr 4
   clear z0 z1 z2 z3 z4 y0 y1 y2 y3 y4 k0 k1 k2 k3
   go_upto_region 10 with fail
   clear m4 f4
   obtain⟨B,hB⟩:∃ B,wc.heap.size=B:=⟨_,rfl⟩
   have tl0:TlT (wc.alloc (.cells #[.int .u8 3,.string (bs xdt)] 182)) wc.heap.size (.slice (some ⟨wc.heap.size,0,none⟩) 1 1) [(3,xdt)]:=TlT.lit wc wc.heap.size (3,xdt) (Nat.le_refl _)
   have tl:=tl0.set (o:=4) PQ2.out.lt (.slice (some ⟨wc.heap.size,0,none⟩) 1 1)
   have pq:=(PQ2.out.later (bA (.cells #[.int .u8 3,.string (bs xdt)] 182))).setv4 (.slice (some ⟨wc.heap.size,0,none⟩) 1 1)
   have lt:=(LT2.out.alloc (.cells #[.int .u8 3,.string (bs xdt)] 182)).set (o:=4) HQ.out (.slice (some ⟨wc.heap.size,0,none⟩) 1 1)
   have hlt:=LT2.out.lt
   obtain⟨w5,hw5⟩:∃ k,(wc.alloc (.cells #[.int .u8 3,.string (bs xdt)] 182)).setCell ⟨q,4,none⟩ (.slice (some ⟨wc.heap.size,0,none⟩) 1 1)=k:=⟨_,rfl⟩
   rw[hw5] at tl pq lt ⊢
   rw[hB] at tl pq hlt ⊢
   have k0:=pq.c0
   have k1:=pq.c1
   have k2:=pq.c2
   have k3:=pq.c3
   have k4:=pq.c4
   have z0:=lt.pz.c0
   have z1:=lt.pz.c1
   have z2:=lt.pz.c2
   have z3:=lt.pz.c3
   have z4:=lt.pz.c4
   have y0:=lt.pz.fr 0
   have y1:=lt.pz.fr 1
   have y2:=lt.pz.fr 2
   have y3:=lt.pz.fr 3
   have y4:=lt.pz.fr 4
   have TL:=hd0 tl
   have LT5:=hd0 lt
   have HLT:=hd0 hlt
   clear tl0 tl pq lt hlt hw5 hB c3 r4
   go_wp2_with fail
   refine bodyPost_ret (v:=.tuple #[.agg #[.int .u8 xlv,.int .u8 J,.int .u8 0,.string (bs X),.slice (some ⟨B,0,none⟩) 1 1],.int .i64 0]) (by simp[results,Tryz.results47,go_sem,z0,z1,z2,z3,z4]) rfl ⟨_,by rw[HR2.out],by rw[HR2.out];unfold thL;rw[if_neg HD.out];exact(((((TL.out.set (by have:=HLT.out;omega) _).set (by have:=HLT.out;omega) _).set (by have:=HLT.out;omega) _).set (by have:=HLT.out;omega) _).set (by have:=HLT.out;omega) _).mono (by have:=HLT.out;omega),below_set (below_set (below_set (below_set (below_set LT5.out.bel (by omega) _) (by omega) _) (by omega) _) (by omega) _) (by omega) _⟩
open Go.Maps (Keyed int_keyed keyOf_int_mk)
def rpD:DataW Unit:=((DataW.map []).put (.int .u8 3) (.lit (.bool false))).put (.int .u8 2) (.lit (.bool true))
def RMap (W:World)(b:Nat):Prop:=W.ownsMap Tryz.prog 5 (plainElem (H:=Unit) Tryz.prog 4) b 2 rpD
theorem u8_keyed:Keyed Tryz.prog 5:=int_keyed Tryz.underlying5
theorem replies_any (w:World):Calls Tryz.prog 141 #[] w fun en w'=>∃ b:Nat,en=.returned (.map (some b))∧RMap w' b∧Below w.heap.size w w':=by
 have hm0:=World.ownsMap_made w Tryz.prog 5 (plainElem (H:=Unit) Tryz.prog 4)
 obtain⟨w1,run1,hm1,hg1⟩:=hm0.update u8_keyed Tryz.underlying245 (by decide) (key:=.int .u8 3) (val:=.bool false) (kl:=.int .u8 3) (d:=.lit (.bool false)) (ps:=[]) (keyOf_int_mk Tryz.underlying5 (by decide)) (plainElem_bool Tryz.underlying4 false)
 obtain⟨w2,run2,hm2,hg2⟩:=hm1.update u8_keyed Tryz.underlying245 (by decide) (key:=.int .u8 2) (val:=.bool true) (kl:=.int .u8 2) (d:=.lit (.bool true)) (ps:=[]) (keyOf_int_mk Tryz.underlying5 (by decide)) (plainElem_bool Tryz.underlying4 true)
 have hb0:Below w.heap.size w (w.alloc (.map #[] 0)):=bA _
 have hb1:=hb0.grown hg1 hb0.size (fun k hk=>by injection hk with hk;omega)
 have hb2:=hb1.grown hg2 hb1.size (fun k hk=>by injection hk with hk;omega)
 have HM:=hd0 hm2
 have HB:=hd0 hb2
 have run0:(Instr.makeMap 245 none).run Tryz.prog w=.ok (.map (some w.heap.size)) (w.alloc (.map #[] 0)):=rfl
 clear hm0 hm1 hm2 hg1 hg2 hb0 hb1 hb2
 go_enter Tryz.func141,Tryz.ntmps141
 go_wp2
 go_ret
 exact⟨_,rfl,HM.out,HB.out⟩
open Go.Maps (Keyed int_keyed keyOf_int_mk)
theorem rpD_at (b:Int)(z:DataW Unit):rpD.atKey (.int .u8 b) z=if b=2 then .lit (.bool true) else if b=3 then .lit (.bool false) else z:=by
 have e:rpD=.map [(.int .u8 2,.lit (.bool true)),(.int .u8 3,.lit (.bool false))]:=by rfl
 rw[e]
 by_cases h2:b=2
 ·subst h2;rfl
 ·by_cases h3:b=3
  ·subst h3;rfl
  ·simp[DataW.atKey,Lit.sameKey,h2,h3,Ne.symm h2,Ne.symm h3,eq_comm]
theorem bool_inv {v:Value}{y:DataW Unit × List MemPlace}(h:plainElem (H:=Unit) Tryz.prog 4 v=some y):∃ x,v=.bool x∧y.1=.lit (.bool x):=by
 unfold plainElem at h
 rw[Tryz.underlying4] at h
 cases v
 case bool x=>injection h with h;exact⟨x,rfl,by rw[←h]⟩
 all_goals simp at h
theorem rmap_look {W:World}{q:Nat}(h:RMap W q)(b:Int)(h0:0≤b∧b<256) :
  (Instr.lookup 245 (.map (some q)) (.int .u8 b) true).run Tryz.prog W=.ok (.tuple #[.bool (decide (b=2)),.bool (decide (b=2∨b=3))]) W:=by
 obtain⟨es,clock,hb,F,hs,hD⟩:=h
 have hw:(Lit.int .u8 b).wf=true:=by simp[Lit.wf,IntKind.min,IntKind.max,IntKind.bits,IntKind.signed];omega
 have hz:(zeroValue 4).run Tryz.prog W=.ok (.bool false) W:=by kernel_rfl
 rcases Maps.fit_look true u8_keyed Tryz.underlying245 hz hb F (keyOf_int_mk Tryz.underlying5 hw) with⟨hrun,_,hat⟩|⟨e0,y,_,_,hrun,hRv,hat,_⟩
 ·rw[←hD] at hat
  have a:=hat (.lit (.bool false))
  have c:=hat (.lit (.bool true))
  rw[rpD_at] at a c
  have n2:b≠2:=by intro e;rw[if_pos e] at a;injection a with a;injection a with a;cases a
  have n3:b≠3:=by intro e;rw[if_neg n2,if_pos e] at c;injection c with c;injection c with c;cases c
  rw[hrun,decide_eq_false n2,decide_eq_false (by omega)];rfl
 ·rw[←hD] at hat
  have a:=hat (.lit (.bool false))
  have c:=hat (.lit (.bool true))
  rw[rpD_at] at a c
  obtain⟨x,hx,hy⟩:=bool_inv hRv
  rw[hy] at a c
  rw[hrun,hx]
  by_cases n2:b=2
  ·rw[if_pos n2] at a;injection a with a;injection a with a
   rw[←a,decide_eq_true n2,decide_eq_true (Or.inl n2)];rfl
  ·rw[if_neg n2] at a c
   by_cases n3:b=3
   ·rw[if_pos n3] at a;injection a with a;injection a with a
    rw[←a,decide_eq_false n2,decide_eq_true (Or.inr n3)];rfl
   ·rw[if_neg n3] at a c
    injection a with a;injection a with a;injection c with c;injection c with c
    rw[←a] at c;cases c
def findT:List Th→UInt8→List UInt8 × Bool
 |[],_=>([],false)
 | x::l,k=>if x.1=k then(x.2,true) else findT l k
theorem findT_at:∀ (l:List Th)(k:UInt8)(i:Nat)(hi:i<l.length),(∀ x∈l.take i,x.1≠k)→l[i].1=k→findT l k=(l[i].2,true)
 | x::l,k,0,_,_,h=>by
  have h':x.1=k:=h
  unfold findT;rw[if_pos h'];rfl
 | x::l,k,i+1,hi,hn,h=>by
  have ih:=findT_at l k i (by simpa using hi) (fun y hy=>hn y (by simp[hy])) h
  unfold findT;rw[if_neg (hn x (by simp)),ih];rfl
theorem findT_no:∀ (l:List Th)(k:UInt8),(∀ x∈l,x.1≠k)→findT l k=([],false)
 |[],_,_=>rfl
 | x::l,k,h=>by
  unfold findT;rw[if_neg (h x (by simp)),findT_no l k (fun y hy=>h y (by simp[hy]))]
theorem refFind_any (v:Value)(l:List Th)(k:UInt8)(w:World)(hv:Tls w v l)(hl:l.length≤100000):Calls Tryz.prog 102 #[v,.int .u8 (k.toNat:Int)] w fun en w'=>en=.returned (.tuple #[.string (bs (findT l k).1),.bool (findT l k).2])∧w=w':=by
 obtain⟨a,c,rfl,hc⟩:=hv.shape
 have HC:=hd0 hc
 clear hc hv
 obtain⟨R,hR⟩:∃ R,findT l k=R:=⟨_,rfl⟩
 have HR:=hd0 hR
 rw[hR];clear hR
 obtain⟨k0,hk0⟩:∃ k0,(k.toNat:Int)=k0:=⟨_,rfl⟩
 have HK0:=hd0 hk0
 rw[hk0];clear hk0
 go_enter Tryz.func102,Tryz.ntmps102
 go_wp2_with fail
 go_loop [6] (fun i=>∃ j:Nat,j≤l.length∧i=.int .i64 j∧∀ x∈l.take j,x.1≠k) (fun i=>l.length-(intOf i).toNat)
 case atStart=>exact⟨0,by omega,rfl,by simp⟩
 case round =>
  obtain⟨j,hj,rfl,hno⟩:=hrel
  have HN:=hd0 hno;clear hno
  by_cases hlt:j<l.length
  ·have dk:decide ((j:Int)<(l.length:Int))=true:=decide_eq_true (by omega)
   obtain⟨b,off,rfl,hcc⟩:=HC.out.resolve_left (by intro h;rw[h] at hlt;simp at hlt)
   have c0:=(hcc j hlt).1
   have c1:=(hcc j hlt).2
   have hnext:l.take (j+1)=l.take j++[l[j]]:=List.take_succ_eq_append_getElem hlt
   have hfa:=findT_at l k j hlt HN.out
   obtain⟨x,hx⟩:∃ x,l[j]=x:=⟨_,rfl⟩
   rw[hx] at c0 c1 hnext hfa
   obtain⟨x0,hx0⟩:∃ x0,(x.1.toNat:Int)=x0:=⟨_,rfl⟩
   rw[hx0] at c0
   have HNX:=hd0 hnext
   have HF:=hd0 hfa
   have HX0:=hd0 hx0
   clear hcc hx HC hnext hfa hx0
   by_cases he:x0=k0
   ·have de:(x0==k0)=true:=by simpa using he
    have hxk:x.1=k:=UInt8.toNat_inj.1 (by have:=HX0.out;have:=HK0.out;omega)
    have hRR:=HR.out.symm.trans (HF.out hxk)
    have HRR:=hd0 hRR
    clear he hxk hRR
    go_wp2
    refine bodyPost_ret (v:=.tuple #[.string (bs x.2),.bool true]) (by simp[results,Tryz.results102,go_sem]) rfl ⟨by rw[HRR.out],rfl⟩
   ·have de:(x0==k0)=false:=by simpa using he
    have hxk:x.1≠k:=fun h=>he (by rw[←HX0.out,← HK0.out,h])
    have HXK:=hd0 hxk
    clear he hxk
    go_wp2
    exact⟨⟨j+1,by omega,by go_num,fun y hy=>by
     rw[HNX.out,List.mem_append] at hy
     rcases hy with hy|hy
     ·exact HN.out y hy
     ·simp at hy;subst hy;exact HXK.out⟩,by simp[intOf];omega⟩
  ·have dk:decide ((j:Int)<(l.length:Int))=false:=decide_eq_false (by omega)
   have hRR:=HR.out.symm.trans (findT_no l k (by have h:=HN.out;rw[List.take_of_length_le (by omega)] at h;exact h))
   have HRR:=hd0 hRR
   clear hRR
   go_wp2
   refine bodyPost_ret (v:=.tuple #[.string (bs []),.bool false]) (by simp[results,Tryz.results102,go_sem];rfl) rfl ⟨by rw[HRR.out],rfl⟩
theorem find1_any (x:Th)(k0:Int)(q:Nat)(w:World)(hq:w.cell? ⟨q,0,none⟩=some (.int .u8 k0)):Calls Tryz.prog 155 #[.agg #[.int .u8 (x.1.toNat:Int),.string (bs x.2)],.pointer (some ⟨q,0,none⟩)] w fun en w'=>en=.returned (.bool ((x.1.toNat:Int)==k0))∧Below w.heap.size w w':=by
 have hlt:=World.block_lt_of_cell? w _ hq
 have hlt':q<w.heap.size:=hlt
 go_enter Tryz.func155,Tryz.ntmps155
 go_wp2
 go_ret
 exact⟨rfl,bA _⟩
theorem idx_any (v:Value)(l:List Th)(k:UInt8)(q:Nat)(w:World)(hv:Tls w v l)(hl:l.length≤100000)(hq:w.cell? ⟨q,0,none⟩=some (.int .u8 (k.toNat:Int))) :
  Calls Tryz.prog 154 #[v,.func (Fn.func 155) #[] #[.pointer (some ⟨q,0,none⟩)]] w fun en w' =>
   ((∃ (i:Nat) (hi:i<l.length),en=.returned (.int .i64 i)∧findT l k=(l[i].2,true))∨(en=.returned (.int .i64 (-1))∧findT l k=([],false)))∧Below w.heap.size w w':=by
 obtain⟨a,c,rfl,hc⟩:=hv.shape
 have HC:=hd0 hc
 clear hc hv
 obtain⟨k0,hk0⟩:∃ k0,(k.toNat:Int)=k0:=⟨_,rfl⟩
 rw[hk0] at hq
 have HK0:=hd0 hk0
 have HQ:=hd0 hq
 clear hk0 hq
 go_enter Tryz.func154,Tryz.ntmps154
 go_wp2_with fail
 go_loopw [8] (fun i wr=>∃ j:Nat,j≤l.length∧i=.int .i64 j∧(∀ x∈l.take j,x.1≠k)∧Below w.heap.size w wr) (fun i _=>l.length-(intOf i).toNat)
 case atStart=>exact⟨0,by omega,rfl,by simp,Below.refl _ _⟩
 case round =>
  obtain⟨j,hj,rfl,hno,hb⟩:=hrel
  have HN:=hd0 hno;clear hno
  by_cases hlt:j<l.length
  ·have dk:decide ((j:Int)<(l.length:Int))=true:=decide_eq_true (by omega)
   obtain⟨b,off,rfl,hcc⟩:=HC.out.resolve_left (by intro h;rw[h] at hlt;simp at hlt)
   have c0:=(hb.cell (World.block_lt_of_cell? w _ (hcc j hlt).1)).trans (hcc j hlt).1
   have c1:=(hb.cell (World.block_lt_of_cell? w _ (hcc j hlt).2)).trans (hcc j hlt).2
   have hq1:=(hb.cell (World.block_lt_of_cell? w _ HQ.out)).trans HQ.out
   have hnext:l.take (j+1)=l.take j++[l[j]]:=List.take_succ_eq_append_getElem hlt
   have hfa:=findT_at l k j hlt HN.out
   have HF0:Hid (findT l k=(l[j].2,true)→∃ (i:Nat) (hi:i<l.length),(Ending.returned (.int .i64 j))=.returned (.int .i64 i)∧findT l k=(l[i].2,true)):=fun h=>⟨j,hlt,rfl,h⟩
   obtain⟨x,hx⟩:∃ x,l[j]=x:=⟨_,rfl⟩
   rw[hx] at c0 c1 hnext hfa HF0
   have hx0:(x.1.toNat:Int)=k0→x.1=k:=fun h=>UInt8.toNat_inj.1 (by have:=HK0.out;omega)
   have hx1:¬(x.1.toNat:Int)=k0→x.1≠k:=fun h e=>h (by rw[e];exact HK0.out)
   have HNX:=hd0 hnext
   have HF:=hd0 hfa
   have HX0:=hd0 hx0
   have HX1:=hd0 hx1
   have HB:=hd0 hb
   have HQ1:=hd0 hq1
   clear hcc hx HC hnext hfa hx0 hx1 hb hq1
   have C:=hd0 (find1_any x k0 q wr HQ1.out)
   obtain⟨x0,hx0⟩:∃ x0,(x.1.toNat:Int)=x0:=⟨_,rfl⟩
   rw[hx0] at c0 C HX0 HX1
   clear hx0
   go_wp2_with fail
   with_reducible refine C.out.mono ?_
   rintro en w1 ⟨rfl,hb1⟩
   have HB1:=hd0 (HB.out.trans (hb1.mono HB.out.size))
   clear hb1
   by_cases he:x0=k0
   ·have de:(x0==k0)=true:=by simpa using he
    have hr:=HF0.out (HF.out (HX0.out he))
    have HRR:=hd0 hr
    clear he hr
    go_wp2
    go_ret
    exact⟨.inl HRR.out,HB1.out⟩
   ·have de:(x0==k0)=false:=by simpa using he
    have hxk:=HX1.out he
    have HXK:=hd0 hxk
    clear he hxk
    go_wp2
    exact⟨⟨j+1,by omega,by go_num,fun y hy=>by
     rw[HNX.out,List.mem_append] at hy
     rcases hy with hy|hy
     ·exact HN.out y hy
     ·simp at hy;subst hy;exact HXK.out,HB1.out⟩,by simp[intOf];omega⟩
  ·have dk:decide ((j:Int)<(l.length:Int))=false:=decide_eq_false (by omega)
   have hRR:=findT_no l k (by have h:=HN.out;rw[List.take_of_length_le (by omega)] at h;exact h)
   have HRR:=hd0 hRR
   have HB:=hd0 hb
   clear hRR hb
   go_wp2
   go_ret
   exact⟨.inr ⟨rfl,HRR.out⟩,HB.out⟩
theorem find_any (v:Value)(l:List Th)(k:UInt8)(w:World)(hv:Tls w v l)(hl:l.length≤100000):Calls Tryz.prog 142 #[v,.int .u8 (k.toNat:Int)] w fun en w'=>en=.returned (.tuple #[.string (bs (findT l k).1),.bool (findT l k).2])∧Below w.heap.size w w':=by
 obtain⟨R,hR⟩:∃ R,findT l k=R:=⟨_,rfl⟩
 rw[hR]
 have kk:Below w.heap.size w (w.alloc (.cells #[.int .u8 (k.toNat:Int)] 5)):=bA _
 have C:=hd0 (idx_any v l k w.heap.size _ (hv.later kk) hl (by simp[go_sem]))
 have KK:=hd0 kk
 have HV:=hd0 hv
 obtain⟨a,c,rfl,hc⟩:=hv.shape
 have HC:=hd0 hc
 clear hc hv kk
 go_enter Tryz.func142,Tryz.ntmps142
 go_wp2_with fail
 with_reducible refine C.out.mono ?_
 rintro en w1 ⟨(⟨i,hi,rfl,hf⟩|⟨rfl,hf⟩),hb1⟩
 ·obtain⟨b,off,rfl,hcc⟩:=HC.out.resolve_left (by intro h;rw[h] at hi;simp at hi)
  have hb:=KK.out.trans (hb1.mono KK.out.size)
  have c1:=(hb.cell (World.block_lt_of_cell? w _ (hcc i hi).2)).trans (hcc i hi).2
  have HB:=hd0 hb
  obtain⟨x,hx⟩:∃ x,l[i]=x:=⟨_,rfl⟩
  rw[hx] at c1 hf
  have HRR:=hd0 (hR.symm.trans hf)
  clear hcc hb hb1 hx hf hR C HC HV KK
  have d0:decide ((i:Int)<0)=false:=decide_eq_false (by omega)
  go_wp2
  refine bodyPost_ret (v:=.tuple #[.string (bs x.2),.bool true]) (by simp[results,Tryz.results142,go_sem]) rfl ⟨by rw[HRR.out],HB.out⟩
 ·have HB:=hd0 (KK.out.trans (hb1.mono KK.out.size))
  have HRR:=hd0 (hR.symm.trans hf)
  clear hb1 hf hR C HC HV KK
  go_wp2
  refine bodyPost_ret (v:=.tuple #[.string (bs []),.bool false]) (by simp[results,Tryz.results142,go_sem];rfl) rfl ⟨by rw[HRR.out],HB.out⟩
def lm1 (f:List UInt8):=rdText f 0 4
def lmE (f:List UInt8):Int:=(rdEnd (lm1 f).2.1 (lm1 f).2.2).2
def tkL (a b:Int)(f:List UInt8)(l:List Th):Int × Bool × Int × List UInt8 × Int :=
 if (b=2∨b=3)∧lmE f=0 then(a,decide (b=2),numOf (lm1 f).1,(findT l 3).1,0) else(0,false,0,[],4)
structure KT (w W:World)(a b c:Int)(f:List UInt8)(v:Value):Prop where
 pb:PB 103 W w.heap.size a b c f v
 pz:LB 125 W (w.heap.size+1) 0 false 0 []
 bel:Below w.heap.size w W
theorem LB.only {T:TypeId}{W W':World}{q:Nat}{xlv:Int}{xrp:Bool}{xnm:Int}{xdt:List UInt8}{p:Nat}(h:LB T W q xlv xrp xnm xdt)(ho:Only p W W')(hne:q≠p):LB T W' q xlv xrp xnm xdt:=by
 unfold LB;rw[ho.block q h.lt (by intro e;injection e with e;exact hne e)];exact h
section
variable {w W W':World} {a b c:Int} {f:List UInt8} {v:Value}
theorem KT.later (h:KT w W a b c f v)(hb:Below W.heap.size W W'):KT w W' a b c f v:=⟨h.pb.later hb,h.pz.later hb,h.bel.trans (hb.mono h.bel.size)⟩
theorem KT.drew (h:KT w W a b c f v):KT w W.drew a b c f v:=h.later (Below.refl _ _).drew
theorem KT.lt (h:KT w W a b c f v):w.heap.size+1<W.heap.size:=h.pz.lt
theorem KT.only {p:Nat}(h:KT w W a b c f v)(ho:Only p W W')(hp:w.heap.size+1<p):KT w W' a b c f v:=by
 have hs:=h.lt
 exact⟨h.pb.only ho (by omega),h.pz.only ho (by omega),h.bel.trans (ho.below (by omega) (by omega))⟩
end
theorem lbtake_any (v:Value)(l:List Th)(a b c:Int)(f:List UInt8)(w:World)(hf:f.length≤1000)(hb:0≤b∧b<256)(hv:Tls w v l)(hl:l.length≤1000):Calls Tryz.prog 126 #[.agg #[.int .u8 a,.int .u8 b,.int .u8 c,.string (bs f),v]] w fun en w' =>
  en=.returned (.tuple #[.agg #[.int .u8 (tkL a b f l).1,.bool (tkL a b f l).2.1,.int .u32 (tkL a b f l).2.2.1,.string (bs (tkL a b f l).2.2.2.1)],.int .i64 (tkL a b f l).2.2.2.2])∧Below w.heap.size w w':=by
 obtain⟨vx,vk,hvv,-⟩:=hv.shape
 obtain⟨vn,hvn⟩:∃ n,l.length=n:=⟨_,rfl⟩
 rw[hvn] at hvv
 subst hvv
 obtain⟨R,hR⟩:∃ R,tkL a b f l=R:=⟨_,rfl⟩
 rw[hR]
 obtain⟨nm,l1,e1,h1⟩:∃ y l e,numOf (lm1 f).1=y∧(lm1 f).2.1=l∧(lm1 f).2.2=e:=⟨_,_,_,rfl,rfl,rfl⟩
 have n1:l1.length≤f.length:=by have:=rd_le f 0 4;rw[show rdText f 0 4=lm1 f from rfl,h1.2.1] at this;exact this
 obtain⟨l5,E,h5⟩:∃ l e,(rdEnd l1 e1).1=l∧(rdEnd l1 e1).2=e:=⟨_,_,rfl,rfl⟩
 have hE:lmE f=E:=by unfold lmE;rw[h1.2.1,h1.2.2,h5.2]
 obtain⟨dt,hdt⟩:∃ y,(findT l 3).1=y:=⟨_,rfl⟩
 obtain⟨dk,hdk⟩:∃ y,(findT l 3).2=y:=⟨_,rfl⟩
 have U1:Hid (∀ w p,Rd w p f 0→Calls Tryz.prog 139 #[.pointer (some ⟨p,0,none⟩)] w fun en w'=>en=.returned (.int .u32 nm)∧Rd w' p l1 e1∧Only p w w'):=fun w p hr=>by
  have h:=U32_any p f 0 w hr (by omega)
  rw[show rdText f 0 4=lm1 f from rfl,h1.1,h1.2.1,h1.2.2] at h;exact h
 have U5:Hid (∀ w p,Rd w p l1 e1→Calls Tryz.prog 140 #[.pointer (some ⟨p,0,none⟩)] w fun en w'=>en=.returned (.int .i64 E)∧Rd w' p l5 E∧Only p w w'):=fun w p hr=>by
  have h:=end_any p l1 e1 w hr (by omega)
  rw[h5.1,h5.2] at h;exact h
 have F1:Hid (∀ w,Tls w (.slice vx vn vk) l→Calls Tryz.prog 142 #[.slice vx vn vk,.int .u8 3] w fun en w'=>en=.returned (.tuple #[.string (bs dt),.bool dk])∧Below w.heap.size w w'):=fun w hv=>by
  have h:=find_any (.slice vx vn vk) l 3 w hv (by omega)
  rw[hdt,hdk] at h;exact h
 have hRR:R=if (b=2∨b=3)∧E=0 then(a,decide (b=2),nm,dt,0) else(0,false,0,[],4):=by
  rw[←hR];unfold tkL;rw[hE,h1.1,hdt]
 have HRR:=hd0 hRR
 have HB:=hd0 hb
 obtain⟨Q,hQ⟩:∃ y,decide (b=2)=y:=⟨_,rfl⟩
 obtain⟨I,hI⟩:∃ y,decide (b=2∨b=3)=y:=⟨_,rfl⟩
 have LK1:Hid (∀ W q,RMap W q→(Instr.lookup 245 (.map (some q)) (.int .u8 b) true).run Tryz.prog W=.ok (.tuple #[.bool Q,.bool I]) W):=fun W q h=>by
  rw[←hQ,← hI];exact rmap_look h b hb
 have HQ:=hd0 hQ
 have HI:=hd0 hI
 clear hQ hI
 clear hRR hR h1 n1 h5 hE hdt hdk hf hb hl hvn
 go_enter Tryz.func126,Tryz.ntmps126
 go_upto_region 1 with fail
 have pb0:=(PB.new 103 w a b c f (.slice vx vn vk)).later (bA (.cells #[.int .u8 0,.bool false,.int .u32 0,.string { data:=#[] }] 125))
 have pz:LB 125 ((w.alloc (.cells #[.int .u8 a,.int .u8 b,.int .u8 c,.string (bs f),.slice vx vn vk] 103)).alloc (.cells #[.int .u8 0,.bool false,.int .u32 0,.string { data:=#[] }] 125)) (w.heap.size+1) 0 false 0 []:=by
  have:=LB.new 125 (w.alloc (.cells #[.int .u8 a,.int .u8 b,.int .u8 c,.string (bs f),.slice vx vn vk] 103)) 0 false 0 []
  rw[show(w.alloc (.cells #[.int .u8 a,.int .u8 b,.int .u8 c,.string (bs f),.slice vx vn vk] 103)).heap.size=w.heap.size+1 by simp] at this
  exact this
 have hb0:Below w.heap.size w ((w.alloc (.cells #[.int .u8 a,.int .u8 b,.int .u8 c,.string (bs f),.slice vx vn vk] 103)).alloc (.cells #[.int .u8 0,.bool false,.int .u32 0,.string { data:=#[] }] 125)):=(bA _).alloc (by simp) _
 obtain⟨w0,hw0⟩:∃ k,(w.alloc (.cells #[.int .u8 a,.int .u8 b,.int .u8 c,.string (bs f),.slice vx vn vk] 103)).alloc (.cells #[.int .u8 0,.bool false,.int .u32 0,.string { data:=#[] }] 125)=k:=⟨_,rfl⟩
 have HV:=hd0 hv
 rw[hw0] at pb0 pz hb0 ⊢
 have KT0:=hd0 (KT.mk pb0 pz hb0)
 clear hw0 pb0 pz hb0 hv
 go_cut [4,5] (fun s4 s5 wx=>s4=.bool Q∧s5=.bool I∧Hid (KT w wx a b c f (.slice vx vn vk)))
 case first =>
  have KTd:=hd0 KT0.out.drew
  have f1:=KTd.out.pb.c1
  go_region_law
   (first
    |(go_simp;go_at_call 141;(with_reducible refine(replies_any _).mono ?_);rintro en wx ⟨qm,rfl,hmx,hbx⟩;have KTx:=hd0 (KTd.out.later hbx);have f1x:=KTx.out.pb.c1;have hlk:=LK1.out _ _ hmx))
  all_goals go_wp2_with fail
  all_goals go_meet
  all_goals exact⟨rfl,rfl,KTx⟩
 case rest =>
  obtain⟨rfl,rfl,KT1⟩:=hcut
  clear KT0
  have c3:=KT1.out.pb.c3
  go_wp2_with fail
  with_reducible refine(of_any f wc).mono ?_
  rintro en w1 ⟨rfl,hr1,hb1,hlt⟩
  have KT2:=hd0 (KT1.out.later hb1)
  have HP:=hd0 KT1.out.lt
  obtain⟨p,hp⟩:∃ p,wc.heap.size=p:=⟨_,rfl⟩
  rw[hp] at hr1 HP ⊢
  clear hb1 hlt c3 KT1 hp
  go_wp2_with fail
  with_reducible refine(U1.out _ _ hr1).mono ?_
  rintro en w2 ⟨rfl,hr2,ho2⟩
  have KT3:=hd0 (KT2.out.only ho2 HP.out)
  clear hr1 ho2 KT2
  have z0:=KT3.out.pz.c0
  have z1:=KT3.out.pz.c1
  have z2:=KT3.out.pz.c2
  have z3:=KT3.out.pz.c3
  have y0:=KT3.out.pz.fr 0
  have y1:=KT3.out.pz.fr 1
  have y2:=KT3.out.pz.fr 2
  have y3:=KT3.out.pz.fr 3
  cases I with
  | false =>
   have hR2:R=(0,false,0,[],4):=by rw[HRR.out,if_neg (fun h=>of_decide_eq_false HI.out h.1)]
   have HR2:=hd0 hR2
   clear hR2
   go_wp2_with fail
   refine bodyPost_ret (v:=.tuple #[.agg #[.int .u8 0,.bool false,.int .u32 0,.string (bs [])],.int .i64 4]) (by simp[results,Tryz.results126,go_sem,z0,z1,z2,z3];rfl) rfl ⟨by rw[HR2.out],below_set (below_set (below_set (below_set KT3.out.bel (by omega) _) (by omega) _) (by omega) _) (by omega) _⟩
  | true =>
   clear z0 z1 z2 z3 y0 y1 y2 y3
   go_wp2_with fail
   with_reducible refine(U5.out _ _ hr2).mono ?_
   rintro en w3 ⟨rfl,hr3,ho3⟩
   have KT4:=hd0 (KT3.out.only ho3 HP.out)
   clear hr2 hr3 ho3 KT3
   have z0:=KT4.out.pz.c0
   have z1:=KT4.out.pz.c1
   have z2:=KT4.out.pz.c2
   have z3:=KT4.out.pz.c3
   have y0:=KT4.out.pz.fr 0
   have y1:=KT4.out.pz.fr 1
   have y2:=KT4.out.pz.fr 2
   have y3:=KT4.out.pz.fr 3
   by_cases hE:E=0
   ·have dE:(E != 0)=false:=by rw[hE];rfl
    have hR2:R=(a,Q,nm,dt,0):=by rw[HRR.out,if_pos ⟨of_decide_eq_true HI.out,hE⟩,HQ.out]
    have HR2:=hd0 hR2
    clear hR2 hE z0 z1 z2 z3 y0 y1 y2 y3
    have c4:=KT4.out.pb.c4
    go_wp2_with fail
    with_reducible refine(F1.out _ (HV.out.later KT4.out.bel)).mono ?_
    rintro en w4 ⟨rfl,hb4⟩
    have KT5:=hd0 (KT4.out.later hb4)
    clear hb4 c4 KT4
    have c0:=KT5.out.pb.c0
    have z0:=KT5.out.pz.c0
    have z1:=KT5.out.pz.c1
    have z2:=KT5.out.pz.c2
    have z3:=KT5.out.pz.c3
    have y0:=KT5.out.pz.fr 0
    have y1:=KT5.out.pz.fr 1
    have y2:=KT5.out.pz.fr 2
    have y3:=KT5.out.pz.fr 3
    go_wp2_with fail
    refine bodyPost_ret (v:=.tuple #[.agg #[.int .u8 a,.bool Q,.int .u32 nm,.string (bs dt)],.int .i64 0]) (by simp[results,Tryz.results126,go_sem,z0,z1,z2,z3]) rfl ⟨by rw[HR2.out],below_set (below_set (below_set (below_set KT5.out.bel (by omega) _) (by omega) _) (by omega) _) (by omega) _⟩
   ·have dE:(E != 0)=true:=by rw[bne_iff_ne];exact hE
    have hR2:R=(0,false,0,[],4):=by rw[HRR.out,if_neg (fun h=>hE h.2)]
    have HR2:=hd0 hR2
    clear hR2 hE
    go_wp2_with fail
    refine bodyPost_ret (v:=.tuple #[.agg #[.int .u8 0,.bool false,.int .u32 0,.string (bs [])],.int .i64 4]) (by simp[results,Tryz.results126,go_sem,z0,z1,z2,z3];rfl) rfl ⟨by rw[HR2.out],below_set (below_set (below_set (below_set KT4.out.bel (by omega) _) (by omega) _) (by omega) _) (by omega) _⟩
def ansL (a b c:Int)(f:List UInt8)(l:List Th):Int × Int × Int × List UInt8 × List Th × Int :=
 if (tkL a b f l).2.2.2.2=0∧(tkL a b f l).2.1=false then(a,2,c,f,l,0) else(0,0,0,[],[],4)
def zT (n:Nat):Array Value:=madeCells #[.int .u8 0,.string { data:=#[] }] (n*2)
theorem make_things (n:Nat)(hn:n≤100000)(W:World):(Instr.makeSlice 101 (.int .i64 (n:Int)) (.int .i64 (n:Int))).run Tryz.prog W=.ok (.slice (some ⟨W.heap.size,0,none⟩) n n) (W.alloc (.cells (zT n) 182)):=by
 obtain⟨i,hi,hzz⟩:=Option.map_eq_some_iff.1 info_T
 simp only[Prod.mk.injEq] at hzz
 obtain⟨hz,hs,hb⟩:=hzz
 have h:=run_make W 101 182 i _ Tryz.underlying101 hi hz .i64 .i64 (n:Int) (n:Int) (by omega) (by omega) (by rw[hb];omega) (by omega)
 rw[hs] at h
 exact h
theorem copy_things (W:World)(g n B:Nat)(Z:Array Value)(hz:Z.size=n*2)(hn:n≤100000)(hg:W.heap[g]?=some (.cells Z 182 (0,0)))(hB:B≤g)(v:Value)(l:List Th)(hv:Tls W v l)(hl:l.length=n)(ty:TypeId) :
  ∃ W',(Builtin.copy_ #[101,101] ty #[.slice (some ⟨g,0,none⟩) n n,v]).run Tryz.prog W=.ok (goInt n) W'∧TlT W' B (.slice (some ⟨g,0,none⟩) n n) l∧Below g W W':=by
 obtain⟨i,hi,hzz⟩:=Option.map_eq_some_iff.1 info_T
 simp only[Prod.mk.injEq] at hzz
 obtain⟨hzv,hs,hb⟩:=hzz
 subst hl
 obtain⟨ad,cp,rfl,hc⟩:=hv.shape
 by_cases h0:l=[]
 ·subst h0
  refine⟨W,?_,⟨rfl,.inr ⟨g,0,Z,rfl,hB,hg,Nat.le_refl _,by decide,hz,by simp⟩⟩,Below.refl _ _⟩
  have hL:∀ (x:Addr),(loadCells x 0).run Tryz.prog W=.ok #[] W:=fun x=>by simpa using run_loadCells_list (P:=Tryz.prog) W x [] (by simp)
  cases ad <;> simp[Builtin.copy_,run_underlying Tryz.underlying101,Builtin.lenOf,Builtin.firstCells,sizeOf,typeInfo,hi,storeCells,hL]
 ·obtain⟨b,off,rfl,hcell⟩:=hc.resolve_left h0
  have hlen:=thV_len l
  have hsrc:∀ j x,(l.flatMap thV)[j]?=some x→W.cell? ((⟨b,off,none⟩:Addr).add j)=some x:=by
   intro j x hx
   rw[Go.WideShapes.add_plain]
   have hj:j<l.length*2:=by rw[←hlen];exact(List.getElem?_eq_some_iff.1 hx).1
   rcases Nat.mod_two_eq_zero_or_one j with hm|hm
   ·obtain⟨k,rfl⟩:∃ k,j=k*2:=⟨j / 2,by omega⟩
    rw[thV_get0 l k (by omega)] at hx;rw[←Option.some.inj hx];exact(hcell k (by omega)).1
   ·obtain⟨k,rfl⟩:∃ k,j=k*2+1:=⟨j / 2,by omega⟩
    rw[thV_get1 l k (by omega)] at hx;rw[←Option.some.inj hx];exact(hcell k (by omega)).2
  have hL:=run_loadCells_list (P:=Tryz.prog) W ⟨b,off,none⟩ _ hsrc
  rw[hlen] at hL
  have h1:∀ x∈l.flatMap thV,x.oneCell'=true:=by
   intro x hx
   obtain⟨t,-,ht⟩:=List.mem_flatMap.1 hx
   rcases List.mem_cons.1 ht with h|h
   ·rw[h];rfl
   ·rw[List.mem_singleton.1 h];rfl
  obtain⟨xs,hxs⟩:∃ xs,l.flatMap thV=xs:=⟨_,rfl⟩
  unfold TlT
  rw[hxs] at hlen hL h1 ⊢
  have hst:=run_storeCells_at Tryz.prog g 0 182 xs 0 Z W hg (by omega) h1
  have e:(Z.toList.take (0+0)++xs++Z.toList.drop (0+0+xs.length)).toArray=xs.toArray:=by
   rw[List.drop_eq_nil_of_le (by rw[hlen];simp;omega)];simp
  rw[e] at hst
  refine⟨W.setRow g xs.toArray,?_,⟨hlen,.inr ⟨g,l.length,xs.toArray,rfl,hB,setRow_heap W g Z _ 182 _ hg,Nat.le_refl _,Nat.le_trans hn (by decide),by simpa using hlen,by rw[←hlen];simp⟩⟩,⟨rfl,rfl,rfl,by simp[World.setRow],fun k hk=>setRow_other W g k xs.toArray (by omega)⟩⟩
  simp[Builtin.copy_,run_underlying Tryz.underlying101,Builtin.lenOf,Builtin.firstCells,sizeOf,typeInfo,hi,hs,hL,hst]
structure AS (w W:World)(a b c:Int)(f:List UInt8)(v:Value):Prop where
 pb:PB 103 W w.heap.size a b c f v
 pz:PB 103 W (w.heap.size+1) 0 0 0 [] (.slice none 0 0)
 bel:Below w.heap.size w W
section
variable {w W W':World} {a b c:Int} {f:List UInt8} {v:Value}
theorem AS.later (h:AS w W a b c f v)(hb:Below W.heap.size W W'):AS w W' a b c f v:=⟨h.pb.later hb,h.pz.later hb,h.bel.trans (hb.mono h.bel.size)⟩
theorem AS.lt (h:AS w W a b c f v):w.heap.size+1<W.heap.size:=h.pz.lt
theorem AS.fill (h:AS w W a b c f v){n:Nat}(hb:Below W.heap.size (W.alloc (.cells (zT n) 182)) W'):AS w W' a b c f v:=by
 have h1:=h.later (bA (.cells (zT n) 182))
 have hl:=h.lt
 exact⟨h1.pb.below (by omega) hb,h1.pz.below (by omega) hb,h1.bel.trans (hb.mono (by omega))⟩
end
theorem lbanswer_any (v:Value)(l:List Th)(a b c:Int)(f:List UInt8)(w:World)(hf:f.length≤1000)(hb:0≤b∧b<256)(hv:Tls w v l)(hl:l.length≤1000):Calls Tryz.prog 125 #[.agg #[.int .u8 a,.int .u8 b,.int .u8 c,.string (bs f),v]] w fun en w' =>
  ∃ v',en=.returned (.tuple #[.agg #[.int .u8 (ansL a b c f l).1,.int .u8 (ansL a b c f l).2.1,.int .u8 (ansL a b c f l).2.2.1,.string (bs (ansL a b c f l).2.2.2.1),v'],.int .i64 (ansL a b c f l).2.2.2.2.2])∧TlT w' w.heap.size v' (ansL a b c f l).2.2.2.2.1∧Below w.heap.size w w':=by
 obtain⟨vx,vk,hvv,-⟩:=hv.shape
 obtain⟨vn,hvn⟩:∃ n,l.length=n:=⟨_,rfl⟩
 rw[hvn] at hvv
 subst hvv
 obtain⟨ta,tq,tn,td,te,hT⟩:∃ ta tq tn td te,tkL a b f l=(ta,tq,tn,td,te):=⟨_,_,_,_,_,rfl⟩
 obtain⟨R,hR⟩:∃ R,ansL a b c f l=R:=⟨_,rfl⟩
 rw[hR]
 have hRR:R=if te=0∧tq=false then(a,2,c,f,l,0) else(0,0,0,[],[],4):=by rw[←hR];unfold ansL;rw[hT]
 have HRR:=hd0 hRR
 have T1:Hid (∀ w,Tls w (.slice vx vn vk) l→Calls Tryz.prog 126 #[.agg #[.int .u8 a,.int .u8 b,.int .u8 c,.string (bs f),.slice vx vn vk]] w fun en w'=>en=.returned (.tuple #[.agg #[.int .u8 ta,.bool tq,.int .u32 tn,.string (bs td)],.int .i64 te])∧Below w.heap.size w w'):=fun w hv=>by
  have h:=lbtake_any (.slice vx vn vk) l a b c f w hf hb hv hl
  rw[hT] at h;exact h
 have HN:=hd0 (And.intro hvn (show vn≤1000 by omega))
 have hmk:∀ W:World,(Instr.makeSlice 101 (.int .i64 (vn:Int)) (.int .i64 (vn:Int))).run Tryz.prog W=.ok (.slice (some ⟨W.heap.size,0,none⟩) vn vn) (W.alloc (.cells (zT vn) 182)):=fun W=>make_things vn (by omega) W
 have CP:Hid (∀ W W1:World,Below w.heap.size w W1→W=W1.alloc (.cells (zT vn) 182)→∀ ty,∃ W',(Builtin.copy_ #[101,101] ty #[.slice (some ⟨W1.heap.size,0,none⟩) vn vn,.slice vx vn vk]).run Tryz.prog W=.ok (goInt vn) W'∧TlT W' W1.heap.size (.slice (some ⟨W1.heap.size,0,none⟩) vn vn) l∧Below W1.heap.size W W'):=by
  rintro W W1 h1 rfl ty
  exact copy_things _ W1.heap.size vn W1.heap.size (zT vn) (by simp[zT,madeCells]) (by omega) (heap_alloc_new W1 _) (Nat.le_refl _) _ l (hv.later (h1.trans ((bA _).mono h1.size))) hvn ty
 have HV:=hd0 hv
 clear hRR hR hT hf hb hl hvn
 go_enter Tryz.func125,Tryz.ntmps125
 go_upto_region 1 with fail
 have pb0:=(PB.new 103 w a b c f (.slice vx vn vk)).later (bA (.cells yU 103))
 have pz:PB 103 ((w.alloc (.cells #[.int .u8 a,.int .u8 b,.int .u8 c,.string (bs f),.slice vx vn vk] 103)).alloc (.cells yU 103)) (w.heap.size+1) 0 0 0 [] (.slice none 0 0):=by
  have:=PB.new 103 (w.alloc (.cells #[.int .u8 a,.int .u8 b,.int .u8 c,.string (bs f),.slice vx vn vk] 103)) 0 0 0 [] (.slice none 0 0)
  rw[show(w.alloc (.cells #[.int .u8 a,.int .u8 b,.int .u8 c,.string (bs f),.slice vx vn vk] 103)).heap.size=w.heap.size+1 by simp] at this
  exact this
 have hb0:Below w.heap.size w ((w.alloc (.cells #[.int .u8 a,.int .u8 b,.int .u8 c,.string (bs f),.slice vx vn vk] 103)).alloc (.cells yU 103)):=(bA _).alloc (by simp) _
 obtain⟨w0,hw0⟩:∃ k,(w.alloc (.cells #[.int .u8 a,.int .u8 b,.int .u8 c,.string (bs f),.slice vx vn vk] 103)).alloc (.cells yU 103)=k:=⟨_,rfl⟩
 rw[hw0] at pb0 pz hb0 ⊢
 have AS0:=hd0 (AS.mk pb0 pz hb0)
 have c0:=pb0.c0
 have c1:=pb0.c1
 have c2:=pb0.c2
 have c3:=pb0.c3
 have c4:=pb0.c4
 clear hw0 pb0 pz hb0 hv
 go_wp2_with fail
 with_reducible refine(T1.out _ (HV.out.later AS0.out.bel)).mono ?_
 rintro en w1 ⟨rfl,hb1⟩
 have AS1:=hd0 (AS0.out.later hb1)
 clear hb1 AS0 c0 c1 c2 c3 c4
 go_upto_region 2 with fail
 have lb:=LB.new 125 w1 ta tq tn td
 have aa:=(Below.refl w1.heap.size w1).alloc (Nat.le_refl _) (.cells #[.int .u8 ta,.bool tq,.int .u32 tn,.string (bs td)] 125)
 obtain⟨q,hq⟩:∃ k,w1.heap.size=k:=⟨_,rfl⟩
 obtain⟨w2,hw2⟩:∃ k,w1.alloc (.cells #[.int .u8 ta,.bool tq,.int .u32 tn,.string (bs td)] 125)=k:=⟨_,rfl⟩
 rw[hw2] at lb aa ⊢
 have AS2:=hd0 (AS1.out.later aa)
 rw[hq] at lb ⊢
 have l1:=lb.c1
 clear lb aa hw2 hq AS1
 have z0:=AS2.out.pz.c0
 have z1:=AS2.out.pz.c1
 have z2:=AS2.out.pz.c2
 have z3:=AS2.out.pz.c3
 have z4:=AS2.out.pz.c4
 have y0:=AS2.out.pz.fr 0
 have y1:=AS2.out.pz.fr 1
 have y2:=AS2.out.pz.fr 2
 have y3:=AS2.out.pz.fr 3
 have y4:=AS2.out.pz.fr 4
 by_cases hok:te=0∧tq=false
 rotate_left
 ·have hR2:R=(0,0,0,[],[],4):=by rw[HRR.out,if_neg hok]
  have HR2:=hd0 hR2
  clear hR2 hmk
  by_cases he:te=0
  ·have de:(te != 0)=false:=by rw[he];rfl
   obtain rfl:tq=true:=by
    cases tq
    ·exact absurd ⟨he,rfl⟩ hok
    ·rfl
   clear hok he
   go_wp2_with fail
   refine bodyPost_ret (v:=.tuple #[.agg #[.int .u8 0,.int .u8 0,.int .u8 0,.string (bs []),.slice none 0 0],.int .i64 4]) (by simp[results,Tryz.results125,go_sem,z0,z1,z2,z3,z4];rfl) rfl ⟨_,by rw[HR2.out],by rw[HR2.out];exact TlT.none _ _,below_set (below_set (below_set (below_set (below_set AS2.out.bel (by omega) _) (by omega) _) (by omega) _) (by omega) _) (by omega) _⟩
  ·have de:(te != 0)=true:=by rw[bne_iff_ne];exact he
   clear hok he
   go_wp2_with fail
   refine bodyPost_ret (v:=.tuple #[.agg #[.int .u8 0,.int .u8 0,.int .u8 0,.string (bs []),.slice none 0 0],.int .i64 4]) (by simp[results,Tryz.results125,go_sem,z0,z1,z2,z3,z4];rfl) rfl ⟨_,by rw[HR2.out],by rw[HR2.out];exact TlT.none _ _,below_set (below_set (below_set (below_set (below_set AS2.out.bel (by omega) _) (by omega) _) (by omega) _) (by omega) _) (by omega) _⟩
 have hR2:R=(a,2,c,f,l,0):=by rw[HRR.out,if_pos hok]
 have HR2:=hd0 hR2
 obtain⟨rfl,rfl⟩:=hok
 clear hR2 z0 z1 z2 z3 z4 y0 y1 y2 y3 y4
 have c4:=AS2.out.pb.c4
 go_upto_region 5 with fail
 have HC:=CP.out _ w2 AS2.out.bel rfl
 have AS3:=hd0 (fun W' (h:Below w2.heap.size (w2.alloc (.cells (zT vn) 182)) W')=>AS2.out.fill h)
 have hlt:=AS2.out.lt
 have k4:=(AS2.out.later (bA (.cells (zT vn) 182))).pb.c4
 obtain⟨g,hg⟩:∃ k,w2.heap.size=k:=⟨_,rfl⟩
 obtain⟨w3,hw3⟩:∃ k,w2.alloc (.cells (zT vn) 182)=k:=⟨_,rfl⟩
 rw[hw3] at HC AS3 k4 ⊢
 rw[hg] at HC AS3 hlt ⊢
 have HLT:=hd0 hlt
 clear hw3 hg AS2 l1 c4 hmk CP hlt
 obtain⟨w4,hcp,ht4,hb4⟩:=HC 3
 have AS4:=hd0 (AS3.out _ hb4)
 have HT4:=hd0 ht4
 clear ht4 hb4 AS3 HC
 go_upto_region 6 with fail
 clear hcp k4
 have r1:=AS4.out.pb.fr 1
 have r4:=AS4.out.pb.fr 4
 have k1:=AS4.out.pb.c1
 have k4:=AS4.out.pb.c4
 go_upto_region 7 with fail
 have pb5:=(AS4.out.pb.set1 2).setv4 (.slice (some ⟨g,0,none⟩) vn vn)
 have pz5:=(AS4.out.pz.other (t:=w.heap.size) (o:=1) (by omega) (.int .u8 2)).other (t:=w.heap.size) (o:=4) (by omega) (.slice (some ⟨g,0,none⟩) vn vn)
 have ht5:=(HT4.out.set (p:=w.heap.size) (o:=1) (by have:=HLT.out;omega) (.int .u8 2)).set (p:=w.heap.size) (o:=4) (by have:=HLT.out;omega) (.slice (some ⟨g,0,none⟩) vn vn)
 have hb5:Below w.heap.size w ((w4.setCell ⟨w.heap.size,1,none⟩ (.int .u8 2)).setCell ⟨w.heap.size,4,none⟩ (.slice (some ⟨g,0,none⟩) vn vn)):=below_set (below_set AS4.out.bel (by omega) _) (by omega) _
 obtain⟨w5,hw5⟩:∃ k,(w4.setCell ⟨w.heap.size,1,none⟩ (.int .u8 2)).setCell ⟨w.heap.size,4,none⟩ (.slice (some ⟨g,0,none⟩) vn vn)=k:=⟨_,rfl⟩
 rw[hw5] at pb5 pz5 ht5 hb5 ⊢
 clear hw5 r1 r4 k1 k4 AS4 HT4
 have c0:=pb5.c0
 have c1:=pb5.c1
 have c2:=pb5.c2
 have c3:=pb5.c3
 have c4:=pb5.c4
 have z0:=pz5.c0
 have z1:=pz5.c1
 have z2:=pz5.c2
 have z3:=pz5.c3
 have z4:=pz5.c4
 have y0:=pz5.fr 0
 have y1:=pz5.fr 1
 have y2:=pz5.fr 2
 have y3:=pz5.fr 3
 have y4:=pz5.fr 4
 have HT5:=hd0 ht5
 have HB5:=hd0 hb5
 clear pb5 pz5 ht5 hb5
 go_wp2_with fail
 refine bodyPost_ret (v:=.tuple #[.agg #[.int .u8 a,.int .u8 2,.int .u8 c,.string (bs f),.slice (some ⟨g,0,none⟩) vn vn],.int .i64 0]) (by simp[results,Tryz.results125,go_sem,z0,z1,z2,z3,z4]) rfl ⟨_,by rw[HR2.out],by rw[HR2.out];exact(((((HT5.out.set (by have:=HLT.out;omega) _).set (by have:=HLT.out;omega) _).set (by have:=HLT.out;omega) _).set (by have:=HLT.out;omega) _).set (by have:=HLT.out;omega) _).mono (by have:=HLT.out;omega),below_set (below_set (below_set (below_set (below_set HB5.out (by omega) _) (by omega) _) (by omega) _) (by omega) _) (by omega) _⟩
end Go.Proofs.YtlkdfofpnmpidaaGreat
