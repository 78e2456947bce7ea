/- ZQ14 -/
import Derived.Test.YtlkdfofpnmpidaaGreatZQ13
set_option linter.unusedVariables false
set_option linter.unusedSimpArgs false
set_option maxRecDepth 100000
set_option maxHeartbeats 16000000
namespace Go.Proofs.YtlkdfofpnmpidaaGreat
open Go.RowKit
structure PdB (a b c:Int)(f:List UInt8)(l:List Th):Prop where
 pa:0≤a∧a<256
 pb:0≤b∧b<256
 pc:0≤c∧c<256
 pf:f.length≤1000
 pl:l.length≤1000
 ps:∀ x∈l,x.2.length≤2000
 pm:(putT l).1.length≤1000000000
theorem PdB.ans {a b c:Int}{f:List UInt8}{l:List Th}(h:PdB a b c f l):PdB (ansL a b c f l).1 (ansL a b c f l).2.1 (ansL a b c f l).2.2.1 (ansL a b c f l).2.2.2.1 (ansL a b c f l).2.2.2.2.1:=by
 unfold ansL
 split
 ·exact⟨h.pa,by simp,h.pc,h.pf,h.pl,h.ps,h.pm⟩
 ·exact⟨by simp,by simp,by simp,by simp,by simp,by simp,by simp[putT]⟩
def askM (o:Ow20)(sr ds:Mc)(a b c:Int)(f:List UInt8)(l:List Th):List Sn × Bool :=
 if ds=o.mc∧(sr.a % 2==1)=false then
  (if (ansL a b c f l).2.2.2.2.2 = 0 then (sentR sr (ansL a b c f l).1 (ansL a b c f l).2.1 (ansL a b c f l).2.2.1 (ansL a b c f l).2.2.2.1 (ansL a b c f l).2.2.2.2.1, decide (0 < (sentR sr (ansL a b c f l).1 (ansL a b c f l).2.1 (ansL a b c f l).2.2.1 (ansL a b c f l).2.2.2.1 (ansL a b c f l).2.2.2.2.1).length))
   else([],false))
 else([],true)
theorem CM.mac {w W:World}{o:Ow20}{ov:Value}{x:Mp}{s:Ms}{wv:Value}{B:Nat}{A:Array Value}(h:CM w W o ov x s wv B A) :
  W.cell? ⟨x.p,5,none⟩=some (.int .u8 o.mc.a)∧W.cell? ⟨x.p,6,none⟩=some (.int .u8 o.mc.b)∧W.cell? ⟨x.p,7,none⟩=some (.int .u8 o.mc.c)∧W.cell? ⟨x.p,8,none⟩=some (.int .u8 o.mc.d)∧W.cell? ⟨x.p,9,none⟩=some (.int .u8 o.mc.e)∧W.cell? ⟨x.p,10,none⟩=some (.int .u8 o.mc.f) :=
 ⟨h.mm.cm0,h.mm.cm1,h.mm.cm2,h.mm.cm3,h.mm.cm4,h.mm.cm5⟩
theorem CM.src {w W:World}{o:Ow20}{ov:Value}{x:Mp}{s:Ms}{wv:Value}{B:Nat}{sr ds:Mc}{a b c:Int}{f:List UInt8}{v:Value}(h:CM w W o ov x s wv B #[.int .u8 sr.a,.int .u8 sr.b,.int .u8 sr.c,.int .u8 sr.d,.int .u8 sr.e,.int .u8 sr.f,.int .u8 ds.a,.int .u8 ds.b,.int .u8 ds.c,.int .u8 ds.d,.int .u8 ds.e,.int .u8 ds.f,.int .u8 a,.int .u8 b,.int .u8 c,.string (bs f),v]) :
  W.cell? ⟨B,0,none⟩=some (.int .u8 sr.a)∧W.cell? ⟨B,1,none⟩=some (.int .u8 sr.b)∧W.cell? ⟨B,2,none⟩=some (.int .u8 sr.c)∧W.cell? ⟨B,3,none⟩=some (.int .u8 sr.d)∧W.cell? ⟨B,4,none⟩=some (.int .u8 sr.e)∧W.cell? ⟨B,5,none⟩=some (.int .u8 sr.f) :=
 ⟨h.cb.c 0 _ rfl,h.cb.c 1 _ rfl,h.cb.c 2 _ rfl,h.cb.c 3 _ rfl,h.cb.c 4 _ rfl,h.cb.c 5 _ rfl⟩
theorem CM.dst {w W:World}{o:Ow20}{ov:Value}{x:Mp}{s:Ms}{wv:Value}{B:Nat}{sr ds:Mc}{a b c:Int}{f:List UInt8}{v:Value}(h:CM w W o ov x s wv B #[.int .u8 sr.a,.int .u8 sr.b,.int .u8 sr.c,.int .u8 sr.d,.int .u8 sr.e,.int .u8 sr.f,.int .u8 ds.a,.int .u8 ds.b,.int .u8 ds.c,.int .u8 ds.d,.int .u8 ds.e,.int .u8 ds.f,.int .u8 a,.int .u8 b,.int .u8 c,.string (bs f),v]) :
  W.cell? ⟨B,6,none⟩=some (.int .u8 ds.a)∧W.cell? ⟨B,7,none⟩=some (.int .u8 ds.b)∧W.cell? ⟨B,8,none⟩=some (.int .u8 ds.c)∧W.cell? ⟨B,9,none⟩=some (.int .u8 ds.d)∧W.cell? ⟨B,10,none⟩=some (.int .u8 ds.e)∧W.cell? ⟨B,11,none⟩=some (.int .u8 ds.f) :=
 ⟨h.cb.c 6 _ rfl,h.cb.c 7 _ rfl,h.cb.c 8 _ rfl,h.cb.c 9 _ rfl,h.cb.c 10 _ rfl,h.cb.c 11 _ rfl⟩
theorem CM.pdu {w W:World}{o:Ow20}{ov:Value}{x:Mp}{s:Ms}{wv:Value}{B:Nat}{sr ds:Mc}{a b c:Int}{f:List UInt8}{v:Value}(h:CM w W o ov x s wv B #[.int .u8 sr.a,.int .u8 sr.b,.int .u8 sr.c,.int .u8 sr.d,.int .u8 sr.e,.int .u8 sr.f,.int .u8 ds.a,.int .u8 ds.b,.int .u8 ds.c,.int .u8 ds.d,.int .u8 ds.e,.int .u8 ds.f,.int .u8 a,.int .u8 b,.int .u8 c,.string (bs f),v]) :
  W.cell? ⟨B,12,none⟩=some (.int .u8 a)∧W.cell? ⟨B,13,none⟩=some (.int .u8 b)∧W.cell? ⟨B,14,none⟩=some (.int .u8 c)∧W.cell? ⟨B,15,none⟩=some (.string (bs f))∧W.cell? ⟨B,16,none⟩=some v :=
 ⟨h.cb.c 12 _ rfl,h.cb.c 13 _ rfl,h.cb.c 14 _ rfl,h.cb.c 15 _ rfl,h.cb.c 16 _ rfl⟩
theorem masked_any (o:Ow20)(ov:Value)(x:Mp)(s:Ms)(wv:Value)(sr ds:Mc)(a b c:Int)(f:List UInt8)(v:Value)(l:List Th)(w:World)(h:MM w o ov x s wv)(hsr:sr.Ok)
  (hp:PdB a b c f l) (hv:Tls w v l):Calls Tryz.prog 96 #[.pointer (some ⟨x.p,0,none⟩),.agg #[.int .u8 sr.a,.int .u8 sr.b,.int .u8 sr.c,.int .u8 sr.d,.int .u8 sr.e,.int .u8 sr.f,.int .u8 ds.a,.int .u8 ds.b,.int .u8 ds.c,.int .u8 ds.d,.int .u8 ds.e,.int .u8 ds.f,.int .u8 a,.int .u8 b,.int .u8 c,.string (bs f),v]] w fun en w' =>
  ∃ u,en=.returned (.tuple #[u,.bool (askM o sr ds a b c f l).2])∧Ow 7 snC 55 w' w.heap.size u (askM o sr ds a b c f l).1∧MM w' o ov x s wv∧Fr (x.D wv) w w':=by
 have HP:=hd0 hp
 have HV:=hd0 hv
 obtain⟨⟨a1,b1,c1,f1,l1,e⟩,ht⟩:∃ z,ansL a b c f l=z:=⟨_,rfl⟩
 have AN:Hid (∀ W,Tls W v l→Calls Tryz.prog 125 #[.agg #[.int .u8 a,.int .u8 b,.int .u8 c,.string (bs f),v]] W fun en w'=>∃ v',en=.returned (.tuple #[.agg #[.int .u8 a1,.int .u8 b1,.int .u8 c1,.string (bs f1),v'],.int .i64 e])∧TlT w' W.heap.size v' l1∧Below W.heap.size W w'):=hd0 fun W hW=>by
  have h:=lbanswer_any v l a b c f W HP.out.pf HP.out.pb hW HP.out.pl
  rw[ht] at h;exact h
 have hpa:=HP.out.ans
 rw[ht] at hpa
 have HPA:=hd0 hpa
 obtain⟨D,hD⟩:∃ D,decide (ds=o.mc)=D:=⟨_,rfl⟩
 obtain⟨G,hG⟩:∃ G,(sr.a % 2==1)=G:=⟨_,rfl⟩
 obtain⟨R,hR⟩:∃ R,askM o sr ds a b c f l=R:=⟨_,rfl⟩
 have HR:Hid (R=if D=true∧G=false then(if e=0 then(sentR sr a1 b1 c1 f1 l1,decide (0<(sentR sr a1 b1 c1 f1 l1).length)) else([],false)) else([],true)):=hd0 (by
  rw[←hR];unfold askM;rw[ht,hG,← hD];simp only[decide_eq_true_eq])
 have GR:Hid (∀ w,Calls Tryz.prog 73 #[.agg #[.int .u8 sr.a,.int .u8 sr.b,.int .u8 sr.c,.int .u8 sr.d,.int .u8 sr.e,.int .u8 sr.f]] w fun en w'=>en=.returned (.bool G)∧Below w.heap.size w w'):=hd0 fun w=>by rw[←hG];exact groupM_any sr hsr w
 have hne:∀ W:World,(binOp .neq 25 (.agg #[.int .u8 ds.a,.int .u8 ds.b,.int .u8 ds.c,.int .u8 ds.d,.int .u8 ds.e,.int .u8 ds.f]) (.agg #[.int .u8 o.mc.a,.int .u8 o.mc.b,.int .u8 o.mc.c,.int .u8 o.mc.d,.int .u8 o.mc.e,.int .u8 o.mc.f])).run Tryz.prog W=.ok (.bool (!D)) W:=fun W=>by rw[←hD];exact neq_macG ds o.mc W
 rw[hR]
 have C0:=hd0 (CM.box h #[.int .u8 sr.a,.int .u8 sr.b,.int .u8 sr.c,.int .u8 sr.d,.int .u8 sr.e,.int .u8 sr.f,.int .u8 ds.a,.int .u8 ds.b,.int .u8 ds.c,.int .u8 ds.d,.int .u8 ds.e,.int .u8 ds.f,.int .u8 a,.int .u8 b,.int .u8 c,.string (bs f),v])
 clear hR ht h hp hpa hv hD hG hsr
 go_enter Tryz.func96,Tryz.ntmps96
 go_upto_region 1 with fail
 have hb0:Below w.heap.size w (w.alloc (.cells #[.int .u8 sr.a,.int .u8 sr.b,.int .u8 sr.c,.int .u8 sr.d,.int .u8 sr.e,.int .u8 sr.f,.int .u8 ds.a,.int .u8 ds.b,.int .u8 ds.c,.int .u8 ds.d,.int .u8 ds.e,.int .u8 ds.f,.int .u8 a,.int .u8 b,.int .u8 c,.string (bs f),v] 142)):=bA _
 obtain⟨w0,hw0⟩:∃ z,w.alloc (.cells #[.int .u8 sr.a,.int .u8 sr.b,.int .u8 sr.c,.int .u8 sr.d,.int .u8 sr.e,.int .u8 sr.f,.int .u8 ds.a,.int .u8 ds.b,.int .u8 ds.c,.int .u8 ds.d,.int .u8 ds.e,.int .u8 ds.f,.int .u8 a,.int .u8 b,.int .u8 c,.string (bs f),v] 142)=z:=⟨_,rfl⟩
 obtain⟨B,hBB⟩:∃ z,w.heap.size=z:=⟨_,rfl⟩
 have HB:=hd0 hBB
 rw[hw0] at C0 hb0 ⊢
 rw[hBB] at C0 ⊢
 have T0:=hd0 (HV.out.later hb0)
 clear hw0 hBB hb0 HV
 go_cut [21] (fun s21 wx=>s21=.bool (!D||G)∧Hid (CM w wx o ov x s wv B #[.int .u8 sr.a,.int .u8 sr.b,.int .u8 sr.c,.int .u8 sr.d,.int .u8 sr.e,.int .u8 sr.f,.int .u8 ds.a,.int .u8 ds.b,.int .u8 ds.c,.int .u8 ds.d,.int .u8 ds.e,.int .u8 ds.f,.int .u8 a,.int .u8 b,.int .u8 c,.string (bs f),v]∧Below w0.heap.size w0 wx))
 case first =>
  have LX:∀ kk:Later w0,CM w kk.out o ov x s wv B #[.int .u8 sr.a,.int .u8 sr.b,.int .u8 sr.c,.int .u8 sr.d,.int .u8 sr.e,.int .u8 sr.f,.int .u8 ds.a,.int .u8 ds.b,.int .u8 ds.c,.int .u8 ds.d,.int .u8 ds.e,.int .u8 ds.f,.int .u8 a,.int .u8 b,.int .u8 c,.string (bs f),v]:=fun kk=>C0.out.later kk.h
  have m0:∀ kk:Later w0,kk.out.cell? ⟨x.p,5,none⟩=some (.int .u8 o.mc.a):=fun kk=>(LX kk).mac.1
  have m1:∀ kk:Later w0,kk.out.cell? ⟨x.p,6,none⟩=some (.int .u8 o.mc.b):=fun kk=>(LX kk).mac.2.1
  have m2:∀ kk:Later w0,kk.out.cell? ⟨x.p,7,none⟩=some (.int .u8 o.mc.c):=fun kk=>(LX kk).mac.2.2.1
  have m3:∀ kk:Later w0,kk.out.cell? ⟨x.p,8,none⟩=some (.int .u8 o.mc.d):=fun kk=>(LX kk).mac.2.2.2.1
  have m4:∀ kk:Later w0,kk.out.cell? ⟨x.p,9,none⟩=some (.int .u8 o.mc.e):=fun kk=>(LX kk).mac.2.2.2.2.1
  have m5:∀ kk:Later w0,kk.out.cell? ⟨x.p,10,none⟩=some (.int .u8 o.mc.f):=fun kk=>(LX kk).mac.2.2.2.2.2
  have s0:∀ kk:Later w0,kk.out.cell? ⟨B,0,none⟩=some (.int .u8 sr.a):=fun kk=>(LX kk).src.1
  have s1:∀ kk:Later w0,kk.out.cell? ⟨B,1,none⟩=some (.int .u8 sr.b):=fun kk=>(LX kk).src.2.1
  have s2:∀ kk:Later w0,kk.out.cell? ⟨B,2,none⟩=some (.int .u8 sr.c):=fun kk=>(LX kk).src.2.2.1
  have s3:∀ kk:Later w0,kk.out.cell? ⟨B,3,none⟩=some (.int .u8 sr.d):=fun kk=>(LX kk).src.2.2.2.1
  have s4:∀ kk:Later w0,kk.out.cell? ⟨B,4,none⟩=some (.int .u8 sr.e):=fun kk=>(LX kk).src.2.2.2.2.1
  have s5:∀ kk:Later w0,kk.out.cell? ⟨B,5,none⟩=some (.int .u8 sr.f):=fun kk=>(LX kk).src.2.2.2.2.2
  have d0:∀ kk:Later w0,kk.out.cell? ⟨B,6,none⟩=some (.int .u8 ds.a):=fun kk=>(LX kk).dst.1
  have d1:∀ kk:Later w0,kk.out.cell? ⟨B,7,none⟩=some (.int .u8 ds.b):=fun kk=>(LX kk).dst.2.1
  have d2:∀ kk:Later w0,kk.out.cell? ⟨B,8,none⟩=some (.int .u8 ds.c):=fun kk=>(LX kk).dst.2.2.1
  have d3:∀ kk:Later w0,kk.out.cell? ⟨B,9,none⟩=some (.int .u8 ds.d):=fun kk=>(LX kk).dst.2.2.2.1
  have d4:∀ kk:Later w0,kk.out.cell? ⟨B,10,none⟩=some (.int .u8 ds.e):=fun kk=>(LX kk).dst.2.2.2.2.1
  have d5:∀ kk:Later w0,kk.out.cell? ⟨B,11,none⟩=some (.int .u8 ds.f):=fun kk=>(LX kk).dst.2.2.2.2.2
  have LH:=hd0 LX
  clear LX
  cases D with
  | true =>
   refine wp_region_later (by kernel_rfl) (by kernel_rfl) ?_
   repeat (go_big_quiet_step (first|(go_at_call 73;exact Calls.later (GR.out _))))
   refine wpQuiet_nil ?_
   rintro _ ⟨kk,rfl⟩
   go_wp2_with fail
   go_meet
   exact⟨rfl,hd0 ⟨LH.out kk,kk.h⟩⟩
  | false =>
   refine wp_region_later (by kernel_rfl) (by kernel_rfl) ?_
   repeat (go_big_quiet_step (first|(go_at_call 73;exact Calls.later (GR.out _))))
   refine wpQuiet_nil ?_
   rintro _ ⟨kk,rfl⟩
   go_wp2_with fail
   go_meet
   exact⟨rfl,hd0 ⟨LH.out kk,kk.h⟩⟩
 case rest =>
  obtain⟨rfl,HC⟩:=hcut
  have C1:=hd0 HC.out.1
  have T1:=hd0 (T0.out.later HC.out.2)
  clear HC C0 T0 GR hne
  by_cases hdg:D=true∧G=false
  rotate_left
  ·have HZ:=hd0 (show R=([],true) by rw[HR.out,if_neg hdg])
   obtain⟨E,hE⟩:∃ E,(!D||G)=E:=⟨_,rfl⟩
   have hEt:E=true:=by
    rw[←hE]
    cases D
    ·rfl
    ·cases G
     ·exact absurd ⟨rfl,rfl⟩ hdg
     ·rfl
   rw[hE,hEt]
   clear hE hEt hdg HR
   go_wp2
   go_ret2
   exact⟨.slice none 0 0,by rw[HZ.out];rfl,by rw[HZ.out];exact Ow.none _ _,C1.out.mm,C1.out.fr⟩
  obtain⟨rfl,rfl⟩:=hdg
  have HR2:Hid (R=if e=0 then(sentR sr a1 b1 c1 f1 l1,decide (0<(sentR sr a1 b1 c1 f1 l1).length)) else([],false)):=hd0 (by rw[HR.out];rfl)
  clear HR
  have p0:=C1.out.pdu.1
  have p1:=C1.out.pdu.2.1
  have p2:=C1.out.pdu.2.2.1
  have p3:=C1.out.pdu.2.2.2.1
  have p4:=C1.out.pdu.2.2.2.2
  go_wp2_with fail
  with_reducible refine(AN.out _ T1.out).mono ?_
  rintro en w1 ⟨v1,rfl,htl,hb1⟩
  have C2:=hd0 (C1.out.later hb1)
  obtain⟨ax,cx,hvx,-⟩:=htl.tls.shape
  obtain⟨n1,hn1⟩:∃ n,l1.length=n:=⟨_,rfl⟩
  rw[hn1] at hvx
  subst hvx
  have T2:=hd0 (And.intro htl.tls hb1.size)
  clear htl hb1 C1 T1 p0 p1 p2 p3 p4 AN hn1
  by_cases he:e=0
  rotate_left
  ·have e1:(e==0)=false:=by rw[beq_eq_false_iff_ne];exact he
   have HZ:=hd0 (show R=([],false) by rw[HR2.out,if_neg he])
   clear he HR2
   go_upto_region 4 with fail
   have C3:=hd0 (C2.out.alloc (.cells #[.int .u8 a1,.int .u8 b1,.int .u8 c1,.string (bs f1),.slice ax n1 cx] 103))
   obtain⟨w2,hw2⟩:∃ z,w1.alloc (.cells #[.int .u8 a1,.int .u8 b1,.int .u8 c1,.string (bs f1),.slice ax n1 cx] 103)=z:=⟨_,rfl⟩
   rw[hw2] at C3 ⊢
   clear hw2 C2 T2
   go_wp2
   go_ret2
   exact⟨.slice none 0 0,by rw[HZ.out];rfl,by rw[HZ.out];exact Ow.none _ _,C3.out.mm,C3.out.fr⟩
  have HZ:=hd0 (show R=(sentR sr a1 b1 c1 f1 l1,decide (0<(sentR sr a1 b1 c1 f1 l1).length)) by rw[HR2.out,if_pos he])
  subst he
  clear HR2
  go_upto_region 6 with fail
  have hal:=(Below.refl w1.heap.size w1).alloc (Nat.le_refl _) (.cells #[.int .u8 a1,.int .u8 b1,.int .u8 c1,.string (bs f1),.slice ax n1 cx] 103)
  have C3:=hd0 (C2.out.later hal)
  have T3:=hd0 (T2.out.1.later hal)
  have g3:=PB.new 103 w1 a1 b1 c1 f1 (.slice ax n1 cx)
  obtain⟨w2,hw2⟩:∃ z,w1.alloc (.cells #[.int .u8 a1,.int .u8 b1,.int .u8 c1,.string (bs f1),.slice ax n1 cx] 103)=z:=⟨_,rfl⟩
  obtain⟨t,htt⟩:∃ z,w1.heap.size=z:=⟨_,rfl⟩
  rw[hw2] at C3 T3 g3 ⊢
  rw[htt] at g3 ⊢
  have q0:=g3.c0
  have q1:=g3.c1
  have q2:=g3.c2
  have q3:=g3.c3
  have q4:=g3.c4
  have s0:=C3.out.src.1
  have s1:=C3.out.src.2.1
  have s2:=C3.out.src.2.2.1
  have s3:=C3.out.src.2.2.2.1
  have s4:=C3.out.src.2.2.2.2.1
  have s5:=C3.out.src.2.2.2.2.2
  have SN:=hd0 (sent_any sr (.slice ax n1 cx) a1 b1 c1 f1 l1 w2 T3.out (by have:=HPA.out.pl;omega) (fun y hy=>by have:=HPA.out.ps y hy;unfold maxLen;omega) (by have:=HPA.out.pf;omega) HPA.out.pm HPA.out.pa HPA.out.pb HPA.out.pc)
  clear hal hw2 htt g3 C2 T2 T3
  go_wp2_with fail
  with_reducible refine SN.out.mono ?_
  rintro en w3 ⟨u,rfl,hu,hb3⟩
  have C4:=hd0 (C3.out.later hb3)
  obtain⟨S,hS⟩:∃ S,sentR sr a1 b1 c1 f1 l1=S:=⟨_,rfl⟩
  rw[hS] at hu HZ
  have HU:Hid (Ow 7 snC 55 w3 w.heap.size u S):=hd0 (Ow.mono hu C3.out.fr.size)
  obtain⟨ua,uc,rfl,-⟩:=(hu.rw snC_len).shape
  obtain⟨N,hN⟩:∃ N,S.length=N:=⟨_,rfl⟩
  have HN:=hd0 hN
  rw[hN] at HU ⊢
  clear SN C3 hb3 hu hS hN q0 q1 q2 q3 q4 s0 s1 s2 s3 s4 s5
  obtain⟨E,hE⟩:∃ E,decide (0<N)=E:=⟨_,rfl⟩
  have HE:=hd0 hE
  have d1:decide ((0:Int)<(N:Int))=E:=by rw[←hE];by_cases h:0<N <;> simp[h]
  clear hE
  go_wp2
  go_ret2
  exact⟨_,by rw[HZ.out];simp only[HN.out,HE.out];trivial,by rw[HZ.out];exact HU.out,C4.out.mm,C4.out.fr⟩
def answM (o:Ow20)(s:Ms)(ds:Mc)(a b:Int)(f:List UInt8)(l:List Th):Ms × Bool :=
 if ds=o.mc then
  (if (tkL a b f l).2.2.2.2=0∧s.lp≠0∧(tkL a b f l).2.2.1=s.lp then(if (tkL a b f l).2.2.2.1=s.dat then { s with rep:=s.rep+1,ali:=s.ali+1 } else { s with rep:=s.rep+1 }) else s,decide ((tkL a b f l).2.2.2.2=0))
 else(s,true)
theorem mansw_any (o:Ow20)(ov:Value)(x:Mp)(s:Ms)(wv:Value)(sr ds:Mc)(a b c:Int)(f:List UInt8)(v:Value)(l:List Th)(w:World)(h:MM w o ov x s wv)
  (hp:PdB a b c f l) (hv:Tls w v l) (hrb:0≤s.rep∧s.rep≤1000000) (hab:0≤s.ali∧s.ali≤1000000):Calls Tryz.prog 97 #[.pointer (some ⟨x.p,0,none⟩),.agg #[.int .u8 sr.a,.int .u8 sr.b,.int .u8 sr.c,.int .u8 sr.d,.int .u8 sr.e,.int .u8 sr.f,.int .u8 ds.a,.int .u8 ds.b,.int .u8 ds.c,.int .u8 ds.d,.int .u8 ds.e,.int .u8 ds.f,.int .u8 a,.int .u8 b,.int .u8 c,.string (bs f),v]] w fun en w' =>
  en=.returned (.tuple #[.slice none 0 0,.bool (answM o s ds a b f l).2])∧MM w' o ov x (answM o s ds a b f l).1 wv∧Fr (x.D wv) w w':=by
 have HP:=hd0 hp
 have HV:=hd0 hv
 have H0:=hd0 h
 obtain⟨⟨lv,rp,nm,dt,e⟩,ht⟩:∃ z,tkL a b f l=z:=⟨_,rfl⟩
 have TK:Hid (∀ W,Tls W v l→Calls Tryz.prog 126 #[.agg #[.int .u8 a,.int .u8 b,.int .u8 c,.string (bs f),v]] W fun en w'=>en=.returned (.tuple #[.agg #[.int .u8 lv,.bool rp,.int .u32 nm,.string (bs dt)],.int .i64 e])∧Below W.heap.size W w'):=hd0 fun W hW=>by
  have h:=lbtake_any v l a b c f W HP.out.pf HP.out.pb hW HP.out.pl
  rw[ht] at h;exact h
 obtain⟨D,hD⟩:∃ D,decide (ds=o.mc)=D:=⟨_,rfl⟩
 obtain⟨R,hR⟩:∃ R,answM o s ds a b f l=R:=⟨_,rfl⟩
 have HR:Hid (R=if D=true then(if e=0∧s.lp≠0∧nm=s.lp then(if dt=s.dat then { s with rep:=s.rep+1,ali:=s.ali+1 } else { s with rep:=s.rep+1 }) else s,decide (e=0)) else(s,true)):=hd0 (by
  rw[←hR];unfold answM;rw[ht,← hD];simp only[decide_eq_true_eq])
 have hne:∀ W:World,(binOp .neq 25 (.agg #[.int .u8 ds.a,.int .u8 ds.b,.int .u8 ds.c,.int .u8 ds.d,.int .u8 ds.e,.int .u8 ds.f]) (.agg #[.int .u8 o.mc.a,.int .u8 o.mc.b,.int .u8 o.mc.c,.int .u8 o.mc.d,.int .u8 o.mc.e,.int .u8 o.mc.f])).run Tryz.prog W=.ok (.bool (!D)) W:=fun W=>by rw[←hD];exact neq_macG ds o.mc W
 rw[hR]
 have C0:=hd0 (CM.box h #[.int .u8 sr.a,.int .u8 sr.b,.int .u8 sr.c,.int .u8 sr.d,.int .u8 sr.e,.int .u8 sr.f,.int .u8 ds.a,.int .u8 ds.b,.int .u8 ds.c,.int .u8 ds.d,.int .u8 ds.e,.int .u8 ds.f,.int .u8 a,.int .u8 b,.int .u8 c,.string (bs f),v])
 have HNB:=hd0 (And.intro hrb hab)
 clear hR ht h hp hv hD hrb hab
 go_enter Tryz.func97,Tryz.ntmps97
 go_upto_region 1 with fail
 have hb0:Below w.heap.size w (w.alloc (.cells #[.int .u8 sr.a,.int .u8 sr.b,.int .u8 sr.c,.int .u8 sr.d,.int .u8 sr.e,.int .u8 sr.f,.int .u8 ds.a,.int .u8 ds.b,.int .u8 ds.c,.int .u8 ds.d,.int .u8 ds.e,.int .u8 ds.f,.int .u8 a,.int .u8 b,.int .u8 c,.string (bs f),v] 142)):=bA _
 obtain⟨w0,hw0⟩:∃ z,w.alloc (.cells #[.int .u8 sr.a,.int .u8 sr.b,.int .u8 sr.c,.int .u8 sr.d,.int .u8 sr.e,.int .u8 sr.f,.int .u8 ds.a,.int .u8 ds.b,.int .u8 ds.c,.int .u8 ds.d,.int .u8 ds.e,.int .u8 ds.f,.int .u8 a,.int .u8 b,.int .u8 c,.string (bs f),v] 142)=z:=⟨_,rfl⟩
 obtain⟨B,hBB⟩:∃ z,w.heap.size=z:=⟨_,rfl⟩
 have HB:=hd0 hBB
 rw[hw0] at C0 hb0 ⊢
 rw[hBB] at C0 ⊢
 have T0:=hd0 (HV.out.later hb0)
 clear hw0 hBB hb0 HV
 go_cut [15] (fun s15 wx=>s15=.bool (!D)∧Hid (CM w wx o ov x s wv B #[.int .u8 sr.a,.int .u8 sr.b,.int .u8 sr.c,.int .u8 sr.d,.int .u8 sr.e,.int .u8 sr.f,.int .u8 ds.a,.int .u8 ds.b,.int .u8 ds.c,.int .u8 ds.d,.int .u8 ds.e,.int .u8 ds.f,.int .u8 a,.int .u8 b,.int .u8 c,.string (bs f),v]∧Below w0.heap.size w0 wx))
 case first =>
  have LX:∀ kk:Later w0,CM w kk.out o ov x s wv B #[.int .u8 sr.a,.int .u8 sr.b,.int .u8 sr.c,.int .u8 sr.d,.int .u8 sr.e,.int .u8 sr.f,.int .u8 ds.a,.int .u8 ds.b,.int .u8 ds.c,.int .u8 ds.d,.int .u8 ds.e,.int .u8 ds.f,.int .u8 a,.int .u8 b,.int .u8 c,.string (bs f),v]:=fun kk=>C0.out.later kk.h
  have m0:∀ kk:Later w0,kk.out.cell? ⟨x.p,5,none⟩=some (.int .u8 o.mc.a):=fun kk=>(LX kk).mac.1
  have m1:∀ kk:Later w0,kk.out.cell? ⟨x.p,6,none⟩=some (.int .u8 o.mc.b):=fun kk=>(LX kk).mac.2.1
  have m2:∀ kk:Later w0,kk.out.cell? ⟨x.p,7,none⟩=some (.int .u8 o.mc.c):=fun kk=>(LX kk).mac.2.2.1
  have m3:∀ kk:Later w0,kk.out.cell? ⟨x.p,8,none⟩=some (.int .u8 o.mc.d):=fun kk=>(LX kk).mac.2.2.2.1
  have m4:∀ kk:Later w0,kk.out.cell? ⟨x.p,9,none⟩=some (.int .u8 o.mc.e):=fun kk=>(LX kk).mac.2.2.2.2.1
  have m5:∀ kk:Later w0,kk.out.cell? ⟨x.p,10,none⟩=some (.int .u8 o.mc.f):=fun kk=>(LX kk).mac.2.2.2.2.2
  have d0:∀ kk:Later w0,kk.out.cell? ⟨B,6,none⟩=some (.int .u8 ds.a):=fun kk=>(LX kk).dst.1
  have d1:∀ kk:Later w0,kk.out.cell? ⟨B,7,none⟩=some (.int .u8 ds.b):=fun kk=>(LX kk).dst.2.1
  have d2:∀ kk:Later w0,kk.out.cell? ⟨B,8,none⟩=some (.int .u8 ds.c):=fun kk=>(LX kk).dst.2.2.1
  have d3:∀ kk:Later w0,kk.out.cell? ⟨B,9,none⟩=some (.int .u8 ds.d):=fun kk=>(LX kk).dst.2.2.2.1
  have d4:∀ kk:Later w0,kk.out.cell? ⟨B,10,none⟩=some (.int .u8 ds.e):=fun kk=>(LX kk).dst.2.2.2.2.1
  have d5:∀ kk:Later w0,kk.out.cell? ⟨B,11,none⟩=some (.int .u8 ds.f):=fun kk=>(LX kk).dst.2.2.2.2.2
  have LH:=hd0 LX
  clear LX
  refine wp_region_later (by kernel_rfl) (by kernel_rfl) ?_
  repeat (go_big_quiet_step (fail))
  refine wpQuiet_nil ?_
  rintro _ ⟨kk,rfl⟩
  go_wp2_with fail
  go_meet
  exact⟨rfl,hd0 ⟨LH.out kk,kk.h⟩⟩
 case rest =>
  obtain⟨rfl,HC⟩:=hcut
  have C1:=hd0 HC.out.1
  have T1:=hd0 (T0.out.later HC.out.2)
  clear HC C0 T0 hne
  cases D with
  | false =>
   have HZ:=hd0 (show R=(s,true) by rw[HR.out];rfl)
   clear HR
   go_wp2
   go_ret2
   exact⟨by rw[HZ.out];rfl,by rw[HZ.out];exact C1.out.mm,C1.out.fr⟩
  | true =>
   have HR2:=hd0 (show R=(if e=0∧s.lp≠0∧nm=s.lp then(if dt=s.dat then { s with rep:=s.rep+1,ali:=s.ali+1 } else { s with rep:=s.rep+1 }) else s,decide (e=0)) by rw[HR.out];rfl)
   clear HR
   have p0:=C1.out.pdu.1
   have p1:=C1.out.pdu.2.1
   have p2:=C1.out.pdu.2.2.1
   have p3:=C1.out.pdu.2.2.2.1
   have p4:=C1.out.pdu.2.2.2.2
   go_wp2_with fail
   with_reducible refine(TK.out _ T1.out).mono ?_
   rintro en w1 ⟨rfl,hb1⟩
   have C2:=hd0 (C1.out.later hb1)
   clear hb1 C1 T1 p0 p1 p2 p3 p4 TK
   go_upto_region 4 with fail
   have g3:=LB.new 125 w1 lv rp nm dt
   have C3:=hd0 (C2.out.alloc (.cells #[.int .u8 lv,.bool rp,.int .u32 nm,.string (bs dt)] 125))
   obtain⟨w2,hw2⟩:∃ z,w1.alloc (.cells #[.int .u8 lv,.bool rp,.int .u32 nm,.string (bs dt)] 125)=z:=⟨_,rfl⟩
   obtain⟨t,htt⟩:∃ z,w1.heap.size=z:=⟨_,rfl⟩
   rw[hw2] at C3 g3 ⊢
   have HT:=hd0 (CM.notD H0.out (k:=t) (by rw[←htt];exact C2.out.fr.size))
   rw[htt] at g3 ⊢
   have G3:=hd0 g3
   clear hw2 htt g3 C2
   obtain⟨E,hE⟩:∃ E,decide (e=0)=E:=⟨_,rfl⟩
   have e1:(e==0)=E:=by rw[←hE];by_cases h:e=0 <;> simp[h]
   obtain⟨LP,hLP⟩:∃ z,s.lp=z:=⟨_,rfl⟩
   obtain⟨V,hV⟩:∃ V,(decide (e=0)&&(!decide (LP=0)&&decide (nm=LP)))=V:=⟨_,rfl⟩
   have HVV:=hd0 hV
   go_cut [39] (fun s39 wx=>s39=.bool V∧Hid (CM w wx o ov x s wv B #[.int .u8 sr.a,.int .u8 sr.b,.int .u8 sr.c,.int .u8 sr.d,.int .u8 sr.e,.int .u8 sr.f,.int .u8 ds.a,.int .u8 ds.b,.int .u8 ds.c,.int .u8 ds.d,.int .u8 ds.e,.int .u8 ds.f,.int .u8 a,.int .u8 b,.int .u8 c,.string (bs f),v]∧LB 125 wx t lv rp nm dt))
   case first =>
    have c17:∀ kk:Later w2,kk.out.cell? ⟨x.p,17,none⟩=some (.int .u32 LP):=fun kk=>by rw[←hLP];exact(C3.out.later kk.h).mm.clpx
    have cn:∀ kk:Later w2,kk.out.cell? ⟨t,2,none⟩=some (.int .u32 nm):=fun kk=>(G3.out.later kk.h).c2
    have LH:=hd0 (fun kk:Later w2=>And.intro (C3.out.later kk.h) (G3.out.later kk.h))
    clear hLP
    by_cases h1:e=0
    ·have e0:(e==0)=true:=by rw[h1];rfl
     by_cases h2:LP=0
     ·have e2:(LP != 0)=false:=by rw[h2];rfl
      have HZ:=hd0 (show V=false by rw[←HVV.out,decide_eq_true h2];simp)
      clear h1 h2 hV hE e1
      refine wp_region_later (by kernel_rfl) (by kernel_rfl) ?_
      repeat (go_big_quiet_step (fail))
      refine wpQuiet_nil ?_
      rintro _ ⟨kk,rfl⟩
      go_wp2_with fail
      go_meet
      exact⟨by rw[HZ.out],hd0 (LH.out kk)⟩
     ·have e2:(LP != 0)=true:=by rw[bne_iff_ne];exact h2
      obtain⟨N,hN⟩:∃ N,(nm==LP)=N:=⟨_,rfl⟩
      have HZ:=hd0 (show V=N by rw[←HVV.out,decide_eq_true h1,decide_eq_false h2,← hN];by_cases h:nm=LP <;> simp[h])
      clear h1 h2 hV hE e1
      refine wp_region_later (by kernel_rfl) (by kernel_rfl) ?_
      repeat (go_big_quiet_step (fail))
      refine wpQuiet_nil ?_
      rintro _ ⟨kk,rfl⟩
      go_wp2_with fail
      go_meet
      exact⟨by rw[HZ.out],hd0 (LH.out kk)⟩
    ·have e0:(e==0)=false:=by rw[beq_eq_false_iff_ne];exact h1
     have HZ:=hd0 (show V=false by rw[←HVV.out,decide_eq_false h1];simp)
     clear h1 hV hE e1
     refine wp_region_later (by kernel_rfl) (by kernel_rfl) ?_
     repeat (go_big_quiet_step (fail))
     refine wpQuiet_nil ?_
     rintro _ ⟨kk,rfl⟩
     go_wp2_with fail
     go_meet
     exact⟨by rw[HZ.out],hd0 (LH.out kk)⟩
   case rest =>
    obtain⟨rfl,HC⟩:=hcut
    have C4:=hd0 HC.out.1
    have G4:=hd0 HC.out.2
    have HRV:Hid (R=(if V=true then(if dt=s.dat then { s with rep:=s.rep+1,ali:=s.ali+1 } else { s with rep:=s.rep+1 }) else s,E)):=hd0 (by
     rw[HR2.out,← HVV.out,← hE,← hLP]
     congr 1
     by_cases h1:e=0 <;> by_cases h2:s.lp=0 <;> by_cases h3:nm=s.lp <;> simp[h1,h2,h3])
    clear HC C3 G3 HR2 hLP hV HVV hE
    cases V with
    | false =>
     have HZ:=hd0 (show R=(s,E) by rw[HRV.out];rfl)
     clear HRV
     go_wp2
     go_ret2
     exact⟨by first|(rw[HZ.out];done)|(rw[HZ.out];rfl),by rw[HZ.out];exact C4.out.mm,C4.out.fr⟩
    | true =>
     have HZ:=hd0 (show R=(if dt=s.dat then { s with rep:=s.rep+1,ali:=s.ali+1 } else { s with rep:=s.rep+1 },E) by rw[HRV.out];rfl)
     clear HRV
     have c19:wc.cell? ⟨x.p,19,none⟩=some (.int .i64 s.rep):=C4.out.mm.crep
     have f19:=C4.out.mm.fz 19
     have hrb:=HNB.out.1
     go_upto_region 6 with fail
     have C5:Hid (CM w (wc.setCell ⟨x.p,19,none⟩ (.int .i64 (s.rep+1))) o ov x { s with rep:=s.rep+1 } wv B #[.int .u8 sr.a,.int .u8 sr.b,.int .u8 sr.c,.int .u8 sr.d,.int .u8 sr.e,.int .u8 sr.f,.int .u8 ds.a,.int .u8 ds.b,.int .u8 ds.c,.int .u8 ds.d,.int .u8 ds.e,.int .u8 ds.f,.int .u8 a,.int .u8 b,.int .u8 c,.string (bs f),v]):=hd0
      ⟨C4.out.mm.sRep _,C4.out.cb.other (fun e=>CM.notD H0.out (k:=B) C4.out.lb (.inl e.symm)) _,C4.out.fr.trans (.set (.inl rfl) _ _),C4.out.lb⟩
     have G5:Hid (LB 125 (wc.setCell ⟨x.p,19,none⟩ (.int .i64 (s.rep+1))) t lv rp nm dt):=hd0 (by
      unfold LB;rw[Below.heap_setCell _ _ _ _ (by intro e;exact HT.out (.inl e))];exact G4.out)
     obtain⟨w5,hw5⟩:∃ z,wc.setCell ⟨x.p,19,none⟩ (.int .i64 (s.rep+1))=z:=⟨_,rfl⟩
     rw[hw5] at C5 G5 ⊢
     clear hw5 c19 f19 C4 G4 hrb
     obtain⟨s2,hs2⟩:∃ z,({ s with rep:=s.rep+1 } : Ms)=z:=⟨_,rfl⟩
     have ES:Hid (s2.dat=s.dat∧s2.ali=s.ali∧({ s with rep:=s.rep+1,ali:=s.ali+1 } : Ms)={ s2 with ali:=s.ali+1 }):=hd0 (by rw[←hs2];exact⟨rfl,rfl,rfl⟩)
     rw[ES.out.2.2,hs2] at HZ
     rw[hs2] at C5
     clear hs2
     have hst:=bs_tl_eq dt s.dat
     obtain⟨S,hS⟩:∃ S,decide (dt=s.dat)=S:=⟨_,rfl⟩
     rw[hS] at hst
     have HS:=hd0 hS
     clear hS
     obtain⟨DT,hDT⟩:∃ z,s.dat=z:=⟨_,rfl⟩
     rw[hDT] at hst
     go_cut [53] (fun s53 wx=>s53=.bool S∧Hid (CM w wx o ov x s2 wv B #[.int .u8 sr.a,.int .u8 sr.b,.int .u8 sr.c,.int .u8 sr.d,.int .u8 sr.e,.int .u8 sr.f,.int .u8 ds.a,.int .u8 ds.b,.int .u8 ds.c,.int .u8 ds.d,.int .u8 ds.e,.int .u8 ds.f,.int .u8 a,.int .u8 b,.int .u8 c,.string (bs f),v]))
     case first =>
      have c18:∀ kk:Later w5,kk.out.cell? ⟨x.p,18,none⟩=some (.string (bs DT)):=fun kk=>by rw[←hDT,← ES.out.1];exact(C5.out.later kk.h).mm.cdat
      have cn:∀ kk:Later w5,kk.out.cell? ⟨t,3,none⟩=some (.string (bs dt)):=fun kk=>(G5.out.later kk.h).c3
      clear hDT
      refine wp_region_later (by kernel_rfl) (by kernel_rfl) ?_
      repeat (go_big_quiet_step (fail))
      refine wpQuiet_nil ?_
      rintro _ ⟨kk,rfl⟩
      go_wp2_with fail
      go_meet
      exact⟨by trivial,hd0 (C5.out.later kk.h)⟩
     case rest =>
      obtain⟨rfl,HC⟩:=hcut
      clear C5 G5 hst hDT
      cases S with
      | false =>
       have HZ2:=hd0 (show R=(s2,E) by rw[HZ.out,if_neg (of_decide_eq_false HS.out)])
       clear HZ
       go_wp2
       go_ret2
       exact⟨by first|(rw[HZ2.out];done)|(rw[HZ2.out];rfl),by rw[HZ2.out];exact HC.out.mm,HC.out.fr⟩
      | true =>
       have HZ2:=hd0 (show R=({ s2 with ali:=s.ali+1 },E) by rw[HZ.out,if_pos (of_decide_eq_true HS.out)])
       clear HZ
       obtain⟨AL,hAL⟩:∃ z,s.ali=z:=⟨_,rfl⟩
       have c20:wc.cell? ⟨x.p,20,none⟩=some (.int .i64 AL):=by rw[←hAL,← ES.out.2.1];exact HC.out.mm.cali
       have f20:=HC.out.mm.fz 20
       have hab:0≤AL∧AL≤1000000:=by rw[←hAL];exact HNB.out.2
       rw[hAL] at HZ2
       clear hAL
       go_wp2
       go_ret2
       exact⟨by first|(rw[HZ2.out];done)|(rw[HZ2.out];rfl),by rw[HZ2.out];exact HC.out.mm.sAli _,HC.out.fr.trans (.set (.inl rfl) _ _)⟩
end Go.Proofs.YtlkdfofpnmpidaaGreat
