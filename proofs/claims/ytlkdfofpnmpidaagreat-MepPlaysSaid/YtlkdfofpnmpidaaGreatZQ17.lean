/- ZQ17 -/
import Derived.Test.YtlkdfofpnmpidaaGreatZQ16
set_option linter.unusedVariables false
set_option linter.unusedSimpArgs false
set_option maxRecDepth 100000
set_option maxHeartbeats 16000000
namespace Go.Proofs.YtlkdfofpnmpidaaGreat
open Go.RowKit
theorem RQ.cells {w:World}{x:Nat}{l f:List UInt8}{e a b c:Int}{v:Value}{q:Nat}(hq:x<q):∀ (vs:List Value) (o:Nat) (W:World),RQ w W x l e a b c f v→RQ w (W.setCells q o vs) x l e a b c f v
 |[],_,_,h=>h
 | u::r,o,W,h=>RQ.cells hq r (o+1) _ (h.set hq u)
def NR (W:World)(x q:Nat):Prop:=GB 81 W q #[.int .u8 0,.int .u32 0,.int .u8 0,.bool false,.bool false,.int .u8 0,.int .u8 0,.int .u8 0,.int .u8 0,.int .u8 0,.int .u8 0,.int .u8 0,.int .u8 0,.int .u8 0,.int .u8 0,.int .u8 0,.int .u8 0]∧x<q
theorem NR.new (W:World){x:Nat}(h:x<W.heap.size):NR (W.alloc (.cells yR 81)) x W.heap.size:=⟨GB.new _ _ _,h⟩
theorem NR.only {W W':World}{x q:Nat}(h:NR W x q)(ho:Only x W W'):NR W' x q:=⟨h.1.only ho (by have:=h.2;omega),h.2⟩
theorem NR.drew {W:World}{x q:Nat}(h:NR W x q):NR W.drew x q:=⟨h.1.drew,h.2⟩
structure SQ (w W:World)(x q:Nat)(l:List UInt8)(e a b c:Int)(f:List UInt8)(v:Value)(A:Array Value):Prop where
 rq:RQ w W x l e a b c f v
 g:GB 81 W q A
 hq:x<q
section
variable {w W W':World} {x q:Nat} {l l' f:List UInt8} {e e' a b c:Int} {v:Value} {A:Array Value}
theorem SQ.later (h:SQ w W x q l e a b c f v A)(hb:Below W.heap.size W W'):SQ w W' x q l e a b c f v A:=⟨h.rq.later hb,h.g.later hb,h.hq⟩
theorem SQ.alloc (h:SQ w W x q l e a b c f v A)(o:Obj):SQ w (W.alloc o) x q l e a b c f v A:=h.later (bA o)
theorem SQ.drew (h:SQ w W x q l e a b c f v A):SQ w W.drew x q l e a b c f v A:=h.later (Below.refl _ _).drew
theorem SQ.next (h:SQ w W x q l e a b c f v A)(hr:Rd W' x l' e')(ho:Only x W W'):SQ w W' x q l' e' a b c f v A:=⟨h.rq.next hr ho,h.g.only ho (by have:=h.hq;omega),h.hq⟩
theorem SQ.set (h:SQ w W x q l e a b c f v A){O o:Nat}(hO:q<O)(u:Value):SQ w (W.setCell ⟨O,o,none⟩ u) x q l e a b c f v A:=⟨h.rq.set (by have:=h.hq;omega) u,h.g.other (by omega) u,h.hq⟩
theorem SQ.sat (h:SQ w W x q l e a b c f v A):W.rangeAt q 0 A.toList∧W.cell? ⟨w.heap.size,1,none⟩=some (.int .u8 b):=⟨h.g.range,h.rq.pb.c1⟩
theorem SQ.hlt (h:SQ w W x q l e a b c f v A):q<W.heap.size:=h.g.lt
end
structure OB (W:World)(q O:Nat)(ok:Bool):Prop where
 g:GB 4 W O #[.bool ok]
 lt:q<O
section
variable {W W':World} {q O:Nat} {ok:Bool}
theorem OB.newv (W:World)(ok:Bool)(h:q<W.heap.size):OB (W.alloc (.cells #[.bool ok] 4)) q W.heap.size ok:=⟨GB.new _ _ _,h⟩
theorem OB.new (W:World)(h:q<W.heap.size):OB (W.alloc (.cells #[.bool false] 4)) q W.heap.size false:=OB.newv W false h
theorem OB.drew (h:OB W q O ok):OB W.drew q O ok:=⟨h.g.drew,h.lt⟩
theorem OB.later (h:OB W q O ok)(hb:Below W.heap.size W W'):OB W' q O ok:=⟨h.g.later hb,h.lt⟩
theorem OB.only {x:Nat}(h:OB W q O ok)(ho:Only x W W')(hx:x<q):OB W' q O ok:=⟨h.g.only ho (by have:=h.lt;omega),h.lt⟩
theorem OB.setB (h:OB W q O ok)(d:Bool):OB (W.setCell ⟨O,0,none⟩ (.bool d)) q O d:=⟨GB.setB h.g d,h.lt⟩
end
structure FQ (w W:World)(q O:Nat)(r:Rp)(a b c:Int)(f:List UInt8)(v:Value)(ok:Bool):Prop where
 pb:PB 103 W w.heap.size a b c f v
 pz:GB 81 W (w.heap.size+1) #[.int .u8 0,.int .u32 0,.int .u8 0,.bool false,.bool false,.int .u8 0,.int .u8 0,.int .u8 0,.int .u8 0,.int .u8 0,.int .u8 0,.int .u8 0,.int .u8 0,.int .u8 0,.int .u8 0,.int .u8 0,.int .u8 0]
 g:GB 81 W q #[.int .u8 r.lv,.int .u32 r.nm,.int .u8 r.tl,.bool r.st,.bool r.en,.int .u8 r.mi.a,.int .u8 r.mi.b,.int .u8 r.mi.c,.int .u8 r.mi.d,.int .u8 r.mi.e,.int .u8 r.mi.f,.int .u8 r.mo.a,.int .u8 r.mo.b,.int .u8 r.mo.c,.int .u8 r.mo.d,.int .u8 r.mo.e,.int .u8 r.mo.f]
 o:GB 4 W O #[.bool ok]
 bel:Below w.heap.size w W
 hq:w.heap.size+1<q
 hO:q<O
section
variable {w W W':World} {q O x:Nat} {r:Rp} {l f:List UInt8} {e a b c:Int} {v:Value} {ok ok' OK:Bool} {A:Array Value}
theorem FQ.mk' (h:SQ w W x q l e a b c f v A)(ho:OB W q O ok)(hA:A=#[.int .u8 r.lv,.int .u32 r.nm,.int .u8 r.tl,.bool r.st,.bool r.en,.int .u8 r.mi.a,.int .u8 r.mi.b,.int .u8 r.mi.c,.int .u8 r.mi.d,.int .u8 r.mi.e,.int .u8 r.mi.f,.int .u8 r.mo.a,.int .u8 r.mo.b,.int .u8 r.mo.c,.int .u8 r.mo.d,.int .u8 r.mo.e,.int .u8 r.mo.f])(hk:OK=ok):FQ w W q O r a b c f v OK :=
 ⟨h.rq.pb,h.rq.pz,by rw[←hA];exact h.g,by rw[hk];exact ho.g,h.rq.bel,by have:=h.rq.hx;have:=h.hq;omega,ho.lt⟩
theorem FQ.ask (h:FQ w W q O r a b c f v ok)(hg:GB 4 W' O #[.bool ok'])(ho:Only O W W'):FQ w W' q O r a b c f v ok' :=
 ⟨h.pb.only ho (by have:=h.hq;have:=h.hO;omega),h.pz.only ho (by have:=h.hq;have:=h.hO;omega),h.g.only ho (by have:=h.hO;omega),hg,h.bel.trans (ho.below (by have:=h.hq;have:=h.hO;omega) h.bel.size),h.hq,h.hO⟩
theorem FQ.setI (h:FQ w W q O r a b c f v ok)(m:Mc):FQ w ((((((W.setCell ⟨q,5,none⟩ (.int .u8 m.a)).setCell ⟨q,6,none⟩ (.int .u8 m.b)).setCell ⟨q,7,none⟩ (.int .u8 m.c)).setCell ⟨q,8,none⟩ (.int .u8 m.d)).setCell ⟨q,9,none⟩ (.int .u8 m.e)).setCell ⟨q,10,none⟩ (.int .u8 m.f)) q O ⟨r.lv,r.nm,r.tl,r.st,r.en,m,r.mo⟩ a b c f v ok:=by
 have hq:=h.hq
 have hO:=h.hO
 refine⟨?_,?_,?_,?_,?_,hq,hO⟩
 ·exact(((((h.pb.other (by omega) _).other (by omega) _).other (by omega) _).other (by omega) _).other (by omega) _).other (by omega) _
 ·exact(((((h.pz.other (by omega) _).other (by omega) _).other (by omega) _).other (by omega) _).other (by omega) _).other (by omega) _
 ·have hg:=h.g
  unfold GB at *
  simp[World.setCell,Array.getElem?_modify,hg]
 ·exact(((((h.o.other (by omega) _).other (by omega) _).other (by omega) _).other (by omega) _).other (by omega) _).other (by omega) _
 ·exact below_set (below_set (below_set (below_set (below_set (below_set h.bel (by omega) _) (by omega) _) (by omega) _) (by omega) _) (by omega) _) (by omega) _
theorem FQ.setO (h:FQ w W q O r a b c f v ok)(m:Mc):FQ w ((((((W.setCell ⟨q,11,none⟩ (.int .u8 m.a)).setCell ⟨q,12,none⟩ (.int .u8 m.b)).setCell ⟨q,13,none⟩ (.int .u8 m.c)).setCell ⟨q,14,none⟩ (.int .u8 m.d)).setCell ⟨q,15,none⟩ (.int .u8 m.e)).setCell ⟨q,16,none⟩ (.int .u8 m.f)) q O ⟨r.lv,r.nm,r.tl,r.st,r.en,r.mi,m⟩ a b c f v ok:=by
 have hq:=h.hq
 have hO:=h.hO
 refine⟨?_,?_,?_,?_,?_,hq,hO⟩
 ·exact(((((h.pb.other (by omega) _).other (by omega) _).other (by omega) _).other (by omega) _).other (by omega) _).other (by omega) _
 ·exact(((((h.pz.other (by omega) _).other (by omega) _).other (by omega) _).other (by omega) _).other (by omega) _).other (by omega) _
 ·have hg:=h.g
  unfold GB at *
  simp[World.setCell,Array.getElem?_modify,hg]
 ·exact(((((h.o.other (by omega) _).other (by omega) _).other (by omega) _).other (by omega) _).other (by omega) _).other (by omega) _
 ·exact below_set (below_set (below_set (below_set (below_set (below_set h.bel (by omega) _) (by omega) _) (by omega) _) (by omega) _) (by omega) _) (by omega) _
end
theorem lttakeR_any (v:Value)(l:List Th)(a b c:Int)(f:List UInt8)(w:World)(hf:f.length≤1000)(hc:0≤c∧c<256)(hv:Tls w v l)(hl:l.length≤1000)(hs:∀ x∈l,x.2.length≤100000):Calls Tryz.prog 129 #[.agg #[.int .u8 a,.int .u8 b,.int .u8 c,.string (bs f),v]] w fun en w' =>
  en=.returned (.tuple #[.agg #[.int .u8 (tkRp a b c f l).1.lv,.int .u32 (tkRp a b c f l).1.nm,.int .u8 (tkRp a b c f l).1.tl,.bool (tkRp a b c f l).1.st,.bool (tkRp a b c f l).1.en,.int .u8 (tkRp a b c f l).1.mi.a,.int .u8 (tkRp a b c f l).1.mi.b,.int .u8 (tkRp a b c f l).1.mi.c,.int .u8 (tkRp a b c f l).1.mi.d,.int .u8 (tkRp a b c f l).1.mi.e,.int .u8 (tkRp a b c f l).1.mi.f,.int .u8 (tkRp a b c f l).1.mo.a,.int .u8 (tkRp a b c f l).1.mo.b,.int .u8 (tkRp a b c f l).1.mo.c,.int .u8 (tkRp a b c f l).1.mo.d,.int .u8 (tkRp a b c f l).1.mo.e,.int .u8 (tkRp a b c f l).1.mo.f],.int .i64 (tkRp a b c f l).2])∧Below w.heap.size w w':=by
 obtain⟨vx,vk,hvv,-⟩:=hv.shape
 obtain⟨vn,hvn⟩:∃ n,l.length=n:=⟨_,rfl⟩
 rw[hvn] at hvv
 subst hvv
 obtain⟨R,hR⟩:∃ R,tkRp a b c f l=R:=⟨_,rfl⟩
 rw[hR]
 obtain⟨nm,l1,e1,h1⟩:∃ y l e,numOf (tr1 f).1=y∧(tr1 f).2.1=l∧(tr1 f).2.2=e:=⟨_,_,_,rfl,rfl,rfl⟩
 obtain⟨tl,l2,e2,h2⟩:∃ y l e,numOf (tr2 f).1=y∧(tr2 f).2.1=l∧(tr2 f).2.2=e:=⟨_,_,_,rfl,rfl,rfl⟩
 obtain⟨kd,l3,e3,h3⟩:∃ y l e,numOf (tr3 f).1=y∧(tr3 f).2.1=l∧(tr3 f).2.2=e:=⟨_,_,_,rfl,rfl,rfl⟩
 obtain⟨l5,E,h5⟩:∃ l e,(rdEnd l3 e3).1=l∧(rdEnd l3 e3).2=e:=⟨_,_,rfl,rfl⟩
 have q2:rdText l1 e1 1=tr2 f:=by unfold tr2;rw[h1.2.1,h1.2.2]
 have q3:rdText l2 e2 1=tr3 f:=by unfold tr3;rw[h2.2.1,h2.2.2]
 have hE:trE f=E:=by unfold trE;rw[h3.2.1,h3.2.2,h5.2]
 have n1:l1.length≤f.length:=by have:=rd_le f 0 4;rw[show rdText f 0 4=tr1 f from rfl,h1.2.1] at this;exact this
 have n2:l2.length≤l1.length:=by have:=rd_le l1 e1 1;rw[q2,h2.2.1] at this;exact this
 have n3:l3.length≤l2.length:=by have:=rd_le l2 e2 1;rw[q3,h3.2.1] at this;exact this
 have U1:Hid (∀ w p,Rd w p f 0→Calls Tryz.prog 139 #[.pointer (some ⟨p,0,none⟩)] w fun en w'=>en=.returned (.int .u32 nm)∧Rd w' p l1 e1∧Only p w w'):=fun w p hr=>by
  have h:=U32_any p f 0 w hr (by omega)
  rw[show rdText f 0 4=tr1 f from rfl,h1.1,h1.2.1,h1.2.2] at h;exact h
 have U2:Hid (∀ w p,Rd w p l1 e1→Calls Tryz.prog 90 #[.pointer (some ⟨p,0,none⟩)] w fun en w'=>en=.returned (.int .u8 tl)∧Rd w' p l2 e2∧Only p w w'):=fun w p hr=>by
  have h:=U8_any p l1 e1 w hr (by omega)
  rw[q2,h2.1,h2.2.1,h2.2.2] at h;exact h
 have U3:Hid (∀ w p,Rd w p l2 e2→Calls Tryz.prog 90 #[.pointer (some ⟨p,0,none⟩)] w fun en w'=>en=.returned (.int .u8 kd)∧Rd w' p l3 e3∧Only p w w'):=fun w p hr=>by
  have h:=U8_any p l2 e2 w hr (by omega)
  rw[q3,h3.1,h3.2.1,h3.2.2] at h;exact h
 have U5:Hid (∀ w p,Rd w p l3 e3→Calls Tryz.prog 140 #[.pointer (some ⟨p,0,none⟩)] w fun en w'=>en=.returned (.int .i64 E)∧Rd w' p l5 E∧Only p w w'):=fun w p hr=>by
  have h:=end_any p l3 e3 w hr (by omega)
  rw[h5.1,h5.2] at h;exact h
 obtain⟨st,hst⟩:∃ y:Bool,decide (c / 64 % 2=1)=y:=⟨_,rfl⟩
 obtain⟨en,hen⟩:∃ y:Bool,decide (c / 32 % 2=1)=y:=⟨_,rfl⟩
 have a64:=and_64 c hc.1 hc.2
 have a32:=and_32 c hc.1 hc.2
 have g64:(c / 64 % 2*64 != 0)=st:=by
  rw[←hst]
  by_cases h:c / 64 % 2=1
  ·rw[decide_eq_true h,h];rfl
  ·rw[decide_eq_false h];have:c / 64 % 2=0:=by omega
   rw[this];rfl
 have g32:(c / 32 % 2*32 != 0)=en:=by
  rw[←hen]
  by_cases h:c / 32 % 2=1
  ·rw[decide_eq_true h,h];rfl
  ·rw[decide_eq_false h];have:c / 32 % 2=0:=by omega
   rw[this];rfl
 have HRR:=hd0 (show R=if kd=(if en=true then 1 else 2)∧E=0∧b=4∧(prtT l 5).2=true∧(prtT l 6).2=true then(⟨a,nm,tl,st,en,(prtT l 5).1,(prtT l 6).1⟩,0) else(rp0,4) by
  rw[←hR];unfold tkRp;rw[h1.1,h2.1,h3.1,hE,hst,hen]
  have e:(if c / 32 % 2=1 then(1:Int) else 2)=if en=true then 1 else 2:=by
   rw[←hen];by_cases h:c / 32 % 2=1
   ·rw[if_pos h,if_pos (decide_eq_true h)]
   ·rw[if_neg h,if_neg (by rw[decide_eq_false h];decide)]
  rw[e])
 have HV:=hd0 hv
 have HL:=hd0 (And.intro hl hs)
 clear hR h1 h2 h3 h5 q2 q3 hE n1 n2 n3 hst hen hf hv hl hs hvn
 go_enter Tryz.func129,Tryz.ntmps129
 go_upto_region 1 with fail
 have pb0:=(PB.new 103 w a b c f (.slice vx vn vk)).later (bA (.cells yR 81))
 have pz:GB 81 ((w.alloc (.cells #[.int .u8 a,.int .u8 b,.int .u8 c,.string (bs f),.slice vx vn vk] 103)).alloc (.cells yR 81)) (w.heap.size+1) #[.int .u8 0,.int .u32 0,.int .u8 0,.bool false,.bool false,.int .u8 0,.int .u8 0,.int .u8 0,.int .u8 0,.int .u8 0,.int .u8 0,.int .u8 0,.int .u8 0,.int .u8 0,.int .u8 0,.int .u8 0,.int .u8 0]:=by
  have:=GB.new 81 (w.alloc (.cells #[.int .u8 a,.int .u8 b,.int .u8 c,.string (bs f),.slice vx vn vk] 103)) #[.int .u8 0,.int .u32 0,.int .u8 0,.bool false,.bool false,.int .u8 0,.int .u8 0,.int .u8 0,.int .u8 0,.int .u8 0,.int .u8 0,.int .u8 0,.int .u8 0,.int .u8 0,.int .u8 0,.int .u8 0,.int .u8 0]
  rw[show(w.alloc (.cells #[.int .u8 a,.int .u8 b,.int .u8 c,.string (bs f),.slice vx vn vk] 103)).heap.size=w.heap.size+1 by simp] at this
  exact this
 have hb0:Below w.heap.size w ((w.alloc (.cells #[.int .u8 a,.int .u8 b,.int .u8 c,.string (bs f),.slice vx vn vk] 103)).alloc (.cells yR 81)):=(bA _).alloc (by simp) _
 obtain⟨w0,hw0⟩:∃ k,(w.alloc (.cells #[.int .u8 a,.int .u8 b,.int .u8 c,.string (bs f),.slice vx vn vk] 103)).alloc (.cells yR 81)=k:=⟨_,rfl⟩
 rw[hw0] at pb0 pz hb0 ⊢
 have c3:=pb0.c3
 have PB0:=hd0 pb0
 have PZ0:=hd0 pz
 have HB0:=hd0 hb0
 clear hw0 pb0 pz hb0
 go_wp2_with fail
 with_reducible refine(of_any f w0).mono ?_
 rintro en' w1 ⟨rfl,hr1,hb1,hlt⟩
 have RQ1:Hid (RQ w w1 w0.heap.size f 0 a b c f (.slice vx vn vk)):=hd0 ⟨hr1,PB0.out.later hb1,PZ0.out.later hb1,HB0.out.trans (hb1.mono HB0.out.size),PZ0.out.lt⟩
 obtain⟨x,hx⟩:∃ x,w0.heap.size=x:=⟨_,rfl⟩
 rw[hx] at RQ1 ⊢
 clear hr1 hb1 hlt c3 PB0 PZ0 HB0 hx
 go_upto_region 2 with fail
 obtain⟨FA,hFA⟩:∃ A:Array Value,A=#[.int .u8 a,.int .u32 nm,.int .u8 tl,.bool st,.bool en,.int .u8 0,.int .u8 0,.int .u8 0,.int .u8 0,.int .u8 0,.int .u8 0,.int .u8 0,.int .u8 0,.int .u8 0,.int .u8 0,.int .u8 0,.int .u8 0]:=⟨_,rfl⟩
 have HSZ:Hid (FA.size=17):=hd0 (by rw[hFA];rfl)
 have HIF:Hid ((Tryz.prog.info? 81).map (·.size)=some FA.size):=hd0 (by rw[HSZ.out];kernel_rfl)
 have O1F:Hid (FA.all (·.oneCell')=true):=hd0 (by rw[hFA];simp[Value.oneCell'])
 have HFA:=hd0 hFA
 clear hFA
 go_cut [5] (fun s5 wx=>∃ q:Nat,s5=.pointer (some ⟨q,0,none⟩)∧Hid (RQ w wx x l2 e2 a b c f (.slice vx vn vk))∧Hid (GB 81 wx q FA)∧Hid (x<q))
 case first =>
  have RQn:=hd0 RQ1.out.drew
  refine wp_region_held_drew (S:=fun W=>W.cell? ⟨w.heap.size,0,none⟩=some (.int .u8 a)∧W.cell? ⟨w.heap.size,2,none⟩=some (.int .u8 c)) (by kernel_rfl) RQn.out.two (fun hHeld=>?_)
  refine tkH 0 ?_ ?h ?_
  case h=>(intro w hSw;go_simp;try with_reducible rfl)
  try simp only[Act.put,List.setIfInBounds_toArray,List.set_cons_zero,List.set_cons_succ,List.getElem_toArray,List.getElem_cons_zero]
  refine tkH 1 ?_ ?h ?_
  case h=>(intro w hSw;go_simp;try with_reducible rfl)
  try simp only[Act.put,zz]
  refine tkH 2 ?_ ?h ?_
  case h=>(intro w hSw;go_simp;try with_reducible rfl)
  try simp only[Act.put,zz]
  refine tkH 4 ?_ ?h ?_
  case h=>(intro w hSw;go_simp;try with_reducible rfl)
  try simp only[Act.put,zz]
  refine tkH 6 ?_ ?h ?_
  case h=>(intro w hSw;go_simp;try with_reducible rfl)
  try simp only[Act.put,zz]
  refine tkH 7 ?_ ?h ?_
  case h=>(intro w hSw;go_simp;try with_reducible rfl)
  try simp only[Act.put,zz]
  refine tkH 8 ?_ ?h ?_
  case h=>(intro w hSw;go_simp;try with_reducible rfl)
  try simp only[Act.put,zz]
  refine tkH 9 ?_ ?h ?_
  case h=>(intro w hSw;go_simp;try with_reducible rfl)
  try simp only[Act.put,zz]
  refine tkH 10 ?_ ?h ?_
  case h=>(intro w hSw;go_simp;try with_reducible rfl)
  try simp only[Act.put,zz]
  refine tkH 11 ?_ ?h ?_
  case h=>(intro w hSw;go_simp;try with_reducible rfl)
  try simp only[Act.put,zz]
  refine tkH 12 ?_ ?h ?_
  case h=>(intro w hSw;go_simp;try with_reducible rfl)
  try simp only[Act.put,zz]
  refine tkH 13 ?_ ?h ?_
  case h=>(intro w hSw;go_simp;try with_reducible rfl)
  try simp only[Act.put,zz]
  refine wpAnyH_ready (rs:=[3,15]) (by kernel_rfl) (by simp) (AllReadyH.cons rfl (fun K hK=>?main0) (AllReadyH.cons rfl (fun K hK=>?side0) AllReadyH.nil))
  case side0 =>
   (go_simp;have NQ:=hd0 ((NR.new w1 RQ1.out.rd.lt).drew);have RQn:=hd0 ((RQ1.out.alloc (.cells yR 81)).drew);refine hK.out _ _ RQn.out.two (fun hHeld=>?_);clear hK K;try simp only[Act.put,zz])
   refine rdH 3 fun K hK=>?_
   (go_simp;go_at_call 139;(with_reducible refine(U1.out _ _ RQn.out.rd).mono ?_);rintro en' wx ⟨rfl,rd_,ho_⟩;have RQn:=hd0 (RQn.out.next rd_ ho_);have NQ:=hd0 (NQ.out.only ho_);clear rd_ ho_;refine hK.out _ _ RQn.out.two (fun hHeld=>?_);clear hK K;try simp only[Act.put,zz])
   refine rdH 5 fun K hK=>?_
   (go_simp;go_at_call 90;(with_reducible refine(U2.out _ _ RQn.out.rd).mono ?_);rintro en' wy ⟨rfl,rd_,ho_⟩;have RQn:=hd0 (RQn.out.next rd_ ho_);have NQ:=hd0 (NQ.out.only ho_);clear rd_ ho_;refine hK.out _ _ RQn.out.two (fun hHeld=>?_);clear hK K;try simp only[Act.put,zz])
   refine tkH 14 ?_ ?h ?_
   case h=>(intro w hSw;go_simp;try with_reducible rfl)
   try simp only[Act.put,zz]
   refine rdH 16 fun K hK=>?_
   (rw[if_pos (by rfl)];refine wp_store_mid 81 (.tmp 5) (.tmp 25) rfl _ 0 FA rfl (by rw[HFA.out];rfl) (NQ.out.1.there (Nat.le_of_eq HSZ.out)) HIF.out O1F.out ?_;refine hK.out _ _ ((RQ.cells NQ.out.2 _ _ _ RQn.out).two) (fun hHeld=>?_);clear hK K;try simp only[Act.put,List.setIfInBounds_toArray])
   refine wpAnyH_done (by kernel_rfl) ?_ _
   go_wp2_with fail
   go_meet
   exact⟨_,rfl,hd0 (RQ.cells NQ.out.2 _ _ _ RQn.out),hd0 (GB.store NQ.out.1 HSZ.out.symm O1F.out),hd0 NQ.out.2⟩
  (go_simp;go_at_call 139;(with_reducible refine(U1.out _ _ RQn.out.rd).mono ?_);rintro en' wx ⟨rfl,rd_,ho_⟩;have RQn:=hd0 (RQn.out.next rd_ ho_);clear rd_ ho_;refine hK.out _ _ RQn.out.two (fun hHeld=>?_);clear hK K;try simp only[Act.put,zz])
  refine wpAnyH_ready (rs:=[5,15]) (by kernel_rfl) (by simp) (AllReadyH.cons rfl (fun K hK=>?main1) (AllReadyH.cons rfl (fun K hK=>?side1) AllReadyH.nil))
  case side1 =>
   (go_simp;have NQ:=hd0 (NR.new wx RQn.out.rd.lt);have RQn:=hd0 (RQn.out.alloc (.cells yR 81));refine hK.out _ _ RQn.out.two (fun hHeld=>?_);clear hK K;try simp only[Act.put,zz])
   refine rdH 5 fun K hK=>?_
   (go_simp;go_at_call 90;(with_reducible refine(U2.out _ _ RQn.out.rd).mono ?_);rintro en' wy ⟨rfl,rd_,ho_⟩;have RQn:=hd0 (RQn.out.next rd_ ho_);have NQ:=hd0 (NQ.out.only ho_);clear rd_ ho_;refine hK.out _ _ RQn.out.two (fun hHeld=>?_);clear hK K;try simp only[Act.put,zz])
   refine tkH 14 ?_ ?h ?_
   case h=>(intro w hSw;go_simp;try with_reducible rfl)
   try simp only[Act.put,zz]
   refine rdH 16 fun K hK=>?_
   (rw[if_pos (by rfl)];refine wp_store_mid 81 (.tmp 5) (.tmp 25) rfl _ 0 FA rfl (by rw[HFA.out];rfl) (NQ.out.1.there (Nat.le_of_eq HSZ.out)) HIF.out O1F.out ?_;refine hK.out _ _ ((RQ.cells NQ.out.2 _ _ _ RQn.out).two) (fun hHeld=>?_);clear hK K;try simp only[Act.put,List.setIfInBounds_toArray])
   refine wpAnyH_done (by kernel_rfl) ?_ _
   go_wp2_with fail
   go_meet
   exact⟨_,rfl,hd0 (RQ.cells NQ.out.2 _ _ _ RQn.out),hd0 (GB.store NQ.out.1 HSZ.out.symm O1F.out),hd0 NQ.out.2⟩
  (go_simp;go_at_call 90;(with_reducible refine(U2.out _ _ RQn.out.rd).mono ?_);rintro en' wy ⟨rfl,rd_,ho_⟩;have RQn:=hd0 (RQn.out.next rd_ ho_);clear rd_ ho_;refine hK.out _ _ RQn.out.two (fun hHeld=>?_);clear hK K;try simp only[Act.put,zz])
  refine tkH 14 ?_ ?h ?_
  case h=>(intro w hSw;go_simp;try with_reducible rfl)
  try simp only[Act.put,zz]
  refine rdH 15 fun K hK=>?_
  (go_simp;have NQ:=hd0 (NR.new wy RQn.out.rd.lt);have RQn:=hd0 (RQn.out.alloc (.cells yR 81));refine hK.out _ _ RQn.out.two (fun hHeld=>?_);clear hK K;try simp only[Act.put,zz])
  refine rdH 16 fun K hK=>?_
  (rw[if_pos (by rfl)];refine wp_store_mid 81 (.tmp 5) (.tmp 25) rfl _ 0 FA rfl (by rw[HFA.out];rfl) (NQ.out.1.there (Nat.le_of_eq HSZ.out)) HIF.out O1F.out ?_;refine hK.out _ _ ((RQ.cells NQ.out.2 _ _ _ RQn.out).two) (fun hHeld=>?_);clear hK K;try simp only[Act.put,List.setIfInBounds_toArray])
  refine wpAnyH_done (by kernel_rfl) ?_ _
  go_wp2_with fail
  go_meet
  exact⟨_,rfl,hd0 (RQ.cells NQ.out.2 _ _ _ RQn.out),hd0 (GB.store NQ.out.1 HSZ.out.symm O1F.out),hd0 NQ.out.2⟩
 case rest =>
  obtain⟨q,rfl,RQ2,GQ2,HQ2⟩:=hcut
  have SN0:Hid (SQ w wc x q l2 e2 a b c f (.slice vx vn vk) FA):=hd0 ⟨RQ2.out,GQ2.out,HQ2.out⟩
  clear RQ1 RQ2 GQ2 HQ2
  go_upto_region 3 with fail
  obtain⟨k,hk⟩:∃ k:Int,(if en=true then(1:Int) else 2)=k:=⟨_,rfl⟩
  have KD:Hid (∀ W,Calls Tryz.prog 144 #[.agg FA] W fun en w'=>en=.returned (.int .u8 k)∧Below W.heap.size W w'):=hd0 fun W=>by
   have h:=kind_any ⟨a,nm,tl,st,en,mc0,mc0⟩ W
   rw[HFA.out,← hk];exact h
  have HRR2:Hid (R=if kd=k∧E=0∧b=4∧(prtT l 5).2=true∧(prtT l 6).2=true then(⟨a,nm,tl,st,en,(prtT l 5).1,(prtT l 6).1⟩,0) else(rp0,4)):=hd0 (by have h:=HRR.out;rw[hk] at h;exact h)
  have HIL:Hid ((Tryz.prog.info? 81).map (·.size)=some FA.toList.length):=hd0 (by rw[Array.length_toList];exact HIF.out)
  obtain⟨B4,hB4⟩:∃ y:Bool,(b==4)=y:=⟨_,rfl⟩
  obtain⟨OK,hOK⟩:∃ y:Bool,(decide (kd=k)&&(decide (E=0)&&decide (b=4)))=y:=⟨_,rfl⟩
  have HOK:=hd0 hOK
  have HB4:=hd0 hB4
  clear hk HRR hOK
  go_cut [6] (fun s6 wx=>∃ O:Nat,s6=.pointer (some ⟨O,0,none⟩)∧Hid (FQ w wx q O ⟨a,nm,tl,st,en,mc0,mc0⟩ a b c f (.slice vx vn vk) OK))
  case first =>
   by_cases hkd:kd=k
   rotate_left
   ·have dk:(kd==k)=false:=by rw[beq_eq_false_iff_ne];exact hkd
    have HOK0:Hid (OK=false):=hd0 (by rw[←HOK.out,decide_eq_false hkd];rfl)
    clear hkd
    have SN:=hd0 SN0.out.drew
    refine wp_region_held_drew (S:=fun W=>W.rangeAt q 0 FA.toList∧W.cell? ⟨w.heap.size,1,none⟩=some (.int .u8 b)) (by kernel_rfl) SN.out.sat (fun hHeld=>?_)
    refine tkH 0 ?_ ?h ?_
    case h=>(intro w hSw;go_simp;try with_reducible rfl)
    try simp only[Act.put,zz]
    refine wpAnyH_take (i:=2) (v:=.agg FA.toList.toArray) rfl (by kernel_rfl) (by kernel_rfl) (by kernel_rfl) (fun _ _ _ h=>h) (yieldsIf_load_mid (by rfl) 81 (.tmp 5) rfl q 0 rfl FA.toList _ (fun w h=>h.1) Tryz.underlying81 rfl HIL.out) (by assumption) ?_
    try simp only[Act.put,List.setIfInBounds_toArray,List.set_cons_zero,List.set_cons_succ,List.toArray_toList,List.getElem_toArray,List.getElem_cons_zero,List.getElem_cons_succ]
    refine wpAnyH_ready (rs:=[1,15]) (by kernel_rfl) (by simp) (AllReadyH.cons rfl (fun K hK=>?mainb01) (AllReadyH.cons rfl (fun K hK=>?sideb01) AllReadyH.nil))
    case sideb01 =>
     (go_simp;have ON:=hd0 ((OB.new wc SN0.out.hlt).drew);have SN:=hd0 ((SN0.out.alloc (.cells #[.bool false] 4)).drew);refine hK.out _ _ SN.out.sat (fun hHeld=>?_);clear hK K;try simp only[Act.put,zz])
     refine rdH 1 fun K hK=>?_
     (go_simp;go_at_call 90;(with_reducible refine(U3.out _ _ SN.out.rq.rd).mono ?_);rintro en' wx1 ⟨rfl,rd_,ho_⟩;have ON:=hd0 (ON.out.only ho_ SN.out.hq);have SN:=hd0 (SN.out.next rd_ ho_);clear rd_ ho_;refine hK.out _ _ SN.out.sat (fun hHeld=>?_);clear hK K;try simp only[Act.put,zz])
     refine rdH 3 fun K hK=>?_
     (go_simp;go_at_call 144;(with_reducible refine(KD.out _).mono ?_);rintro en' wx3 ⟨rfl,ho_⟩;have ON:=hd0 (ON.out.later ho_);have SN:=hd0 (SN.out.later ho_);clear ho_;refine hK.out _ _ SN.out.sat (fun hHeld=>?_);clear hK K;try simp only[Act.put,zz])
     refine tkH 4 ?_ ?h ?_
     case h=>(intro w hSw;go_simp;try with_reducible rfl)
     try simp only[Act.put,zz]
     refine tkH 5 ?_ ?h ?_
     case h=>(intro w hSw;go_simp;try with_reducible rfl)
     try simp only[Act.put,zz]
     refine wpAnyH_take (i:=6) (v:=undef) rfl (by kernel_rfl) (by kernel_rfl) (by kernel_rfl) (fun _ _ _ h=>h) (Or.inr ⟨by rfl,rfl⟩) (by assumption) ?_
     try simp only[Act.put,zz]
     refine wpAnyH_take (i:=7) (v:=undef) rfl (by kernel_rfl) (by kernel_rfl) (by kernel_rfl) (fun _ _ _ h=>h) (Or.inr ⟨by rfl,rfl⟩) (by assumption) ?_
     try simp only[Act.put,zz]
     refine wpAnyH_take (i:=8) (v:=undef) rfl (by kernel_rfl) (by kernel_rfl) (by kernel_rfl) (fun _ _ _ h=>h) (Or.inr ⟨by rfl,rfl⟩) (by assumption) ?_
     try simp only[Act.put,zz]
     refine tkH 9 ?_ ?h ?_
     case h=>(intro w hSw;go_simp;try with_reducible rfl)
     try simp only[Act.put,zz]
     refine tkH 10 ?_ ?h ?_
     case h=>(intro w hSw;go_simp;try with_reducible rfl)
     try simp only[Act.put,zz]
     refine wpAnyH_take (i:=11) (v:=undef) rfl (by kernel_rfl) (by kernel_rfl) (by kernel_rfl) (fun _ _ _ h=>h) (Or.inr ⟨by rfl,rfl⟩) (by assumption) ?_
     try simp only[Act.put,zz]
     refine wpAnyH_take (i:=12) (v:=undef) rfl (by kernel_rfl) (by kernel_rfl) (by kernel_rfl) (fun _ _ _ h=>h) (Or.inr ⟨by rfl,rfl⟩) (by assumption) ?_
     try simp only[Act.put,zz]
     refine wpAnyH_take (i:=13) (v:=undef) rfl (by kernel_rfl) (by kernel_rfl) (by kernel_rfl) (fun _ _ _ h=>h) (Or.inr ⟨by rfl,rfl⟩) (by assumption) ?_
     try simp only[Act.put,zz]
     refine tkH 14 ?_ ?h ?_
     case h=>(intro w hSw;go_simp;try with_reducible rfl)
     try simp only[Act.put,zz]
     have o0:=ON.out.g.c 0 _ rfl
     have of:=ON.out.g.fr 0
     refine rdH 16 fun K hK=>?_
     (go_simp;refine hK.out _ _ ?S16 (fun hHeld=>?_))
     case S16=>exact(SN.out.set ON.out.lt _).sat
     clear hK K
     refine wpAnyH_done (by kernel_rfl) ?_ _
     go_wp2_with fail
     go_meet
     exact⟨_,rfl,hd0 (FQ.mk' (SN.out.set ON.out.lt _) (ON.out.setB false) HFA.out HOK0.out)⟩
    (go_simp;go_at_call 90;(with_reducible refine(U3.out _ _ SN.out.rq.rd).mono ?_);rintro en' wx1 ⟨rfl,rd_,ho_⟩;have SN:=hd0 (SN.out.next rd_ ho_);clear rd_ ho_;refine hK.out _ _ SN.out.sat (fun hHeld=>?_);clear hK K;try simp only[Act.put,zz])
    refine wpAnyH_ready (rs:=[3,15]) (by kernel_rfl) (by simp) (AllReadyH.cons rfl (fun K hK=>?mainb03) (AllReadyH.cons rfl (fun K hK=>?sideb03) AllReadyH.nil))
    case sideb03 =>
     (go_simp;have ON:=hd0 (OB.new wx1 SN.out.hlt);have SN:=hd0 (SN.out.alloc (.cells #[.bool false] 4));refine hK.out _ _ SN.out.sat (fun hHeld=>?_);clear hK K;try simp only[Act.put,zz])
     refine rdH 3 fun K hK=>?_
     (go_simp;go_at_call 144;(with_reducible refine(KD.out _).mono ?_);rintro en' wx3 ⟨rfl,ho_⟩;have ON:=hd0 (ON.out.later ho_);have SN:=hd0 (SN.out.later ho_);clear ho_;refine hK.out _ _ SN.out.sat (fun hHeld=>?_);clear hK K;try simp only[Act.put,zz])
     refine tkH 4 ?_ ?h ?_
     case h=>(intro w hSw;go_simp;try with_reducible rfl)
     try simp only[Act.put,zz]
     refine tkH 5 ?_ ?h ?_
     case h=>(intro w hSw;go_simp;try with_reducible rfl)
     try simp only[Act.put,zz]
     refine wpAnyH_take (i:=6) (v:=undef) rfl (by kernel_rfl) (by kernel_rfl) (by kernel_rfl) (fun _ _ _ h=>h) (Or.inr ⟨by rfl,rfl⟩) (by assumption) ?_
     try simp only[Act.put,zz]
     refine wpAnyH_take (i:=7) (v:=undef) rfl (by kernel_rfl) (by kernel_rfl) (by kernel_rfl) (fun _ _ _ h=>h) (Or.inr ⟨by rfl,rfl⟩) (by assumption) ?_
     try simp only[Act.put,zz]
     refine wpAnyH_take (i:=8) (v:=undef) rfl (by kernel_rfl) (by kernel_rfl) (by kernel_rfl) (fun _ _ _ h=>h) (Or.inr ⟨by rfl,rfl⟩) (by assumption) ?_
     try simp only[Act.put,zz]
     refine tkH 9 ?_ ?h ?_
     case h=>(intro w hSw;go_simp;try with_reducible rfl)
     try simp only[Act.put,zz]
     refine tkH 10 ?_ ?h ?_
     case h=>(intro w hSw;go_simp;try with_reducible rfl)
     try simp only[Act.put,zz]
     refine wpAnyH_take (i:=11) (v:=undef) rfl (by kernel_rfl) (by kernel_rfl) (by kernel_rfl) (fun _ _ _ h=>h) (Or.inr ⟨by rfl,rfl⟩) (by assumption) ?_
     try simp only[Act.put,zz]
     refine wpAnyH_take (i:=12) (v:=undef) rfl (by kernel_rfl) (by kernel_rfl) (by kernel_rfl) (fun _ _ _ h=>h) (Or.inr ⟨by rfl,rfl⟩) (by assumption) ?_
     try simp only[Act.put,zz]
     refine wpAnyH_take (i:=13) (v:=undef) rfl (by kernel_rfl) (by kernel_rfl) (by kernel_rfl) (fun _ _ _ h=>h) (Or.inr ⟨by rfl,rfl⟩) (by assumption) ?_
     try simp only[Act.put,zz]
     refine tkH 14 ?_ ?h ?_
     case h=>(intro w hSw;go_simp;try with_reducible rfl)
     try simp only[Act.put,zz]
     have o0:=ON.out.g.c 0 _ rfl
     have of:=ON.out.g.fr 0
     refine rdH 16 fun K hK=>?_
     (go_simp;refine hK.out _ _ ?S16 (fun hHeld=>?_))
     case S16=>exact(SN.out.set ON.out.lt _).sat
     clear hK K
     refine wpAnyH_done (by kernel_rfl) ?_ _
     go_wp2_with fail
     go_meet
     exact⟨_,rfl,hd0 (FQ.mk' (SN.out.set ON.out.lt _) (ON.out.setB false) HFA.out HOK0.out)⟩
    (go_simp;go_at_call 144;(with_reducible refine(KD.out _).mono ?_);rintro en' wx3 ⟨rfl,ho_⟩;have SN:=hd0 (SN.out.later ho_);clear ho_;refine hK.out _ _ SN.out.sat (fun hHeld=>?_);clear hK K;try simp only[Act.put,zz])
    refine tkH 4 ?_ ?h ?_
    case h=>(intro w hSw;go_simp;try with_reducible rfl)
    try simp only[Act.put,zz]
    refine tkH 5 ?_ ?h ?_
    case h=>(intro w hSw;go_simp;try with_reducible rfl)
    try simp only[Act.put,zz]
    refine wpAnyH_take (i:=6) (v:=undef) rfl (by kernel_rfl) (by kernel_rfl) (by kernel_rfl) (fun _ _ _ h=>h) (Or.inr ⟨by rfl,rfl⟩) (by assumption) ?_
    try simp only[Act.put,zz]
    refine wpAnyH_take (i:=7) (v:=undef) rfl (by kernel_rfl) (by kernel_rfl) (by kernel_rfl) (fun _ _ _ h=>h) (Or.inr ⟨by rfl,rfl⟩) (by assumption) ?_
    try simp only[Act.put,zz]
    refine wpAnyH_take (i:=8) (v:=undef) rfl (by kernel_rfl) (by kernel_rfl) (by kernel_rfl) (fun _ _ _ h=>h) (Or.inr ⟨by rfl,rfl⟩) (by assumption) ?_
    try simp only[Act.put,zz]
    refine tkH 9 ?_ ?h ?_
    case h=>(intro w hSw;go_simp;try with_reducible rfl)
    try simp only[Act.put,zz]
    refine tkH 10 ?_ ?h ?_
    case h=>(intro w hSw;go_simp;try with_reducible rfl)
    try simp only[Act.put,zz]
    refine wpAnyH_take (i:=11) (v:=undef) rfl (by kernel_rfl) (by kernel_rfl) (by kernel_rfl) (fun _ _ _ h=>h) (Or.inr ⟨by rfl,rfl⟩) (by assumption) ?_
    try simp only[Act.put,zz]
    refine wpAnyH_take (i:=12) (v:=undef) rfl (by kernel_rfl) (by kernel_rfl) (by kernel_rfl) (fun _ _ _ h=>h) (Or.inr ⟨by rfl,rfl⟩) (by assumption) ?_
    try simp only[Act.put,zz]
    refine wpAnyH_take (i:=13) (v:=undef) rfl (by kernel_rfl) (by kernel_rfl) (by kernel_rfl) (fun _ _ _ h=>h) (Or.inr ⟨by rfl,rfl⟩) (by assumption) ?_
    try simp only[Act.put,zz]
    refine tkH 14 ?_ ?h ?_
    case h=>(intro w hSw;go_simp;try with_reducible rfl)
    try simp only[Act.put,zz]
    refine rdH 15 fun K hK=>?_
    (go_simp;refine hK.out _ _ (SN.out.alloc _).sat (fun hHeld=>?_);clear hK K;try simp only[Act.put,zz])
    refine rdH 16 fun K hK=>?_
    (go_simp;refine hK.out _ _ ?S16 (fun hHeld=>?_))
    case S16=>exact(SN.out.alloc _).sat
    clear hK K
    refine wpAnyH_done (by kernel_rfl) ?_ _
    go_wp2_with fail
    go_meet
    exact⟨_,rfl,hd0 (FQ.mk' (SN.out.alloc _) (OB.newv _ false SN.out.hlt) HFA.out HOK0.out)⟩
   have dk:(kd==k)=true:=by rw[hkd];exact beq_self_eq_true k
   by_cases hE0:E=0
   rotate_left
   ·have dE:(E==0)=false:=by rw[beq_eq_false_iff_ne];exact hE0
    have HOK1:Hid (OK=false):=hd0 (by rw[←HOK.out,decide_eq_false hE0];simp)
    clear hE0 hkd
    have SN:=hd0 SN0.out.drew
    refine wp_region_held_drew (S:=fun W=>W.rangeAt q 0 FA.toList∧W.cell? ⟨w.heap.size,1,none⟩=some (.int .u8 b)) (by kernel_rfl) SN.out.sat (fun hHeld=>?_)
    refine tkH 0 ?_ ?h ?_
    case h=>(intro w hSw;go_simp;try with_reducible rfl)
    try simp only[Act.put,zz]
    refine wpAnyH_take (i:=2) (v:=.agg FA.toList.toArray) rfl (by kernel_rfl) (by kernel_rfl) (by kernel_rfl) (fun _ _ _ h=>h) (yieldsIf_load_mid (by rfl) 81 (.tmp 5) rfl q 0 rfl FA.toList _ (fun w h=>h.1) Tryz.underlying81 rfl HIL.out) (by assumption) ?_
    try simp only[Act.put,List.setIfInBounds_toArray,List.set_cons_zero,List.set_cons_succ,List.toArray_toList,List.getElem_toArray,List.getElem_cons_zero,List.getElem_cons_succ]
    refine wpAnyH_ready (rs:=[1,15]) (by kernel_rfl) (by simp) (AllReadyH.cons rfl (fun K hK=>?mainb11) (AllReadyH.cons rfl (fun K hK=>?sideb11) AllReadyH.nil))
    case sideb11 =>
     (go_simp;have ON:=hd0 ((OB.new wc SN0.out.hlt).drew);have SN:=hd0 ((SN0.out.alloc (.cells #[.bool false] 4)).drew);refine hK.out _ _ SN.out.sat (fun hHeld=>?_);clear hK K;try simp only[Act.put,zz])
     refine rdH 1 fun K hK=>?_
     (go_simp;go_at_call 90;(with_reducible refine(U3.out _ _ SN.out.rq.rd).mono ?_);rintro en' wx1 ⟨rfl,rd_,ho_⟩;have ON:=hd0 (ON.out.only ho_ SN.out.hq);have SN:=hd0 (SN.out.next rd_ ho_);clear rd_ ho_;refine hK.out _ _ SN.out.sat (fun hHeld=>?_);clear hK K;try simp only[Act.put,zz])
     refine rdH 3 fun K hK=>?_
     (go_simp;go_at_call 144;(with_reducible refine(KD.out _).mono ?_);rintro en' wx3 ⟨rfl,ho_⟩;have ON:=hd0 (ON.out.later ho_);have SN:=hd0 (SN.out.later ho_);clear ho_;refine hK.out _ _ SN.out.sat (fun hHeld=>?_);clear hK K;try simp only[Act.put,zz])
     refine tkH 4 ?_ ?h ?_
     case h=>(intro w hSw;go_simp;try with_reducible rfl)
     try simp only[Act.put,zz]
     refine tkH 5 ?_ ?h ?_
     case h=>(intro w hSw;go_simp;try with_reducible rfl)
     try simp only[Act.put,zz]
     refine tkH 6 ?_ ?h ?_
     case h=>(intro w hSw;go_simp;try with_reducible rfl)
     try simp only[Act.put,zz]
     refine rdH 7 fun K hK=>?_
     (go_simp;go_at_call 140;(with_reducible refine(U5.out _ _ SN.out.rq.rd).mono ?_);rintro en' wx7 ⟨rfl,rd_,ho_⟩;have ON:=hd0 (ON.out.only ho_ SN.out.hq);have SN:=hd0 (SN.out.next rd_ ho_);clear rd_ ho_;refine hK.out _ _ SN.out.sat (fun hHeld=>?_);clear hK K;try simp only[Act.put,zz])
     refine tkH 8 ?_ ?h ?_
     case h=>(intro w hSw;go_simp;try with_reducible rfl)
     try simp only[Act.put,zz]
     refine tkH 9 ?_ ?h ?_
     case h=>(intro w hSw;go_simp;try with_reducible rfl)
     try simp only[Act.put,zz]
     refine tkH 10 ?_ ?h ?_
     case h=>(intro w hSw;go_simp;try with_reducible rfl)
     try simp only[Act.put,zz]
     refine wpAnyH_take (i:=11) (v:=undef) rfl (by kernel_rfl) (by kernel_rfl) (by kernel_rfl) (fun _ _ _ h=>h) (Or.inr ⟨by rfl,rfl⟩) (by assumption) ?_
     try simp only[Act.put,zz]
     refine wpAnyH_take (i:=12) (v:=undef) rfl (by kernel_rfl) (by kernel_rfl) (by kernel_rfl) (fun _ _ _ h=>h) (Or.inr ⟨by rfl,rfl⟩) (by assumption) ?_
     try simp only[Act.put,zz]
     refine wpAnyH_take (i:=13) (v:=undef) rfl (by kernel_rfl) (by kernel_rfl) (by kernel_rfl) (fun _ _ _ h=>h) (Or.inr ⟨by rfl,rfl⟩) (by assumption) ?_
     try simp only[Act.put,zz]
     refine tkH 14 ?_ ?h ?_
     case h=>(intro w hSw;go_simp;try with_reducible rfl)
     try simp only[Act.put,zz]
     have o0:=ON.out.g.c 0 _ rfl
     have of:=ON.out.g.fr 0
     refine rdH 16 fun K hK=>?_
     (go_simp;refine hK.out _ _ ?S16 (fun hHeld=>?_))
     case S16=>exact(SN.out.set ON.out.lt _).sat
     clear hK K
     refine wpAnyH_done (by kernel_rfl) ?_ _
     go_wp2_with fail
     go_meet
     exact⟨_,rfl,hd0 (FQ.mk' (SN.out.set ON.out.lt _) (ON.out.setB false) HFA.out HOK1.out)⟩
    (go_simp;go_at_call 90;(with_reducible refine(U3.out _ _ SN.out.rq.rd).mono ?_);rintro en' wx1 ⟨rfl,rd_,ho_⟩;have SN:=hd0 (SN.out.next rd_ ho_);clear rd_ ho_;refine hK.out _ _ SN.out.sat (fun hHeld=>?_);clear hK K;try simp only[Act.put,zz])
    refine wpAnyH_ready (rs:=[3,15]) (by kernel_rfl) (by simp) (AllReadyH.cons rfl (fun K hK=>?mainb13) (AllReadyH.cons rfl (fun K hK=>?sideb13) AllReadyH.nil))
    case sideb13 =>
     (go_simp;have ON:=hd0 (OB.new wx1 SN.out.hlt);have SN:=hd0 (SN.out.alloc (.cells #[.bool false] 4));refine hK.out _ _ SN.out.sat (fun hHeld=>?_);clear hK K;try simp only[Act.put,zz])
     refine rdH 3 fun K hK=>?_
     (go_simp;go_at_call 144;(with_reducible refine(KD.out _).mono ?_);rintro en' wx3 ⟨rfl,ho_⟩;have ON:=hd0 (ON.out.later ho_);have SN:=hd0 (SN.out.later ho_);clear ho_;refine hK.out _ _ SN.out.sat (fun hHeld=>?_);clear hK K;try simp only[Act.put,zz])
     refine tkH 4 ?_ ?h ?_
     case h=>(intro w hSw;go_simp;try with_reducible rfl)
     try simp only[Act.put,zz]
     refine tkH 5 ?_ ?h ?_
     case h=>(intro w hSw;go_simp;try with_reducible rfl)
     try simp only[Act.put,zz]
     refine tkH 6 ?_ ?h ?_
     case h=>(intro w hSw;go_simp;try with_reducible rfl)
     try simp only[Act.put,zz]
     refine rdH 7 fun K hK=>?_
     (go_simp;go_at_call 140;(with_reducible refine(U5.out _ _ SN.out.rq.rd).mono ?_);rintro en' wx7 ⟨rfl,rd_,ho_⟩;have ON:=hd0 (ON.out.only ho_ SN.out.hq);have SN:=hd0 (SN.out.next rd_ ho_);clear rd_ ho_;refine hK.out _ _ SN.out.sat (fun hHeld=>?_);clear hK K;try simp only[Act.put,zz])
     refine tkH 8 ?_ ?h ?_
     case h=>(intro w hSw;go_simp;try with_reducible rfl)
     try simp only[Act.put,zz]
     refine tkH 9 ?_ ?h ?_
     case h=>(intro w hSw;go_simp;try with_reducible rfl)
     try simp only[Act.put,zz]
     refine tkH 10 ?_ ?h ?_
     case h=>(intro w hSw;go_simp;try with_reducible rfl)
     try simp only[Act.put,zz]
     refine wpAnyH_take (i:=11) (v:=undef) rfl (by kernel_rfl) (by kernel_rfl) (by kernel_rfl) (fun _ _ _ h=>h) (Or.inr ⟨by rfl,rfl⟩) (by assumption) ?_
     try simp only[Act.put,zz]
     refine wpAnyH_take (i:=12) (v:=undef) rfl (by kernel_rfl) (by kernel_rfl) (by kernel_rfl) (fun _ _ _ h=>h) (Or.inr ⟨by rfl,rfl⟩) (by assumption) ?_
     try simp only[Act.put,zz]
     refine wpAnyH_take (i:=13) (v:=undef) rfl (by kernel_rfl) (by kernel_rfl) (by kernel_rfl) (fun _ _ _ h=>h) (Or.inr ⟨by rfl,rfl⟩) (by assumption) ?_
     try simp only[Act.put,zz]
     refine tkH 14 ?_ ?h ?_
     case h=>(intro w hSw;go_simp;try with_reducible rfl)
     try simp only[Act.put,zz]
     have o0:=ON.out.g.c 0 _ rfl
     have of:=ON.out.g.fr 0
     refine rdH 16 fun K hK=>?_
     (go_simp;refine hK.out _ _ ?S16 (fun hHeld=>?_))
     case S16=>exact(SN.out.set ON.out.lt _).sat
     clear hK K
     refine wpAnyH_done (by kernel_rfl) ?_ _
     go_wp2_with fail
     go_meet
     exact⟨_,rfl,hd0 (FQ.mk' (SN.out.set ON.out.lt _) (ON.out.setB false) HFA.out HOK1.out)⟩
    (go_simp;go_at_call 144;(with_reducible refine(KD.out _).mono ?_);rintro en' wx3 ⟨rfl,ho_⟩;have SN:=hd0 (SN.out.later ho_);clear ho_;refine hK.out _ _ SN.out.sat (fun hHeld=>?_);clear hK K;try simp only[Act.put,zz])
    refine tkH 4 ?_ ?h ?_
    case h=>(intro w hSw;go_simp;try with_reducible rfl)
    try simp only[Act.put,zz]
    refine tkH 5 ?_ ?h ?_
    case h=>(intro w hSw;go_simp;try with_reducible rfl)
    try simp only[Act.put,zz]
    refine tkH 6 ?_ ?h ?_
    case h=>(intro w hSw;go_simp;try with_reducible rfl)
    try simp only[Act.put,zz]
    refine wpAnyH_ready (rs:=[7,15]) (by kernel_rfl) (by simp) (AllReadyH.cons rfl (fun K hK=>?mainb17) (AllReadyH.cons rfl (fun K hK=>?sideb17) AllReadyH.nil))
    case sideb17 =>
     (go_simp;have ON:=hd0 (OB.new wx3 SN.out.hlt);have SN:=hd0 (SN.out.alloc (.cells #[.bool false] 4));refine hK.out _ _ SN.out.sat (fun hHeld=>?_);clear hK K;try simp only[Act.put,zz])
     refine rdH 7 fun K hK=>?_
     (go_simp;go_at_call 140;(with_reducible refine(U5.out _ _ SN.out.rq.rd).mono ?_);rintro en' wx7 ⟨rfl,rd_,ho_⟩;have ON:=hd0 (ON.out.only ho_ SN.out.hq);have SN:=hd0 (SN.out.next rd_ ho_);clear rd_ ho_;refine hK.out _ _ SN.out.sat (fun hHeld=>?_);clear hK K;try simp only[Act.put,zz])
     refine tkH 8 ?_ ?h ?_
     case h=>(intro w hSw;go_simp;try with_reducible rfl)
     try simp only[Act.put,zz]
     refine tkH 9 ?_ ?h ?_
     case h=>(intro w hSw;go_simp;try with_reducible rfl)
     try simp only[Act.put,zz]
     refine tkH 10 ?_ ?h ?_
     case h=>(intro w hSw;go_simp;try with_reducible rfl)
     try simp only[Act.put,zz]
     refine wpAnyH_take (i:=11) (v:=undef) rfl (by kernel_rfl) (by kernel_rfl) (by kernel_rfl) (fun _ _ _ h=>h) (Or.inr ⟨by rfl,rfl⟩) (by assumption) ?_
     try simp only[Act.put,zz]
     refine wpAnyH_take (i:=12) (v:=undef) rfl (by kernel_rfl) (by kernel_rfl) (by kernel_rfl) (fun _ _ _ h=>h) (Or.inr ⟨by rfl,rfl⟩) (by assumption) ?_
     try simp only[Act.put,zz]
     refine wpAnyH_take (i:=13) (v:=undef) rfl (by kernel_rfl) (by kernel_rfl) (by kernel_rfl) (fun _ _ _ h=>h) (Or.inr ⟨by rfl,rfl⟩) (by assumption) ?_
     try simp only[Act.put,zz]
     refine tkH 14 ?_ ?h ?_
     case h=>(intro w hSw;go_simp;try with_reducible rfl)
     try simp only[Act.put,zz]
     have o0:=ON.out.g.c 0 _ rfl
     have of:=ON.out.g.fr 0
     refine rdH 16 fun K hK=>?_
     (go_simp;refine hK.out _ _ ?S16 (fun hHeld=>?_))
     case S16=>exact(SN.out.set ON.out.lt _).sat
     clear hK K
     refine wpAnyH_done (by kernel_rfl) ?_ _
     go_wp2_with fail
     go_meet
     exact⟨_,rfl,hd0 (FQ.mk' (SN.out.set ON.out.lt _) (ON.out.setB false) HFA.out HOK1.out)⟩
    (go_simp;go_at_call 140;(with_reducible refine(U5.out _ _ SN.out.rq.rd).mono ?_);rintro en' wx7 ⟨rfl,rd_,ho_⟩;have SN:=hd0 (SN.out.next rd_ ho_);clear rd_ ho_;refine hK.out _ _ SN.out.sat (fun hHeld=>?_);clear hK K;try simp only[Act.put,zz])
    refine tkH 8 ?_ ?h ?_
    case h=>(intro w hSw;go_simp;try with_reducible rfl)
    try simp only[Act.put,zz]
    refine tkH 9 ?_ ?h ?_
    case h=>(intro w hSw;go_simp;try with_reducible rfl)
    try simp only[Act.put,zz]
    refine tkH 10 ?_ ?h ?_
    case h=>(intro w hSw;go_simp;try with_reducible rfl)
    try simp only[Act.put,zz]
    refine wpAnyH_take (i:=11) (v:=undef) rfl (by kernel_rfl) (by kernel_rfl) (by kernel_rfl) (fun _ _ _ h=>h) (Or.inr ⟨by rfl,rfl⟩) (by assumption) ?_
    try simp only[Act.put,zz]
    refine wpAnyH_take (i:=12) (v:=undef) rfl (by kernel_rfl) (by kernel_rfl) (by kernel_rfl) (fun _ _ _ h=>h) (Or.inr ⟨by rfl,rfl⟩) (by assumption) ?_
    try simp only[Act.put,zz]
    refine wpAnyH_take (i:=13) (v:=undef) rfl (by kernel_rfl) (by kernel_rfl) (by kernel_rfl) (fun _ _ _ h=>h) (Or.inr ⟨by rfl,rfl⟩) (by assumption) ?_
    try simp only[Act.put,zz]
    refine tkH 14 ?_ ?h ?_
    case h=>(intro w hSw;go_simp;try with_reducible rfl)
    try simp only[Act.put,zz]
    refine rdH 15 fun K hK=>?_
    (go_simp;refine hK.out _ _ (SN.out.alloc _).sat (fun hHeld=>?_);clear hK K;try simp only[Act.put,zz])
    refine rdH 16 fun K hK=>?_
    (go_simp;refine hK.out _ _ ?S16 (fun hHeld=>?_))
    case S16=>exact(SN.out.alloc _).sat
    clear hK K
    refine wpAnyH_done (by kernel_rfl) ?_ _
    go_wp2_with fail
    go_meet
    exact⟨_,rfl,hd0 (FQ.mk' (SN.out.alloc _) (OB.newv _ false SN.out.hlt) HFA.out HOK1.out)⟩
   have dE:(E==0)=true:=by rw[hE0];rfl
   have HOK2:Hid (OK=B4):=hd0 (by rw[←HOK.out,← HB4.out,decide_eq_true hE0,decide_eq_true hkd,Bool.true_and,Bool.true_and];rfl)
   clear hE0 hkd
   have SN:=hd0 SN0.out.drew
   refine wp_region_held_drew (S:=fun W=>W.rangeAt q 0 FA.toList∧W.cell? ⟨w.heap.size,1,none⟩=some (.int .u8 b)) (by kernel_rfl) SN.out.sat (fun hHeld=>?_)
   refine tkH 0 ?_ ?h ?_
   case h=>(intro w hSw;go_simp;try with_reducible rfl)
   try simp only[Act.put,zz]
   refine wpAnyH_take (i:=2) (v:=.agg FA.toList.toArray) rfl (by kernel_rfl) (by kernel_rfl) (by kernel_rfl) (fun _ _ _ h=>h) (yieldsIf_load_mid (by rfl) 81 (.tmp 5) rfl q 0 rfl FA.toList _ (fun w h=>h.1) Tryz.underlying81 rfl HIL.out) (by assumption) ?_
   try simp only[Act.put,List.setIfInBounds_toArray,List.set_cons_zero,List.set_cons_succ,List.toArray_toList,List.getElem_toArray,List.getElem_cons_zero,List.getElem_cons_succ]
   refine wpAnyH_ready (rs:=[1,15]) (by kernel_rfl) (by simp) (AllReadyH.cons rfl (fun K hK=>?mainb21) (AllReadyH.cons rfl (fun K hK=>?sideb21) AllReadyH.nil))
   case sideb21 =>
    (go_simp;have ON:=hd0 ((OB.new wc SN0.out.hlt).drew);have SN:=hd0 ((SN0.out.alloc (.cells #[.bool false] 4)).drew);refine hK.out _ _ SN.out.sat (fun hHeld=>?_);clear hK K;try simp only[Act.put,zz])
    refine rdH 1 fun K hK=>?_
    (go_simp;go_at_call 90;(with_reducible refine(U3.out _ _ SN.out.rq.rd).mono ?_);rintro en' wx1 ⟨rfl,rd_,ho_⟩;have ON:=hd0 (ON.out.only ho_ SN.out.hq);have SN:=hd0 (SN.out.next rd_ ho_);clear rd_ ho_;refine hK.out _ _ SN.out.sat (fun hHeld=>?_);clear hK K;try simp only[Act.put,zz])
    refine rdH 3 fun K hK=>?_
    (go_simp;go_at_call 144;(with_reducible refine(KD.out _).mono ?_);rintro en' wx3 ⟨rfl,ho_⟩;have ON:=hd0 (ON.out.later ho_);have SN:=hd0 (SN.out.later ho_);clear ho_;refine hK.out _ _ SN.out.sat (fun hHeld=>?_);clear hK K;try simp only[Act.put,zz])
    refine tkH 4 ?_ ?h ?_
    case h=>(intro w hSw;go_simp;try with_reducible rfl)
    try simp only[Act.put,zz]
    refine tkH 5 ?_ ?h ?_
    case h=>(intro w hSw;go_simp;try with_reducible rfl)
    try simp only[Act.put,zz]
    refine tkH 6 ?_ ?h ?_
    case h=>(intro w hSw;go_simp;try with_reducible rfl)
    try simp only[Act.put,zz]
    refine rdH 7 fun K hK=>?_
    (go_simp;go_at_call 140;(with_reducible refine(U5.out _ _ SN.out.rq.rd).mono ?_);rintro en' wx7 ⟨rfl,rd_,ho_⟩;have ON:=hd0 (ON.out.only ho_ SN.out.hq);have SN:=hd0 (SN.out.next rd_ ho_);clear rd_ ho_;refine hK.out _ _ SN.out.sat (fun hHeld=>?_);clear hK K;try simp only[Act.put,zz])
    refine tkH 8 ?_ ?h ?_
    case h=>(intro w hSw;go_simp;try with_reducible rfl)
    try simp only[Act.put,zz]
    refine tkH 9 ?_ ?h ?_
    case h=>(intro w hSw;go_simp;try with_reducible rfl)
    try simp only[Act.put,zz]
    refine tkH 10 ?_ ?h ?_
    case h=>(intro w hSw;go_simp;try with_reducible rfl)
    try simp only[Act.put,zz]
    refine tkH 11 ?_ ?h ?_
    case h=>(intro w hSw;go_simp;try with_reducible rfl)
    try simp only[Act.put,zz]
    refine tkH 12 ?_ ?h ?_
    case h=>(intro w hSw;go_simp;try with_reducible rfl)
    try simp only[Act.put,zz]
    refine tkH 13 ?_ ?h ?_
    case h=>(intro w hSw;go_simp;try with_reducible rfl)
    try simp only[Act.put,zz]
    refine tkH 14 ?_ ?h ?_
    case h=>(intro w hSw;go_simp;try with_reducible rfl)
    try simp only[Act.put,zz]
    have o0:=ON.out.g.c 0 _ rfl
    have of:=ON.out.g.fr 0
    refine rdH 16 fun K hK=>?_
    (go_simp;refine hK.out _ _ ?S16 (fun hHeld=>?_))
    case S16=>exact(SN.out.set ON.out.lt _).sat
    clear hK K
    refine wpAnyH_done (by kernel_rfl) ?_ _
    go_wp2_with fail
    go_meet
    exact⟨_,rfl,hd0 (FQ.mk' (SN.out.set ON.out.lt _) (ON.out.setB B4) HFA.out HOK2.out)⟩
   (go_simp;go_at_call 90;(with_reducible refine(U3.out _ _ SN.out.rq.rd).mono ?_);rintro en' wx1 ⟨rfl,rd_,ho_⟩;have SN:=hd0 (SN.out.next rd_ ho_);clear rd_ ho_;refine hK.out _ _ SN.out.sat (fun hHeld=>?_);clear hK K;try simp only[Act.put,zz])
   refine wpAnyH_ready (rs:=[3,15]) (by kernel_rfl) (by simp) (AllReadyH.cons rfl (fun K hK=>?mainb23) (AllReadyH.cons rfl (fun K hK=>?sideb23) AllReadyH.nil))
   case sideb23 =>
    (go_simp;have ON:=hd0 (OB.new wx1 SN.out.hlt);have SN:=hd0 (SN.out.alloc (.cells #[.bool false] 4));refine hK.out _ _ SN.out.sat (fun hHeld=>?_);clear hK K;try simp only[Act.put,zz])
    refine rdH 3 fun K hK=>?_
    (go_simp;go_at_call 144;(with_reducible refine(KD.out _).mono ?_);rintro en' wx3 ⟨rfl,ho_⟩;have ON:=hd0 (ON.out.later ho_);have SN:=hd0 (SN.out.later ho_);clear ho_;refine hK.out _ _ SN.out.sat (fun hHeld=>?_);clear hK K;try simp only[Act.put,zz])
    refine tkH 4 ?_ ?h ?_
    case h=>(intro w hSw;go_simp;try with_reducible rfl)
    try simp only[Act.put,zz]
    refine tkH 5 ?_ ?h ?_
    case h=>(intro w hSw;go_simp;try with_reducible rfl)
    try simp only[Act.put,zz]
    refine tkH 6 ?_ ?h ?_
    case h=>(intro w hSw;go_simp;try with_reducible rfl)
    try simp only[Act.put,zz]
    refine rdH 7 fun K hK=>?_
    (go_simp;go_at_call 140;(with_reducible refine(U5.out _ _ SN.out.rq.rd).mono ?_);rintro en' wx7 ⟨rfl,rd_,ho_⟩;have ON:=hd0 (ON.out.only ho_ SN.out.hq);have SN:=hd0 (SN.out.next rd_ ho_);clear rd_ ho_;refine hK.out _ _ SN.out.sat (fun hHeld=>?_);clear hK K;try simp only[Act.put,zz])
    refine tkH 8 ?_ ?h ?_
    case h=>(intro w hSw;go_simp;try with_reducible rfl)
    try simp only[Act.put,zz]
    refine tkH 9 ?_ ?h ?_
    case h=>(intro w hSw;go_simp;try with_reducible rfl)
    try simp only[Act.put,zz]
    refine tkH 10 ?_ ?h ?_
    case h=>(intro w hSw;go_simp;try with_reducible rfl)
    try simp only[Act.put,zz]
    refine tkH 11 ?_ ?h ?_
    case h=>(intro w hSw;go_simp;try with_reducible rfl)
    try simp only[Act.put,zz]
    refine tkH 12 ?_ ?h ?_
    case h=>(intro w hSw;go_simp;try with_reducible rfl)
    try simp only[Act.put,zz]
    refine tkH 13 ?_ ?h ?_
    case h=>(intro w hSw;go_simp;try with_reducible rfl)
    try simp only[Act.put,zz]
    refine tkH 14 ?_ ?h ?_
    case h=>(intro w hSw;go_simp;try with_reducible rfl)
    try simp only[Act.put,zz]
    have o0:=ON.out.g.c 0 _ rfl
    have of:=ON.out.g.fr 0
    refine rdH 16 fun K hK=>?_
    (go_simp;refine hK.out _ _ ?S16 (fun hHeld=>?_))
    case S16=>exact(SN.out.set ON.out.lt _).sat
    clear hK K
    refine wpAnyH_done (by kernel_rfl) ?_ _
    go_wp2_with fail
    go_meet
    exact⟨_,rfl,hd0 (FQ.mk' (SN.out.set ON.out.lt _) (ON.out.setB B4) HFA.out HOK2.out)⟩
   (go_simp;go_at_call 144;(with_reducible refine(KD.out _).mono ?_);rintro en' wx3 ⟨rfl,ho_⟩;have SN:=hd0 (SN.out.later ho_);clear ho_;refine hK.out _ _ SN.out.sat (fun hHeld=>?_);clear hK K;try simp only[Act.put,zz])
   refine tkH 4 ?_ ?h ?_
   case h=>(intro w hSw;go_simp;try with_reducible rfl)
   try simp only[Act.put,zz]
   refine tkH 5 ?_ ?h ?_
   case h=>(intro w hSw;go_simp;try with_reducible rfl)
   try simp only[Act.put,zz]
   refine tkH 6 ?_ ?h ?_
   case h=>(intro w hSw;go_simp;try with_reducible rfl)
   try simp only[Act.put,zz]
   refine wpAnyH_ready (rs:=[7,15]) (by kernel_rfl) (by simp) (AllReadyH.cons rfl (fun K hK=>?mainb27) (AllReadyH.cons rfl (fun K hK=>?sideb27) AllReadyH.nil))
   case sideb27 =>
    (go_simp;have ON:=hd0 (OB.new wx3 SN.out.hlt);have SN:=hd0 (SN.out.alloc (.cells #[.bool false] 4));refine hK.out _ _ SN.out.sat (fun hHeld=>?_);clear hK K;try simp only[Act.put,zz])
    refine rdH 7 fun K hK=>?_
    (go_simp;go_at_call 140;(with_reducible refine(U5.out _ _ SN.out.rq.rd).mono ?_);rintro en' wx7 ⟨rfl,rd_,ho_⟩;have ON:=hd0 (ON.out.only ho_ SN.out.hq);have SN:=hd0 (SN.out.next rd_ ho_);clear rd_ ho_;refine hK.out _ _ SN.out.sat (fun hHeld=>?_);clear hK K;try simp only[Act.put,zz])
    refine tkH 8 ?_ ?h ?_
    case h=>(intro w hSw;go_simp;try with_reducible rfl)
    try simp only[Act.put,zz]
    refine tkH 9 ?_ ?h ?_
    case h=>(intro w hSw;go_simp;try with_reducible rfl)
    try simp only[Act.put,zz]
    refine tkH 10 ?_ ?h ?_
    case h=>(intro w hSw;go_simp;try with_reducible rfl)
    try simp only[Act.put,zz]
    refine tkH 11 ?_ ?h ?_
    case h=>(intro w hSw;go_simp;try with_reducible rfl)
    try simp only[Act.put,zz]
    refine tkH 12 ?_ ?h ?_
    case h=>(intro w hSw;go_simp;try with_reducible rfl)
    try simp only[Act.put,zz]
    refine tkH 13 ?_ ?h ?_
    case h=>(intro w hSw;go_simp;try with_reducible rfl)
    try simp only[Act.put,zz]
    refine tkH 14 ?_ ?h ?_
    case h=>(intro w hSw;go_simp;try with_reducible rfl)
    try simp only[Act.put,zz]
    have o0:=ON.out.g.c 0 _ rfl
    have of:=ON.out.g.fr 0
    refine rdH 16 fun K hK=>?_
    (go_simp;refine hK.out _ _ ?S16 (fun hHeld=>?_))
    case S16=>exact(SN.out.set ON.out.lt _).sat
    clear hK K
    refine wpAnyH_done (by kernel_rfl) ?_ _
    go_wp2_with fail
    go_meet
    exact⟨_,rfl,hd0 (FQ.mk' (SN.out.set ON.out.lt _) (ON.out.setB B4) HFA.out HOK2.out)⟩
   (go_simp;go_at_call 140;(with_reducible refine(U5.out _ _ SN.out.rq.rd).mono ?_);rintro en' wx7 ⟨rfl,rd_,ho_⟩;have SN:=hd0 (SN.out.next rd_ ho_);clear rd_ ho_;refine hK.out _ _ SN.out.sat (fun hHeld=>?_);clear hK K;try simp only[Act.put,zz])
   refine tkH 8 ?_ ?h ?_
   case h=>(intro w hSw;go_simp;try with_reducible rfl)
   try simp only[Act.put,zz]
   refine tkH 9 ?_ ?h ?_
   case h=>(intro w hSw;go_simp;try with_reducible rfl)
   try simp only[Act.put,zz]
   refine tkH 10 ?_ ?h ?_
   case h=>(intro w hSw;go_simp;try with_reducible rfl)
   try simp only[Act.put,zz]
   refine tkH 11 ?_ ?h ?_
   case h=>(intro w hSw;go_simp;try with_reducible rfl)
   try simp only[Act.put,zz]
   refine tkH 12 ?_ ?h ?_
   case h=>(intro w hSw;go_simp;try with_reducible rfl)
   try simp only[Act.put,zz]
   refine tkH 13 ?_ ?h ?_
   case h=>(intro w hSw;go_simp;try with_reducible rfl)
   try simp only[Act.put,zz]
   refine tkH 14 ?_ ?h ?_
   case h=>(intro w hSw;go_simp;try with_reducible rfl)
   try simp only[Act.put,zz]
   refine rdH 15 fun K hK=>?_
   (go_simp;refine hK.out _ _ (SN.out.alloc _).sat (fun hHeld=>?_);clear hK K;try simp only[Act.put,zz])
   refine rdH 16 fun K hK=>?_
   (go_simp;refine hK.out _ _ ?S16 (fun hHeld=>?_))
   case S16=>exact(SN.out.alloc _).sat
   clear hK K
   refine wpAnyH_done (by kernel_rfl) ?_ _
   go_wp2_with fail
   go_meet
   exact⟨_,rfl,hd0 (FQ.mk' (SN.out.alloc _) (OB.newv _ B4 SN.out.hlt) HFA.out HOK2.out)⟩
  case rest =>
   obtain⟨O,rfl,FQ0⟩:=hcut
   clear SN0 KD U1 U2 U3 U5
   obtain⟨P5,hP5⟩:∃ p,prtT l 5=p:=⟨_,rfl⟩
   obtain⟨P6,hP6⟩:∃ p,prtT l 6=p:=⟨_,rfl⟩
   have HRR3:Hid (R=if (OK&&P5.2&&P6.2)=true then(⟨a,nm,tl,st,en,P5.1,P6.1⟩,0) else(rp0,4)):=hd0 (by
    have h:=HRR2.out
    rw[hP5,hP6] at h
    rw[h,← HOK.out]
    by_cases h1:kd=k <;> by_cases h2:E=0 <;> by_cases h3:b=4 <;> simp[h1,h2,h3])
   have CP5:Hid (∀ W r ok,FQ w W q O r a b c f (.slice vx vn vk) ok→Calls Tryz.prog 146 #[.int .u8 5,.pointer (some ⟨w.heap.size,0,none⟩),.pointer (some ⟨O,0,none⟩)] W fun en' w' =>
     en'=.returned (.agg #[.int .u8 P5.1.a,.int .u8 P5.1.b,.int .u8 P5.1.c,.int .u8 P5.1.d,.int .u8 P5.1.e,.int .u8 P5.1.f])∧FQ w w' q O r a b c f (.slice vx vn vk) (ok&&P5.2)):=hd0 fun W r ok hF=>by
    refine(portT_any 5 5 rfl w.heap.size O a b c f _ l ok W hF.pb (HV.out.later hF.bel) HL.out.1 HL.out.2 hF.o (by have:=hF.hq;have:=hF.hO;omega)).mono ?_
    rintro en' w' ⟨rfl,h1,h2⟩
    rw[hP5] at h1 ⊢
    exact⟨rfl,hF.ask h1 h2⟩
   have CP6:Hid (∀ W r ok,FQ w W q O r a b c f (.slice vx vn vk) ok→Calls Tryz.prog 146 #[.int .u8 6,.pointer (some ⟨w.heap.size,0,none⟩),.pointer (some ⟨O,0,none⟩)] W fun en' w' =>
     en'=.returned (.agg #[.int .u8 P6.1.a,.int .u8 P6.1.b,.int .u8 P6.1.c,.int .u8 P6.1.d,.int .u8 P6.1.e,.int .u8 P6.1.f])∧FQ w w' q O r a b c f (.slice vx vn vk) (ok&&P6.2)):=hd0 fun W r ok hF=>by
    refine(portT_any 6 6 rfl w.heap.size O a b c f _ l ok W hF.pb (HV.out.later hF.bel) HL.out.1 HL.out.2 hF.o (by have:=hF.hq;have:=hF.hO;omega)).mono ?_
    rintro en' w' ⟨rfl,h1,h2⟩
    rw[hP6] at h1 ⊢
    exact⟨rfl,hF.ask h1 h2⟩
   clear HRR2 HOK HB4 hB4 hP5 hP6 HV HL HFA HSZ HIF O1F HIL a64 a32 g64 g32
   go_wp2_with fail
   with_reducible refine(CP5.out _ _ _ FQ0.out).mono ?_
   rintro en' w1 ⟨rfl,hf1⟩
   have FQ1:=hd0 hf1
   have f5:=hf1.g.fr 5
   have f6:=hf1.g.fr 6
   have f7:=hf1.g.fr 7
   have f8:=hf1.g.fr 8
   have f9:=hf1.g.fr 9
   have f10:=hf1.g.fr 10
   have c5:w1.cell? ⟨q,5,none⟩=some (.int .u8 0):=hf1.g.c 5 _ rfl
   have c6:w1.cell? ⟨q,6,none⟩=some (.int .u8 0):=hf1.g.c 6 _ rfl
   have c7:w1.cell? ⟨q,7,none⟩=some (.int .u8 0):=hf1.g.c 7 _ rfl
   have c8:w1.cell? ⟨q,8,none⟩=some (.int .u8 0):=hf1.g.c 8 _ rfl
   have c9:w1.cell? ⟨q,9,none⟩=some (.int .u8 0):=hf1.g.c 9 _ rfl
   have c10:w1.cell? ⟨q,10,none⟩=some (.int .u8 0):=hf1.g.c 10 _ rfl
   clear FQ0 hf1
   go_upto_region 6 with fail
   have FQ2:=hd0 (FQ1.out.setI P5.1)
   obtain⟨w2,hw2⟩:∃ k,(((((w1.setCell ⟨q,5,none⟩ (.int .u8 P5.1.a)).setCell ⟨q,6,none⟩ (.int .u8 P5.1.b)).setCell ⟨q,7,none⟩ (.int .u8 P5.1.c)).setCell ⟨q,8,none⟩ (.int .u8 P5.1.d)).setCell ⟨q,9,none⟩ (.int .u8 P5.1.e)).setCell ⟨q,10,none⟩ (.int .u8 P5.1.f)=k:=⟨_,rfl⟩
   rw[hw2] at FQ2 ⊢
   clear hw2 c5 c6 c7 c8 c9 c10 f5 f6 f7 f8 f9 f10 FQ1
   go_wp2_with fail
   with_reducible refine(CP6.out _ _ _ FQ2.out).mono ?_
   rintro en' w3 ⟨rfl,hf1⟩
   have FQ3:=hd0 hf1
   have f11:=hf1.g.fr 11
   have f12:=hf1.g.fr 12
   have f13:=hf1.g.fr 13
   have f14:=hf1.g.fr 14
   have f15:=hf1.g.fr 15
   have f16:=hf1.g.fr 16
   have c11:w3.cell? ⟨q,11,none⟩=some (.int .u8 0):=hf1.g.c 11 _ rfl
   have c12:w3.cell? ⟨q,12,none⟩=some (.int .u8 0):=hf1.g.c 12 _ rfl
   have c13:w3.cell? ⟨q,13,none⟩=some (.int .u8 0):=hf1.g.c 13 _ rfl
   have c14:w3.cell? ⟨q,14,none⟩=some (.int .u8 0):=hf1.g.c 14 _ rfl
   have c15:w3.cell? ⟨q,15,none⟩=some (.int .u8 0):=hf1.g.c 15 _ rfl
   have c16:w3.cell? ⟨q,16,none⟩=some (.int .u8 0):=hf1.g.c 16 _ rfl
   clear FQ2 hf1
   go_upto_region 7 with fail
   have FQ4:=hd0 (FQ3.out.setO P6.1)
   obtain⟨w4,hw4⟩:∃ k,(((((w3.setCell ⟨q,11,none⟩ (.int .u8 P6.1.a)).setCell ⟨q,12,none⟩ (.int .u8 P6.1.b)).setCell ⟨q,13,none⟩ (.int .u8 P6.1.c)).setCell ⟨q,14,none⟩ (.int .u8 P6.1.d)).setCell ⟨q,15,none⟩ (.int .u8 P6.1.e)).setCell ⟨q,16,none⟩ (.int .u8 P6.1.f)=k:=⟨_,rfl⟩
   rw[hw4] at FQ4 ⊢
   clear hw4 c11 c12 c13 c14 c15 c16 f11 f12 f13 f14 f15 f16 FQ3 CP5 CP6
   obtain⟨Z,hZ⟩:∃ y:Bool,(OK&&P5.2&&P6.2)=y:=⟨_,rfl⟩
   rw[hZ] at FQ4 HRR3
   have hO0:=FQ4.out.o.c 0 _ rfl
   clear hZ
   cases Z with
   | false =>
    obtain⟨A,hA⟩:∃ A:Array Value,A=#[.int .u8 0,.int .u32 0,.int .u8 0,.bool false,.bool false,.int .u8 0,.int .u8 0,.int .u8 0,.int .u8 0,.int .u8 0,.int .u8 0,.int .u8 0,.int .u8 0,.int .u8 0,.int .u8 0,.int .u8 0,.int .u8 0]:=⟨_,rfl⟩
    have hs:A.size=17:=by rw[hA];rfl
    have TH:=hd0 (FQ4.out.pz.there (n:=A.size) (by rw[hs];exact Nat.le_refl _))
    have o1:A.all (·.oneCell')=true:=by rw[hA];simp[Value.oneCell']
    have G1:=hd0 (FQ4.out.pz.store (A:=A) (by rw[hs];rfl) o1)
    have HI:Hid ((Tryz.prog.info? 81).map (·.size)=some A.size):=hd0 (by rw[hs];kernel_rfl)
    have O1:=hd0 o1
    have HA:=hd0 hA
    clear hA hs o1
    go_wp2_with ((with_reducible refine wpList_store_mid rfl 81 (.tmp 2) (.tmp 50) rfl (w.heap.size+1) 0 A ?hx ?hy TH.out HI.out O1.out ?_);(case hx=>rfl);(case hy=>(rw[HA.out];rfl)))
    have hR0:R=(rp0,4):=by rw[HRR3.out];rfl
    exact bodyPost_ret (v:=.tuple #[.agg A,.int .i64 4]) (res_two (p:=2) (u:=3) (d:=_) rfl rfl Tryz.underlying81 _ _ (w.heap.size+1) _ rfl G1.out HI.out) rfl ⟨by rw[HA.out,hR0];rfl,below_cellsG (by omega) _ _ _ FQ4.out.bel⟩
   | true =>
    obtain⟨r,hr⟩:∃ r:Rp,r=⟨a,nm,tl,st,en,P5.1,P6.1⟩:=⟨_,rfl⟩
    obtain⟨A,hA⟩:∃ A:Array Value,A=#[.int .u8 r.lv,.int .u32 r.nm,.int .u8 r.tl,.bool r.st,.bool r.en,.int .u8 r.mi.a,.int .u8 r.mi.b,.int .u8 r.mi.c,.int .u8 r.mi.d,.int .u8 r.mi.e,.int .u8 r.mi.f,.int .u8 r.mo.a,.int .u8 r.mo.b,.int .u8 r.mo.c,.int .u8 r.mo.d,.int .u8 r.mo.e,.int .u8 r.mo.f]:=⟨_,rfl⟩
    have hs:A.size=17:=by rw[hA];rfl
    have hg:GB 81 w4 q A:=by rw[hA,hr];exact FQ4.out.g
    have HG:=hd0 hg.range
    have TH:=hd0 (FQ4.out.pz.there (n:=A.size) (by rw[hs];exact Nat.le_refl _))
    have o1:A.all (·.oneCell')=true:=by rw[hA];simp[Value.oneCell']
    have G1:=hd0 (FQ4.out.pz.store (A:=A) (by rw[hs];rfl) o1)
    have HI:Hid ((Tryz.prog.info? 81).map (·.size)=some A.size):=hd0 (by rw[hs];kernel_rfl)
    have HIL2:Hid ((Tryz.prog.info? 81).map (·.size)=some A.toList.length):=hd0 (by rw[Array.length_toList];exact HI.out)
    have O1:=hd0 o1
    have HA:=hd0 hA
    have HRr:=hd0 hr
    clear hA hs o1 hg hr
    go_wp2_with (first|((with_reducible refine wpList_load_mid rfl 81 (.tmp 5) rfl q 0 ?hx A.toList _ HG.out Tryz.underlying81 ?hu HIL2.out ?_);(case hx=>rfl);(case hu=>rfl))|((with_reducible refine wpList_store_mid rfl 81 (.tmp 2) (.tmp 51) rfl (w.heap.size+1) 0 A ?hx ?hy TH.out HI.out O1.out ?_);(case hx=>rfl);(case hy=>rfl)))
    have hR0:R=(r,0):=by rw[HRR3.out,HRr.out];rfl
    exact bodyPost_ret (v:=.tuple #[.agg A,.int .i64 0]) (res_two (p:=2) (u:=3) (d:=_) rfl rfl Tryz.underlying81 _ _ (w.heap.size+1) _ rfl G1.out HI.out) rfl ⟨by rw[HA.out,hR0],below_cellsG (by omega) _ _ _ FQ4.out.bel⟩
end Go.Proofs.YtlkdfofpnmpidaaGreat
