/- ZR05 -/
import Derived.Test.YtghaobakpdninaaGreatDoorZR04
set_option linter.unusedVariables false
set_option linter.unusedSimpArgs false
set_option maxRecDepth 100000
set_option maxHeartbeats 16000000
namespace Go.Proofs.YtghaobakpdninaaGreatDoor
open Go.RowKit
theorem run_ports0 (a b:Int):∀ W:World,(Instr.field 472 (.agg #[.int .u8 a,.int .u8 b]) 0).run Tryz.prog W=.ok (.int .u8 a) W:=fun W=>by kernel_rfl
theorem run_ports1 (a b:Int):∀ W:World,(Instr.field 472 (.agg #[.int .u8 a,.int .u8 b]) 1).run Tryz.prog W=.ok (.int .u8 b) W:=fun W=>by kernel_rfl
theorem vmembers_any (q m:Nat)(n:Int)(o:List Int)(V:List Vn)(k:Int)(w:World)(hs:TS w q n m o V)(hk:0≤k∧k<65536) :
  Calls Tryz.prog 249 #[.pointer (some ⟨q,0,none⟩),.int .u16 k] w fun en w'=>en=.returned (.int .u8 (vGet V k).1)∧w=w':=by
 have c1:=hs.tb.c1
 have lk:=hs.vm.look1 k hk
 obtain⟨a,ha⟩:∃ a,(vGet V k).1=a:=⟨_,rfl⟩
 obtain⟨b,hb⟩:∃ b,(vGet V k).2=b:=⟨_,rfl⟩
 rw[ha,hb] at lk
 rw[ha]
 have f0:=run_ports0 a b
 clear ha hb hs
 go_enter Tryz.func249,Tryz.ntmps249
 go_wp2
 go_ret
 exact⟨rfl,rfl⟩
theorem vmember_any (q m:Nat)(n:Int)(o:List Int)(V:List Vn)(p:Nat)(k:Int)(w:World)(hs:TS w q n m o V)(hp:p<256)(hk:0≤k∧k<65536) :
  Calls Tryz.prog 203 #[.pointer (some ⟨q,0,none⟩),.int .u8 (p:Int),.int .u16 k] w fun en w'=>en=.returned (.bool (memB (vGet V k).1 p))∧w=w':=by
 have M1:=hd0 (vmembers_any q m n o V k w hs hk)
 obtain⟨a,ha⟩:∃ a,(vGet V k).1=a:=⟨_,rfl⟩
 have hb:=(vGet_wf2 hs.vm.wf k).1
 rw[ha] at hb M1 ⊢
 have bb:=and_shr a p hb
 clear hs ha hb
 go_enter Tryz.func203,Tryz.ntmps203
 by_cases h8:p<8
 ·have d8:decide ((p:Int)<8)=true:=decide_eq_true (by omega)
  have e8:memB a p=decide (a / 2 ^ p % 2=1):=by unfold memB;rw[decide_eq_true h8,Bool.true_and]
  have p0:(0:Int)≤(p:Int):=by omega
  have p8:(p:Int)≤8:=by omega
  have HE:=hd0 e8
  clear e8
  go_wp2_with fail
  with_reducible refine M1.out.mono ?_
  rintro en _ ⟨rfl,rfl⟩
  go_wp2
  go_ret
  exact⟨by rw[HE.out];rfl,rfl⟩
 ·have d8:decide ((p:Int)<8)=false:=decide_eq_false (by omega)
  have e8:memB a p=false:=by unfold memB;rw[decide_eq_false h8,Bool.false_and]
  have HE:=hd0 e8
  clear e8
  go_wp2
  go_ret
  exact⟨by rw[HE.out];rfl,rfl⟩
def inF (n:Int)(o:List Int)(V:List Vn)(p:Nat)(t:Bool)(v:Int):Int × Bool :=
 if n≤(p:Int) then(0,false)
 else if memB (vGet V (if t=true∧v≠0 then v else o.getD p 0)).1 p=true then((if t=true∧v≠0 then v else o.getD p 0),true) else(0,false)
theorem vin_A (A:Array Value)(q m:Nat)(n:Int)(o:List Int)(V:List Vn)(p:Nat)(t:Bool)(v:Int)(w:World)(h12:A[12]?=some (.bool t))(h14:A[14]?=some (.int .u16 v))(hs:TS w q n m o V)(hp:p<256)(hv:0≤v∧v<65536) :
  Calls Tryz.prog 153 #[.pointer (some ⟨q,0,none⟩),.int .u8 (p:Int),.agg A] w fun en w'=>en=.returned (.tuple #[.int .u16 (inF n o V p t v).1,.bool (inF n o V p t v).2])∧Below w.heap.size w w':=by
 obtain⟨R,hR⟩:∃ R,inF n o V p t v=R:=⟨_,rfl⟩
 rw[hR]
 have HR:=hd0 hR
 clear hR
 go_enter Tryz.func153,Tryz.ntmps153
 go_upto_region 1 with fail
 have fb:=FB.new w A
 have bb:Below w.heap.size w (w.alloc (.cells A 264)):=bAo _
 have TS0:=hd0 (hs.later bb)
 obtain⟨w0,hw0⟩:∃ x,w.alloc (.cells A 264)=x:=⟨_,rfl⟩
 rw[hw0] at fb bb TS0 ⊢
 have c12:=fb.c 12 _ h12
 have c14:=fb.c 14 _ h14
 have c0:=TS0.out.tb.c0
 have HB:=hd0 bb
 clear hw0 fb bb hs
 by_cases h1:n≤(p:Int)
 ·have d1:decide (n≤(p:Int))=true:=decide_eq_true h1
  have hR0:R=(0,false):=by rw[←HR.out];unfold inF;rw[if_pos h1]
  have HR0:=hd0 hR0
  clear h1 hR0
  go_wp2
  refine bodyPost_ret (v:=.tuple #[.int .u16 0,.bool false]) (by simp[results,Tryz.results153,go_sem]) rfl ⟨by rw[HR0.out],HB.out⟩
 have d1:decide (n≤(p:Int))=false:=decide_eq_false h1
 have hp8:p<8:=by have:=TS0.out.n1;omega
 obtain⟨x,hx,hx0,hx1⟩:=TS0.out.own p hp8
 have hox:o.getD p 0=x:=by rw[List.getD_eq_getElem?_getD,hx];rfl
 obtain⟨K,hK⟩:∃ K,(if t=true∧v≠0 then v else x)=K:=⟨_,rfl⟩
 have hKb:0≤K∧K<65536:=by rw[←hK];split <;> omega
 have HRR:Hid (R=if memB (vGet V K).1 p=true then(K,true) else(0,false)):=hd0 (by rw[←HR.out];unfold inF;rw[if_neg h1,hox,hK])
 have cp:=TS0.out.tb.co p x hx
 have p0:(0:Int)≤(p:Int):=by omega
 have p8:(p:Int)<8:=by omega
 have MB:=hd0 (vmember_any q m n o V p K w0 TS0.out hp hKb)
 obtain⟨Bm,hBm⟩:∃ b,memB (vGet V K).1 p=b:=⟨_,rfl⟩
 rw[hBm] at HRR MB
 have HK:=hd0 hK
 clear hK hKb HR h1 hox hx hBm
 by_cases hg:t=true∧v≠0
 ·have hKv:K=v:=by rw[←HK.out,if_pos hg]
  have tt:t=true:=hg.1
  have dv:(v==0)=false:=by rw[beq_eq_false_iff_ne];exact hg.2
  subst tt
  subst hKv
  clear hg HK
  go_wp2_with fail
  with_reducible refine MB.out.mono ?_
  rintro en _ ⟨rfl,rfl⟩
  cases Bm with
  | true =>
   go_wp2
   refine bodyPost_ret (v:=.tuple #[.int .u16 K,.bool true]) (by simp[results,Tryz.results153,go_sem]) rfl ⟨by rw[HRR.out];rfl,HB.out⟩
  | false =>
   go_wp2
   refine bodyPost_ret (v:=.tuple #[.int .u16 0,.bool false]) (by simp[results,Tryz.results153,go_sem]) rfl ⟨by rw[HRR.out];rfl,HB.out⟩
 ·have hKx:K=x:=by rw[←HK.out,if_neg hg]
  subst hKx
  clear HK
  cases t with
  | false =>
   clear hg
   go_wp2_with fail
   with_reducible refine MB.out.mono ?_
   rintro en _ ⟨rfl,rfl⟩
   cases Bm with
   | true =>
    go_wp2
    refine bodyPost_ret (v:=.tuple #[.int .u16 K,.bool true]) (by simp[results,Tryz.results153,go_sem]) rfl ⟨by rw[HRR.out];rfl,HB.out⟩
   | false =>
    go_wp2
    refine bodyPost_ret (v:=.tuple #[.int .u16 0,.bool false]) (by simp[results,Tryz.results153,go_sem]) rfl ⟨by rw[HRR.out];rfl,HB.out⟩
  | true =>
   have hv0:v=0:=by
    by_cases h:v=0
    ·exact h
    ·exact absurd ⟨rfl,h⟩ hg
   subst hv0
   clear hg
   go_wp2_with fail
   with_reducible refine MB.out.mono ?_
   rintro en _ ⟨rfl,rfl⟩
   cases Bm with
   | true =>
    go_wp2
    refine bodyPost_ret (v:=.tuple #[.int .u16 K,.bool true]) (by simp[results,Tryz.results153,go_sem]) rfl ⟨by rw[HRR.out];rfl,HB.out⟩
   | false =>
    go_wp2
    refine bodyPost_ret (v:=.tuple #[.int .u16 0,.bool false]) (by simp[results,Tryz.results153,go_sem]) rfl ⟨by rw[HRR.out];rfl,HB.out⟩
def adI (t:List UInt8)(j:Nat):Int:=((t.getD j 0).toNat:Int)
theorem rd_six (l:List UInt8)(e:Int):(rdText l e 6).1=[]∨∃ a b c d f g,(rdText l e 6).1=[a,b,c,d,f,g]:=by
 unfold rdText
 split
 ·exact .inl rfl
 ·split
  ·exact .inl rfl
  ·rename_i h
   right
   match l,h with
   | a::b::c::d::f::g::r,_=>exact⟨a,b,c,d,f,g,rfl⟩
   |[],h=>simp at h
   |[_],h=>simp at h
   |[_,_],h=>simp at h
   |[_,_,_],h=>simp at h
   |[_,_,_,_],h=>simp at h
   |[_,_,_,_,_],h=>simp at h
theorem addr_any (q p:Nat)(l:List UInt8)(e:Int)(w:World)(hr:Rd w p l e)(hc:w.cell? ⟨q,0,none⟩=some (.pointer (some ⟨p,0,none⟩)))(hq:q<w.heap.size)(hne:q≠p)(hl:l.length≤9223372036854775807) :
  Calls Tryz.prog 143 #[.pointer (some ⟨q,0,none⟩)] w fun en w'=>en=.returned (.agg #[.int .u8 (adI (rdText l e 6).1 0),.int .u8 (adI (rdText l e 6).1 1),.int .u8 (adI (rdText l e 6).1 2),.int .u8 (adI (rdText l e 6).1 3),.int .u8 (adI (rdText l e 6).1 4),.int .u8 (adI (rdText l e 6).1 5)])∧Rd w' p (rdText l e 6).2.1 (rdText l e 6).2.2∧Only p w w':=by
 have HX:Hid (∀ w,Rd w p l e→Calls Tryz.prog 144 #[.pointer (some ⟨p,0,none⟩),.int .i64 6] w fun en w'=>en=.returned (.string (bs (rdText l e 6).1))∧Rd w' p (rdText l e 6).2.1 (rdText l e 6).2.2∧Only p w w'):=fun w hr=>text_any p l e 6 w hr hl
 have hsix:=rd_six l e
 obtain⟨t,ht⟩:∃ t,(rdText l e 6).1=t:=⟨_,rfl⟩
 rw[ht] at HX hsix ⊢
 have hz:∀ w,(Go.sizeOf 5).run Tryz.prog w=.ok 1 w:=fun w=>by kernel_rfl
 have hpl:=hr.lt
 have HR0:=hd0 hr
 have HC0:=hd0 hc
 have HSX:=hd0 hsix
 clear ht hr hc hsix
 go_enter Tryz.func143,Tryz.ntmps143
 go_upto_region 2 with fail
 refine forget (fun W=>Rd W p l e∧W.cell? ⟨q,0,none⟩=some (.pointer (some ⟨p,0,none⟩))∧MB W w.heap.size 0 0 0 0 0 0∧MB W (w.heap.size+1) 0 0 0 0 0 0∧Only p w W)
  ⟨(HR0.out.later (bAo _)).later (bAo _),((((Below.refl w.heap.size w).alloc (Nat.le_refl _) _).alloc (by simp) _).cell hq).trans HC0.out,(MB.new w 0 0 0 0 0 0).later (bAo _),MB.new' (by simp) 0 0 0 0 0 0,(World.grownBy_alloc w _ _).trans (World.grownBy_alloc _ _ _)⟩ ?_
 rintro W ⟨hr,cq,hm1,hm2,ho⟩
 obtain⟨u,hu⟩:∃ u,w.heap.size=u:=⟨_,rfl⟩
 rw[hu] at hm1 hm2 ⊢
 have HU:Hid (w.heap.size≤u):=Nat.le_of_eq hu
 have HU1:Hid (w.heap.size≤u+1):=Nat.le_succ_of_le HU.out
 have hup:u≠p:=by omega
 have hup1:u+1≠p:=by omega
 have hqW:q<W.heap.size:=Nat.lt_of_lt_of_le hq ho.size
 have HR:=hd0 hr
 have HM1:=hd0 hm1
 have HM2:=hd0 hm2
 have HO:=hd0 ho
 clear hr hm1 hm2 ho hu HR0 HC0
 rcases HSX.out with rfl|⟨a,b,c,d,f,g,rfl⟩
 ·clear HSX
  go_region_law (first
   |(go_simp;go_at_call 144;(with_reducible refine(HX.out _ ?_).mono ?_);exact HR.out;rintro en w1 ⟨rfl,hr1,ho1⟩;have k1:=HM1.out.only (Only.undrew ho1) hup;have k2:=HM2.out.only (Only.undrew ho1) hup1)
   |(refine step_copy_string rfl _ _ 78 9 rfl 5 Tryz.underlying78 hz (u+1) 0 6 6 (by rfl) (bs []) (by rfl) (by rw[bs_size];decide) (by intro j hj;rw[bs_size] at hj;exact k2.some (by decide) j hj) (by intro j hj;rw[bs_size] at hj;exact k2.free (by decide) j hj) ?_))
  all_goals rw[show w1.setCells (u+1) 0 (List.map (fun x=>Value.int IntKind.u8 (x.toNat:Int)) (bs []).data.toList)=w1 from rfl]
  all_goals
   have r0:=k2.c0;have r1:=k2.c1;have r2:=k2.c2;have r3:=k2.c3;have r4:=k2.c4;have r5:=k2.c5
   have b0:=k1.c0;have b1:=k1.c1;have b2:=k1.c2;have b3:=k1.c3;have b4:=k1.c4;have b5:=k1.c5
   have f0:=k1.f0;have f1:=k1.f1;have f2:=k1.f2;have f3:=k1.f3;have f4:=k1.f4;have f5:=k1.f5
   have HRZ:=hd0 hr1
   have HOZ:=hd0 (HO.out.trans (Only.undrew ho1))
   go_wp2
   refine bodyPost_ret (v:=.agg #[.int .u8 0,.int .u8 0,.int .u8 0,.int .u8 0,.int .u8 0,.int .u8 0]) (by simp[results,Tryz.results143,go_sem,b0,b1,b2,b3,b4,b5]) rfl ⟨rfl,?_,?_⟩
   ·exact(((((HRZ.out.setOther hup _).setOther hup _).setOther hup _).setOther hup _).setOther hup _).setOther hup _
   ·exact(((((HOZ.out.setNew HU.out _).setNew HU.out _).setNew HU.out _).setNew HU.out _).setNew HU.out _).setNew HU.out _
 ·clear HSX
  go_region_law (first
   |(go_simp;go_at_call 144;(with_reducible refine(HX.out _ ?_).mono ?_);exact HR.out;rintro en w1 ⟨rfl,hr1,ho1⟩;have k1:=HM1.out.only (Only.undrew ho1) hup;have k2:=HM2.out.only (Only.undrew ho1) hup1)
   |(refine step_copy_string rfl _ _ 78 9 rfl 5 Tryz.underlying78 hz (u+1) 0 6 6 (by rfl) (bs [a,b,c,d,f,g]) (by rfl) (by rw[bs_size];exact Nat.le_refl 6) (by intro j hj;rw[bs_size] at hj;exact k2.some (Nat.le_refl 6) j hj) (by intro j hj;rw[bs_size] at hj;exact k2.free (Nat.le_refl 6) j hj) ?_))
  all_goals
   have e:w1.setCells (u+1) 0 (List.map (fun x=>Value.int IntKind.u8 (x.toNat:Int)) (bs [a,b,c,d,f,g]).data.toList)=w1.setCells (u+1) 0 [.int .u8 (a.toNat:Int),.int .u8 (b.toNat:Int),.int .u8 (c.toNat:Int),.int .u8 (d.toNat:Int),.int .u8 (f.toNat:Int),.int .u8 (g.toNat:Int)]:=rfl
   rw[e]
   clear e
   have m2:=k2.cells (a.toNat:Int) (b.toNat:Int) (c.toNat:Int) (d.toNat:Int) (f.toNat:Int) (g.toNat:Int)
   have m1:=MB.cellsOther (show u+1≠u by omega) [.int .u8 (a.toNat:Int),.int .u8 (b.toNat:Int),.int .u8 (c.toNat:Int),.int .u8 (d.toNat:Int),.int .u8 (f.toNat:Int),.int .u8 (g.toNat:Int)] 0 _ k1
   have m3:=Rd.cellsOther hup1 [.int .u8 (a.toNat:Int),.int .u8 (b.toNat:Int),.int .u8 (c.toNat:Int),.int .u8 (d.toNat:Int),.int .u8 (f.toNat:Int),.int .u8 (g.toNat:Int)] 0 _ hr1
   have m4:=Only.cells (p:=p) HU1.out [.int .u8 (a.toNat:Int),.int .u8 (b.toNat:Int),.int .u8 (c.toNat:Int),.int .u8 (d.toNat:Int),.int .u8 (f.toNat:Int),.int .u8 (g.toNat:Int)] 0 _ (HO.out.trans (Only.undrew ho1))
   generalize w1.setCells (u+1) 0 [.int .u8 (a.toNat:Int),.int .u8 (b.toNat:Int),.int .u8 (c.toNat:Int),.int .u8 (d.toNat:Int),.int .u8 (f.toNat:Int),.int .u8 (g.toNat:Int)]=w3 at *
   have r0:=m2.c0;have r1:=m2.c1;have r2:=m2.c2;have r3:=m2.c3;have r4:=m2.c4;have r5:=m2.c5
   have b0:=m1.c0;have b1:=m1.c1;have b2:=m1.c2;have b3:=m1.c3;have b4:=m1.c4;have b5:=m1.c5
   have f0:=m1.f0;have f1:=m1.f1;have f2:=m1.f2;have f3:=m1.f3;have f4:=m1.f4;have f5:=m1.f5
   have HRZ:=hd0 m3
   have HOZ:=hd0 m4
   go_wp2
   refine bodyPost_ret (v:=.agg #[.int .u8 (a.toNat:Int),.int .u8 (b.toNat:Int),.int .u8 (c.toNat:Int),.int .u8 (d.toNat:Int),.int .u8 (f.toNat:Int),.int .u8 (g.toNat:Int)]) (by simp[results,Tryz.results143,go_sem,b0,b1,b2,b3,b4,b5]) rfl ⟨rfl,?_,?_⟩
   ·exact(((((HRZ.out.setOther hup _).setOther hup _).setOther hup _).setOther hup _).setOther hup _).setOther hup _
   ·exact(((((HOZ.out.setNew HU.out _).setNew HU.out _).setNew HU.out _).setNew HU.out _).setNew HU.out _).setNew HU.out _
theorem nat_and12 (m:Nat):m &&& 2 ^ 12=m / 2 ^ 12 % 2*2 ^ 12:=by
 apply Nat.eq_of_testBit_eq
 intro i
 rw[Nat.testBit_and,Nat.testBit_two_pow]
 have h2:m / 2 ^ 12 % 2=0∨m / 2 ^ 12 % 2=1:=by omega
 by_cases hi:12=i
 ·subst hi
  rcases h2 with h2|h2
  ·rw[Nat.testBit_eq_decide_div_mod_eq,h2];rfl
  ·rw[Nat.testBit_eq_decide_div_mod_eq,h2];rfl
 ·rw[decide_eq_false hi,Bool.and_false]
  rcases h2 with h2|h2
  ·rw[h2];simp
  ·rw[h2,Nat.one_mul,Nat.testBit_two_pow,decide_eq_false hi]
theorem and_free (n:Int)(h0:0≤n)(h1:n<65536):bits .and .u16 n 4096=n / 4096 % 2*4096:=by
 obtain⟨m,rfl⟩:∃ m:Nat,n=m:=⟨n.toNat,by omega⟩
 rw[u16_and (m:Int) 4096 (by omega) (by omega) (by omega) (by omega)]
 have e:(m:Int).toNat &&& (4096:Int).toNat=m / 2 ^ 12 % 2*2 ^ 12:=nat_and12 m
 rw[e]
 omega
def frZ:Array Value:=#[.int .u8 0,.int .u8 0,.int .u8 0,.int .u8 0,.int .u8 0,.int .u8 0,.int .u8 0,.int .u8 0,.int .u8 0,.int .u8 0,.int .u8 0,.int .u8 0,.bool false,.int .u8 0,.int .u16 0,.int .u16 0,.string { data:=#[] }]
def frC (a b:List UInt8)(t:Bool)(p v y:Int)(d:List UInt8):Array Value:=#[.int .u8 (adI a 0),.int .u8 (adI a 1),.int .u8 (adI a 2),.int .u8 (adI a 3),.int .u8 (adI a 4),.int .u8 (adI a 5),.int .u8 (adI b 0),.int .u8 (adI b 1),.int .u8 (adI b 2),.int .u8 (adI b 3),.int .u8 (adI b 4),.int .u8 (adI b 5),.bool t,.int .u8 p,.int .u16 v,.int .u16 y,.string (bs d)]
def fr1 (s:List UInt8):=rdText s 0 6
def fr2 (s:List UInt8):=rdText (fr1 s).2.1 (fr1 s).2.2 6
def fr3 (s:List UInt8):=rdText (fr2 s).2.1 (fr2 s).2.2 2
def fr4 (s:List UInt8):=rdText (fr3 s).2.1 (fr3 s).2.2 2
def fr4b (s:List UInt8):List UInt8 × Int:=if numOf (fr4 s).1 / 4096 % 2=1 then rdFail (fr4 s).2.1 (fr4 s).2.2 4 else((fr4 s).2.1,(fr4 s).2.2)
def fr5 (s:List UInt8):=rdText (fr4b s).1 (fr4b s).2 2
def tkF (s:List UInt8):Array Value × Int :=
 if 1522<s.length then(frZ,5)
 else if numOf (fr3 s).1=33024 then
  (if (rdRest (fr5 s).2.1 (fr5 s).2.2).2.2=0 then(frC (fr1 s).1 (fr2 s).1 true (numOf (fr4 s).1 / 8192) (numOf (fr4 s).1 % 4096) (numOf (fr5 s).1) (rdRest (fr5 s).2.1 (fr5 s).2.2).1,0) else(frZ,(rdRest (fr5 s).2.1 (fr5 s).2.2).2.2))
 else
  (if (rdRest (fr3 s).2.1 (fr3 s).2.2).2.2=0 then(frC (fr1 s).1 (fr2 s).1 false 0 0 (numOf (fr3 s).1) (rdRest (fr3 s).2.1 (fr3 s).2.2).1,0) else(frZ,(rdRest (fr3 s).2.1 (fr3 s).2.2).2.2))
theorem FB.set {W:World}{b:Nat}{A:Array Value}(h:FB W b A)(j:Nat)(v:Value):FB (W.setCell ⟨b,j,none⟩ v) b (A.setIfInBounds j v):=by
 unfold FB at *
 rw[setCell_eq_setRow W b j A _ _ v h]
 exact setRow_heap W b _ _ _ _ h
theorem FB.free {W:World}{b:Nat}{A:Array Value}(h:FB W b A)(j:Nat):W.frozen? ⟨b,j,none⟩=false:=by
 unfold FB at h;simp[World.frozen?,h]
theorem FB.other {W:World}{b t o:Nat}{A:Array Value}(h:FB W b A)(ht:t≠b)(v:Value):FB (W.setCell ⟨t,o,none⟩ v) b A:=by
 unfold FB;rw[Below.heap_setCell _ _ _ _ (by intro e;simp at e;omega)];exact h
theorem FB.only {p b:Nat}{w w':World}{A:Array Value}(h:FB w b A)(ho:Only p w w')(hne:b≠p):FB w' b A:=by
 unfold FB;rw[ho.block b h.lt (by simpa using hne)];exact h
theorem TK.set {w W:World}{q b o:Nat}{l:List UInt8}{e:Int}(h:TK w q W l e)(hb:w.heap.size<b)(hq:b≠q)(v:Value):TK w q (W.setCell ⟨b,o,none⟩ v) l e:=by
 obtain⟨h1,h2,h3,h4,h5⟩:=h
 refine⟨h1.setOther (by omega) v,?_,below_set h3 (Nat.le_of_lt hb) v,by simpa [World.setCell] using h4,h5⟩
 have e1:(W.setCell ⟨b,o,none⟩ v).heap[q]?=W.heap[q]?:=Below.heap_setCell _ _ _ _ (by intro e;simp at e;omega)
 have e2:(W.setCell ⟨b,o,none⟩ v).cell? ⟨q,0,none⟩=W.cell? ⟨q,0,none⟩:=by simp only[World.cell?,e1]
 rw[e2];exact h2
theorem TK.belowF {w W W':World}{q:Nat}{l:List UInt8}{e:Int}(h:TK w q W l e)(hb:Below (q+1) W W'):TK w q W' l e:=by
 obtain⟨h1,h2,h3,h4,h5⟩:=h
 refine⟨?_,(hb.cell (p:=⟨q,0,none⟩) (Nat.lt_succ_self q)).trans h2,h3.trans (hb.mono (by omega)),Nat.lt_of_lt_of_le h4 hb.size,h5⟩
 unfold Rd;rw[hb.block _ (by omega)];exact h1
theorem TK.alloc {w W:World}{q:Nat}{l:List UInt8}{e:Int}(h:TK w q W l e)(o:Obj):TK w q (W.alloc o) l e :=
 TK.belowF h ((Below.refl _ _).alloc h.lt o)
theorem FB.alloc {W:World}{b:Nat}{A:Array Value}(h:FB W b A)(o:Obj):FB (W.alloc o) b A:=h.later (bAo o)
theorem FB.there {W:World}{b:Nat}{A:Array Value}{n:Nat}(h:FB W b A)(hn:n≤A.size):W.there b 0 n:=fun j hj=>by
 rw[Nat.zero_add]
 refine⟨?_,h.free j⟩
 rw[h.c j A[j] (by simp[show j<A.size by omega])];rfl
theorem FB.store {W:World}{b:Nat}{B A:Array Value}(h:FB W b B)(hs:B.size=A.size)(h1:A.all (·.oneCell')=true):FB (W.setCells b 0 A.toList) b A:=by
 have ht:=h.there (n:=A.size) (by omega)
 have r1:=run_storeCells_at Tryz.prog b 0 264 A.toList 0 B W h (by simp;omega) (fun v hv=>(Array.all_eq_true_iff_forall_mem.1 h1) v (by simpa using hv))
 have r2:=run_storeCells_cells (P:=Tryz.prog) b 0 A.toList 0 W (fun j hj=>by simpa using (ht j (by simpa using hj)).1) (fun j hj=>by simpa using (ht j (by simpa using hj)).2)
  (fun v hv=>(Array.all_eq_true_iff_forall_mem.1 h1) v (by simpa using hv))
 simp only[Nat.add_zero] at r1 r2
 rw[r1] at r2
 have e:W.setRow b (B.toList.take 0++A.toList++B.toList.drop (0+A.toList.length)).toArray=W.setCells b 0 A.toList:=by
  injection r2
 rw[←e]
 have e2:(B.toList.take 0++A.toList++B.toList.drop (0+A.toList.length)).toArray=A:=by
  rw[List.drop_of_length_le (by simp;omega)];simp
 rw[e2]
 exact setRow_heap W b _ _ _ _ h
theorem res_frame (tmps:Array Value)(W:World)(b:Nat)(A:Array Value)(h2:tmps.getD 2 undef=.pointer (some ⟨b,0,none⟩))(hf:FB W b A)(hs:A.size=17) :
  (results Tryz.f103 tmps).run Tryz.prog W=.ok (.tuple #[.agg A,tmps.getD 3 undef]) W:=by
 have hi:(Tryz.prog.info? 264).map (·.size)=some A.size:=by rw[hs];kernel_rfl
 rw[results_cell_tmp (p:=2) (u:=3) (ty:=264) rfl,h2]
 simp[asAddr,run_loadVar_row W b 264 264 A (0,0) _ hf Tryz.underlying264 rfl hi]
end Go.Proofs.YtghaobakpdninaaGreatDoor
