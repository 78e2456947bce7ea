/- ZQ19 -/
import Derived.Test.YtlkdfofpnmpidaaGreatZQ18
set_option linter.unusedVariables false
set_option linter.unusedSimpArgs false
set_option maxRecDepth 100000
set_option maxHeartbeats 16000000
namespace Go.Proofs.YtlkdfofpnmpidaaGreat
open Go.RowKit
def trcG (lv:Int):Mc:=⟨1,128,194,0,0,56+lv⟩
def endP (o:Ow20)(t:Tr):Rp:=⟨o.a.lv,t.nm,t.tl-1,false,true,o.mc,mc0⟩
def sekM (o:Ow20)(ds:Mc)(a b:Int)(f:List UInt8):List Sn × Bool :=
 if ds=o.mc∨ds=trcG o.a.lv then
  (if (tkTr a b f).2=0∧(tkTr a b f).1.tt=o.mc∧(tkTr a b f).1.tl≠0∧((tkTr a b f).1.fr.a % 2==1)=false then
   (sentR (tkTr a b f).1.fr (putRp (endP o (tkTr a b f).1)).1 (putRp (endP o (tkTr a b f).1)).2.1 (putRp (endP o (tkTr a b f).1)).2.2.1 (putRp (endP o (tkTr a b f).1)).2.2.2.1 (putRp (endP o (tkTr a b f).1)).2.2.2.2.1,true)
  else([],decide ((tkTr a b f).2=0)))
 else([],true)
theorem adI_b (t:List UInt8)(j:Nat):0≤adI t j∧adI t j<256:=by unfold adI;have:=(t.getD j 0).toNat_lt;omega
theorem mcOf_ok (t:List UInt8):(mcOf t).Ok:=⟨adI_b _ _,adI_b _ _,adI_b _ _,adI_b _ _,adI_b _ _,adI_b _ _⟩
theorem mc0_ok:mc0.Ok:=⟨by decide,by decide,by decide,by decide,by decide,by decide⟩
theorem tkTr_ok {a b:Int}(ha:0≤a∧a<256)(f:List UInt8):(tkTr a b f).1.Ok:=by
 unfold tkTr
 split
 ·exact⟨ha,⟨(numOf_bd _).1,numOf_lt _ 4 _ (rdText_len _ _ 4) (by decide)⟩,⟨(numOf_bd _).1,numOf_lt _ 1 _ (rdText_len _ _ 1) (by decide)⟩,mcOf_ok _,mcOf_ok _⟩
 ·exact⟨by decide,by decide,by decide,mc0_ok,mc0_ok⟩
theorem prtL_b (k:UInt8)(m:Mc):(prtL k m).length≤1∧(∀ x∈prtL k m,x.2.length≤2000∧x.1=k):=by
 unfold prtL
 split
 ·simp
 ·simp[Mc.by_len]
theorem putT_len (M:Nat):∀ l:List Th,(∀ x∈l,x.2.length≤M)→(putT l).1.length≤l.length*(M+3)+1
 |[],_=>by simp[putT]
 | x::l,h=>by
  have ih:=putT_len M l (fun y hy=>h y (List.mem_cons_of_mem _ hy))
  have hx:=h x (List.mem_cons_self ..)
  have hb:(thB x).length≤M+3:=by simp[thB,be_length];omega
  have e:(x::l).length*(M+3)=l.length*(M+3)+(M+3):=by rw[List.length_cons,Nat.add_mul,Nat.one_mul]
  unfold putT
  split
  ·split
   ·simp only[List.length_append];omega
   ·simp
  ·simp
theorem putT_pm {l:List Th}(h1:l.length≤1000)(h2:∀ x∈l,x.2.length≤2000):(putT l).1.length≤1000000000:=by
 have h:=putT_len 2000 l h2
 have:l.length*(2000+3)≤1000*2003:=Nat.mul_le_mul h1 (by decide)
 omega
theorem putRp_ok {r:Rp}(h:r.Ok):PdB (putRp r).1 (putRp r).2.1 (putRp r).2.2.1 (putRp r).2.2.2.1 (putRp r).2.2.2.2.1:=by
 have l5:=prtL_b 5 r.mi
 have l6:=prtL_b 6 r.mo
 unfold putRp
 split
 ·exact⟨by simp,by simp,by simp,by simp,by simp,by simp,by simp[putT]⟩
 ·refine⟨h.lv,by simp,?_,?_,?_,?_,?_⟩
  ·unfold flR;cases r.st <;> cases r.en <;> simp
  ·unfold fxR;simp[be_length]
  ·simp only[List.length_append];omega
  ·intro x hx
   rcases List.mem_append.1 hx with hx|hx
   ·exact(l5.2 x hx).1
   ·exact(l6.2 x hx).1
  ·exact putT_pm (by simp only[List.length_append];omega) (fun x hx=>by
    rcases List.mem_append.1 hx with hx|hx
    ·exact(l5.2 x hx).1
    ·exact(l6.2 x hx).1)
theorem Tls.fr' {D:Nat→Prop}{w w':World}{v:Value}{l:List Th}(h:Tls w v l)(hr:Fr D w w')(hd:∀ g,v.ownBlock=some g→¬ D g):Tls w' v l:=by
 rcases h with h|⟨ad,c,rfl,h0|⟨b,off,rfl,h2⟩⟩
 ·exact .inl h
 ·exact .inr ⟨ad,c,rfl,.inl h0⟩
 ·refine .inr ⟨_,c,rfl,.inr ⟨b,off,rfl,fun j hj=>?_⟩⟩
  have hlt:=World.block_lt_of_cell? _ _ (h2 j hj).1
  have e:=hr.block b hlt (hd b rfl)
  have h3:=h2 j hj
  simp only[World.cell?,e] at h3 ⊢
  exact h3
theorem Fr.five {W:World}{t:Nat}{v0 v1 v2 v3 v4:Value} : Fr (fun k=>k=t) W (((((W.setCell ⟨t,0,none⟩ v0).setCell ⟨t,1,none⟩ v1).setCell ⟨t,2,none⟩ v2).setCell ⟨t,3,none⟩ v3).setCell ⟨t,4,none⟩ v4) :=
 ((((Fr.set (D:=fun k=>k=t) rfl 0 v0).trans (Fr.set (D:=fun k=>k=t) rfl 1 v1)).trans (Fr.set (D:=fun k=>k=t) rfl 2 v2)).trans (Fr.set (D:=fun k=>k=t) rfl 3 v3)).trans (Fr.set (D:=fun k=>k=t) rfl 4 v4)
theorem CM.five {w W W0:World}{o:Ow20}{ov:Value}{x:Mp}{s:Ms}{wv:Value}{B:Nat}{A:Array Value}(h:CM w W o ov x s wv B A)(h0:CM w W0 o ov x s wv B A){t:Nat}(ht:W0.heap.size≤t)(v0 v1 v2 v3 v4:Value) :
  CM w (((((W.setCell ⟨t,0,none⟩ v0).setCell ⟨t,1,none⟩ v1).setCell ⟨t,2,none⟩ v2).setCell ⟨t,3,none⟩ v3).setCell ⟨t,4,none⟩ v4) o ov x s wv B A:=by
 have hB:=h0.cb.lt
 have hw:=h0.fr.size
 refine⟨h.mm.five h0.mm ht v0 v1 v2 v3 v4,((((h.cb.other (t:=t) (by omega) v0).other (t:=t) (by omega) v1).other (t:=t) (by omega) v2).other (t:=t) (by omega) v3).other (t:=t) (by omega) v4,?_,h.lb⟩
 have hb:Below w.heap.size W (((((W.setCell ⟨t,0,none⟩ v0).setCell ⟨t,1,none⟩ v1).setCell ⟨t,2,none⟩ v2).setCell ⟨t,3,none⟩ v3).setCell ⟨t,4,none⟩ v4):=below_five ((Below.refl W.heap.size W).mono h.fr.size) (by omega)
 exact⟨hb.os.trans h.fr.os,hb.tape.trans h.fr.tape,hb.output.trans h.fr.output,Nat.le_trans h.fr.size hb.size,fun k hk hd=>(hb.block k hk).trans (h.fr.block k hk hd)⟩
theorem GB.five {T:TypeId}{W:World}{q:Nat}{A:Array Value}(h:GB T W q A){t:Nat}(ht:t≠q)(v0 v1 v2 v3 v4:Value) :
  GB T (((((W.setCell ⟨t,0,none⟩ v0).setCell ⟨t,1,none⟩ v1).setCell ⟨t,2,none⟩ v2).setCell ⟨t,3,none⟩ v3).setCell ⟨t,4,none⟩ v4) q A :=
 ((((h.other ht v0).other ht v1).other ht v2).other ht v3).other ht v4
theorem CM.nine {w W:World}{o:Ow20}{ov:Value}{x:Mp}{s:Ms}{wv:Value}{B:Nat}{A:Array Value}{t:Nat}{tr:Tr}(h:CM w W o ov x s wv B A)(g:GB 132 W t #[.int .u8 tr.lv,.int .u32 tr.nm,.int .u8 tr.tl,.int .u8 tr.fr.a,.int .u8 tr.fr.b,.int .u8 tr.fr.c,.int .u8 tr.fr.d,.int .u8 tr.fr.e,.int .u8 tr.fr.f,.int .u8 tr.tt.a,.int .u8 tr.tt.b,.int .u8 tr.tt.c,.int .u8 tr.tt.d,.int .u8 tr.tt.e,.int .u8 tr.tt.f]) :
  W.cell? ⟨x.p,0,none⟩=some (.int .u8 o.a.lv)∧W.cell? ⟨t,1,none⟩=some (.int .u32 tr.nm)∧W.cell? ⟨t,2,none⟩=some (.int .u8 tr.tl)∧W.cell? ⟨x.p,5,none⟩=some (.int .u8 o.mc.a)∧W.cell? ⟨x.p,6,none⟩=some (.int .u8 o.mc.b)∧W.cell? ⟨x.p,7,none⟩=some (.int .u8 o.mc.c)∧W.cell? ⟨x.p,8,none⟩=some (.int .u8 o.mc.d)∧W.cell? ⟨x.p,9,none⟩=some (.int .u8 o.mc.e)∧W.cell? ⟨x.p,10,none⟩=some (.int .u8 o.mc.f) :=
 ⟨h.mm.clv,g.c 1 _ rfl,g.c 2 _ rfl,h.mm.cm0,h.mm.cm1,h.mm.cm2,h.mm.cm3,h.mm.cm4,h.mm.cm5⟩
theorem msought_any (o:Ow20)(ho:o.Ok)(hlv:o.a.lv<8)(ov:Value)(x:Mp)(s:Ms)(wv:Value)(sr ds:Mc)(a b c:Int)(f:List UInt8)(v:Value)(l:List Th)(w:World)(h:MM w o ov x s wv)
  (hp:PdB a b c f l):Calls Tryz.prog 98 #[.pointer (some ⟨x.p,0,none⟩),.agg #[.int .u8 sr.a,.int .u8 sr.b,.int .u8 sr.c,.int .u8 sr.d,.int .u8 sr.e,.int .u8 sr.f,.int .u8 ds.a,.int .u8 ds.b,.int .u8 ds.c,.int .u8 ds.d,.int .u8 ds.e,.int .u8 ds.f,.int .u8 a,.int .u8 b,.int .u8 c,.string (bs f),v]] w fun en w' =>
  ∃ u,en=.returned (.tuple #[u,.bool (sekM o ds a b f).2])∧Ow 7 snC 55 w' w.heap.size u (sekM o ds a b f).1∧MM w' o ov x s wv∧Fr (x.D wv) w w':=by
 have HP:=hd0 hp
 have H0:=hd0 h
 have HOK:=hd0 ho
 obtain⟨⟨tr,e⟩,ht⟩:∃ z,tkTr a b f=z:=⟨_,rfl⟩
 have htok:=tkTr_ok (b:=b) HP.out.pa f
 rw[ht] at htok
 have HTOK:Hid tr.Ok:=hd0 htok
 obtain⟨AT,hAT⟩:∃ A:Array Value,A=#[.int .u8 tr.lv,.int .u32 tr.nm,.int .u8 tr.tl,.int .u8 tr.fr.a,.int .u8 tr.fr.b,.int .u8 tr.fr.c,.int .u8 tr.fr.d,.int .u8 tr.fr.e,.int .u8 tr.fr.f,.int .u8 tr.tt.a,.int .u8 tr.tt.b,.int .u8 tr.tt.c,.int .u8 tr.tt.d,.int .u8 tr.tt.e,.int .u8 tr.tt.f]:=⟨_,rfl⟩
 have HAT:=hd0 hAT
 have SAT:=hd0 (show AT.size=15 by rw[hAT];rfl)
 have OAT:=hd0 (show AT.all (·.oneCell')=true by rw[hAT];simp[Value.oneCell'])
 have IAT:=hd0 (show(Tryz.prog.info? 132).map (·.size)=some AT.size by rw[SAT.out];kernel_rfl)
 have TK:Hid (∀ W,Calls Tryz.prog 127 #[.agg #[.int .u8 a,.int .u8 b,.int .u8 c,.string (bs f),v]] W fun en w'=>en=.returned (.tuple #[.agg AT,.int .i64 e])∧Below W.heap.size W w'):=hd0 fun W=>by
  have h:=lttake_any v a b c f W HP.out.pf
  rw[ht] at h;rw[HAT.out];exact h
 obtain⟨GL,hGL⟩:∃ z,56+o.a.lv=z:=⟨_,rfl⟩
 have HG:Hid (trcG o.a.lv=⟨1,128,194,0,0,GL⟩):=hd0 (by unfold trcG;rw[hGL])
 have TRC:Hid (∀ w,Calls Tryz.prog 51 #[.int .u8 o.a.lv] w fun en w'=>en=.returned (.tuple #[.agg #[.int .u8 1,.int .u8 128,.int .u8 194,.int .u8 0,.int .u8 0,.int .u8 GL],.bool true])∧Below w.heap.size w w'):=hd0 fun w=>by
  have h:=Trace_any o.a.lv w HOK.out.a.lv.1 HOK.out.a.lv.2
  unfold grpV at h
  rw[if_neg (by omega),hGL] at h
  exact h
 obtain⟨D,hD⟩:∃ D,decide (ds=o.mc)=D:=⟨_,rfl⟩
 obtain⟨D2,hD2⟩:∃ D,decide (ds=(⟨1,128,194,0,0,GL⟩:Mc))=D:=⟨_,rfl⟩
 obtain⟨R,hR⟩:∃ R,sekM o ds a b f=R:=⟨_,rfl⟩
 have HR:Hid (R=if (D||D2)=true then(if e=0∧tr.tt=o.mc∧tr.tl≠0∧(tr.fr.a % 2==1)=false then(sentR tr.fr (putRp (endP o tr)).1 (putRp (endP o tr)).2.1 (putRp (endP o tr)).2.2.1 (putRp (endP o tr)).2.2.2.1 (putRp (endP o tr)).2.2.2.2.1,true) else([],decide (e=0))) else([],true)):=hd0 (by
  rw[←hR];unfold sekM;rw[ht,HG.out,← hD,← hD2];simp only[Bool.or_eq_true,decide_eq_true_eq])
 have hne:∀ W:World,(binOp .neq 25 (.agg #[.int .u8 ds.a,.int .u8 ds.b,.int .u8 ds.c,.int .u8 ds.d,.int .u8 ds.e,.int .u8 ds.f]) (.agg #[.int .u8 o.mc.a,.int .u8 o.mc.b,.int .u8 o.mc.c,.int .u8 o.mc.d,.int .u8 o.mc.e,.int .u8 o.mc.f])).run Tryz.prog W=.ok (.bool (!D)) W:=fun W=>by rw[←hD];exact neq_macG ds o.mc W
 have hne2:∀ W:World,(binOp .neq 25 (.agg #[.int .u8 ds.a,.int .u8 ds.b,.int .u8 ds.c,.int .u8 ds.d,.int .u8 ds.e,.int .u8 ds.f]) (.agg #[.int .u8 1,.int .u8 128,.int .u8 194,.int .u8 0,.int .u8 0,.int .u8 GL])).run Tryz.prog W=.ok (.bool (!D2)) W:=fun W=>by rw[←hD2];exact neq_macG ds ⟨1,128,194,0,0,GL⟩ W
 rw[hR]
 have C0:=hd0 (CM.box h #[.int .u8 sr.a,.int .u8 sr.b,.int .u8 sr.c,.int .u8 sr.d,.int .u8 sr.e,.int .u8 sr.f,.int .u8 ds.a,.int .u8 ds.b,.int .u8 ds.c,.int .u8 ds.d,.int .u8 ds.e,.int .u8 ds.f,.int .u8 a,.int .u8 b,.int .u8 c,.string (bs f),v])
 clear hR ht h hp hD hD2 hAT ho htok hlv hGL
 go_enter Tryz.func98,Tryz.ntmps98
 go_upto_region 1 with fail
 obtain⟨w0,hw0⟩:∃ z,w.alloc (.cells #[.int .u8 sr.a,.int .u8 sr.b,.int .u8 sr.c,.int .u8 sr.d,.int .u8 sr.e,.int .u8 sr.f,.int .u8 ds.a,.int .u8 ds.b,.int .u8 ds.c,.int .u8 ds.d,.int .u8 ds.e,.int .u8 ds.f,.int .u8 a,.int .u8 b,.int .u8 c,.string (bs f),v] 142)=z:=⟨_,rfl⟩
 obtain⟨B,hBB⟩:∃ z,w.heap.size=z:=⟨_,rfl⟩
 have HB:=hd0 hBB
 rw[hw0] at C0 ⊢
 rw[hBB] at C0 ⊢
 clear hw0 hBB
 have c0:w0.cell? ⟨x.p,0,none⟩=some (.int .u8 o.a.lv):=C0.out.mm.clv
 go_wp2_with fail
 with_reducible refine(TRC.out _).mono ?_
 rintro en wt ⟨rfl,hbt⟩
 have Ct:=hd0 (C0.out.later hbt)
 clear hbt C0 c0
 go_upto_region 2 with fail
 have g1:=GB.new 25 wt #[.int .u8 1,.int .u8 128,.int .u8 194,.int .u8 0,.int .u8 0,.int .u8 GL]
 have C1:=hd0 (Ct.out.alloc (.cells #[.int .u8 1,.int .u8 128,.int .u8 194,.int .u8 0,.int .u8 0,.int .u8 GL] 25))
 obtain⟨w1,hw1⟩:∃ z,wt.alloc (.cells #[.int .u8 1,.int .u8 128,.int .u8 194,.int .u8 0,.int .u8 0,.int .u8 GL] 25)=z:=⟨_,rfl⟩
 obtain⟨t6,ht6⟩:∃ z,wt.heap.size=z:=⟨_,rfl⟩
 rw[hw1] at C1 g1 ⊢
 rw[ht6] at g1 ⊢
 have G1:=hd0 g1
 clear hw1 ht6 g1 Ct
 go_cut [34] (fun s34 wx=>s34=.bool (!(D||D2))∧Hid (CM w wx o ov x s wv B #[.int .u8 sr.a,.int .u8 sr.b,.int .u8 sr.c,.int .u8 sr.d,.int .u8 sr.e,.int .u8 sr.f,.int .u8 ds.a,.int .u8 ds.b,.int .u8 ds.c,.int .u8 ds.d,.int .u8 ds.e,.int .u8 ds.f,.int .u8 a,.int .u8 b,.int .u8 c,.string (bs f),v]))
 case first =>
  have m0:∀ kk:Later w1,kk.out.cell? ⟨x.p,5,none⟩=some (.int .u8 o.mc.a):=fun kk=>(C1.out.later kk.h).mac.1
  have m1:∀ kk:Later w1,kk.out.cell? ⟨x.p,6,none⟩=some (.int .u8 o.mc.b):=fun kk=>(C1.out.later kk.h).mac.2.1
  have m2:∀ kk:Later w1,kk.out.cell? ⟨x.p,7,none⟩=some (.int .u8 o.mc.c):=fun kk=>(C1.out.later kk.h).mac.2.2.1
  have m3:∀ kk:Later w1,kk.out.cell? ⟨x.p,8,none⟩=some (.int .u8 o.mc.d):=fun kk=>(C1.out.later kk.h).mac.2.2.2.1
  have m4:∀ kk:Later w1,kk.out.cell? ⟨x.p,9,none⟩=some (.int .u8 o.mc.e):=fun kk=>(C1.out.later kk.h).mac.2.2.2.2.1
  have m5:∀ kk:Later w1,kk.out.cell? ⟨x.p,10,none⟩=some (.int .u8 o.mc.f):=fun kk=>(C1.out.later kk.h).mac.2.2.2.2.2
  have d0:∀ kk:Later w1,kk.out.cell? ⟨B,6,none⟩=some (.int .u8 ds.a):=fun kk=>(C1.out.later kk.h).dst.1
  have d1:∀ kk:Later w1,kk.out.cell? ⟨B,7,none⟩=some (.int .u8 ds.b):=fun kk=>(C1.out.later kk.h).dst.2.1
  have d2:∀ kk:Later w1,kk.out.cell? ⟨B,8,none⟩=some (.int .u8 ds.c):=fun kk=>(C1.out.later kk.h).dst.2.2.1
  have d3:∀ kk:Later w1,kk.out.cell? ⟨B,9,none⟩=some (.int .u8 ds.d):=fun kk=>(C1.out.later kk.h).dst.2.2.2.1
  have d4:∀ kk:Later w1,kk.out.cell? ⟨B,10,none⟩=some (.int .u8 ds.e):=fun kk=>(C1.out.later kk.h).dst.2.2.2.2.1
  have d5:∀ kk:Later w1,kk.out.cell? ⟨B,11,none⟩=some (.int .u8 ds.f):=fun kk=>(C1.out.later kk.h).dst.2.2.2.2.2
  have g0:∀ kk:Later w1,kk.out.cell? ⟨t6,0,none⟩=some (.int .u8 1):=fun kk=>(G1.out.later kk.h).c 0 _ rfl
  have g1:∀ kk:Later w1,kk.out.cell? ⟨t6,1,none⟩=some (.int .u8 128):=fun kk=>(G1.out.later kk.h).c 1 _ rfl
  have g2:∀ kk:Later w1,kk.out.cell? ⟨t6,2,none⟩=some (.int .u8 194):=fun kk=>(G1.out.later kk.h).c 2 _ rfl
  have g3:∀ kk:Later w1,kk.out.cell? ⟨t6,3,none⟩=some (.int .u8 0):=fun kk=>(G1.out.later kk.h).c 3 _ rfl
  have g4:∀ kk:Later w1,kk.out.cell? ⟨t6,4,none⟩=some (.int .u8 0):=fun kk=>(G1.out.later kk.h).c 4 _ rfl
  have g5:∀ kk:Later w1,kk.out.cell? ⟨t6,5,none⟩=some (.int .u8 GL):=fun kk=>(G1.out.later kk.h).c 5 _ rfl
  have LH:=hd0 (fun kk:Later w1=>C1.out.later kk.h)
  cases D with
  | true =>
   refine wp_region_later (by kernel_rfl) (by kernel_rfl) ?_
   repeat (go_big_quiet_step (fail))
   refine wpQuiet_nil ?_
   rintro _ ⟨kk,rfl⟩
   go_wp2_with fail
   go_meet
   exact⟨by trivial,hd0 (LH.out kk)⟩
  | false =>
   refine wp_region_later (by kernel_rfl) (by kernel_rfl) ?_
   repeat (go_big_quiet_step (fail))
   refine wpQuiet_nil ?_
   rintro _ ⟨kk,rfl⟩
   go_wp2_with fail
   go_meet
   exact⟨by trivial,hd0 (LH.out kk)⟩
 case rest =>
  obtain⟨rfl,HC⟩:=hcut
  clear C1 G1 hne2
  obtain⟨DD,hDD⟩:∃ z,(D||D2)=z:=⟨_,rfl⟩
  rw[hDD] at HR ⊢
  clear hDD
  cases DD with
  | false =>
   have HZ:=hd0 (show R=([],true) by rw[HR.out];rfl)
   clear HR
   go_wp2
   go_ret2
   exact⟨.slice none 0 0,by first|(rw[HZ.out];done)|(rw[HZ.out];rfl),by rw[HZ.out];exact Ow.none _ _,HC.out.mm,HC.out.fr⟩
  | true =>
   have HR2:=hd0 (show R=(if e=0∧tr.tt=o.mc∧tr.tl≠0∧(tr.fr.a % 2==1)=false then(sentR tr.fr (putRp (endP o tr)).1 (putRp (endP o tr)).2.1 (putRp (endP o tr)).2.2.1 (putRp (endP o tr)).2.2.2.1 (putRp (endP o tr)).2.2.2.2.1,true) else([],decide (e=0))) by rw[HR.out];rfl)
   clear HR hne
   have p0:=HC.out.pdu.1
   have p1:=HC.out.pdu.2.1
   have p2:=HC.out.pdu.2.2.1
   have p3:=HC.out.pdu.2.2.2.1
   have p4:=HC.out.pdu.2.2.2.2
   go_wp2_with fail
   with_reducible refine(TK.out _).mono ?_
   rintro en w2 ⟨rfl,hb2⟩
   have C2:=hd0 (HC.out.later hb2)
   clear hb2 HC p0 p1 p2 p3 p4 TK
   have gz:=GB.new 132 w2 #[.int .u8 0,.int .u32 0,.int .u8 0,.int .u8 0,.int .u8 0,.int .u8 0,.int .u8 0,.int .u8 0,.int .u8 0,.int .u8 0,.int .u8 0,.int .u8 0,.int .u8 0,.int .u8 0,.int .u8 0]
   have TH:=hd0 (gz.there (n:=AT.size) (Nat.le_of_eq SAT.out))
   go_upto_region 5 with((with_reducible refine wpList_store_mid rfl 132 (.tmp 8) (.tmp 39) rfl w2.heap.size 0 AT ?hx ?hy TH.out IAT.out OAT.out ?_);(case hx=>rfl);(case hy=>rfl))
   have g3:=gz.store (A:=AT) SAT.out.symm OAT.out
   have hbz:Below w2.heap.size w2 ((w2.alloc (.cells yT 132)).setCells w2.heap.size 0 AT.toList):=below_cellsG (Nat.le_refl _) _ _ _ (bA _)
   have C3:=hd0 (C2.out.later hbz)
   obtain⟨t,htt⟩:∃ k,w2.heap.size=k:=⟨_,rfl⟩
   have HT:=hd0 (CM.notD H0.out (k:=t) (by rw[←htt];exact C2.out.fr.size))
   obtain⟨w3,hw3⟩:∃ k,(w2.alloc (.cells yT 132)).setCells w2.heap.size 0 AT.toList=k:=⟨_,rfl⟩
   rw[htt] at hw3
   rw[htt,hw3] at g3 C3 ⊢
   rw[HAT.out] at g3
   have G3:=hd0 g3
   clear gz g3 hbz hw3 htt TH C2
   obtain⟨DT,hDT⟩:∃ D,decide (tr.tt=o.mc)=D:=⟨_,rfl⟩
   obtain⟨G,hG⟩:∃ G,(tr.fr.a % 2==1)=G:=⟨_,rfl⟩
   obtain⟨TL,hTL⟩:∃ z,tr.tl=z:=⟨_,rfl⟩
   obtain⟨V,hV⟩:∃ V,(!decide (e=0)||(!DT||(decide (TL=0)||G)))=V:=⟨_,rfl⟩
   have HVV:=hd0 hV
   have hneT:∀ W:World,(binOp .neq 25 (.agg #[.int .u8 tr.tt.a,.int .u8 tr.tt.b,.int .u8 tr.tt.c,.int .u8 tr.tt.d,.int .u8 tr.tt.e,.int .u8 tr.tt.f]) (.agg #[.int .u8 o.mc.a,.int .u8 o.mc.b,.int .u8 o.mc.c,.int .u8 o.mc.d,.int .u8 o.mc.e,.int .u8 o.mc.f])).run Tryz.prog W=.ok (.bool (!DT)) W:=fun W=>by rw[←hDT];exact neq_macG tr.tt o.mc W
   have GR:Hid (∀ w,Calls Tryz.prog 73 #[.agg #[.int .u8 tr.fr.a,.int .u8 tr.fr.b,.int .u8 tr.fr.c,.int .u8 tr.fr.d,.int .u8 tr.fr.e,.int .u8 tr.fr.f]] w fun en w'=>en=.returned (.bool G)∧Below w.heap.size w w'):=hd0 fun w=>by rw[←hG];exact groupM_any tr.fr HTOK.out.fr w
   have HRV:Hid (R=if V=false then(sentR tr.fr (putRp (endP o tr)).1 (putRp (endP o tr)).2.1 (putRp (endP o tr)).2.2.1 (putRp (endP o tr)).2.2.2.1 (putRp (endP o tr)).2.2.2.2.1,true) else([],decide (e=0))):=hd0 (by
    rw[HR2.out,← HVV.out,← hG,← hDT,hTL]
    by_cases h1:e=0 <;> by_cases h2:tr.tt=o.mc <;> by_cases h3:TL=0 <;> cases h4:(tr.fr.a % 2==1) <;> simp[h1,h2,h3,h4])
   clear hDT hG HR2
   go_cut [62] (fun s62 wx=>s62=.bool V∧Hid (CM w wx o ov x s wv B #[.int .u8 sr.a,.int .u8 sr.b,.int .u8 sr.c,.int .u8 sr.d,.int .u8 sr.e,.int .u8 sr.f,.int .u8 ds.a,.int .u8 ds.b,.int .u8 ds.c,.int .u8 ds.d,.int .u8 ds.e,.int .u8 ds.f,.int .u8 a,.int .u8 b,.int .u8 c,.string (bs f),v]∧GB 132 wx t #[.int .u8 tr.lv,.int .u32 tr.nm,.int .u8 tr.tl,.int .u8 tr.fr.a,.int .u8 tr.fr.b,.int .u8 tr.fr.c,.int .u8 tr.fr.d,.int .u8 tr.fr.e,.int .u8 tr.fr.f,.int .u8 tr.tt.a,.int .u8 tr.tt.b,.int .u8 tr.tt.c,.int .u8 tr.tt.d,.int .u8 tr.tt.e,.int .u8 tr.tt.f]))
   case first =>
    have m0:∀ kk:Later w3,kk.out.cell? ⟨x.p,5,none⟩=some (.int .u8 o.mc.a):=fun kk=>(C3.out.later kk.h).mac.1
    have m1:∀ kk:Later w3,kk.out.cell? ⟨x.p,6,none⟩=some (.int .u8 o.mc.b):=fun kk=>(C3.out.later kk.h).mac.2.1
    have m2:∀ kk:Later w3,kk.out.cell? ⟨x.p,7,none⟩=some (.int .u8 o.mc.c):=fun kk=>(C3.out.later kk.h).mac.2.2.1
    have m3:∀ kk:Later w3,kk.out.cell? ⟨x.p,8,none⟩=some (.int .u8 o.mc.d):=fun kk=>(C3.out.later kk.h).mac.2.2.2.1
    have m4:∀ kk:Later w3,kk.out.cell? ⟨x.p,9,none⟩=some (.int .u8 o.mc.e):=fun kk=>(C3.out.later kk.h).mac.2.2.2.2.1
    have m5:∀ kk:Later w3,kk.out.cell? ⟨x.p,10,none⟩=some (.int .u8 o.mc.f):=fun kk=>(C3.out.later kk.h).mac.2.2.2.2.2
    have y0:∀ kk:Later w3,kk.out.cell? ⟨t,9,none⟩=some (.int .u8 tr.tt.a):=fun kk=>(G3.out.later kk.h).c 9 _ rfl
    have y1:∀ kk:Later w3,kk.out.cell? ⟨t,10,none⟩=some (.int .u8 tr.tt.b):=fun kk=>(G3.out.later kk.h).c 10 _ rfl
    have y2:∀ kk:Later w3,kk.out.cell? ⟨t,11,none⟩=some (.int .u8 tr.tt.c):=fun kk=>(G3.out.later kk.h).c 11 _ rfl
    have y3:∀ kk:Later w3,kk.out.cell? ⟨t,12,none⟩=some (.int .u8 tr.tt.d):=fun kk=>(G3.out.later kk.h).c 12 _ rfl
    have y4:∀ kk:Later w3,kk.out.cell? ⟨t,13,none⟩=some (.int .u8 tr.tt.e):=fun kk=>(G3.out.later kk.h).c 13 _ rfl
    have y5:∀ kk:Later w3,kk.out.cell? ⟨t,14,none⟩=some (.int .u8 tr.tt.f):=fun kk=>(G3.out.later kk.h).c 14 _ rfl
    have z0:∀ kk:Later w3,kk.out.cell? ⟨t,3,none⟩=some (.int .u8 tr.fr.a):=fun kk=>(G3.out.later kk.h).c 3 _ rfl
    have z1:∀ kk:Later w3,kk.out.cell? ⟨t,4,none⟩=some (.int .u8 tr.fr.b):=fun kk=>(G3.out.later kk.h).c 4 _ rfl
    have z2:∀ kk:Later w3,kk.out.cell? ⟨t,5,none⟩=some (.int .u8 tr.fr.c):=fun kk=>(G3.out.later kk.h).c 5 _ rfl
    have z3:∀ kk:Later w3,kk.out.cell? ⟨t,6,none⟩=some (.int .u8 tr.fr.d):=fun kk=>(G3.out.later kk.h).c 6 _ rfl
    have z4:∀ kk:Later w3,kk.out.cell? ⟨t,7,none⟩=some (.int .u8 tr.fr.e):=fun kk=>(G3.out.later kk.h).c 7 _ rfl
    have z5:∀ kk:Later w3,kk.out.cell? ⟨t,8,none⟩=some (.int .u8 tr.fr.f):=fun kk=>(G3.out.later kk.h).c 8 _ rfl
    have c2:∀ kk:Later w3,kk.out.cell? ⟨t,2,none⟩=some (.int .u8 TL):=fun kk=>by rw[←hTL];exact(G3.out.later kk.h).c 2 _ rfl
    have LH:=hd0 (fun kk:Later w3=>And.intro (C3.out.later kk.h) (G3.out.later kk.h))
    clear hTL
    by_cases h1:e=0
    ·have e0:(e != 0)=false:=by rw[h1];rfl
     cases DT with
     | false =>
      have HZ:=hd0 (show V=true by rw[←HVV.out];simp)
      clear h1 hV
      refine wp_region_later (by kernel_rfl) (by kernel_rfl) ?_
      repeat (go_big_quiet_step (first|(go_at_call 73;exact Calls.later (GR.out _))))
      refine wpQuiet_nil ?_
      rintro _ ⟨kk,rfl⟩
      go_wp2_with fail
      go_meet
      exact⟨by rw[HZ.out],hd0 (LH.out kk)⟩
     | true =>
      by_cases h3:TL=0
      ·have e3:(TL==0)=true:=by rw[h3];rfl
       have HZ:=hd0 (show V=true by rw[←HVV.out,decide_eq_true h3];simp)
       clear h1 h3 hV
       refine wp_region_later (by kernel_rfl) (by kernel_rfl) ?_
       repeat (go_big_quiet_step (first|(go_at_call 73;exact Calls.later (GR.out _))))
       refine wpQuiet_nil ?_
       rintro _ ⟨kk,rfl⟩
       go_wp2_with fail
       go_meet
       exact⟨by rw[HZ.out],hd0 (LH.out kk)⟩
      ·have e3:(TL==0)=false:=by rw[beq_eq_false_iff_ne];exact h3
       have HZ:=hd0 (show V=G by rw[←HVV.out,decide_eq_true h1,decide_eq_false h3];rfl)
       clear h1 h3 hV
       refine wp_region_later (by kernel_rfl) (by kernel_rfl) ?_
       repeat (go_big_quiet_step (first|(go_at_call 73;exact Calls.later (GR.out _))))
       refine wpQuiet_nil ?_
       rintro _ ⟨kk,rfl⟩
       go_wp2_with fail
       go_meet
       exact⟨by rw[HZ.out],hd0 (LH.out kk)⟩
    ·have e0:(e != 0)=true:=by rw[bne_iff_ne];exact h1
     have HZ:=hd0 (show V=true by rw[←HVV.out,decide_eq_false h1];rfl)
     clear h1 hV
     refine wp_region_later (by kernel_rfl) (by kernel_rfl) ?_
     repeat (go_big_quiet_step (first|(go_at_call 73;exact Calls.later (GR.out _))))
     refine wpQuiet_nil ?_
     rintro _ ⟨kk,rfl⟩
     go_wp2_with fail
     go_meet
     exact⟨by rw[HZ.out],hd0 (LH.out kk)⟩
   case rest =>
    obtain⟨rfl,HC⟩:=hcut
    have C4:=hd0 HC.out.1
    have G4:=hd0 HC.out.2
    clear HC C3 G3 hneT GR
    cases V with
    | true =>
     have HZ:=hd0 (show R=([],decide (e=0)) by rw[HRV.out];rfl)
     obtain⟨E,hE⟩:∃ E,decide (e=0)=E:=⟨_,rfl⟩
     have e1:(e==0)=E:=by rw[←hE];by_cases h:e=0 <;> simp[h]
     rw[hE] at HZ
     clear HRV hE hV HVV
     go_wp2
     go_ret2
     exact⟨.slice none 0 0,by first|(rw[HZ.out];done)|(rw[HZ.out];rfl),by rw[HZ.out];exact Ow.none _ _,C4.out.mm,C4.out.fr⟩
    | false =>
     have hTL0:TL≠0:=by
      intro h
      have:=HVV.out
      rw[decide_eq_true h] at this
      simp at this
     have HTL:=hd0 hTL0
     have HZ:=hd0 (show R=(sentR tr.fr (putRp (endP o tr)).1 (putRp (endP o tr)).2.1 (putRp (endP o tr)).2.2.1 (putRp (endP o tr)).2.2.2.1 (putRp (endP o tr)).2.2.2.2.1,true) by rw[HRV.out];rfl)
     clear HRV hV HVV hTL0
     have hrok:(endP o tr).Ok:=⟨HOK.out.a.lv,HTOK.out.nm,by have h1:=HTOK.out.tl;have h2:=HTL.out;show 0≤tr.tl-1∧tr.tl-1<256;omega,HOK.out.mc,mc0_ok⟩
     have HPR:=hd0 (putRp_ok hrok)
     have hw8:IntKind.u8.wrap (tr.tl-1)=tr.tl-1:=IntWalk.u8_in _ (by have h1:=HTOK.out.tl;have h2:=HTL.out;omega)
     obtain⟨⟨p1,p2,p3,P,L,pe⟩,hP⟩:∃ z,putRp (endP o tr)=z:=⟨_,rfl⟩
     have PR:Hid (∀ W,Calls Tryz.prog 128 #[.agg #[.int .u8 o.a.lv,.int .u32 tr.nm,.int .u8 (tr.tl-1),.bool false,.bool true,.int .u8 o.mc.a,.int .u8 o.mc.b,.int .u8 o.mc.c,.int .u8 o.mc.d,.int .u8 o.mc.e,.int .u8 o.mc.f,.int .u8 0,.int .u8 0,.int .u8 0,.int .u8 0,.int .u8 0,.int .u8 0]] W fun en w' =>
       ∃ v',en=.returned (.tuple #[.agg #[.int .u8 p1,.int .u8 p2,.int .u8 p3,.string (bs P),v'],.int .i64 pe])∧TlT w' W.heap.size v' L∧Below W.heap.size W w'):=hd0 fun W=>by
      have h:=ltputR_any (endP o tr) W hrok
      rw[hP] at h;exact h
     rw[hP] at HZ HPR
     have HPQ:Hid (PdB p1 p2 p3 P L):=hd0 HPR.out
     obtain⟨T1,hT1⟩:∃ z,tr.tl-1=z:=⟨_,rfl⟩
     rw[hT1] at PR hw8
     clear hrok hP HTL hTL
     go_upto_region 7 with fail
     go_cut [10] (fun s10 wx=>∃ (bx:Nat) (v':Value),s10=.pointer (some ⟨bx,0,none⟩)∧Hid (PB 103 wx bx p1 p2 p3 P v'∧Tls wx v' L∧CM w wx o ov x s wv B #[.int .u8 sr.a,.int .u8 sr.b,.int .u8 sr.c,.int .u8 sr.d,.int .u8 sr.e,.int .u8 sr.f,.int .u8 ds.a,.int .u8 ds.b,.int .u8 ds.c,.int .u8 ds.d,.int .u8 ds.e,.int .u8 ds.f,.int .u8 a,.int .u8 b,.int .u8 c,.string (bs f),v]∧GB 132 wx t #[.int .u8 tr.lv,.int .u32 tr.nm,.int .u8 tr.tl,.int .u8 tr.fr.a,.int .u8 tr.fr.b,.int .u8 tr.fr.c,.int .u8 tr.fr.d,.int .u8 tr.fr.e,.int .u8 tr.fr.f,.int .u8 tr.tt.a,.int .u8 tr.tt.b,.int .u8 tr.tt.c,.int .u8 tr.tt.d,.int .u8 tr.tt.e,.int .u8 tr.tt.f]))
     case first =>
      have cd:CM w wc.drew o ov x s wv B #[.int .u8 sr.a,.int .u8 sr.b,.int .u8 sr.c,.int .u8 sr.d,.int .u8 sr.e,.int .u8 sr.f,.int .u8 ds.a,.int .u8 ds.b,.int .u8 ds.c,.int .u8 ds.d,.int .u8 ds.e,.int .u8 ds.f,.int .u8 a,.int .u8 b,.int .u8 c,.string (bs f),v]:=C4.out.drew
      have gd:GB 132 wc.drew t #[.int .u8 tr.lv,.int .u32 tr.nm,.int .u8 tr.tl,.int .u8 tr.fr.a,.int .u8 tr.fr.b,.int .u8 tr.fr.c,.int .u8 tr.fr.d,.int .u8 tr.fr.e,.int .u8 tr.fr.f,.int .u8 tr.tt.a,.int .u8 tr.tt.b,.int .u8 tr.tt.c,.int .u8 tr.tt.d,.int .u8 tr.tt.e,.int .u8 tr.tt.f]:=G4.out.drew
      have cal:∀ ob,CM w (wc.alloc ob).drew o ov x s wv B #[.int .u8 sr.a,.int .u8 sr.b,.int .u8 sr.c,.int .u8 sr.d,.int .u8 sr.e,.int .u8 sr.f,.int .u8 ds.a,.int .u8 ds.b,.int .u8 ds.c,.int .u8 ds.d,.int .u8 ds.e,.int .u8 ds.f,.int .u8 a,.int .u8 b,.int .u8 c,.string (bs f),v]:=fun ob=>(C4.out.alloc ob).drew
      have gal:∀ ob,GB 132 (wc.alloc ob).drew t #[.int .u8 tr.lv,.int .u32 tr.nm,.int .u8 tr.tl,.int .u8 tr.fr.a,.int .u8 tr.fr.b,.int .u8 tr.fr.c,.int .u8 tr.fr.d,.int .u8 tr.fr.e,.int .u8 tr.fr.f,.int .u8 tr.tt.a,.int .u8 tr.tt.b,.int .u8 tr.tt.c,.int .u8 tr.tt.d,.int .u8 tr.tt.e,.int .u8 tr.tt.f]:=fun ob=>(G4.out.later (bA ob)).drew
      have pzd:PB 103 (wc.alloc (.cells yU 103)).drew wc.heap.size 0 0 0 [] (.slice none 0 0):=PB.zero 103 wc
      have hle:wc.heap.size≤wc.heap.size:=Nat.le_refl _
      have hnt:wc.heap.size≠t:=by have:=G4.out.lt;omega
      go_region_held3 (fun W=>W.cell? ⟨x.p,0,none⟩=some (.int .u8 o.a.lv)∧W.cell? ⟨t,1,none⟩=some (.int .u32 tr.nm)∧W.cell? ⟨t,2,none⟩=some (.int .u8 tr.tl)∧W.cell? ⟨x.p,5,none⟩=some (.int .u8 o.mc.a)∧W.cell? ⟨x.p,6,none⟩=some (.int .u8 o.mc.b)∧W.cell? ⟨x.p,7,none⟩=some (.int .u8 o.mc.c)∧W.cell? ⟨x.p,8,none⟩=some (.int .u8 o.mc.d)∧W.cell? ⟨x.p,9,none⟩=some (.int .u8 o.mc.e)∧W.cell? ⟨x.p,10,none⟩=some (.int .u8 o.mc.f))
       (first|with_reducible exact cd.nine gd|with_reducible exact(cal _).nine (gal _)|with_reducible exact cx.nine gx|with_reducible exact(cx.five C4.out hle _ _ _ _ _).nine (gx.five hnt _ _ _ _ _)|with_reducible exact(cx.alloc _).nine (gx.later (bA _)))
       (first
        | (go_at_call 128; (with_reducible refine (PR.out _).mono ?_); rintro en wx ⟨v', rfl, htl, hbx⟩; obtain ⟨ax, cx0, hvx, -⟩ := htl.tls.shape; obtain ⟨n1, hn1⟩ : ∃ n, L.length = n := ⟨_, rfl⟩; rw [hn1] at hvx; subst hvx; clear hn1
           have cx:CM w wx o ov x s wv B #[.int .u8 sr.a,.int .u8 sr.b,.int .u8 sr.c,.int .u8 sr.d,.int .u8 sr.e,.int .u8 sr.f,.int .u8 ds.a,.int .u8 ds.b,.int .u8 ds.c,.int .u8 ds.d,.int .u8 ds.e,.int .u8 ds.f,.int .u8 a,.int .u8 b,.int .u8 c,.string (bs f),v]:=by with_reducible exact cd.later hbx
           have gx:GB 132 wx t #[.int .u8 tr.lv,.int .u32 tr.nm,.int .u8 tr.tl,.int .u8 tr.fr.a,.int .u8 tr.fr.b,.int .u8 tr.fr.c,.int .u8 tr.fr.d,.int .u8 tr.fr.e,.int .u8 tr.fr.f,.int .u8 tr.tt.a,.int .u8 tr.tt.b,.int .u8 tr.tt.c,.int .u8 tr.tt.d,.int .u8 tr.tt.e,.int .u8 tr.tt.f]:=by with_reducible exact gd.later hbx
           have zy:=PB.zero 103 wx
           have q0:=zy.c0;have q1:=zy.c1;have q2:=zy.c2;have q3:=zy.c3;have q4:=zy.c4;have f0:=zy.fr 0;have f1:=zy.fr 1;have f2:=zy.fr 2;have f3:=zy.fr 3;have f4:=zy.fr 4)
        | (go_at_call 128; (with_reducible refine (PR.out _).mono ?_); rintro en wx ⟨v', rfl, htl, hbx⟩; obtain ⟨ax, cx0, hvx, -⟩ := htl.tls.shape; obtain ⟨n1, hn1⟩ : ∃ n, L.length = n := ⟨_, rfl⟩; rw [hn1] at hvx; subst hvx; clear hn1
           have cx:CM w wx o ov x s wv B #[.int .u8 sr.a,.int .u8 sr.b,.int .u8 sr.c,.int .u8 sr.d,.int .u8 sr.e,.int .u8 sr.f,.int .u8 ds.a,.int .u8 ds.b,.int .u8 ds.c,.int .u8 ds.d,.int .u8 ds.e,.int .u8 ds.f,.int .u8 a,.int .u8 b,.int .u8 c,.string (bs f),v]:=by with_reducible exact(cal _).later hbx
           have gx:GB 132 wx t #[.int .u8 tr.lv,.int .u32 tr.nm,.int .u8 tr.tl,.int .u8 tr.fr.a,.int .u8 tr.fr.b,.int .u8 tr.fr.c,.int .u8 tr.fr.d,.int .u8 tr.fr.e,.int .u8 tr.fr.f,.int .u8 tr.tt.a,.int .u8 tr.tt.b,.int .u8 tr.tt.c,.int .u8 tr.tt.d,.int .u8 tr.tt.e,.int .u8 tr.tt.f]:=by with_reducible exact(gal _).later hbx
           have zy:PB 103 wx wc.heap.size 0 0 0 [] (.slice none 0 0):=by with_reducible exact pzd.later hbx
           have q0:=zy.c0;have q1:=zy.c1;have q2:=zy.c2;have q3:=zy.c3;have q4:=zy.c4;have f0:=zy.fr 0;have f1:=zy.fr 1;have f2:=zy.fr 2;have f3:=zy.fr 3;have f4:=zy.fr 4))
      all_goals
       go_wp2
       go_meet
       refine⟨_,.slice ax n1 cx0,by with_reducible rfl,hd0 ⟨?ca,?cb,?cc,?ce⟩⟩
       case ca=>first|with_reducible exact PB.sets5G zy|exact PB.new _ _ _ _ _ _ _
       case cc=>first|with_reducible exact cx.five C4.out hle _ _ _ _ _|with_reducible exact cx.alloc _
       case ce=>first|with_reducible exact gx.five hnt _ _ _ _ _|with_reducible exact gx.later (bA _)
       case cb =>
        first
         | with_reducible exact htl.tls.later (bA _)
         | exact htl.tls.fr' (D:=fun k=>k=wc.heap.size) Fr.five (fun g hg e=>by
           have h1:=(World.ownsRow.lt htl g hg).1
           rw[World.size_drew,World.size_alloc] at h1
           have h2:g=wc.heap.size:=e
           omega)
     case rest =>
      obtain⟨bx,v',rfl,HC⟩:=hcut
      have C5:=hd0 HC.out.2.2.1
      have q0:=HC.out.1.c0
      have q1:=HC.out.1.c1
      have q2:=HC.out.1.c2
      have q3:=HC.out.1.c3
      have q4:=HC.out.1.c4
      have z0:wc.cell? ⟨t,3,none⟩=some (.int .u8 tr.fr.a):=HC.out.2.2.2.c 3 _ rfl
      have z1:wc.cell? ⟨t,4,none⟩=some (.int .u8 tr.fr.b):=HC.out.2.2.2.c 4 _ rfl
      have z2:wc.cell? ⟨t,5,none⟩=some (.int .u8 tr.fr.c):=HC.out.2.2.2.c 5 _ rfl
      have z3:wc.cell? ⟨t,6,none⟩=some (.int .u8 tr.fr.d):=HC.out.2.2.2.c 6 _ rfl
      have z4:wc.cell? ⟨t,7,none⟩=some (.int .u8 tr.fr.e):=HC.out.2.2.2.c 7 _ rfl
      have z5:wc.cell? ⟨t,8,none⟩=some (.int .u8 tr.fr.f):=HC.out.2.2.2.c 8 _ rfl
      have SN:=hd0 (sent_any tr.fr v' p1 p2 p3 P L wc HC.out.2.1 (by have:=HPQ.out.pl;omega) (fun y hy=>by have:=HPQ.out.ps y hy;unfold maxLen;omega) (by have:=HPQ.out.pf;omega) HPQ.out.pm HPQ.out.pa HPQ.out.pb HPQ.out.pc)
      clear HC C4 G4 PR
      go_wp2_with fail
      with_reducible refine SN.out.mono ?_
      rintro en w9 ⟨u,rfl,hu,hb9⟩
      have C6:=hd0 (C5.out.later hb9)
      have HU:Hid (Ow 7 snC 55 w9 w.heap.size u (sentR tr.fr p1 p2 p3 P L)):=hd0 (Ow.mono hu C5.out.fr.size)
      clear hb9 C5 hu SN q0 q1 q2 q3 q4 z0 z1 z2 z3 z4 z5
      go_wp2
      go_ret2
      exact⟨u,by first|(rw[HZ.out];done)|(rw[HZ.out];rfl),by rw[HZ.out];exact HU.out,C6.out.mm,C6.out.fr⟩
open Go.Maps (Keyed int_keyed keyOf_int_mk)
def fEl (v:Value):Option (DataW Unit × List MemPlace) :=
 match v with
 | .func fn first captured=>if first.size=0∧captured.size=0 then(match fn with
  | .func n=>some (.lit (.int .i64 (n:Int)),[])
  | _=>none) else none
 | _=>none
theorem fEl_mk (n:Nat):fEl (.func (.func n) #[] #[])=some (.lit (.int .i64 (n:Int)),[]):=rfl
theorem fEl_inv {v:Value}{y:DataW Unit × List MemPlace}(h:fEl v=some y):∃ n:Nat,v=.func (.func n) #[] #[]∧y.1=.lit (.int .i64 (n:Int)):=by
 unfold fEl at h
 split at h
 ·rename_i fn first captured
  split at h
  ·rename_i hs
   have h1:first=#[]:=Array.eq_empty_of_size_eq_zero hs.1
   have h2:captured=#[]:=Array.eq_empty_of_size_eq_zero hs.2
   subst h1 h2
   split at h
   ·rename_i n
    injection h with h
    exact⟨n,rfl,by rw[←h]⟩
   ·cases h
  ·cases h
 ·cases h
def tkD:DataW Unit:=(((((DataW.map []).put (.int .u8 1) (.lit (.int .i64 95))).put (.int .u8 3) (.lit (.int .i64 96))).put (.int .u8 2) (.lit (.int .i64 97))).put (.int .u8 5) (.lit (.int .i64 98))).put (.int .u8 4) (.lit (.int .i64 99))
def FMap (W:World)(b:Nat):Prop:=W.ownsMap Tryz.prog 5 fEl b 5 tkD
def hndN (b:Int):Nat:=if b=1 then 95 else if b=2 then 97 else if b=3 then 96 else if b=4 then 99 else if b=5 then 98 else 0
def hndV (b:Int):Value:=if hndN b=0 then .nilFunc else .func (.func (hndN b)) #[] #[]
theorem takes_any (w:World):Calls Tryz.prog 54 #[] w fun en w'=>∃ b:Nat,en=.returned (.map (some b))∧FMap w' b∧Below w.heap.size w w':=by
 have hm0:=World.ownsMap_made w Tryz.prog 5 fEl
 obtain⟨w1,run1,hm1,hg1⟩:=hm0.update u8_keyed Tryz.underlying138 (by decide) (key:=.int .u8 1) (val:=.func (.func 95) #[] #[]) (kl:=.int .u8 1) (d:=.lit (.int .i64 95)) (ps:=[]) (keyOf_int_mk Tryz.underlying5 (by decide)) (fEl_mk 95)
 obtain⟨w2,run2,hm2,hg2⟩:=hm1.update u8_keyed Tryz.underlying138 (by decide) (key:=.int .u8 3) (val:=.func (.func 96) #[] #[]) (kl:=.int .u8 3) (d:=.lit (.int .i64 96)) (ps:=[]) (keyOf_int_mk Tryz.underlying5 (by decide)) (fEl_mk 96)
 obtain⟨w3,run3,hm3,hg3⟩:=hm2.update u8_keyed Tryz.underlying138 (by decide) (key:=.int .u8 2) (val:=.func (.func 97) #[] #[]) (kl:=.int .u8 2) (d:=.lit (.int .i64 97)) (ps:=[]) (keyOf_int_mk Tryz.underlying5 (by decide)) (fEl_mk 97)
 obtain⟨w4,run4,hm4,hg4⟩:=hm3.update u8_keyed Tryz.underlying138 (by decide) (key:=.int .u8 5) (val:=.func (.func 98) #[] #[]) (kl:=.int .u8 5) (d:=.lit (.int .i64 98)) (ps:=[]) (keyOf_int_mk Tryz.underlying5 (by decide)) (fEl_mk 98)
 obtain⟨w5,run5,hm5,hg5⟩:=hm4.update u8_keyed Tryz.underlying138 (by decide) (key:=.int .u8 4) (val:=.func (.func 99) #[] #[]) (kl:=.int .u8 4) (d:=.lit (.int .i64 99)) (ps:=[]) (keyOf_int_mk Tryz.underlying5 (by decide)) (fEl_mk 99)
 have hb0:Below w.heap.size w (w.alloc (.map #[] 0)):=bA _
 have hb1:=hb0.grown hg1 hb0.size (fun k hk=>by injection hk with hk;omega)
 have hb2:=hb1.grown hg2 hb1.size (fun k hk=>by injection hk with hk;omega)
 have hb3:=hb2.grown hg3 hb2.size (fun k hk=>by injection hk with hk;omega)
 have hb4:=hb3.grown hg4 hb3.size (fun k hk=>by injection hk with hk;omega)
 have hb5:=hb4.grown hg5 hb4.size (fun k hk=>by injection hk with hk;omega)
 have HM:=hd0 hm5
 have HB:=hd0 hb5
 have run0:(Instr.makeMap 138 none).run Tryz.prog w=.ok (.map (some w.heap.size)) (w.alloc (.map #[] 0)):=rfl
 clear hm0 hm1 hm2 hm3 hm4 hm5 hg1 hg2 hg3 hg4 hg5 hb0 hb1 hb2 hb3 hb4 hb5
 go_enter Tryz.func54,Tryz.ntmps54
 go_wp2
 go_ret
 exact⟨_,rfl,HM.out,HB.out⟩
theorem tkD_at (b:Int)(z:DataW Unit):tkD.atKey (.int .u8 b) z=if hndN b=0 then z else .lit (.int .i64 (hndN b:Int)):=by
 have e:tkD=.map [(.int .u8 1,.lit (.int .i64 95)),(.int .u8 2,.lit (.int .i64 97)),(.int .u8 3,.lit (.int .i64 96)),(.int .u8 4,.lit (.int .i64 99)),(.int .u8 5,.lit (.int .i64 98))]:=by rfl
 rw[e]
 unfold hndN
 by_cases h1:b=1
 ·subst h1;rfl
 ·by_cases h2:b=2
  ·subst h2;rfl
  ·by_cases h3:b=3
   ·subst h3;rfl
   ·by_cases h4:b=4
    ·subst h4;rfl
    ·by_cases h5:b=5
     ·subst h5;rfl
     ·simp[DataW.atKey,Lit.sameKey,h1,h2,h3,h4,h5,Ne.symm h1,Ne.symm h2,Ne.symm h3,Ne.symm h4,Ne.symm h5,eq_comm]
theorem fmap_look {W:World}{q:Nat}(h:FMap W q)(b:Int)(h0:0≤b∧b<256) :
  (Instr.lookup 138 (.map (some q)) (.int .u8 b) true).run Tryz.prog W=.ok (.tuple #[hndV b,.bool (decide (hndN b≠0))]) W:=by
 obtain⟨es,clock,hb,F,hs,hD⟩:=h
 have hw:(Lit.int .u8 b).wf=true:=by simp[Lit.wf,IntKind.min,IntKind.max,IntKind.bits,IntKind.signed];omega
 have hz:(zeroValue 136).run Tryz.prog W=.ok .nilFunc W:=by kernel_rfl
 rcases Maps.fit_look true u8_keyed Tryz.underlying138 hz hb F (keyOf_int_mk Tryz.underlying5 hw) with⟨hrun,_,hat⟩|⟨e0,y,_,_,hrun,hRv,hat,_⟩
 ·rw[←hD] at hat
  have a:=hat (.lit (.bool false))
  rw[tkD_at] at a
  have n0:hndN b=0:=by
   by_cases h:hndN b=0
   ·exact h
   ·rw[if_neg h] at a;injection a with a;cases a
  rw[hrun]
  unfold hndV
  rw[if_pos n0,n0];rfl
 ·rw[←hD] at hat
  have a:=hat (.lit (.bool false))
  have c:=hat (.lit (.bool true))
  rw[tkD_at] at a c
  obtain⟨n,hx,hy⟩:=fEl_inv hRv
  rw[hy] at a c
  have n0:hndN b≠0:=by
   intro h
   rw[if_pos h] at a;injection a with a;cases a
  rw[if_neg n0] at a
  injection a with a
  injection a with _ a
  have e:hndN b=n:=by exact_mod_cast a
  rw[hrun,hx]
  unfold hndV
  rw[if_neg n0,e,decide_eq_true (by rw[←e];exact n0)]
  rfl
def opM (o:Ow20)(s:Ms)(sr ds:Mc)(a b c:Int)(f:List UInt8)(l:List Th):Ms × List Sn × Bool :=
 if b=1 then((chkM o s a b c f).1,[],(chkM o s a b c f).2)
 else if b=2 then((answM o s ds a b f l).1,[],(answM o s ds a b f l).2)
 else if b=3 then(s,(askM o sr ds a b c f l).1,(askM o sr ds a b c f l).2)
 else if b=4 then((fndM o s ds a b c f l).1,[],(fndM o s ds a b c f l).2)
 else(s,(sekM o ds a b f).1,(sekM o ds a b f).2)
def badM (s:Ms)(g:Bool):Ms:=if g=true then s else { s with bad:=s.bad+1 }
def takeM (o:Ow20)(s:Ms)(sr ds:Mc)(d:List UInt8):Ms × List Sn :=
 if (tkP d).2.2.2.2.2=0∧(tkP d).1=o.a.lv∧hndN (tkP d).2.1≠0 then
  (badM (opM o s sr ds (tkP d).1 (tkP d).2.1 (tkP d).2.2.1 (tkP d).2.2.2.1 (tkP d).2.2.2.2.1).1 (opM o s sr ds (tkP d).1 (tkP d).2.1 (tkP d).2.2.1 (tkP d).2.2.2.1 (tkP d).2.2.2.2.1).2.2,
   (opM o s sr ds (tkP d).1 (tkP d).2.1 (tkP d).2.2.1 (tkP d).2.2.2.1 (tkP d).2.2.2.2.1).2.1)
 else(badM s (decide ((tkP d).2.2.2.2.2=0)),[])
theorem hndN_cases {b:Int}(h:hndN b≠0):b=1∨b=2∨b=3∨b=4∨b=5:=by
 unfold hndN at h
 by_cases h1:b=1
 ·exact .inl h1
 by_cases h2:b=2
 ·exact .inr (.inl h2)
 by_cases h3:b=3
 ·exact .inr (.inr (.inl h3))
 by_cases h4:b=4
 ·exact .inr (.inr (.inr (.inl h4)))
 by_cases h5:b=5
 ·exact .inr (.inr (.inr (.inr h5)))
 rw[if_neg h1,if_neg h2,if_neg h3,if_neg h4,if_neg h5] at h
 exact absurd rfl h
theorem mop_any (o:Ow20)(ho:o.Ok)(hlv:o.a.lv<8)(ov:Value)(x:Mp)(s:Ms)(wv:Value)(hs:s.Ok)(sr ds:Mc)(hsr:sr.Ok)(a b c:Int)(f:List UInt8)(v:Value)(l:List Th)(hb:hndN b≠0)
  (hp:PdB a b c f l) (w:World) (h:MM w o ov x s wv) (hv:Tls w v l):Calls Tryz.prog (hndN b) #[.pointer (some ⟨x.p,0,none⟩),.agg #[.int .u8 sr.a,.int .u8 sr.b,.int .u8 sr.c,.int .u8 sr.d,.int .u8 sr.e,.int .u8 sr.f,.int .u8 ds.a,.int .u8 ds.b,.int .u8 ds.c,.int .u8 ds.d,.int .u8 ds.e,.int .u8 ds.f,.int .u8 a,.int .u8 b,.int .u8 c,.string (bs f),v]] w fun en w' =>
  ∃ u wv',en=.returned (.tuple #[u,.bool (opM o s sr ds a b c f l).2.2])∧Ow 7 snC 55 w' w.heap.size u (opM o s sr ds a b c f l).2.1∧MM w' o ov x (opM o s sr ds a b c f l).1 wv'∧Fr (x.D wv) w w'∧∀ g,wv'.ownBlock=some g→wv.ownBlock=some g∨w.heap.size≤g:=by
 have hvs:∃ x n k,v=.slice x n k:=by obtain⟨vx,vk,hvv,-⟩:=hv.shape;exact⟨_,_,_,hvv⟩
 rcases hndN_cases hb with rfl|rfl|rfl|rfl|rfl
 ·exact(mcheck_any o ov x s wv sr ds a 1 c f v w h hs.bnd hp.pf hp.pa hp.pc hvs).mono fun en w' ⟨h1,h2,h3⟩=>⟨_,wv,h1,Ow.none _ _,h2,h3,fun g hg=>.inl hg⟩
 ·exact(mansw_any o ov x s wv sr ds a 2 c f v l w h hp hv hs.rep hs.ali).mono fun en w' ⟨h1,h2,h3⟩=>⟨_,wv,h1,Ow.none _ _,h2,h3,fun g hg=>.inl hg⟩
 ·exact(masked_any o ov x s wv sr ds a 3 c f v l w h hsr hp hv).mono fun en w' ⟨u,h1,h2,h3,h4⟩=>⟨u,wv,h1,h2,h3,h4,fun g hg=>.inl hg⟩
 ·exact(mfound_any o ov x s wv sr ds a 4 c f v l w h hp hv hs.way).mono fun en w' ⟨h1,wv',h2,h3,h4⟩=>⟨_,wv',h1,Ow.none _ _,h2,h3,h4⟩
 ·exact(msought_any o ho hlv ov x s wv sr ds a 5 c f v l w h hp).mono fun en w' ⟨u,h1,h2,h3,h4⟩=>⟨u,wv,h1,h2,h3,h4,fun g hg=>.inl hg⟩
theorem mcount_any (o:Ow20)(ov:Value)(x:Mp)(s:Ms)(wv:Value)(g:Bool)(B:Nat)(w:World)(h:MM w o ov x s wv)(hb:0≤s.bad∧s.bad≤1000000)(hB:GB 31 w B #[.pointer (some ⟨x.p,0,none⟩)]) :
  Calls Tryz.prog 55 #[.bool (!g),.pointer (some ⟨B,0,none⟩)] w fun en w'=>en=.returned (.tuple #[])∧MM w' o ov x (badM s g) wv∧Only x.p w w':=by
 have c0:w.cell? ⟨B,0,none⟩=some (.pointer (some ⟨x.p,0,none⟩)):=hB.c 0 _ rfl
 have c16:=h.cbad
 have f16:=h.fz 16
 have hw:IntKind.u64.wrap (s.bad+1)=s.bad+1:=IntWalk.u64_in _ (by omega)
 have H:=hd0 h
 clear h hb hB
 cases g with
 | true =>
  go_enter Tryz.func55,Tryz.ntmps55
  go_wp2
  go_end0
  exact⟨rfl,H.out,Only.refl _ _⟩
 | false =>
  go_enter Tryz.func55,Tryz.ntmps55
  go_wp2
  go_end0
  exact⟨rfl,H.out.sBad _,Only.set _ _ _ _⟩
theorem takeT_len:∀ (n:Nat)(s:List UInt8),s.length≤n→(takeT s).1.length≤s.length
 | _,[],_=>by rw[takeT_nil];simp
 | n+1,c::s,hn=>by
  have ih:=takeT_len n (s.drop (2+((s.getD 0 0).toNat*256+(s.getD 1 0).toNat))) (by simp at hn ⊢;omega)
  simp at ih
  rw[takeT]
  split
  ·simp
  ·split
   ·simp
   ·split
    ·simp
    ·split
     ·simp;omega
     ·simp
theorem beq_u8 (c:UInt8)(x:Int)(h:(c.toNat:Int)=x):(c=0)↔x=0:=by
 constructor
 ·rintro rfl;rw[←h];rfl
 ·intro e;apply UInt8.toNat_inj.1;show _=0;omega
theorem refTake11_any:∀ (n:Nat)(s:List UInt8)(w:World),s.length≤n→s.length≤100000→Calls Tryz.prog 100 #[.string (bs s)] w fun en w' =>
  ∃ v',en=.returned (.tuple #[v',.string (bs (takeT s).2.1),.int .i64 (takeT s).2.2])∧TlR w' w.heap.size v' (takeT s).1∧Below w.heap.size w w':=by
 intro n
 induction n with
 | zero =>
  intro s w hn hl
  have h0:s=[]:=List.eq_nil_of_length_eq_zero (by omega)
  subst h0
  rw[takeT_nil]
  have e0:(bs []).toList.isEmpty=true:=by rw[bs_tl];rfl
  go_enter Tryz.func100,Tryz.ntmps100
  go_wp2
  refine bodyPost_ret (v:=.tuple #[.slice none 0 0,.string (bs []),.int .i64 3]) (by simp[results,Tryz.results100,go_sem];rfl) rfl ⟨_,rfl,TlR.none _ _,Below.refl _ _⟩
 | succ n ih =>
  have IH:=hd0 ih
  clear ih
  intro s w hn hl
  match s with
  |[] =>
   rw[takeT_nil]
   have e0:(bs []).toList.isEmpty=true:=by rw[bs_tl];rfl
   go_enter Tryz.func100,Tryz.ntmps100
   go_wp2
   refine bodyPost_ret (v:=.tuple #[.slice none 0 0,.string (bs []),.int .i64 3]) (by simp[results,Tryz.results100,go_sem];rfl) rfl ⟨_,rfl,TlR.none _ _,Below.refl _ _⟩
  | c::r =>
   obtain⟨S,hS⟩:∃ S,c::r=S:=⟨_,rfl⟩
   have e0:(bs S).toList.isEmpty=false:=by rw[bs_tl,← hS];rfl
   have hsz:=bs_size S
   have hSl:S.length=r.length+1:=by rw[←hS];rfl
   obtain⟨x,hx⟩:∃ x:Int,(c.toNat:Int)=x:=⟨_,rfl⟩
   have gx:∀ h':0<(bs S).size,(((bs S)[0]'h').toNat:Int)=x:=fun h'=>by
    subst hS;rw[bs_get _ 0 h' (by simp),← hx];rfl
   have hc0:=beq_u8 c x hx
   obtain⟨R,hR⟩:∃ R,takeT S=R:=⟨_,rfl⟩
   rw[hS,hR]
   have HR:=hd0 hR
   have HS:=hd0 hS
   have HX:=hd0 hx
   have HC0:=hd0 hc0
   have hS1:1≤S.length:=by omega
   have hS2:S.length≤100000:=by rw[←hS];exact hl
   have hcut1:(bs S).extract 1 S.length=bs r:=by rw[bs_drop _ _ _ (Nat.le_refl _),← hS];rfl
   have HSL:=hd0 hSl
   have hrn:r.length≤n:=by simpa using hn
   clear hR hS hx hc0 hSl hn hl
   by_cases h0:x=0
   ·have d0:(x==0)=true:=by simpa using h0
    have hRR:R=([],r,0):=by rw[←HR.out,← HS.out,(HC0.out).2 h0];exact takeT_zero r
    have HRR:=hd0 hRR
    clear h0 hRR
    go_enter Tryz.func100,Tryz.ntmps100
    go_wp2_with fail
    refine wp_region_later (by kernel_rfl) (by kernel_rfl) ?_
    repeat (go_big_quiet_step (fail))
    refine wpQuiet_nil ?_
    rintro _ ⟨K,rfl⟩
    have HK:=hd0 (Later.bel (Below.refl w.heap.size w) K)
    go_wp2
    refine bodyPost_ret (v:=.tuple #[.slice none 0 0,.string (bs r),.int .i64 0]) (by simp[results,Tryz.results100,go_sem]) rfl ⟨_,by rw[HRR.out],by rw[HRR.out];exact TlR.none _ _,HK.out⟩
   have d0:(x==0)=false:=by simpa using h0
   have hcn:c≠0:=fun h=>h0 ((HC0.out).1 h)
   clear h0
   by_cases h3:S.length<3
   ·have d3:decide ((S.length:Int)<3)=true:=decide_eq_true (by omega)
    have hRR:R=([],[],3):=by rw[←HR.out,← HS.out];exact takeT_short1 c r hcn (by have:=HSL.out;omega)
    have HRR:=hd0 hRR
    clear hRR hcn h3
    go_enter Tryz.func100,Tryz.ntmps100
    go_wp2
    refine bodyPost_ret (v:=.tuple #[.slice none 0 0,.string (bs []),.int .i64 3]) (by simp[results,Tryz.results100,go_sem];rfl) rfl ⟨_,by rw[HRR.out],by rw[HRR.out];exact TlR.none _ _,Below.refl _ _⟩
   have d3:decide ((S.length:Int)<3)=false:=decide_eq_false (by omega)
   obtain⟨a,b,t,hr⟩:∃ a b t,r=a::b::t:=by
    match r,HSL.out with
    |[],h=>simp at h;omega
    |[_],h=>simp at h;omega
    | a::b::t,_=>exact⟨a,b,t,rfl⟩
   have hSt:S.length=t.length+3:=by rw[HSL.out,hr];simp
   obtain⟨y,hy⟩:∃ y:Nat,a.toNat=y:=⟨_,rfl⟩
   obtain⟨z,hz⟩:∃ z:Nat,b.toNat=z:=⟨_,rfl⟩
   have hy1:y<256:=by rw[←hy];exact a.toNat_lt
   have hz1:z<256:=by rw[←hz];exact b.toNat_lt
   have gy:∀ h':1<(bs S).size,(((bs S)[1]'h').toNat:Int)=(y:Int):=fun h'=>by
    rw[bs_get _ 1 h' (by omega),← hy];have h:=HS.out;rw[hr] at h;subst h;rfl
   have gz:∀ h':2<(bs S).size,(((bs S)[2]'h').toNat:Int)=(z:Int):=fun h'=>by
    rw[bs_get _ 2 h' (by omega),← hz];have h:=HS.out;rw[hr] at h;subst h;rfl
   have wy:IntKind.i64.wrap (y:Int)=(y:Int):=IntWalk.i64_in _ (by omega)
   have wz:IntKind.i64.wrap (z:Int)=(z:Int):=IntWalk.i64_in _ (by omega)
   obtain⟨N,hN⟩:∃ N:Nat,y*256+z=N:=⟨_,rfl⟩
   have eN:(y:Int)*256+(z:Int)=(N:Int):=by omega
   have hN1:N<65536:=by omega
   by_cases h4:S.length<3+N
   ·have d4:decide ((S.length:Int)<3+(N:Int))=true:=decide_eq_true (by omega)
    have hRR:R=([],[],3):=by rw[←HR.out,← HS.out,hr];exact takeT_short2 c a b t hcn (by rw[hy,hz];omega)
    have HRR:=hd0 hRR
    have S3:3≤S.length:=by omega
    clear hRR hcn h3 h4 hr hSt hN hy hz
    go_enter Tryz.func100,Tryz.ntmps100
    go_wp2_with fail
    refine wp_region_later (by kernel_rfl) (by kernel_rfl) ?_
    repeat (go_big_quiet_step (fail))
    refine wpQuiet_nil ?_
    rintro _ ⟨K,rfl⟩
    have HK:=hd0 (Later.bel (Below.refl w.heap.size w) K)
    go_wp2
    refine bodyPost_ret (v:=.tuple #[.slice none 0 0,.string (bs []),.int .i64 3]) (by simp[results,Tryz.results100,go_sem];rfl) rfl ⟨_,by rw[HRR.out],by rw[HRR.out];exact TlR.none _ _,HK.out⟩
   have d4:decide ((S.length:Int)<3+(N:Int))=false:=decide_eq_false (by omega)
   obtain⟨t1,t2,ht,ht1⟩:∃ t1 t2,t=t1++t2∧t1.length=N:=⟨t.take N,t.drop N,(List.take_append_drop N t).symm,by simp;omega⟩
   have hT:=takeT_cons c 0 t1 t2 a b hcn (by rw[hy,hz,hN,ht1])
   have hcS:c::a::b::(t1++t2)=S:=by rw[←ht,← hr];exact HS.out
   rw[hcS,HR.out] at hT
   have hcutA:(bs S).extract (3+N) S.length=bs t2:=by
    rw[bs_drop _ _ _ (Nat.le_refl _),← hcS]
    congr 1
    rw[Nat.add_comm 3];exact List.drop_left' (l₁:=t1) ht1
   have hcutB:(bs S).extract 3 (3+N)=bs t1:=by
    rw[bs_extract,← hcS]
    congr 1
    rw[show 3+N-3=N by omega];exact List.take_left' (l₁:=t1) ht1
   have C:=hd0 (fun w=>IH.out t2 w (by have:=hrn;rw[hr,ht] at this;simp at this;omega) (by have:=hS2;rw[hSt,ht] at this;simp at this;omega))
   obtain⟨l2,s2,e2,hR2⟩:∃ l2 s2 e2,takeT t2=(l2,s2,e2):=⟨_,_,_,rfl⟩
   have hE2:e2≠0→e2=3:=fun h=>by
    have:=takeT_err _ t2 (Nat.le_refl _) (by rw[hR2];exact h)
    rw[hR2] at this;simpa using congrArg (fun q=>q.2.2) this
   have hl2:l2.length≤100000:=by
    have h1:=takeT_len _ t2 (Nat.le_refl _)
    rw[hR2] at h1
    have h2:=hS2;rw[hSt,ht] at h2;simp at h1 h2;omega
   rw[hR2] at hT C
   have HT:=hd0 hT
   have hN2:3+N≤S.length:=by omega
   have HE2:=hd0 hE2
   clear hcn h3 h4 hr hSt hN hy hz ht ht1 hT hcS hR2 hE2
   go_enter Tryz.func100,Tryz.ntmps100
   go_wp2_with fail
   refine wp_region_later (by kernel_rfl) (by kernel_rfl) ?_
   repeat (go_big_quiet_step (fail))
   refine wpQuiet_nil ?_
   rintro _ ⟨K,rfl⟩
   go_wp2_with fail
   rw[hcutA]
   with_reducible refine(C.out _).mono ?_
   rintro en w2 ⟨v',rfl,hown,hb⟩
   have HB:=hd0 (Later.bel (Below.refl w.heap.size w) K |>.trans (hb.mono K.h.size))
   have HO:=hd0 (hown.mono K.h.size)
   clear hown hb hcutA
   by_cases he:e2=0
   ·have de:(e2==0)=true:=by simpa using he
    have de':(e2 != 0)=false:=by unfold bne;rw[de];rfl
    have hRR:=HT.out
    rw[if_pos he,he] at hRR
    have HRR:=hd0 hRR
    have hlit:=TlR.lit w2 w.heap.size (c,t1) HB.out.size
    simp only at hlit
    rw[HX.out] at hlit
    have HLIT:Hid (TlR (w2.alloc (.cells #[.int .u8 x,.string (bs t1)] 187)).drew w.heap.size (.slice (some ⟨w2.heap.size,0,none⟩) 1 1) [(c,t1)]):=hlit.later (Below.refl _ _).drew
    have HSRC:Hid (Tls (w2.alloc (.cells #[.int .u8 x,.string (bs t1)] 187)).drew v' l2):=(HO.out.later ((bA _).drew)).tls
    have HBW:Hid (Below w.heap.size w (w2.alloc (.cells #[.int .u8 x,.string (bs t1)] 187)).drew):=(HB.out.alloc HB.out.size _).drew
    have S0:0<S.length:=by omega
    have hcutB':(bs S).extract 3 ((3:Int)+(N:Int)).toNat=bs t1:=by rw[show((3:Int)+(N:Int)).toNat=3+N by omega];exact hcutB
    have wN:IntKind.i64.wrap (3+(N:Int))=3+(N:Int):=IntWalk.i64_in _ (by omega)
    have b1:(0:Int)≤3+(N:Int):=by omega
    have b2:(3:Int)≤3+(N:Int):=by omega
    have b3:(3:Int)+(N:Int)≤(S.length:Int):=by omega
    clear he hRR hlit
    go_wp2_with fail
    go_region_law (first
     |(refine step_append_R rfl _ _ rfl w.heap.size _ [(c,t1)] (by rfl) (by exact HLIT.out) _ l2 (by rfl) (by exact HSRC.out) (by simp;omega) (by exact HBW.out.size) ?_;intro v3 w3 hown3 hb3))
    all_goals
     have HB3:=hd0 (HBW.out.trans hb3)
     have HO3:=hd0 hown3
     clear hown3 hb3
    all_goals go_wp2
    all_goals refine bodyPost_ret (v:=.tuple #[v3,.string (bs s2),.int .i64 0]) (by simp[results,Tryz.results100,go_sem]) rfl ⟨_,by rw[HRR.out],by rw[HRR.out];exact HO3.out,HB3.out⟩
   ·have de:(e2==0)=false:=by simpa using he
    have de':(e2 != 0)=true:=by unfold bne;rw[de];rfl
    have hRR:=HT.out
    rw[if_neg he] at hRR
    have HRR:=hd0 hRR
    have he3:=HE2.out he
    subst he3
    clear he hRR
    go_wp2
    refine bodyPost_ret (v:=.tuple #[.slice none 0 0,.string (bs []),.int .i64 3]) (by simp[results,Tryz.results100,go_sem];rfl) rfl ⟨_,by rw[HRR.out],by rw[HRR.out];exact TlR.none _ _,HB.out⟩
end Go.Proofs.YtlkdfofpnmpidaaGreat
