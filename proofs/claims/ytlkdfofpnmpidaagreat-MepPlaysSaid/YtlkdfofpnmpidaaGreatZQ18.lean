/- ZQ18 -/
import Derived.Test.YtlkdfofpnmpidaaGreatZQ14
import Derived.Test.YtlkdfofpnmpidaaGreatZQ17
set_option linter.unusedVariables false
set_option linter.unusedSimpArgs false
set_option maxRecDepth 100000
set_option maxHeartbeats 16000000
namespace Go.Proofs.YtlkdfofpnmpidaaGreat
open Go.RowKit
def fndM (o:Ow20)(s:Ms)(ds:Mc)(a b c:Int)(f:List UInt8)(l:List Th):Ms × Bool :=
 if ds=o.mc then
  (if (tkRp a b c f l).2=0∧s.tr≠0∧(tkRp a b c f l).1.nm=s.tr∧s.way.length<32 then { s with way:=s.way++[(tkRp a b c f l).1] } else s,decide ((tkRp a b c f l).2=0))
 else(s,true)
theorem rqC_one (r:Rp):∀ u∈rqC r,u.oneCell'=true:=by
 intro u hu
 unfold rqC at hu
 simp only[List.mem_cons,List.not_mem_nil,or_false] at hu
 rcases hu with rfl|rfl|rfl|rfl|rfl|rfl|rfl|rfl|rfl|rfl|rfl|rfl|rfl|rfl|rfl|rfl|rfl <;> rfl
theorem info_rq:(Tryz.prog.info? 81).map (fun i=>(i.zero,i.size,i.bytes))=some (some (.agg #[.int .u8 0,.int .u32 0,.int .u8 0,.bool false,.bool false,.int .u8 0,.int .u8 0,.int .u8 0,.int .u8 0,.int .u8 0,.int .u8 0,.int .u8 0,.int .u8 0,.int .u8 0,.int .u8 0,.int .u8 0,.int .u8 0]),17,24):=by kernel_rfl
theorem MM.app {W w3:World}{o:Ow20}{ov:Value}{x:Mp}{s:Ms}{wv v1:Value}{l':List Rp}(h:MM W o ov x s wv)(hf:Fr (fun k=>wv.ownBlock=some k) W w3)(ho:Ow 17 rqC 81 w3 0 v1 l')(hat:v1.ownBlock=wv.ownBlock∨v1.ownBlock=some W.heap.size) :
  MM (w3.setCell ⟨x.p,22,none⟩ v1) o ov x { s with way:=l' } v1:=by
 have hs:Fr (fun k=>k=x.p) w3 (w3.setCell ⟨x.p,22,none⟩ v1):=Fr.set (D:=fun k=>k=x.p) rfl 22 v1
 have hg:∀ g,v1.ownBlock=some g→g≠x.p∧g≠x.q∧g≠x.m∧g≠x.r:=fun g hg=>by
  rcases hat with e|e
  ·exact h.wp g (by rw[←e];exact hg)
  ·have e2:g=W.heap.size:=by rw[e] at hg;injection hg with hg;exact hg.symm
   have h1:=h.gb.lt
   have h2:=h.mc.lt
   have h3:=h.mc.om.lt
   have h4:=GB.lt h.al
   omega
 refine⟨?_,(h.mc.fr' hf (fun e=>(h.wp _ e).2.1 rfl) (fun e=>(h.wp _ e).2.2.1 rfl)).fr' hs (fun e=>h.pq e.symm) (fun e=>h.pm e.symm),GB.fr' (GB.fr' h.al hf (fun e=>(h.wp _ e).2.2.2 rfl)) hs (fun e=>h.pr e.symm),Ow.fr ho hs (fun g hg'=>(hg g hg').1),h.pq,h.pm,h.pr,h.qr,h.mr,hg⟩
 exact(h.gb.fr' hf (fun e=>(h.wp _ e).1 rfl)).set 22 v1
section
variable {K:Act→World→Prop} {Q:Exit→Act→World→Prop} {ops:Array Oper} {o:Oper} {a:Act} {w:World}
theorem step_append_rq {E:Prop}(hgd:o.guard=Option.none)(s x:Operand)(ho:o.op=.call { callee:=.builtin .append,args:=#[s,x],argTypes:=#[67,67] })
  (v:Value) (l:List Rp) (hs:a.eval s=v) (hown:Ow 17 rqC 81 w 0 v l) (g c:Nat) (hx:a.eval x=.slice (some ⟨g,0,Option.none⟩) 1 c) (r:Rp) (hg:GB 81 w g #[.int .u8 r.lv,.int .u32 r.nm,.int .u8 r.tl,.bool r.st,.bool r.en,.int .u8 r.mi.a,.int .u8 r.mi.b,.int .u8 r.mi.c,.int .u8 r.mi.d,.int .u8 r.mi.e,.int .u8 r.mi.f,.int .u8 r.mo.a,.int .u8 r.mo.b,.int .u8 r.mo.c,.int .u8 r.mo.d,.int .u8 r.mo.e,.int .u8 r.mo.f]) (hsz:l.length≤1000)
  (h:∀ v' w',Ow 17 rqC 81 w' 0 v' (l++[r])→w.grownBy w' v.ownBlock→(v'.ownBlock=v.ownBlock∨v'.ownBlock=some w.heap.size)→K (a.put o.dst v') w') :
  if Region.wanted o (yielded ops a.tmps)=true then Oper.wp Tryz.prog o a w K Q else E:=by
 rw[if_pos (by simp[Region.wanted,hgd])]
 obtain⟨i,hi,hzz⟩:=Option.map_eq_some_iff.1 info_rq
 simp only[Prod.mk.injEq] at hzz
 obtain⟨hz,hsz1,hby⟩:=hzz
 obtain⟨v',w',hr,h2,h3,h4,h5⟩:=run_append_own_at (P:=Tryz.prog) w 0 67 o.type 81 i _ 17 24 Tryz.underlying67 hi hz hsz1 hby rfl (by decide) v l.length (l.flatMap rqC) hown ⟨g,0,Option.none⟩ 1 c (rqC r) rfl
  (fun j u hj=>by rw[Go.WideShapes.add_plain,Nat.zero_add];exact hg.c j u (by simpa [rqC] using hj)) (rqC_one r) (by unfold maxLen;omega) (by omega) (Nat.zero_le _)
 unfold Oper.wp execOp
 simp only[ho,resolve,invoke,builtin,Sem.run_bind,Sem.run_pure,Result.andThen_ok,List.map_toArray,List.map_cons,List.map_nil,hs,hx,hr]
 refine h v' w' ?_ h3 h5
 unfold Ow
 rw[List.length_append,List.flatMap_append]
 simpa using h2
end
theorem mfound_any (o:Ow20)(ov:Value)(x:Mp)(s:Ms)(wv:Value)(sr ds:Mc)(a b c:Int)(f:List UInt8)(v:Value)(l:List Th)(w:World)(h:MM w o ov x s wv)
  (hp:PdB a b c f l) (hv:Tls w v l) (hwl:s.way.length≤32):Calls Tryz.prog 99 #[.pointer (some ⟨x.p,0,none⟩),.agg #[.int .u8 sr.a,.int .u8 sr.b,.int .u8 sr.c,.int .u8 sr.d,.int .u8 sr.e,.int .u8 sr.f,.int .u8 ds.a,.int .u8 ds.b,.int .u8 ds.c,.int .u8 ds.d,.int .u8 ds.e,.int .u8 ds.f,.int .u8 a,.int .u8 b,.int .u8 c,.string (bs f),v]] w fun en w' =>
  en=.returned (.tuple #[.slice none 0 0,.bool (fndM o s ds a b c f l).2])∧∃ wv',MM w' o ov x (fndM o s ds a b c f l).1 wv'∧Fr (x.D wv) w w'∧∀ g,wv'.ownBlock=some g→wv.ownBlock=some g∨w.heap.size≤g:=by
 have HP:=hd0 hp
 have HV:=hd0 hv
 have H0:=hd0 h
 obtain⟨⟨r,e⟩,ht⟩:∃ z,tkRp a b c f l=z:=⟨_,rfl⟩
 obtain⟨AR,hAR⟩:∃ A:Array Value,A=#[.int .u8 r.lv,.int .u32 r.nm,.int .u8 r.tl,.bool r.st,.bool r.en,.int .u8 r.mi.a,.int .u8 r.mi.b,.int .u8 r.mi.c,.int .u8 r.mi.d,.int .u8 r.mi.e,.int .u8 r.mi.f,.int .u8 r.mo.a,.int .u8 r.mo.b,.int .u8 r.mo.c,.int .u8 r.mo.d,.int .u8 r.mo.e,.int .u8 r.mo.f]:=⟨_,rfl⟩
 have HAR:=hd0 hAR
 have SAR:=hd0 (show AR.size=17 by rw[hAR];rfl)
 have OAR:=hd0 (show AR.all (·.oneCell')=true by rw[hAR];simp[Value.oneCell'])
 have IAR:=hd0 (show(Tryz.prog.info? 81).map (·.size)=some AR.size by rw[SAR.out];kernel_rfl)
 have TK:Hid (∀ W,Tls W v l→Calls Tryz.prog 129 #[.agg #[.int .u8 a,.int .u8 b,.int .u8 c,.string (bs f),v]] W fun en w'=>en=.returned (.tuple #[.agg AR,.int .i64 e])∧Below W.heap.size W w'):=hd0 fun W hW=>by
  have h:=lttakeR_any v l a b c f W HP.out.pf HP.out.pc hW HP.out.pl (fun y hy=>by have:=HP.out.ps y hy;omega)
  rw[ht] at h;rw[HAR.out];exact h
 obtain⟨D,hD⟩:∃ D,decide (ds=o.mc)=D:=⟨_,rfl⟩
 obtain⟨R,hR⟩:∃ R,fndM o s ds a b c f l=R:=⟨_,rfl⟩
 have HR:Hid (R=if D=true then(if e=0∧s.tr≠0∧r.nm=s.tr∧s.way.length<32 then { s with way:=s.way++[r] } else s,decide (e=0)) else(s,true)):=hd0 (by
  rw[←hR];unfold fndM;rw[ht,← hD];simp only[decide_eq_true_eq])
 have hne:∀ W:World,(binOp .neq 25 (.agg #[.int .u8 ds.a,.int .u8 ds.b,.int .u8 ds.c,.int .u8 ds.d,.int .u8 ds.e,.int .u8 ds.f]) (.agg #[.int .u8 o.mc.a,.int .u8 o.mc.b,.int .u8 o.mc.c,.int .u8 o.mc.d,.int .u8 o.mc.e,.int .u8 o.mc.f])).run Tryz.prog W=.ok (.bool (!D)) W:=fun W=>by rw[←hD];exact neq_macG ds o.mc W
 rw[hR]
 obtain⟨wa,wc0,hwv,-⟩:=(h.wy.rw rqC_len).shape
 obtain⟨wn,hwn⟩:∃ n,s.way.length=n:=⟨_,rfl⟩
 rw[hwn] at hwv
 subst hwv
 have HWN:=hd0 (And.intro hwn (show wn≤32 by omega))
 have C0:=hd0 (CM.box h #[.int .u8 sr.a,.int .u8 sr.b,.int .u8 sr.c,.int .u8 sr.d,.int .u8 sr.e,.int .u8 sr.f,.int .u8 ds.a,.int .u8 ds.b,.int .u8 ds.c,.int .u8 ds.d,.int .u8 ds.e,.int .u8 ds.f,.int .u8 a,.int .u8 b,.int .u8 c,.string (bs f),v])
 clear hR ht h hp hv hD hAR hwn hwl
 go_enter Tryz.func99,Tryz.ntmps99
 go_upto_region 1 with fail
 have hb0:Below w.heap.size w (w.alloc (.cells #[.int .u8 sr.a,.int .u8 sr.b,.int .u8 sr.c,.int .u8 sr.d,.int .u8 sr.e,.int .u8 sr.f,.int .u8 ds.a,.int .u8 ds.b,.int .u8 ds.c,.int .u8 ds.d,.int .u8 ds.e,.int .u8 ds.f,.int .u8 a,.int .u8 b,.int .u8 c,.string (bs f),v] 142)):=bA _
 obtain⟨w0,hw0⟩:∃ z,w.alloc (.cells #[.int .u8 sr.a,.int .u8 sr.b,.int .u8 sr.c,.int .u8 sr.d,.int .u8 sr.e,.int .u8 sr.f,.int .u8 ds.a,.int .u8 ds.b,.int .u8 ds.c,.int .u8 ds.d,.int .u8 ds.e,.int .u8 ds.f,.int .u8 a,.int .u8 b,.int .u8 c,.string (bs f),v] 142)=z:=⟨_,rfl⟩
 obtain⟨B,hBB⟩:∃ z,w.heap.size=z:=⟨_,rfl⟩
 have HB:=hd0 hBB
 rw[hw0] at C0 hb0 ⊢
 rw[hBB] at C0 ⊢
 have T0:=hd0 (HV.out.later hb0)
 clear hw0 hBB hb0 HV
 go_cut [15] (fun s15 wx=>s15=.bool (!D)∧Hid (CM w wx o ov x s (.slice wa wn wc0) B #[.int .u8 sr.a,.int .u8 sr.b,.int .u8 sr.c,.int .u8 sr.d,.int .u8 sr.e,.int .u8 sr.f,.int .u8 ds.a,.int .u8 ds.b,.int .u8 ds.c,.int .u8 ds.d,.int .u8 ds.e,.int .u8 ds.f,.int .u8 a,.int .u8 b,.int .u8 c,.string (bs f),v]∧Below w0.heap.size w0 wx))
 case first =>
  have LX:∀ kk:Later w0,CM w kk.out o ov x s (.slice wa wn wc0) B #[.int .u8 sr.a,.int .u8 sr.b,.int .u8 sr.c,.int .u8 sr.d,.int .u8 sr.e,.int .u8 sr.f,.int .u8 ds.a,.int .u8 ds.b,.int .u8 ds.c,.int .u8 ds.d,.int .u8 ds.e,.int .u8 ds.f,.int .u8 a,.int .u8 b,.int .u8 c,.string (bs f),v]:=fun kk=>C0.out.later kk.h
  have m0:∀ kk:Later w0,kk.out.cell? ⟨x.p,5,none⟩=some (.int .u8 o.mc.a):=fun kk=>(LX kk).mac.1
  have m1:∀ kk:Later w0,kk.out.cell? ⟨x.p,6,none⟩=some (.int .u8 o.mc.b):=fun kk=>(LX kk).mac.2.1
  have m2:∀ kk:Later w0,kk.out.cell? ⟨x.p,7,none⟩=some (.int .u8 o.mc.c):=fun kk=>(LX kk).mac.2.2.1
  have m3:∀ kk:Later w0,kk.out.cell? ⟨x.p,8,none⟩=some (.int .u8 o.mc.d):=fun kk=>(LX kk).mac.2.2.2.1
  have m4:∀ kk:Later w0,kk.out.cell? ⟨x.p,9,none⟩=some (.int .u8 o.mc.e):=fun kk=>(LX kk).mac.2.2.2.2.1
  have m5:∀ kk:Later w0,kk.out.cell? ⟨x.p,10,none⟩=some (.int .u8 o.mc.f):=fun kk=>(LX kk).mac.2.2.2.2.2
  have d0:∀ kk:Later w0,kk.out.cell? ⟨B,6,none⟩=some (.int .u8 ds.a):=fun kk=>(LX kk).dst.1
  have d1:∀ kk:Later w0,kk.out.cell? ⟨B,7,none⟩=some (.int .u8 ds.b):=fun kk=>(LX kk).dst.2.1
  have d2:∀ kk:Later w0,kk.out.cell? ⟨B,8,none⟩=some (.int .u8 ds.c):=fun kk=>(LX kk).dst.2.2.1
  have d3:∀ kk:Later w0,kk.out.cell? ⟨B,9,none⟩=some (.int .u8 ds.d):=fun kk=>(LX kk).dst.2.2.2.1
  have d4:∀ kk:Later w0,kk.out.cell? ⟨B,10,none⟩=some (.int .u8 ds.e):=fun kk=>(LX kk).dst.2.2.2.2.1
  have d5:∀ kk:Later w0,kk.out.cell? ⟨B,11,none⟩=some (.int .u8 ds.f):=fun kk=>(LX kk).dst.2.2.2.2.2
  have LH:=hd0 LX
  clear LX
  refine wp_region_later (by kernel_rfl) (by kernel_rfl) ?_
  repeat (go_big_quiet_step (fail))
  refine wpQuiet_nil ?_
  rintro _ ⟨kk,rfl⟩
  go_wp2_with fail
  go_meet
  exact⟨rfl,hd0 ⟨LH.out kk,kk.h⟩⟩
 case rest =>
  obtain⟨rfl,HC⟩:=hcut
  have C1:=hd0 HC.out.1
  have T1:=hd0 (T0.out.later HC.out.2)
  clear HC C0 T0 hne
  cases D with
  | false =>
   have HZ:=hd0 (show R=(s,true) by rw[HR.out];rfl)
   clear HR
   go_wp2
   go_ret2
   exact⟨by first|(rw[HZ.out];done)|(rw[HZ.out];rfl),.slice wa wn wc0,by rw[HZ.out];exact C1.out.mm,C1.out.fr,fun g hg=>.inl hg⟩
  | true =>
   have HR2:=hd0 (show R=(if e=0∧s.tr≠0∧r.nm=s.tr∧s.way.length<32 then { s with way:=s.way++[r] } else s,decide (e=0)) by rw[HR.out];rfl)
   clear HR
   have p0:=C1.out.pdu.1
   have p1:=C1.out.pdu.2.1
   have p2:=C1.out.pdu.2.2.1
   have p3:=C1.out.pdu.2.2.2.1
   have p4:=C1.out.pdu.2.2.2.2
   go_wp2_with fail
   with_reducible refine(TK.out _ T1.out).mono ?_
   rintro en w1 ⟨rfl,hb1⟩
   have C2:=hd0 (C1.out.later hb1)
   clear hb1 C1 T1 p0 p1 p2 p3 p4 TK
   have gz:=GB.new 81 w1 #[.int .u8 0,.int .u32 0,.int .u8 0,.bool false,.bool false,.int .u8 0,.int .u8 0,.int .u8 0,.int .u8 0,.int .u8 0,.int .u8 0,.int .u8 0,.int .u8 0,.int .u8 0,.int .u8 0,.int .u8 0,.int .u8 0]
   have TH:=hd0 (gz.there (n:=AR.size) (Nat.le_of_eq SAR.out))
   go_upto_region 4 with((with_reducible refine wpList_store_mid rfl 81 (.tmp 6) (.tmp 20) rfl w1.heap.size 0 AR ?hx ?hy TH.out IAR.out OAR.out ?_);(case hx=>rfl);(case hy=>rfl))
   have g3:=gz.store (A:=AR) SAR.out.symm OAR.out
   have hbz:Below w1.heap.size w1 ((w1.alloc (.cells yR 81)).setCells w1.heap.size 0 AR.toList):=below_cellsG (Nat.le_refl _) _ _ _ (bA _)
   have C3:=hd0 (C2.out.later hbz)
   obtain⟨t,htt⟩:∃ k,w1.heap.size=k:=⟨_,rfl⟩
   have HT:=hd0 (CM.notD H0.out (k:=t) (by rw[←htt];exact C2.out.fr.size))
   obtain⟨w2,hw2⟩:∃ k,(w1.alloc (.cells yR 81)).setCells w1.heap.size 0 AR.toList=k:=⟨_,rfl⟩
   rw[htt] at hw2
   rw[htt,hw2] at g3 C3 ⊢
   rw[HAR.out] at g3
   have G3:=hd0 g3
   clear gz g3 hbz hw2 htt TH C2
   obtain⟨E,hE⟩:∃ E,decide (e=0)=E:=⟨_,rfl⟩
   have e1:(e==0)=E:=by rw[←hE];by_cases h:e=0 <;> simp[h]
   obtain⟨LP,hLP⟩:∃ z,s.tr=z:=⟨_,rfl⟩
   obtain⟨nm,hnm⟩:∃ z,r.nm=z:=⟨_,rfl⟩
   obtain⟨V,hV⟩:∃ V,(decide (e=0)&&(!decide (LP=0)&&(decide (nm=LP)&&decide (wn<32))))=V:=⟨_,rfl⟩
   have HVV:=hd0 hV
   go_cut [47] (fun s47 wx=>s47=.bool V∧Hid (CM w wx o ov x s (.slice wa wn wc0) B #[.int .u8 sr.a,.int .u8 sr.b,.int .u8 sr.c,.int .u8 sr.d,.int .u8 sr.e,.int .u8 sr.f,.int .u8 ds.a,.int .u8 ds.b,.int .u8 ds.c,.int .u8 ds.d,.int .u8 ds.e,.int .u8 ds.f,.int .u8 a,.int .u8 b,.int .u8 c,.string (bs f),v]∧GB 81 wx t #[.int .u8 r.lv,.int .u32 r.nm,.int .u8 r.tl,.bool r.st,.bool r.en,.int .u8 r.mi.a,.int .u8 r.mi.b,.int .u8 r.mi.c,.int .u8 r.mi.d,.int .u8 r.mi.e,.int .u8 r.mi.f,.int .u8 r.mo.a,.int .u8 r.mo.b,.int .u8 r.mo.c,.int .u8 r.mo.d,.int .u8 r.mo.e,.int .u8 r.mo.f]))
   case first =>
    have c21:∀ kk:Later w2,kk.out.cell? ⟨x.p,21,none⟩=some (.int .u32 LP):=fun kk=>by rw[←hLP];exact(C3.out.later kk.h).mm.ctr
    have c22:∀ kk:Later w2,kk.out.cell? ⟨x.p,22,none⟩=some (.slice wa wn wc0):=fun kk=>(C3.out.later kk.h).mm.cway
    have cn:∀ kk:Later w2,kk.out.cell? ⟨t,1,none⟩=some (.int .u32 nm):=fun kk=>by rw[←hnm];exact(G3.out.later kk.h).c 1 _ rfl
    have LH:=hd0 (fun kk:Later w2=>And.intro (C3.out.later kk.h) (G3.out.later kk.h))
    clear hLP hnm
    by_cases h1:e=0
    ·have e0:(e==0)=true:=by rw[h1];rfl
     by_cases h2:LP=0
     ·have e2:(LP != 0)=false:=by rw[h2];rfl
      have HZ:=hd0 (show V=false by rw[←HVV.out,decide_eq_true h2];simp)
      clear h1 h2 hV hE e1
      refine wp_region_later (by kernel_rfl) (by kernel_rfl) ?_
      repeat (go_big_quiet_step (fail))
      refine wpQuiet_nil ?_
      rintro _ ⟨kk,rfl⟩
      go_wp2_with fail
      go_meet
      exact⟨by rw[HZ.out],hd0 (LH.out kk)⟩
     ·have e2:(LP != 0)=true:=by rw[bne_iff_ne];exact h2
      by_cases h3:nm=LP
      ·have e3:(nm==LP)=true:=by rw[h3];simp
       obtain⟨N,hN⟩:∃ N,decide (wn<32)=N:=⟨_,rfl⟩
       have e4:decide ((wn:Int)<32)=N:=by rw[←hN];by_cases h:wn<32 <;> simp[h] <;> omega
       have HZ:=hd0 (show V=N by rw[←HVV.out,decide_eq_true h1,decide_eq_false h2,decide_eq_true h3,← hN];rfl)
       clear h1 h2 h3 hV hE e1 hN
       refine wp_region_later (by kernel_rfl) (by kernel_rfl) ?_
       repeat (go_big_quiet_step (fail))
       refine wpQuiet_nil ?_
       rintro _ ⟨kk,rfl⟩
       go_wp2_with fail
       go_meet
       exact⟨by rw[HZ.out],hd0 (LH.out kk)⟩
      ·have e3:(nm==LP)=false:=by rw[beq_eq_false_iff_ne];exact h3
       have HZ:=hd0 (show V=false by rw[←HVV.out,decide_eq_false h3];simp)
       clear h1 h2 h3 hV hE e1
       refine wp_region_later (by kernel_rfl) (by kernel_rfl) ?_
       repeat (go_big_quiet_step (fail))
       refine wpQuiet_nil ?_
       rintro _ ⟨kk,rfl⟩
       go_wp2_with fail
       go_meet
       exact⟨by rw[HZ.out],hd0 (LH.out kk)⟩
    ·have e0:(e==0)=false:=by rw[beq_eq_false_iff_ne];exact h1
     have HZ:=hd0 (show V=false by rw[←HVV.out,decide_eq_false h1];simp)
     clear h1 hV hE e1
     refine wp_region_later (by kernel_rfl) (by kernel_rfl) ?_
     repeat (go_big_quiet_step (fail))
     refine wpQuiet_nil ?_
     rintro _ ⟨kk,rfl⟩
     go_wp2_with fail
     go_meet
     exact⟨by rw[HZ.out],hd0 (LH.out kk)⟩
   case rest =>
    obtain⟨rfl,HC⟩:=hcut
    have C4:=hd0 HC.out.1
    have G4:=hd0 HC.out.2
    have HRV:Hid (R=(if V=true then { s with way:=s.way++[r] } else s,E)):=hd0 (by
     rw[HR2.out,← HVV.out,← hE,← hLP,← hnm,HWN.out.1]
     congr 1
     by_cases h1:e=0 <;> by_cases h2:s.tr=0 <;> by_cases h3:r.nm=s.tr <;> by_cases h4:wn<32 <;> simp[h1,h2,h3,h4])
    clear HC C3 G3 HR2 hLP hV HVV hE hnm
    cases V with
    | false =>
     have HZ:=hd0 (show R=(s,E) by rw[HRV.out];rfl)
     clear HRV
     go_wp2
     go_ret2
     exact⟨by first|(rw[HZ.out];done)|(rw[HZ.out];rfl),.slice wa wn wc0,by rw[HZ.out];exact C4.out.mm,C4.out.fr,fun g hg=>.inl hg⟩
    | true =>
     have HZ:=hd0 (show R=({ s with way:=s.way++[r] },E) by rw[HRV.out];rfl)
     clear HRV
     go_upto_region 5 with fail
     go_cut [] (fun wx=>Hid (∃ v1,MM wx o ov x { s with way:=s.way++[r] } v1∧Fr (x.D (.slice wa wn wc0)) w wx∧∀ g,v1.ownBlock=some g→(Value.slice wa wn wc0).ownBlock=some g∨w.heap.size≤g))
     case first =>
      have md:MM (wc.alloc (.cells #[.int .u8 r.lv,.int .u32 r.nm,.int .u8 r.tl,.bool r.st,.bool r.en,.int .u8 r.mi.a,.int .u8 r.mi.b,.int .u8 r.mi.c,.int .u8 r.mi.d,.int .u8 r.mi.e,.int .u8 r.mi.f,.int .u8 r.mo.a,.int .u8 r.mo.b,.int .u8 r.mo.c,.int .u8 r.mo.d,.int .u8 r.mo.e,.int .u8 r.mo.f] 81)).drew o ov x s (.slice wa wn wc0):=(C4.out.mm.alloc _).drew
      have gZ:GB 81 (wc.alloc (.cells #[.int .u8 r.lv,.int .u32 r.nm,.int .u8 r.tl,.bool r.st,.bool r.en,.int .u8 r.mi.a,.int .u8 r.mi.b,.int .u8 r.mi.c,.int .u8 r.mi.d,.int .u8 r.mi.e,.int .u8 r.mi.f,.int .u8 r.mo.a,.int .u8 r.mo.b,.int .u8 r.mo.c,.int .u8 r.mo.d,.int .u8 r.mo.e,.int .u8 r.mo.f] 81)).drew wc.heap.size #[.int .u8 r.lv,.int .u32 r.nm,.int .u8 r.tl,.bool r.st,.bool r.en,.int .u8 r.mi.a,.int .u8 r.mi.b,.int .u8 r.mi.c,.int .u8 r.mi.d,.int .u8 r.mi.e,.int .u8 r.mi.f,.int .u8 r.mo.a,.int .u8 r.mo.b,.int .u8 r.mo.c,.int .u8 r.mo.d,.int .u8 r.mo.e,.int .u8 r.mo.f]:=GB.new _ _ _
      have fd:Fr (x.D (.slice wa wn wc0)) w (wc.alloc (.cells #[.int .u8 r.lv,.int .u32 r.nm,.int .u8 r.tl,.bool r.st,.bool r.en,.int .u8 r.mi.a,.int .u8 r.mi.b,.int .u8 r.mi.c,.int .u8 r.mi.d,.int .u8 r.mi.e,.int .u8 r.mi.f,.int .u8 r.mo.a,.int .u8 r.mo.b,.int .u8 r.mo.c,.int .u8 r.mo.d,.int .u8 r.mo.e,.int .u8 r.mo.f] 81)).drew:=C4.out.fr.trans (.of_below ((Below.refl wc.heap.size wc).alloc (Nat.le_refl _) _).drew)
      have gd:GB 81 wc.drew t #[.int .u8 r.lv,.int .u32 r.nm,.int .u8 r.tl,.bool r.st,.bool r.en,.int .u8 r.mi.a,.int .u8 r.mi.b,.int .u8 r.mi.c,.int .u8 r.mi.d,.int .u8 r.mi.e,.int .u8 r.mi.f,.int .u8 r.mo.a,.int .u8 r.mo.b,.int .u8 r.mo.c,.int .u8 r.mo.d,.int .u8 r.mo.e,.int .u8 r.mo.f]:=G4.out.drew
      have c22:wc.drew.cell? ⟨x.p,22,none⟩=some (.slice wa wn wc0):=C4.out.mm.drew.cway
      have c22':(wc.alloc (.cells #[.int .u8 r.lv,.int .u32 r.nm,.int .u8 r.tl,.bool r.st,.bool r.en,.int .u8 r.mi.a,.int .u8 r.mi.b,.int .u8 r.mi.c,.int .u8 r.mi.d,.int .u8 r.mi.e,.int .u8 r.mi.f,.int .u8 r.mo.a,.int .u8 r.mo.b,.int .u8 r.mo.c,.int .u8 r.mo.d,.int .u8 r.mo.e,.int .u8 r.mo.f] 81)).drew.cell? ⟨x.p,22,none⟩=some (.slice wa wn wc0):=md.cway
      have k0:wc.drew.cell? ⟨t,0,none⟩=some (.int .u8 r.lv):=gd.c 0 _ rfl
      have k1:wc.drew.cell? ⟨t,1,none⟩=some (.int .u32 r.nm):=gd.c 1 _ rfl
      have k2:wc.drew.cell? ⟨t,2,none⟩=some (.int .u8 r.tl):=gd.c 2 _ rfl
      have k3:wc.drew.cell? ⟨t,3,none⟩=some (.bool r.st):=gd.c 3 _ rfl
      have k4:wc.drew.cell? ⟨t,4,none⟩=some (.bool r.en):=gd.c 4 _ rfl
      have k5:wc.drew.cell? ⟨t,5,none⟩=some (.int .u8 r.mi.a):=gd.c 5 _ rfl
      have k6:wc.drew.cell? ⟨t,6,none⟩=some (.int .u8 r.mi.b):=gd.c 6 _ rfl
      have k7:wc.drew.cell? ⟨t,7,none⟩=some (.int .u8 r.mi.c):=gd.c 7 _ rfl
      have k8:wc.drew.cell? ⟨t,8,none⟩=some (.int .u8 r.mi.d):=gd.c 8 _ rfl
      have k9:wc.drew.cell? ⟨t,9,none⟩=some (.int .u8 r.mi.e):=gd.c 9 _ rfl
      have k10:wc.drew.cell? ⟨t,10,none⟩=some (.int .u8 r.mi.f):=gd.c 10 _ rfl
      have k11:wc.drew.cell? ⟨t,11,none⟩=some (.int .u8 r.mo.a):=gd.c 11 _ rfl
      have k12:wc.drew.cell? ⟨t,12,none⟩=some (.int .u8 r.mo.b):=gd.c 12 _ rfl
      have k13:wc.drew.cell? ⟨t,13,none⟩=some (.int .u8 r.mo.c):=gd.c 13 _ rfl
      have k14:wc.drew.cell? ⟨t,14,none⟩=some (.int .u8 r.mo.d):=gd.c 14 _ rfl
      have k15:wc.drew.cell? ⟨t,15,none⟩=some (.int .u8 r.mo.e):=gd.c 15 _ rfl
      have k16:wc.drew.cell? ⟨t,16,none⟩=some (.int .u8 r.mo.f):=gd.c 16 _ rfl
      have MD:=hd0 (And.intro md (And.intro gZ fd))
      clear md gZ fd gd
      go_region_law (first
       |(refine step_append_rq rfl (.tmp 52) (.tmp 54) rfl (.slice wa wn wc0) s.way (by rfl) (by exact MD.out.1.wy) wc.heap.size 1 (by rfl) r (by exact MD.out.2.1) (by have:=HWN.out;omega) ?_;intro v1 w3 hown hg hat;obtain⟨va,vc,hv1,-⟩:=(hown.rw rqC_len).shape;obtain⟨vn,hvn⟩:∃ n,(s.way++[r]).length=n:=⟨_,rfl⟩;rw[hvn] at hv1;subst hv1;have HF:=hd0 (Fr.of_grown (D:=fun k=>(Value.slice wa wn wc0).ownBlock=some k) hg (fun _ h=>h));have HW3:=hd0 (And.intro hown hat);have g3:=MD.out.1.gb.fr' HF.out (fun e=>(MD.out.1.wp _ e).1 rfl);have c3:=g3.c 22 _ rfl;have f3:=g3.fr 22;clear g3 hown hg hat hvn))
      all_goals
       go_wp2
       go_meet
       exact hd0 ⟨.slice va vn vc,MD.out.1.app HF.out HW3.out.1 HW3.out.2,(MD.out.2.2.trans (HF.out.mono (fun k _ hk=>.inr (.inr (.inr (.inr hk)))))).trans (.set (.inl rfl) _ _),fun g hg=>by
        rcases HW3.out.2 with e|e
        ·exact .inl (by rw[←e];exact hg)
        ·rw[e] at hg;injection hg with hg;exact .inr (by have:=MD.out.2.2.size;omega)⟩
     case rest =>
      obtain⟨v1,hm,hf,hb⟩:=hcut.out
      have HM:=hd0 (And.intro hm (And.intro hf hb))
      clear hcut hm hf hb C4 G4
      go_wp2
      go_ret2
      exact⟨by first|(rw[HZ.out];done)|(rw[HZ.out];rfl),v1,by rw[HZ.out];exact HM.out.1,HM.out.2.1,HM.out.2.2⟩
def qt1 (f:List UInt8):=rdText f 0 4
def qt2 (f:List UInt8):=rdText (qt1 f).2.1 (qt1 f).2.2 1
def qt3 (f:List UInt8):=rdText (qt2 f).2.1 (qt2 f).2.2 6
def qt4 (f:List UInt8):=rdText (qt3 f).2.1 (qt3 f).2.2 6
def qtE (f:List UInt8):Int:=(rdEnd (qt4 f).2.1 (qt4 f).2.2).2
def tr0:Tr:=⟨0,0,0,mc0,mc0⟩
def tkTr (a b:Int)(f:List UInt8):Tr × Int :=
 if b=5∧qtE f=0 then(⟨a,numOf (qt1 f).1,numOf (qt2 f).1,mcOf (qt3 f).1,mcOf (qt4 f).1⟩,0) else(tr0,4)
structure QT (w W:World)(x:Nat)(l:List UInt8)(e a b c:Int)(f:List UInt8)(v:Value):Prop where
 rd:Rd W x l e
 pb:PB 103 W w.heap.size a b c f v
 pz:GB 132 W (w.heap.size+1) #[.int .u8 0,.int .u32 0,.int .u8 0,.int .u8 0,.int .u8 0,.int .u8 0,.int .u8 0,.int .u8 0,.int .u8 0,.int .u8 0,.int .u8 0,.int .u8 0,.int .u8 0,.int .u8 0,.int .u8 0]
 bel:Below w.heap.size w W
 hx:w.heap.size+1<x
section
variable {w W W':World} {x:Nat} {l l' f:List UInt8} {e e' a b c:Int} {v:Value}
theorem QT.next (h:QT w W x l e a b c f v)(hr:Rd W' x l' e')(ho:Only x W W'):QT w W' x l' e' a b c f v :=
 ⟨hr,h.pb.only ho (by have:=h.hx;omega),h.pz.only ho (by have:=h.hx;omega),h.bel.trans (ho.below (by have:=h.hx;omega) h.bel.size),h.hx⟩
theorem QT.later (h:QT w W x l e a b c f v)(hb:Below W.heap.size W W'):QT w W' x l e a b c f v :=
 ⟨h.rd.later hb,h.pb.later hb,h.pz.later hb,h.bel.trans (hb.mono h.bel.size),h.hx⟩
theorem QT.alloc (h:QT w W x l e a b c f v)(o:Obj):QT w (W.alloc o) x l e a b c f v:=h.later (bA o)
theorem QT.drew (h:QT w W x l e a b c f v):QT w W.drew x l e a b c f v:=h.later (Below.refl _ _).drew
theorem QT.set (h:QT w W x l e a b c f v){q o:Nat}(hq:x<q)(u:Value):QT w (W.setCell ⟨q,o,none⟩ u) x l e a b c f v :=
 ⟨h.rd.setOther (by omega) _,h.pb.other (by have:=h.hx;omega) _,h.pz.other (by have:=h.hx;omega) _,below_set h.bel (by have:=h.hx;omega) _,h.hx⟩
theorem QT.one (h:QT w W x l e a b c f v):W.cell? ⟨w.heap.size,0,none⟩=some (.int .u8 a):=h.pb.c0
end
theorem QT.cells {w:World}{x:Nat}{l f:List UInt8}{e a b c:Int}{v:Value}{q:Nat}(hq:x<q):∀ (vs:List Value) (o:Nat) (W:World),QT w W x l e a b c f v→QT w (W.setCells q o vs) x l e a b c f v
 |[],_,_,h=>h
 | u::r,o,W,h=>QT.cells hq r (o+1) _ (h.set hq u)
def NT (W:World)(x q:Nat):Prop:=GB 132 W q #[.int .u8 0,.int .u32 0,.int .u8 0,.int .u8 0,.int .u8 0,.int .u8 0,.int .u8 0,.int .u8 0,.int .u8 0,.int .u8 0,.int .u8 0,.int .u8 0,.int .u8 0,.int .u8 0,.int .u8 0]∧x<q
theorem NT.new (W:World){x:Nat}(h:x<W.heap.size):NT (W.alloc (.cells yT 132)) x W.heap.size:=⟨GB.new _ _ _,h⟩
theorem NT.only {W W':World}{x q:Nat}(h:NT W x q)(ho:Only x W W'):NT W' x q:=⟨h.1.only ho (by have:=h.2;omega),h.2⟩
theorem NT.drew {W:World}{x q:Nat}(h:NT W x q):NT W.drew x q:=⟨h.1.drew,h.2⟩
theorem lttake_any (v:Value)(a b c:Int)(f:List UInt8)(w:World)(hf:f.length≤1000):Calls Tryz.prog 127 #[.agg #[.int .u8 a,.int .u8 b,.int .u8 c,.string (bs f),v]] w fun en w' =>
  en=.returned (.tuple #[.agg #[.int .u8 (tkTr a b f).1.lv,.int .u32 (tkTr a b f).1.nm,.int .u8 (tkTr a b f).1.tl,.int .u8 (tkTr a b f).1.fr.a,.int .u8 (tkTr a b f).1.fr.b,.int .u8 (tkTr a b f).1.fr.c,.int .u8 (tkTr a b f).1.fr.d,.int .u8 (tkTr a b f).1.fr.e,.int .u8 (tkTr a b f).1.fr.f,.int .u8 (tkTr a b f).1.tt.a,.int .u8 (tkTr a b f).1.tt.b,.int .u8 (tkTr a b f).1.tt.c,.int .u8 (tkTr a b f).1.tt.d,.int .u8 (tkTr a b f).1.tt.e,.int .u8 (tkTr a b f).1.tt.f],.int .i64 (tkTr a b f).2])∧Below w.heap.size w w':=by
 obtain⟨R,hR⟩:∃ R,tkTr a b f=R:=⟨_,rfl⟩
 rw[hR]
 obtain⟨nm,l1,e1,h1⟩:∃ y l e,numOf (qt1 f).1=y∧(qt1 f).2.1=l∧(qt1 f).2.2=e:=⟨_,_,_,rfl,rfl,rfl⟩
 obtain⟨tl,l2,e2,h2⟩:∃ y l e,numOf (qt2 f).1=y∧(qt2 f).2.1=l∧(qt2 f).2.2=e:=⟨_,_,_,rfl,rfl,rfl⟩
 obtain⟨m3,l3,e3,h3⟩:∃ y l e,mcOf (qt3 f).1=y∧(qt3 f).2.1=l∧(qt3 f).2.2=e:=⟨_,_,_,rfl,rfl,rfl⟩
 obtain⟨m4,l4,e4,h4⟩:∃ y l e,mcOf (qt4 f).1=y∧(qt4 f).2.1=l∧(qt4 f).2.2=e:=⟨_,_,_,rfl,rfl,rfl⟩
 obtain⟨l5,E,h5⟩:∃ l e,(rdEnd l4 e4).1=l∧(rdEnd l4 e4).2=e:=⟨_,_,rfl,rfl⟩
 have q2:rdText l1 e1 1=qt2 f:=by unfold qt2;rw[h1.2.1,h1.2.2]
 have q3:rdText l2 e2 6=qt3 f:=by unfold qt3;rw[h2.2.1,h2.2.2]
 have q4:rdText l3 e3 6=qt4 f:=by unfold qt4;rw[h3.2.1,h3.2.2]
 have hE:qtE f=E:=by unfold qtE;rw[h4.2.1,h4.2.2,h5.2]
 have n1:l1.length≤f.length:=by have:=rd_le f 0 4;rw[show rdText f 0 4=qt1 f from rfl,h1.2.1] at this;exact this
 have n2:l2.length≤l1.length:=by have:=rd_le l1 e1 1;rw[q2,h2.2.1] at this;exact this
 have n3:l3.length≤l2.length:=by have:=rd_le l2 e2 6;rw[q3,h3.2.1] at this;exact this
 have n4:l4.length≤l3.length:=by have:=rd_le l3 e3 6;rw[q4,h4.2.1] at this;exact this
 have U1:Hid (∀ w p,Rd w p f 0→Calls Tryz.prog 139 #[.pointer (some ⟨p,0,none⟩)] w fun en w'=>en=.returned (.int .u32 nm)∧Rd w' p l1 e1∧Only p w w'):=fun w p hr=>by
  have h:=U32_any p f 0 w hr (by omega)
  rw[show rdText f 0 4=qt1 f from rfl,h1.1,h1.2.1,h1.2.2] at h;exact h
 have U2:Hid (∀ w p,Rd w p l1 e1→Calls Tryz.prog 90 #[.pointer (some ⟨p,0,none⟩)] w fun en w'=>en=.returned (.int .u8 tl)∧Rd w' p l2 e2∧Only p w w'):=fun w p hr=>by
  have h:=U8_any p l1 e1 w hr (by omega)
  rw[q2,h2.1,h2.2.1,h2.2.2] at h;exact h
 have U3:Hid (∀ w p,Rd w p l2 e2→Calls Tryz.prog 143 #[.pointer (some ⟨p,0,none⟩)] w fun en w'=>en=.returned (.agg #[.int .u8 m3.a,.int .u8 m3.b,.int .u8 m3.c,.int .u8 m3.d,.int .u8 m3.e,.int .u8 m3.f])∧Rd w' p l3 e3∧Only p w w'):=fun w p hr=>by
  have h:=addressM_any p l2 e2 w hr (by omega)
  rw[q3,h3.1,h3.2.1,h3.2.2] at h;exact h
 have U4:Hid (∀ w p,Rd w p l3 e3→Calls Tryz.prog 143 #[.pointer (some ⟨p,0,none⟩)] w fun en w'=>en=.returned (.agg #[.int .u8 m4.a,.int .u8 m4.b,.int .u8 m4.c,.int .u8 m4.d,.int .u8 m4.e,.int .u8 m4.f])∧Rd w' p l4 e4∧Only p w w'):=fun w p hr=>by
  have h:=addressM_any p l3 e3 w hr (by omega)
  rw[q4,h4.1,h4.2.1,h4.2.2] at h;exact h
 have U5:Hid (∀ w p,Rd w p l4 e4→Calls Tryz.prog 140 #[.pointer (some ⟨p,0,none⟩)] w fun en w'=>en=.returned (.int .i64 E)∧Rd w' p l5 E∧Only p w w'):=fun w p hr=>by
  have h:=end_any p l4 e4 w hr (by omega)
  rw[h5.1,h5.2] at h;exact h
 have HRR:=hd0 (show R=if b=5∧E=0 then(⟨a,nm,tl,m3,m4⟩,0) else(tr0,4) by
  rw[←hR];unfold tkTr;rw[h1.1,h2.1,h3.1,h4.1,hE])
 clear hR h1 h2 h3 h4 h5 q2 q3 q4 hE n1 n2 n3 n4 hf
 go_enter Tryz.func127,Tryz.ntmps127
 go_upto_region 1 with fail
 have pb0:=(PB.new 103 w a b c f v).later (bA (.cells yT 132))
 have pz:GB 132 ((w.alloc (.cells #[.int .u8 a,.int .u8 b,.int .u8 c,.string (bs f),v] 103)).alloc (.cells yT 132)) (w.heap.size+1) #[.int .u8 0,.int .u32 0,.int .u8 0,.int .u8 0,.int .u8 0,.int .u8 0,.int .u8 0,.int .u8 0,.int .u8 0,.int .u8 0,.int .u8 0,.int .u8 0,.int .u8 0,.int .u8 0,.int .u8 0]:=by
  have:=GB.new 132 (w.alloc (.cells #[.int .u8 a,.int .u8 b,.int .u8 c,.string (bs f),v] 103)) #[.int .u8 0,.int .u32 0,.int .u8 0,.int .u8 0,.int .u8 0,.int .u8 0,.int .u8 0,.int .u8 0,.int .u8 0,.int .u8 0,.int .u8 0,.int .u8 0,.int .u8 0,.int .u8 0,.int .u8 0]
  rw[show(w.alloc (.cells #[.int .u8 a,.int .u8 b,.int .u8 c,.string (bs f),v] 103)).heap.size=w.heap.size+1 by simp] at this
  exact this
 have hb0:Below w.heap.size w ((w.alloc (.cells #[.int .u8 a,.int .u8 b,.int .u8 c,.string (bs f),v] 103)).alloc (.cells yT 132)):=(bA _).alloc (by simp) _
 obtain⟨w0,hw0⟩:∃ k,(w.alloc (.cells #[.int .u8 a,.int .u8 b,.int .u8 c,.string (bs f),v] 103)).alloc (.cells yT 132)=k:=⟨_,rfl⟩
 rw[hw0] at pb0 pz hb0 ⊢
 have c3:=pb0.c3
 have PB0:=hd0 pb0
 have PZ0:=hd0 pz
 have HB0:=hd0 hb0
 clear hw0 pb0 pz hb0
 go_wp2_with fail
 with_reducible refine(of_any f w0).mono ?_
 rintro en' w1 ⟨rfl,hr1,hb1,hlt⟩
 have RN0:Hid (QT w w1 w0.heap.size f 0 a b c f v):=hd0 ⟨hr1,PB0.out.later hb1,PZ0.out.later hb1,HB0.out.trans (hb1.mono HB0.out.size),PZ0.out.lt⟩
 obtain⟨x,hx⟩:∃ x,w0.heap.size=x:=⟨_,rfl⟩
 rw[hx] at RN0 ⊢
 clear hr1 hb1 hlt c3 PB0 PZ0 HB0 hx
 go_upto_region 2 with fail
 obtain⟨FA,hFA⟩:∃ A:Array Value,A=#[.int .u8 a,.int .u32 nm,.int .u8 tl,.int .u8 m3.a,.int .u8 m3.b,.int .u8 m3.c,.int .u8 m3.d,.int .u8 m3.e,.int .u8 m3.f,.int .u8 m4.a,.int .u8 m4.b,.int .u8 m4.c,.int .u8 m4.d,.int .u8 m4.e,.int .u8 m4.f]:=⟨_,rfl⟩
 have HSZ:Hid (FA.size=15):=hd0 (by rw[hFA];rfl)
 have HIF:Hid ((Tryz.prog.info? 132).map (·.size)=some FA.size):=hd0 (by rw[HSZ.out];kernel_rfl)
 have HIL:Hid ((Tryz.prog.info? 132).map (·.size)=some FA.toList.length):=hd0 (by rw[Array.length_toList];exact HIF.out)
 have O1F:Hid (FA.all (·.oneCell')=true):=hd0 (by rw[hFA];simp[Value.oneCell'])
 have HFA:=hd0 hFA
 clear hFA
 go_cut [5] (fun s5 wx=>∃ q:Nat,s5=.pointer (some ⟨q,0,none⟩)∧Hid (QT w wx x l4 e4 a b c f v)∧Hid (GB 132 wx q FA)∧Hid (x<q))
 case first =>
  have RN:=hd0 RN0.out.drew
  refine wp_region_held_drew (S:=fun W=>W.cell? ⟨w.heap.size,0,none⟩=some (.int .u8 a)) (by kernel_rfl) RN.out.one (fun hHeld=>?_)
  refine tkH 0 ?_ ?h ?_
  case h=>(intro w hSw;go_simp;try with_reducible rfl)
  try simp only[Act.put,zz]
  refine tkH 1 ?_ ?h ?_
  case h=>(intro w hSw;go_simp;try with_reducible rfl)
  try simp only[Act.put,zz]
  refine tkH 2 ?_ ?h ?_
  case h=>(intro w hSw;go_simp;try with_reducible rfl)
  try simp only[Act.put,zz]
  refine tkH 4 ?_ ?h ?_
  case h=>(intro w hSw;go_simp;try with_reducible rfl)
  try simp only[Act.put,zz]
  refine tkH 6 ?_ ?h ?_
  case h=>(intro w hSw;go_simp;try with_reducible rfl)
  try simp only[Act.put,zz]
  refine tkH 8 ?_ ?h ?_
  case h=>(intro w hSw;go_simp;try with_reducible rfl)
  try simp only[Act.put,zz]
  refine wpAnyH_ready (rs:=[3,11]) (by kernel_rfl) (by simp) (AllReadyH.cons rfl (fun K hK=>?main3) (AllReadyH.cons rfl (fun K hK=>?side3) AllReadyH.nil))
  case side3 =>
   (go_simp;have NQ:=hd0 ((NT.new w1 RN0.out.rd.lt).drew);have RN:=hd0 ((RN0.out.alloc (.cells yT 132)).drew);refine hK.out _ _ RN.out.one (fun hHeld=>?_);clear hK K;try simp only[Act.put,zz])
   refine rdH 3 fun K hK=>?_
   (go_simp;go_at_call 139;(with_reducible refine(U1.out _ _ RN.out.rd).mono ?_);rintro en' wx3 ⟨rfl,rd_,ho_⟩;have NQ:=hd0 (NQ.out.only ho_);have RN:=hd0 (RN.out.next rd_ ho_);clear rd_ ho_;refine hK.out _ _ RN.out.one (fun hHeld=>?_);clear hK K;try simp only[Act.put,zz])
   refine rdH 5 fun K hK=>?_
   (go_simp;go_at_call 90;(with_reducible refine(U2.out _ _ RN.out.rd).mono ?_);rintro en' wx5 ⟨rfl,rd_,ho_⟩;have NQ:=hd0 (NQ.out.only ho_);have RN:=hd0 (RN.out.next rd_ ho_);clear rd_ ho_;refine hK.out _ _ RN.out.one (fun hHeld=>?_);clear hK K;try simp only[Act.put,zz])
   refine rdH 7 fun K hK=>?_
   (go_simp;go_at_call 143;(with_reducible refine(U3.out _ _ RN.out.rd).mono ?_);rintro en' wx7 ⟨rfl,rd_,ho_⟩;have NQ:=hd0 (NQ.out.only ho_);have RN:=hd0 (RN.out.next rd_ ho_);clear rd_ ho_;refine hK.out _ _ RN.out.one (fun hHeld=>?_);clear hK K;try simp only[Act.put,zz])
   refine rdH 9 fun K hK=>?_
   (go_simp;go_at_call 143;(with_reducible refine(U4.out _ _ RN.out.rd).mono ?_);rintro en' wx9 ⟨rfl,rd_,ho_⟩;have NQ:=hd0 (NQ.out.only ho_);have RN:=hd0 (RN.out.next rd_ ho_);clear rd_ ho_;refine hK.out _ _ RN.out.one (fun hHeld=>?_);clear hK K;try simp only[Act.put,zz])
   refine tkH 10 ?_ ?h ?_
   case h=>(intro w hSw;go_simp;try with_reducible rfl)
   try simp only[Act.put,zz]
   refine rdH 12 fun K hK=>?_
   (rw[if_pos (by rfl)];refine wp_store_mid 132 (.tmp 5) (.tmp 19) rfl _ 0 FA rfl (by rw[HFA.out];rfl) (NQ.out.1.there (Nat.le_of_eq HSZ.out)) HIF.out O1F.out ?_;refine hK.out _ _ ((QT.cells NQ.out.2 _ _ _ RN.out).one) (fun hHeld=>?_);clear hK K;try simp only[Act.put,List.setIfInBounds_toArray])
   refine wpAnyH_done (by kernel_rfl) ?_ _
   go_wp2_with fail
   go_meet
   exact⟨_,rfl,hd0 (QT.cells NQ.out.2 _ _ _ RN.out),hd0 (GB.store NQ.out.1 HSZ.out.symm O1F.out),hd0 NQ.out.2⟩
  (go_simp;go_at_call 139;(with_reducible refine(U1.out _ _ RN.out.rd).mono ?_);rintro en' wx3 ⟨rfl,rd_,ho_⟩;have RN:=hd0 (RN.out.next rd_ ho_);clear rd_ ho_;refine hK.out _ _ RN.out.one (fun hHeld=>?_);clear hK K;try simp only[Act.put,zz])
  refine wpAnyH_ready (rs:=[5,11]) (by kernel_rfl) (by simp) (AllReadyH.cons rfl (fun K hK=>?main5) (AllReadyH.cons rfl (fun K hK=>?side5) AllReadyH.nil))
  case side5 =>
   (go_simp;have NQ:=hd0 (NT.new wx3 RN.out.rd.lt);have RN:=hd0 (RN.out.alloc (.cells yT 132));refine hK.out _ _ RN.out.one (fun hHeld=>?_);clear hK K;try simp only[Act.put,zz])
   refine rdH 5 fun K hK=>?_
   (go_simp;go_at_call 90;(with_reducible refine(U2.out _ _ RN.out.rd).mono ?_);rintro en' wx5 ⟨rfl,rd_,ho_⟩;have NQ:=hd0 (NQ.out.only ho_);have RN:=hd0 (RN.out.next rd_ ho_);clear rd_ ho_;refine hK.out _ _ RN.out.one (fun hHeld=>?_);clear hK K;try simp only[Act.put,zz])
   refine rdH 7 fun K hK=>?_
   (go_simp;go_at_call 143;(with_reducible refine(U3.out _ _ RN.out.rd).mono ?_);rintro en' wx7 ⟨rfl,rd_,ho_⟩;have NQ:=hd0 (NQ.out.only ho_);have RN:=hd0 (RN.out.next rd_ ho_);clear rd_ ho_;refine hK.out _ _ RN.out.one (fun hHeld=>?_);clear hK K;try simp only[Act.put,zz])
   refine rdH 9 fun K hK=>?_
   (go_simp;go_at_call 143;(with_reducible refine(U4.out _ _ RN.out.rd).mono ?_);rintro en' wx9 ⟨rfl,rd_,ho_⟩;have NQ:=hd0 (NQ.out.only ho_);have RN:=hd0 (RN.out.next rd_ ho_);clear rd_ ho_;refine hK.out _ _ RN.out.one (fun hHeld=>?_);clear hK K;try simp only[Act.put,zz])
   refine tkH 10 ?_ ?h ?_
   case h=>(intro w hSw;go_simp;try with_reducible rfl)
   try simp only[Act.put,zz]
   refine rdH 12 fun K hK=>?_
   (rw[if_pos (by rfl)];refine wp_store_mid 132 (.tmp 5) (.tmp 19) rfl _ 0 FA rfl (by rw[HFA.out];rfl) (NQ.out.1.there (Nat.le_of_eq HSZ.out)) HIF.out O1F.out ?_;refine hK.out _ _ ((QT.cells NQ.out.2 _ _ _ RN.out).one) (fun hHeld=>?_);clear hK K;try simp only[Act.put,List.setIfInBounds_toArray])
   refine wpAnyH_done (by kernel_rfl) ?_ _
   go_wp2_with fail
   go_meet
   exact⟨_,rfl,hd0 (QT.cells NQ.out.2 _ _ _ RN.out),hd0 (GB.store NQ.out.1 HSZ.out.symm O1F.out),hd0 NQ.out.2⟩
  (go_simp;go_at_call 90;(with_reducible refine(U2.out _ _ RN.out.rd).mono ?_);rintro en' wx5 ⟨rfl,rd_,ho_⟩;have RN:=hd0 (RN.out.next rd_ ho_);clear rd_ ho_;refine hK.out _ _ RN.out.one (fun hHeld=>?_);clear hK K;try simp only[Act.put,zz])
  refine wpAnyH_ready (rs:=[7,11]) (by kernel_rfl) (by simp) (AllReadyH.cons rfl (fun K hK=>?main7) (AllReadyH.cons rfl (fun K hK=>?side7) AllReadyH.nil))
  case side7 =>
   (go_simp;have NQ:=hd0 (NT.new wx5 RN.out.rd.lt);have RN:=hd0 (RN.out.alloc (.cells yT 132));refine hK.out _ _ RN.out.one (fun hHeld=>?_);clear hK K;try simp only[Act.put,zz])
   refine rdH 7 fun K hK=>?_
   (go_simp;go_at_call 143;(with_reducible refine(U3.out _ _ RN.out.rd).mono ?_);rintro en' wx7 ⟨rfl,rd_,ho_⟩;have NQ:=hd0 (NQ.out.only ho_);have RN:=hd0 (RN.out.next rd_ ho_);clear rd_ ho_;refine hK.out _ _ RN.out.one (fun hHeld=>?_);clear hK K;try simp only[Act.put,zz])
   refine rdH 9 fun K hK=>?_
   (go_simp;go_at_call 143;(with_reducible refine(U4.out _ _ RN.out.rd).mono ?_);rintro en' wx9 ⟨rfl,rd_,ho_⟩;have NQ:=hd0 (NQ.out.only ho_);have RN:=hd0 (RN.out.next rd_ ho_);clear rd_ ho_;refine hK.out _ _ RN.out.one (fun hHeld=>?_);clear hK K;try simp only[Act.put,zz])
   refine tkH 10 ?_ ?h ?_
   case h=>(intro w hSw;go_simp;try with_reducible rfl)
   try simp only[Act.put,zz]
   refine rdH 12 fun K hK=>?_
   (rw[if_pos (by rfl)];refine wp_store_mid 132 (.tmp 5) (.tmp 19) rfl _ 0 FA rfl (by rw[HFA.out];rfl) (NQ.out.1.there (Nat.le_of_eq HSZ.out)) HIF.out O1F.out ?_;refine hK.out _ _ ((QT.cells NQ.out.2 _ _ _ RN.out).one) (fun hHeld=>?_);clear hK K;try simp only[Act.put,List.setIfInBounds_toArray])
   refine wpAnyH_done (by kernel_rfl) ?_ _
   go_wp2_with fail
   go_meet
   exact⟨_,rfl,hd0 (QT.cells NQ.out.2 _ _ _ RN.out),hd0 (GB.store NQ.out.1 HSZ.out.symm O1F.out),hd0 NQ.out.2⟩
  (go_simp;go_at_call 143;(with_reducible refine(U3.out _ _ RN.out.rd).mono ?_);rintro en' wx7 ⟨rfl,rd_,ho_⟩;have RN:=hd0 (RN.out.next rd_ ho_);clear rd_ ho_;refine hK.out _ _ RN.out.one (fun hHeld=>?_);clear hK K;try simp only[Act.put,zz])
  refine wpAnyH_ready (rs:=[9,11]) (by kernel_rfl) (by simp) (AllReadyH.cons rfl (fun K hK=>?main9) (AllReadyH.cons rfl (fun K hK=>?side9) AllReadyH.nil))
  case side9 =>
   (go_simp;have NQ:=hd0 (NT.new wx7 RN.out.rd.lt);have RN:=hd0 (RN.out.alloc (.cells yT 132));refine hK.out _ _ RN.out.one (fun hHeld=>?_);clear hK K;try simp only[Act.put,zz])
   refine rdH 9 fun K hK=>?_
   (go_simp;go_at_call 143;(with_reducible refine(U4.out _ _ RN.out.rd).mono ?_);rintro en' wx9 ⟨rfl,rd_,ho_⟩;have NQ:=hd0 (NQ.out.only ho_);have RN:=hd0 (RN.out.next rd_ ho_);clear rd_ ho_;refine hK.out _ _ RN.out.one (fun hHeld=>?_);clear hK K;try simp only[Act.put,zz])
   refine tkH 10 ?_ ?h ?_
   case h=>(intro w hSw;go_simp;try with_reducible rfl)
   try simp only[Act.put,zz]
   refine rdH 12 fun K hK=>?_
   (rw[if_pos (by rfl)];refine wp_store_mid 132 (.tmp 5) (.tmp 19) rfl _ 0 FA rfl (by rw[HFA.out];rfl) (NQ.out.1.there (Nat.le_of_eq HSZ.out)) HIF.out O1F.out ?_;refine hK.out _ _ ((QT.cells NQ.out.2 _ _ _ RN.out).one) (fun hHeld=>?_);clear hK K;try simp only[Act.put,List.setIfInBounds_toArray])
   refine wpAnyH_done (by kernel_rfl) ?_ _
   go_wp2_with fail
   go_meet
   exact⟨_,rfl,hd0 (QT.cells NQ.out.2 _ _ _ RN.out),hd0 (GB.store NQ.out.1 HSZ.out.symm O1F.out),hd0 NQ.out.2⟩
  (go_simp;go_at_call 143;(with_reducible refine(U4.out _ _ RN.out.rd).mono ?_);rintro en' wx9 ⟨rfl,rd_,ho_⟩;have RN:=hd0 (RN.out.next rd_ ho_);clear rd_ ho_;refine hK.out _ _ RN.out.one (fun hHeld=>?_);clear hK K;try simp only[Act.put,zz])
  refine tkH 10 ?_ ?h ?_
  case h=>(intro w hSw;go_simp;try with_reducible rfl)
  try simp only[Act.put,zz]
  refine rdH 11 fun K hK=>?_
  (go_simp;have NQ:=hd0 (NT.new wx9 RN.out.rd.lt);have RN:=hd0 (RN.out.alloc (.cells yT 132));refine hK.out _ _ RN.out.one (fun hHeld=>?_);clear hK K;try simp only[Act.put,zz])
  refine rdH 12 fun K hK=>?_
  (rw[if_pos (by rfl)];refine wp_store_mid 132 (.tmp 5) (.tmp 19) rfl _ 0 FA rfl (by rw[HFA.out];rfl) (NQ.out.1.there (Nat.le_of_eq HSZ.out)) HIF.out O1F.out ?_;refine hK.out _ _ ((QT.cells NQ.out.2 _ _ _ RN.out).one) (fun hHeld=>?_);clear hK K;try simp only[Act.put,List.setIfInBounds_toArray])
  refine wpAnyH_done (by kernel_rfl) ?_ _
  go_wp2_with fail
  go_meet
  exact⟨_,rfl,hd0 (QT.cells NQ.out.2 _ _ _ RN.out),hd0 (GB.store NQ.out.1 HSZ.out.symm O1F.out),hd0 NQ.out.2⟩
 case rest =>
  obtain⟨q,rfl,QN,GN,HXQ⟩:=hcut
  clear RN0 U1 U2 U3 U4
  have c1:=QN.out.pb.c1
  by_cases hb5:b=5
  rotate_left
  ·have d5:(b != 5)=true:=by rw[bne_iff_ne];exact hb5
   have HR0:Hid (R=(tr0,4)):=hd0 (by rw[HRR.out,if_neg (fun h=>hb5 h.1)])
   clear hb5
   obtain⟨A,hA⟩:∃ A:Array Value,A=#[.int .u8 0,.int .u32 0,.int .u8 0,.int .u8 0,.int .u8 0,.int .u8 0,.int .u8 0,.int .u8 0,.int .u8 0,.int .u8 0,.int .u8 0,.int .u8 0,.int .u8 0,.int .u8 0,.int .u8 0]:=⟨_,rfl⟩
   have hs:A.size=15:=by rw[hA];rfl
   have TH:=hd0 (QN.out.pz.there (n:=A.size) (by rw[hs];exact Nat.le_refl _))
   have o1:A.all (·.oneCell')=true:=by rw[hA];simp[Value.oneCell']
   have G1:=hd0 (QN.out.pz.store (A:=A) (by rw[hs];rfl) o1)
   have HI:Hid ((Tryz.prog.info? 132).map (·.size)=some A.size):=hd0 (by rw[hs];kernel_rfl)
   have O1:=hd0 o1
   have HA:=hd0 hA
   clear hA hs o1
   go_wp2_with ((with_reducible refine wpList_store_mid rfl 132 (.tmp 2) (.tmp 28) rfl (w.heap.size+1) 0 A ?hx ?hy TH.out HI.out O1.out ?_);(case hx=>rfl);(case hy=>(rw[HA.out];rfl)))
   exact bodyPost_ret (v:=.tuple #[.agg A,.int .i64 4]) (res_two (p:=2) (u:=3) (d:=_) rfl rfl Tryz.underlying132 _ _ (w.heap.size+1) _ rfl G1.out HI.out) rfl ⟨by rw[HA.out,HR0.out];rfl,below_cellsG (by omega) _ _ _ QN.out.bel⟩
  have d5:(b != 5)=false:=by rw[hb5];rfl
  have HB5:=hd0 hb5
  clear hb5
  go_wp2_with fail
  with_reducible refine(U5.out _ _ QN.out.rd).mono ?_
  rintro en' w6 ⟨rfl,hr6,ho6⟩
  have QM:=hd0 (QN.out.next hr6 ho6)
  have GM:=hd0 (GN.out.only ho6 (by have:=HXQ.out;omega))
  clear hr6 ho6 c1 QN GN
  by_cases hE0:E=0
  rotate_left
  ·have dE:(E != 0)=true:=by rw[bne_iff_ne];exact hE0
   have HR0:Hid (R=(tr0,4)):=hd0 (by rw[HRR.out,if_neg (fun h=>hE0 h.2)])
   clear hE0
   obtain⟨A,hA⟩:∃ A:Array Value,A=#[.int .u8 0,.int .u32 0,.int .u8 0,.int .u8 0,.int .u8 0,.int .u8 0,.int .u8 0,.int .u8 0,.int .u8 0,.int .u8 0,.int .u8 0,.int .u8 0,.int .u8 0,.int .u8 0,.int .u8 0]:=⟨_,rfl⟩
   have hs:A.size=15:=by rw[hA];rfl
   have TH:=hd0 (QM.out.pz.there (n:=A.size) (by rw[hs];exact Nat.le_refl _))
   have o1:A.all (·.oneCell')=true:=by rw[hA];simp[Value.oneCell']
   have G1:=hd0 (QM.out.pz.store (A:=A) (by rw[hs];rfl) o1)
   have HI:Hid ((Tryz.prog.info? 132).map (·.size)=some A.size):=hd0 (by rw[hs];kernel_rfl)
   have O1:=hd0 o1
   have HA:=hd0 hA
   clear hA hs o1
   go_wp2_with ((with_reducible refine wpList_store_mid rfl 132 (.tmp 2) (.tmp 28) rfl (w.heap.size+1) 0 A ?hx ?hy TH.out HI.out O1.out ?_);(case hx=>rfl);(case hy=>(rw[HA.out];rfl)))
   exact bodyPost_ret (v:=.tuple #[.agg A,.int .i64 4]) (res_two (p:=2) (u:=3) (d:=_) rfl rfl Tryz.underlying132 _ _ (w.heap.size+1) _ rfl G1.out HI.out) rfl ⟨by rw[HA.out,HR0.out];rfl,below_cellsG (by omega) _ _ _ QM.out.bel⟩
  have dE:(E != 0)=false:=by rw[hE0];rfl
  have HR0:Hid (R=(⟨a,nm,tl,m3,m4⟩,0)):=hd0 (by rw[HRR.out,if_pos ⟨HB5.out,hE0⟩])
  have TH:=hd0 (QM.out.pz.there (n:=FA.size) (by rw[HSZ.out];exact Nat.le_refl _))
  have G1:=hd0 (QM.out.pz.store (A:=FA) (by rw[HSZ.out];rfl) O1F.out)
  have HG:=hd0 GM.out.range
  clear hE0
  go_wp2_with (first|((with_reducible refine wpList_load_mid rfl 132 (.tmp 5) rfl q 0 ?hx FA.toList _ HG.out Tryz.underlying132 ?hu HIL.out ?_);(case hx=>rfl);(case hu=>rfl))|((with_reducible refine wpList_store_mid rfl 132 (.tmp 2) (.tmp 29) rfl (w.heap.size+1) 0 FA ?hx ?hy TH.out HIF.out O1F.out ?_);(case hx=>rfl);(case hy=>rfl)))
  exact bodyPost_ret (v:=.tuple #[.agg FA,.int .i64 0]) (res_two (p:=2) (u:=3) (d:=_) rfl rfl Tryz.underlying132 _ _ (w.heap.size+1) _ rfl G1.out HIF.out) rfl ⟨by rw[HFA.out,HR0.out],below_cellsG (by omega) _ _ _ QM.out.bel⟩
end Go.Proofs.YtlkdfofpnmpidaaGreat
