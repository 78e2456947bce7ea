/- ZR11 -/
import Derived.Test.YtghaobakpdninaaGreatDoorZR10
set_option linter.unusedVariables false
set_option linter.unusedSimpArgs false
set_option maxRecDepth 100000
set_option maxHeartbeats 16000000
namespace Go.Proofs.YtghaobakpdninaaGreatDoor
open Go.RowKit
theorem wpQuiet_loadAt {P:Program}{ops:Array Oper}{C:World→Prop}{Q:Act→Prop}{o:Oper}{rest:List Oper}{a:Act}(ty:TypeId)(x:Operand)(b k:Nat)(A:Array Value)(hw:Region.wanted o (yielded ops a.tmps)=true)(ho:o.op=.load ty x)
  (hx:a.eval x=.pointer (some ⟨b,k,none⟩)) (hl:∀ w,C w→(Instr.loadAt ty (.pointer (some ⟨b,k,none⟩))).run P w=.ok (.agg A) w) (h:wpQuiet P ops C Q rest (a.put o.dst (.agg A))):wpQuiet P ops C Q (o::rest) a:=by
 rw[wpQuiet,if_pos hw]
 refine⟨.agg A,fun w hc=>?_,h⟩
 unfold Oper.quietAt execOp
 simp only[ho,hx,Sem.run_bind,hl w hc,Result.andThen_ok,Sem.run_pure]
 exact⟨rfl,rfl⟩
theorem town (m g cap:Nat)(t:List Value)(T:TM)(i:Int)(w:World)(h:TR w m g cap t T):Calls Tryz.prog 113 #[.pointer (some ⟨m,0,none⟩),.int .u8 i] w fun en w'=>en=.returned (.agg #[.int .u64 T.rt,.int .u32 T.co,.int .u64 T.id,.int .u8 i])∧Below w.heap.size w w':=by
 have SX:Hid (∀ W,Below w.heap.size w W→W.cell? ⟨m,2,none⟩=some (.int .u64 T.rt)∧W.cell? ⟨m,3,none⟩=some (.int .u32 T.co)∧W.cell? ⟨m,0,none⟩=some (.int .u64 T.id)):=hd0 fun W hW=>⟨(h.later hW).c2,(h.later hW).c3,(h.later hW).c0⟩
 obtain⟨rt,co,id,h1,h2,h3⟩:∃ rt co id,T.rt=rt∧T.co=co∧T.id=id:=⟨_,_,_,rfl,rfl,rfl⟩
 rw[h1,h2,h3] at SX ⊢
 clear h h1 h2 h3
 have hb:=(Below.refl w.heap.size w).alloc (Nat.le_refl _) (.cells #[.int .u64 0,.int .u32 0,.int .u64 0,.int .u8 0] 210)
 have z0:=(GB.new 210 w #[.int .u64 0,.int .u32 0,.int .u64 0,.int .u8 0]).drew
 obtain⟨w0,hw0⟩:∃ z,w.alloc (.cells #[.int .u64 0,.int .u32 0,.int .u64 0,.int .u8 0] 210)=z:=⟨_,rfl⟩
 rw[hw0] at hb z0
 have HB:=hd0 hb.drew
 have HZ:=hd0 z0
 have TH:Hid (w0.drew.there w.heap.size 0 (Array.size #[Value.int .u64 rt,.int .u32 co,.int .u64 id,.int .u8 i])):=hd0 (z0.there (Nat.le_refl _))
 have HI:Hid ((Tryz.prog.info? 210).map (·.size)=some (Array.size #[Value.int .u64 rt,.int .u32 co,.int .u64 id,.int .u8 i])):=hd0 (by kernel_rfl)
 have HO:Hid ((#[.int .u64 rt,.int .u32 co,.int .u64 id,.int .u8 i]:Array Value).all (·.oneCell')=true):=hd0 (by kernel_rfl)
 clear hb z0
 go_enter Tryz.func113,Tryz.ntmps113
 go_upto_region 1 with fail
 clear hw0
 refine wp_region_held_drew (S:=fun W=>W.cell? ⟨m,2,none⟩=some (.int .u64 rt)∧W.cell? ⟨m,3,none⟩=some (.int .u32 co)∧W.cell? ⟨m,0,none⟩=some (.int .u64 id)) (by kernel_rfl) (SX.out _ HB.out) (fun hHeld=>?_)
 refine tkH 0 ?_ ?h ?_
 case h=>(intro w hSw;go_simp;try with_reducible rfl)
 try simp only[Act.put,zz]
 refine tkH 1 ?_ ?h ?_
 case h=>(intro w hSw;go_simp;try with_reducible rfl)
 try simp only[Act.put,zz]
 refine tkH 2 ?_ ?h ?_
 case h=>(intro w hSw;go_simp;try with_reducible rfl)
 try simp only[Act.put,zz]
 refine tkH 3 ?_ ?h ?_
 case h=>(intro w hSw;go_simp;try with_reducible rfl)
 try simp only[Act.put,zz]
 refine tkH 4 ?_ ?h ?_
 case h=>(intro w hSw;go_simp;try with_reducible rfl)
 try simp only[Act.put,zz]
 refine tkH 5 ?_ ?h ?_
 case h=>(intro w hSw;go_simp;try with_reducible rfl)
 try simp only[Act.put,zz]
 refine tkH 6 ?_ ?h ?_
 case h=>(intro w hSw;go_simp;try with_reducible rfl)
 try simp only[Act.put,zz]
 refine tkH 7 ?_ ?h ?_
 case h=>(intro w hSw;go_simp;try with_reducible rfl)
 try simp only[Act.put,zz]
 refine tkH 8 ?_ ?h ?_
 case h=>(intro w hSw;go_simp;try with_reducible rfl)
 try simp only[Act.put,zz]
 refine tkH 9 ?_ ?h ?_
 case h=>(intro w hSw;go_simp;try with_reducible rfl)
 try simp only[Act.put,zz]
 refine tkH 10 ?_ ?h ?_
 case h=>(intro w hSw;go_simp;try with_reducible rfl)
 try simp only[Act.put,zz]
 refine tkH 11 ?_ ?h ?_
 case h=>(intro w hSw;go_simp;try with_reducible rfl)
 try simp only[Act.put,zz]
 refine tkH 12 ?_ ?h ?_
 case h=>(intro w hSw;go_simp;try with_reducible rfl)
 try simp only[Act.put,zz]
 refine tkH 13 ?_ ?h ?_
 case h=>(intro w hSw;go_simp;try with_reducible rfl)
 try simp only[Act.put,zz]
 refine tkH 14 ?_ ?h ?_
 case h=>(intro w hSw;go_simp;try with_reducible rfl)
 try simp only[Act.put,zz]
 refine tkH 15 ?_ ?h ?_
 case h=>(intro w hSw;go_simp;try with_reducible rfl)
 try simp only[Act.put,zz]
 refine rdH 16 fun K hK=>?_
 (rw[if_pos (by rfl)];refine wp_store_mid 210 (.tmp 4) (.tmp 20) rfl _ 0 #[.int .u64 rt,.int .u32 co,.int .u64 id,.int .u8 i] rfl (by rfl) TH.out HI.out HO.out ?_;refine hK.out _ _ (SX.out _ (below_cellsG (Nat.le_refl _) _ _ _ HB.out)) (fun hHeld=>?_);clear hK K;try simp only[Act.put,zz])
 refine wpAnyH_done (by kernel_rfl) ?_ _
 go_wp2_with fail
 exact bodyPost_ret (v:=.agg #[.int .u64 rt,.int .u32 co,.int .u64 id,.int .u8 i]) (res_one (p:=4) (d:=_) rfl rfl Tryz.underlying210 _ _ w.heap.size _ rfl (HZ.out.store rfl HO.out) (by kernel_rfl)) rfl ⟨rfl,below_cellsG (Nat.le_refl _) _ _ _ HB.out⟩
section
variable (m g cap:Nat) (t:List Value) (id:Int) (a u:Bool) (x:Bp) (la:Int) (ag:Bool) (sp rt co po ho ve fl:Int) (w:World)
theorem tat1 (h:TR w m g cap t (ml id a (lk u x la ag sp) rt co po ho ve fl)):Calls Tryz.prog 111 #[.pointer (some ⟨m,0,none⟩),.int .u8 1] w fun en w'=>en=.returned (.pointer (some ⟨g,16,none⟩))∧w=w' :=
 (tat_any m g cap t _ 1 (by decide) w h).mono fun e w' ⟨h1,h2⟩=>⟨h1,h2.symm⟩
theorem tat0 (h:TR w m g cap t (ml id a (lk u x la ag sp) rt co po ho ve fl)):Calls Tryz.prog 111 #[.pointer (some ⟨m,0,none⟩),.int .u8 0] w fun en w'=>en=.returned (.pointer (some ⟨g,0,none⟩))∧w=w' :=
 (tat_any m g cap t _ 0 (by decide) w h).mono fun e w' ⟨h1,h2⟩=>⟨h1.trans (by show Ending.returned (.pointer (some ⟨g,0*16,none⟩))=_;rw[Nat.zero_mul]),h2.symm⟩
theorem tat2 (i:Nat)(hi:2≤i)(h8:i<256)(h:TR w m g cap t (ml id a (lk u x la ag sp) rt co po ho ve fl)):Calls Tryz.prog 111 #[.pointer (some ⟨m,0,none⟩),.int .u8 i] w fun en w'=>en=.returned (.pointer none)∧w=w' :=
 (tat_any m g cap t _ i h8 w h).mono fun e w' ⟨h1,h2⟩=>⟨h1.trans (by rw[if_neg (by show ¬ i<2;omega)]),h2.symm⟩
theorem trole0 (h:TR w m g cap t (ml id a (lk u x la ag sp) rt co po ho ve fl)):Calls Tryz.prog 78 #[.pointer (some ⟨m,0,none⟩),.int .u8 0] w fun en w'=>en=.returned (.int .u8 (if a then 5 else 0))∧w=w':=by
 have AT:=hd0 (tat0 m g cap t id a u x la ag sp rt co po ho ve fl w h)
 have c0:w.cell? ⟨g,0,none⟩=some (.int .u32 0):=h.h0 0 (by decide) _ rfl
 have c1:w.cell? ⟨g,1,none⟩=some (.bool a):=h.h0 1 (by decide) _ rfl
 clear h
 cases a
 all_goals
  go_enter Tryz.func78,Tryz.ntmps78
  go_wp2_with (go_at_call 111;with_reducible refine AT.out.mono ?_;rintro e w' ⟨rfl,rfl⟩)
  go_ret
  exact⟨rfl,rfl⟩
theorem trole2 (i:Nat)(hi:2≤i)(h8:i<256)(h:TR w m g cap t (ml id a (lk u x la ag sp) rt co po ho ve fl)):Calls Tryz.prog 78 #[.pointer (some ⟨m,0,none⟩),.int .u8 i] w fun en w'=>en=.returned (.int .u8 0)∧w=w':=by
 have AT:=hd0 (tat2 m g cap t id a u x la ag sp rt co po ho ve fl w i hi h8 h)
 clear h
 go_enter Tryz.func78,Tryz.ntmps78
 go_wp2_with (go_at_call 111;with_reducible refine AT.out.mono ?_;rintro e w' ⟨rfl,rfl⟩)
 go_ret
 exact⟨rfl,rfl⟩
theorem troleR (h:TR w m g cap t (ml id a (lk true x la ag sp) rt co 1 ho ve fl)):Calls Tryz.prog 78 #[.pointer (some ⟨m,0,none⟩),.int .u8 1] w fun en w'=>en=.returned (.int .u8 1)∧w=w':=by
 have AT:=hd0 (tat1 m g cap t id a true x la ag sp rt co 1 ho ve fl w h)
 have c0:w.cell? ⟨g,16,none⟩=some (.int .u32 5):=h.x1 0 (by decide) _ rfl
 have c1:w.cell? ⟨g,17,none⟩=some (.bool true):=h.x1 1 (by decide) _ rfl
 have c4:w.cell? ⟨m,4,none⟩=some (.int .i64 1):=h.c4
 clear h
 go_enter Tryz.func78,Tryz.ntmps78
 go_wp2_with (go_at_call 111;with_reducible refine AT.out.mono ?_;rintro e w' ⟨rfl,rfl⟩)
 go_ret
 exact⟨rfl,rfl⟩
theorem troleS (h:TR w m g cap t (ml id a (lk true x 0 ag sp) rt co (-1) ho ve fl)):Calls Tryz.prog 78 #[.pointer (some ⟨m,0,none⟩),.int .u8 1] w fun en w'=>en=.returned (.int .u8 2)∧Below w.heap.size w w':=by
 have AT:=hd0 (tat1 m g cap t id a true x 0 ag sp rt co (-1) ho ve fl w h)
 have c0:w.cell? ⟨g,16,none⟩=some (.int .u32 5):=h.x1 0 (by decide) _ rfl
 have c1:w.cell? ⟨g,17,none⟩=some (.bool true):=h.x1 1 (by decide) _ rfl
 have c4:w.cell? ⟨m,4,none⟩=some (.int .i64 (-1)):=h.c4
 have l29:∀ K:Later w,K.out.cell? ⟨g,29,none⟩=some (.int .i64 0):=fun K=>(h.later K.h).x1 13 (by decide) _ rfl
 clear h
 go_enter Tryz.func78,Tryz.ntmps78
 go_upto_region 8 with(go_at_call 111;with_reducible refine AT.out.mono ?_;rintro e w' ⟨rfl,rfl⟩)
 clear c0 c1 c4
 refine wp_region_later (by kernel_rfl) (by kernel_rfl) ?_
 repeat (go_big_quiet_step (fail))
 refine wpQuiet_nil ?_
 rintro _ ⟨K,rfl⟩
 go_wp2
 go_ret
 exact⟨rfl,K.h⟩
end
theorem troleA1 (m g cap:Nat)(t:List Value)(a p:Bool)(la:Int)(ag:Bool)(sp ho ve fl:Int)(hl:la≠0)(w:World)(h:TR w m g cap t (ml 16 a (lk true (wD 32 p) la ag sp) 16 0 (-1) ho ve fl)):Calls Tryz.prog 78 #[.pointer (some ⟨m,0,none⟩),.int .u8 1] w fun en w'=>en=.returned (.int .u8 2)∧Below w.heap.size w w':=by
 have AT:=hd0 (tat1 m g cap t 16 a true (wD 32 p) la ag sp 16 0 (-1) ho ve fl w h)
 have c0:w.cell? ⟨g,16,none⟩=some (.int .u32 5):=h.x1 0 (by decide) _ rfl
 have c1:w.cell? ⟨g,17,none⟩=some (.bool true):=h.x1 1 (by decide) _ rfl
 have c4:w.cell? ⟨m,4,none⟩=some (.int .i64 (-1)):=h.c4
 have l29:∀ K:Later w,K.out.cell? ⟨g,29,none⟩=some (.int .i64 la):=fun K=>(h.later K.h).x1 13 (by decide) _ rfl
 have OW:Hid (∀ K:Later w,Calls Tryz.prog 113 #[.pointer (some ⟨m,0,none⟩),.int .u8 1] K.out fun en w'=>en=.returned (.agg #[.int .u64 16,.int .u32 0,.int .u64 16,.int .u8 1])∧Below K.out.heap.size K.out w'):=hd0 fun K=>town m g cap t _ 1 K.out (h.later K.h)
 have CM:=hd0 vcmp1
 have HIV:Hid ((Tryz.prog.info? 210).map (·.size)=some (List.length ([.int .u64 32,.int .u32 0,.int .u64 32,.int .u8 1]:List Value))):=hd0 (by kernel_rfl)
 have LD:Hid (∀ K:Later w,(Instr.loadAt 210 (.pointer (some ⟨g,18,none⟩))).run Tryz.prog K.out=.ok (.agg #[.int .u64 32,.int .u32 0,.int .u64 32,.int .u8 1]) K.out):=hd0 fun K=>by
  have hr:K.out.rangeAt g 18 [.int .u64 32,.int .u32 0,.int .u64 32,.int .u8 1]:=fun j v hv=>(h.later K.h).xR j v (by
   have hj:j<4:=(List.getElem?_eq_some_iff.1 hv).1
   rcases(show j=0∨j=1∨j=2∨j=3 by omega) with rfl|rfl|rfl|rfl <;> exact hv)
  exact run_loadAt_mid (P:=Tryz.prog) K.out g 18 210 [.int .u64 32,.int .u32 0,.int .u64 32,.int .u8 1] _ hr Tryz.underlying210 rfl HIV.out
 have da:(la==0)=false:=beq_eq_false_iff_ne.2 hl
 clear h hl
 go_enter Tryz.func78,Tryz.ntmps78
 go_upto_region 8 with(go_at_call 111;with_reducible refine AT.out.mono ?_;rintro e w' ⟨rfl,rfl⟩)
 clear c0 c1 c4
 refine wp_region_later (by kernel_rfl) (by kernel_rfl) ?_
 repeat (go_big_quiet_step (first|(go_at_call 113;exact Calls.later (OW.out _))))
 refine wpQuiet_loadAt 210 (.tmp 47) g 18 #[.int .u64 32,.int .u32 0,.int .u64 32,.int .u8 1] rfl rfl rfl (by rintro _ ⟨k,rfl⟩;exact LD.out k) ?_
 go_simp
 go_big_quiet_step ((go_at_call 112;exact Calls.later (CM.out _)))
 repeat (go_big_quiet_step (fail))
 refine wpQuiet_nil ?_
 go_simp
 intro K
 go_wp2
 go_ret
 exact⟨rfl,K.h⟩
theorem troleA2 (m g cap:Nat)(t:List Value)(a p:Bool)(la:Int)(ag:Bool)(sp ho ve fl:Int)(hl:la≠0)(w:World)(h:TR w m g cap t (ml 16 a (lk true wR la ag sp) 16 0 (-1) ho ve fl)):Calls Tryz.prog 78 #[.pointer (some ⟨m,0,none⟩),.int .u8 1] w fun en w'=>en=.returned (.int .u8 2)∧Below w.heap.size w w':=by
 have AT:=hd0 (tat1 m g cap t 16 a true wR la ag sp 16 0 (-1) ho ve fl w h)
 have c0:w.cell? ⟨g,16,none⟩=some (.int .u32 5):=h.x1 0 (by decide) _ rfl
 have c1:w.cell? ⟨g,17,none⟩=some (.bool true):=h.x1 1 (by decide) _ rfl
 have c4:w.cell? ⟨m,4,none⟩=some (.int .i64 (-1)):=h.c4
 have l29:∀ K:Later w,K.out.cell? ⟨g,29,none⟩=some (.int .i64 la):=fun K=>(h.later K.h).x1 13 (by decide) _ rfl
 have OW:Hid (∀ K:Later w,Calls Tryz.prog 113 #[.pointer (some ⟨m,0,none⟩),.int .u8 1] K.out fun en w'=>en=.returned (.agg #[.int .u64 16,.int .u32 0,.int .u64 16,.int .u8 1])∧Below K.out.heap.size K.out w'):=hd0 fun K=>town m g cap t _ 1 K.out (h.later K.h)
 have CM:=hd0 vcmp2
 have HIV:Hid ((Tryz.prog.info? 210).map (·.size)=some (List.length ([.int .u64 16,.int .u32 5,.int .u64 32,.int .u8 1]:List Value))):=hd0 (by kernel_rfl)
 have LD:Hid (∀ K:Later w,(Instr.loadAt 210 (.pointer (some ⟨g,18,none⟩))).run Tryz.prog K.out=.ok (.agg #[.int .u64 16,.int .u32 5,.int .u64 32,.int .u8 1]) K.out):=hd0 fun K=>by
  have hr:K.out.rangeAt g 18 [.int .u64 16,.int .u32 5,.int .u64 32,.int .u8 1]:=fun j v hv=>(h.later K.h).xR j v (by
   have hj:j<4:=(List.getElem?_eq_some_iff.1 hv).1
   rcases(show j=0∨j=1∨j=2∨j=3 by omega) with rfl|rfl|rfl|rfl <;> exact hv)
  exact run_loadAt_mid (P:=Tryz.prog) K.out g 18 210 [.int .u64 16,.int .u32 5,.int .u64 32,.int .u8 1] _ hr Tryz.underlying210 rfl HIV.out
 have da:(la==0)=false:=beq_eq_false_iff_ne.2 hl
 clear h hl
 go_enter Tryz.func78,Tryz.ntmps78
 go_upto_region 8 with(go_at_call 111;with_reducible refine AT.out.mono ?_;rintro e w' ⟨rfl,rfl⟩)
 clear c0 c1 c4
 refine wp_region_later (by kernel_rfl) (by kernel_rfl) ?_
 repeat (go_big_quiet_step (first|(go_at_call 113;exact Calls.later (OW.out _))))
 refine wpQuiet_loadAt 210 (.tmp 47) g 18 #[.int .u64 16,.int .u32 5,.int .u64 32,.int .u8 1] rfl rfl rfl (by rintro _ ⟨k,rfl⟩;exact LD.out k) ?_
 go_simp
 go_big_quiet_step ((go_at_call 112;exact Calls.later (CM.out _)))
 repeat (go_big_quiet_step (fail))
 refine wpQuiet_nil ?_
 go_simp
 intro K
 go_wp2
 go_ret
 exact⟨rfl,K.h⟩
end Go.Proofs.YtghaobakpdninaaGreatDoor
