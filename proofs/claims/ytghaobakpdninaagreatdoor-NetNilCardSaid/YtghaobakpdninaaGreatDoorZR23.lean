/- ZR23 -/
import Derived.Test.YtghaobakpdninaaGreatDoorZR19
import Derived.Lib.Builder
set_option linter.unusedVariables false
set_option linter.unusedSimpArgs false
set_option maxRecDepth 100000
set_option maxHeartbeats 16000000
namespace Go.Proofs.YtghaobakpdninaaGreatDoor
open Go.RowKit
theorem thear1 (g pb:Nat)(w:World)(c:w.cell? ⟨pb,0,none⟩=some (.pointer (some ⟨g,16,none⟩))):Calls Tryz.prog 202 #[.pointer (some ⟨g,16,none⟩),.pointer (some ⟨pb,0,none⟩)] w fun en w'=>en=.returned (.bool false)∧w=w':=by
 obtain⟨j,hj,-⟩:=info_parts info_port
 have NE:∀ W:World,(binOp .neq 276 (.pointer (some ⟨g,16,none⟩)) (.pointer (some ⟨g,16,none⟩))).run Tryz.prog W=.ok (.bool false) W:=fun W=>Lib.run_neq_ptr_same W _ Tryz.underlying276 hj
 clear hj
 go_enter Tryz.func202,Tryz.ntmps202
 go_wp2
 go_ret
 exact⟨rfl,rfl⟩
theorem tspreadsH (m g cap pb:Nat)(t:List Value)(id:Int)(a:Bool)(x:Bp)(la:Int)(ag:Bool)(sp rt co po ho ve fl:Int)(w:World)(h:TR w m g cap t (ml id a (lk true x la ag sp) rt co po ho ve fl))(c:w.cell? ⟨pb,0,none⟩=some (.pointer (some ⟨g,16,none⟩))):Calls Tryz.prog 201 #[.pointer (some ⟨m,0,none⟩),.func (.func 202) #[] #[.pointer (some ⟨pb,0,none⟩)]] w fun en w'=>en=.returned (.tuple #[])∧w=w':=by
 have c1:=h.l1
 have L0:Hid (Calls Tryz.prog 125 #[.pointer (some ⟨g,0,none⟩)] w fun en w'=>en=.returned (.bool false)∧w=w'):=hd0 ((tlink_host g 0 a w (h.h0 0 (by decide) _ rfl) (h.h0 1 (by decide) _ rfl)).mono fun e w' h=>⟨h.1,h.2.symm⟩)
 have L1:Hid (Calls Tryz.prog 125 #[.pointer (some ⟨g,16,none⟩)] w fun en w'=>en=.returned (.bool true)∧w=w'):=hd0 ((tlink_k g 16 true w (h.x1 0 (by decide) _ rfl) (h.x1 1 (by decide) _ rfl)).mono fun e w' h=>⟨h.1,h.2.symm⟩)
 have TT:=hd0 (thear1 g pb w c)
 clear h c
 go_enter Tryz.func201,Tryz.ntmps201
 go_wp2_with fail
 refine wp_loop_rounds 3 ?_
 rw[rounds_succ]
 go_wp2_with (go_at_call 125;with_reducible refine L0.out.mono ?_;rintro e w' ⟨rfl,rfl⟩)
 rw[rounds_succ]
 go_wp2_with (first
  |(go_at_call 125;with_reducible refine L1.out.mono ?_;rintro e w' ⟨rfl,rfl⟩)
  |(go_at_call 202;with_reducible refine TT.out.mono ?_;rintro e w' ⟨rfl,rfl⟩))
 rw[rounds_succ]
 go_wp2_with fail
 go_end0
 exact⟨rfl,rfl⟩
theorem only_cells (g:Nat):∀ (vs:List Value) (o:Nat) (W:World),Only g W (W.setCells g o vs)
 |[],_,W=>Only.refl _ _
 | v::r,o,W=>(Only.set g W o v).trans (only_cells g r (o+1) _)
theorem TR.xHear {W:World}{m g cap:Nat}{t:List Value}{a u ag:Bool}{x:Bp}{id rt co po ho ve fl la sp:Int}(h:TR W m g cap t (ml id a (lk u x la ag sp) rt co po ho ve fl))(b:Bp):TR (W.setCells g 18 (bpC b)) m g cap t (ml id a (lk u b la ag sp) rt co po ho ve fl):=by
 have s0:=h.xSet 2 (by decide) (.int .u64 b.rt) (lk u { x with rt:=b.rt } la ag sp) rfl
 have s1:=s0.xSet 3 (by decide) (.int .u32 b.co) (lk u { x with rt:=b.rt,co:=b.co } la ag sp) rfl
 have s2:=s1.xSet 4 (by decide) (.int .u64 b.br) (lk u { x with rt:=b.rt,co:=b.co,br:=b.br } la ag sp) rfl
 have s3:=s2.xSet 5 (by decide) (.int .u8 b.po) (lk u { x with rt:=b.rt,co:=b.co,br:=b.br,po:=b.po } la ag sp) rfl
 have s4:=s3.xSet 6 (by decide) (.int .u8 b.ho) (lk u { x with rt:=b.rt,co:=b.co,br:=b.br,po:=b.po,ho:=b.ho } la ag sp) rfl
 have s5:=s4.xSet 7 (by decide) (.int .u64 b.ve) (lk u { x with rt:=b.rt,co:=b.co,br:=b.br,po:=b.po,ho:=b.ho,ve:=b.ve } la ag sp) rfl
 have s6:=s5.xSet 8 (by decide) (.int .u8 b.ro) (lk u { x with rt:=b.rt,co:=b.co,br:=b.br,po:=b.po,ho:=b.ho,ve:=b.ve,ro:=b.ro } la ag sp) rfl
 have s7:=s6.xSet 9 (by decide) (.bool b.pr) (lk u { x with rt:=b.rt,co:=b.co,br:=b.br,po:=b.po,ho:=b.ho,ve:=b.ve,ro:=b.ro,pr:=b.pr } la ag sp) rfl
 have s8:=s7.xSet 10 (by decide) (.bool b.ag) (lk u { x with rt:=b.rt,co:=b.co,br:=b.br,po:=b.po,ho:=b.ho,ve:=b.ve,ro:=b.ro,pr:=b.pr,ag:=b.ag } la ag sp) rfl
 have s9:=s8.xSet 11 (by decide) (.bool b.tp) (lk u { x with rt:=b.rt,co:=b.co,br:=b.br,po:=b.po,ho:=b.ho,ve:=b.ve,ro:=b.ro,pr:=b.pr,ag:=b.ag,tp:=b.tp } la ag sp) rfl
 exact s9.xSet 12 (by decide) (.int .u64 b.ec) (lk u b la ag sp) rfl
theorem thearH1 (m g cap:Nat)(t:List Value)(a:Bool)(w:World)(h:TR w m g cap t (ml 32 a (lk true bp0 0 false 0) 32 0 (-1) 0 1 0)):Calls Tryz.prog 150 #[.pointer (some ⟨m,0,none⟩),.int .u8 1,.agg #[.int .u64 16,.int .u32 0,.int .u64 16,.int .u8 1,.int .u8 0,.int .u64 1,.int .u8 2,.bool true,.bool false,.bool false,.int .u64 0]] w fun en w'=>(∃ gs,en=.returned (.slice (some ⟨gs,0,none⟩) 1 1)∧w'.rangeAt gs 0 (stW wR)∧w.heap.size≤gs)∧TR w' m g cap t (ml 32 a (lk true (wD 16 true) 3 false 4) 16 5 1 1 2 3)∧Fr (D2 m g) w w':=by
 have hML:=And.intro h.tm.lt h.row.lt
 have bA:=(Below.refl w.heap.size w).alloc (Nat.le_refl _) (.cells #[.int .u64 16,.int .u32 0,.int .u64 16,.int .u8 1,.int .u8 0,.int .u64 1,.int .u8 2,.bool true,.bool false,.bool false,.int .u64 0] 212)
 have gB:=GB.new 212 w #[.int .u64 16,.int .u32 0,.int .u64 16,.int .u8 1,.int .u8 0,.int .u64 1,.int .u8 2,.bool true,.bool false,.bool false,.int .u64 0]
 obtain⟨wa,hwa⟩:∃ z,w.alloc (.cells #[.int .u64 16,.int .u32 0,.int .u64 16,.int .u8 1,.int .u8 0,.int .u64 1,.int .u8 2,.bool true,.bool false,.bool false,.int .u64 0] 212)=z:=⟨_,rfl⟩
 rw[hwa] at bA gB
 have za:wa.heap.size=w.heap.size+1:=by rw[←hwa];simp
 have TA:=h.later bA
 have AT:=hd0 (tat_any m g cap t _ 1 (by decide) wa TA)
 have AT:Hid (Calls Tryz.prog 111 #[.pointer (some ⟨m,0,none⟩),.int .u8 1] wa fun en w'=>en=.returned (.pointer (some ⟨g,16,none⟩))∧wa=w'):=hd0 (AT.out.mono fun e w' h=>⟨h.1,h.2.symm⟩)
 have bP:=(Below.refl wa.heap.size wa).alloc (Nat.le_refl _) (.cells #[.pointer (some ⟨g,16,none⟩)] 276)
 have gP:=GB.new 276 wa #[.pointer (some ⟨g,16,none⟩)]
 obtain⟨w1,hw1⟩:∃ z,wa.alloc (.cells #[.pointer (some ⟨g,16,none⟩)] 276)=z:=⟨_,rfl⟩
 rw[hw1] at bP gP
 obtain⟨bb,hbb⟩:∃ z,w.heap.size=z:=⟨_,rfl⟩
 obtain⟨pb,hpb⟩:∃ z,wa.heap.size=z:=⟨_,rfl⟩
 have hN:bb=w.heap.size∧pb=w.heap.size+1:=⟨hbb.symm,by omega⟩
 rw[hbb] at gB
 rw[hpb] at gP
 have HT1:=hd0 (TA.later bP)
 have HF1:=hd0 (Fr.of_below (bA.trans (bP.mono bA.size)):Fr (D2 m g) w w1)
 have HB1:=hd0 (gB.later bP)
 have HP1:=hd0 gP
 have HN:=hd0 (And.intro hN hML)
 have L1:Hid (Calls Tryz.prog 125 #[.pointer (some ⟨g,16,none⟩)] w1 fun en w'=>en=.returned (.bool true)∧w1=w'):=hd0 ((tlink_k g 16 true w1 (HT1.out.x1 0 (by decide) _ rfl) (HT1.out.x1 1 (by decide) _ rfl)).mono fun e w' h=>⟨h.1,h.2.symm⟩)
 have p0:w1.cell? ⟨pb,0,none⟩=some (.pointer (some ⟨g,16,none⟩)):=gP.c 0 _ rfl
 clear h bA gB TA bP gP hN hML za
 go_enter Tryz.func150,Tryz.ntmps150
 go_upto_region 4 with(first
  |(go_at_call 111;with_reducible refine AT.out.mono ?_;rintro e w' ⟨rfl,rfl⟩)
  |(go_at_call 125;with_reducible refine L1.out.mono ?_;rintro e w' ⟨rfl,rfl⟩))
 have p0d:w1.drew.cell? ⟨pb,0,none⟩=some (.pointer (some ⟨g,16,none⟩)):=p0
 have HIB:Hid ((Tryz.prog.info? 212).map (·.size)=some (List.length ([.int .u64 16,.int .u32 0,.int .u64 16,.int .u8 1,.int .u8 0,.int .u64 1,.int .u8 2,.bool true,.bool false,.bool false,.int .u64 0]:List Value))):=hd0 (by kernel_rfl)
 have HIS:Hid ((Tryz.prog.info? 212).map (·.size)=some (Array.size #[Value.int .u64 16,.int .u32 0,.int .u64 16,.int .u8 1,.int .u8 0,.int .u64 1,.int .u8 2,.bool true,.bool false,.bool false,.int .u64 0])):=hd0 (by kernel_rfl)
 have HOS:Hid ((#[.int .u64 16,.int .u32 0,.int .u64 16,.int .u8 1,.int .u8 0,.int .u64 1,.int .u8 2,.bool true,.bool false,.bool false,.int .u64 0]:Array Value).all (·.oneCell')=true):=hd0 (by kernel_rfl)
 have TH:Hid (w1.drew.there g 18 (Array.size #[Value.int .u64 16,.int .u32 0,.int .u64 16,.int .u8 1,.int .u8 0,.int .u64 1,.int .u8 2,.bool true,.bool false,.bool false,.int .u64 0])):=hd0 fun j hj=>by
  have hj:j<11:=hj
  refine⟨?_,HT1.out.row.fr _⟩
  obtain⟨v,hv⟩:∃ v,(tpC (lk true bp0 0 false 0))[2+j]?=some v:=⟨_,List.getElem?_eq_getElem (by rw[tpC_len];omega)⟩
  have:=HT1.out.x1 (2+j) (by omega) v hv
  rw[show 16+(2+j)=18+j by omega] at this
  show(w1.cell? ⟨g,18+j,none⟩).isSome=true
  rw[this];rfl
 have t2:=(HT1.out.later (Below.refl _ _).drew).xHear (wD 16 true)
 have o2:Only g w1.drew (w1.drew.setCells g 18 [.int .u64 16,.int .u32 0,.int .u64 16,.int .u8 1,.int .u8 0,.int .u64 1,.int .u8 2,.bool true,.bool false,.bool false,.int .u64 0]):=only_cells g _ _ _
 have hbg:bb≠g:=by have:=HN.out;omega
 have hpg:pb≠g:=by have:=HN.out;omega
 have gb2:=(HB1.out.drew).only o2 hbg
 have gp2:=(HP1.out.drew).only o2 hpg
 have k29:(w1.drew.setCells g 18 [.int .u64 16,.int .u32 0,.int .u64 16,.int .u8 1,.int .u8 0,.int .u64 1,.int .u8 2,.bool true,.bool false,.bool false,.int .u64 0]).cell? ⟨g,29,none⟩=some (.int .i64 0):=t2.x1 13 (by decide) _ rfl
 have f29:(w1.drew.setCells g 18 [.int .u64 16,.int .u32 0,.int .u64 16,.int .u8 1,.int .u8 0,.int .u64 1,.int .u8 2,.bool true,.bool false,.bool false,.int .u64 0]).frozen? ⟨g,29,none⟩=false:=t2.row.fr 29
 have t3:=t2.xSet 13 (by decide) (.int .i64 3) (lk true (wD 16 true) 3 false 0) rfl
 have o3:Only g w1.drew ((w1.drew.setCells g 18 [.int .u64 16,.int .u32 0,.int .u64 16,.int .u8 1,.int .u8 0,.int .u64 1,.int .u8 2,.bool true,.bool false,.bool false,.int .u64 0]).setCell ⟨g,29,none⟩ (.int .i64 3)):=o2.trans (Only.set _ _ _ _)
 have r0:w1.drew.rangeAt bb 0 [.int .u64 16,.int .u32 0,.int .u64 16,.int .u8 1,.int .u8 0,.int .u64 1,.int .u8 2,.bool true,.bool false,.bool false,.int .u64 0]:=(HB1.out.drew).range
 have r2:(w1.drew.setCells g 18 [.int .u64 16,.int .u32 0,.int .u64 16,.int .u8 1,.int .u8 0,.int .u64 1,.int .u8 2,.bool true,.bool false,.bool false,.int .u64 0]).rangeAt bb 0 [.int .u64 16,.int .u32 0,.int .u64 16,.int .u8 1,.int .u8 0,.int .u64 1,.int .u8 2,.bool true,.bool false,.bool false,.int .u64 0]:=gb2.range
 have r3:((w1.drew.setCells g 18 [.int .u64 16,.int .u32 0,.int .u64 16,.int .u8 1,.int .u8 0,.int .u64 1,.int .u8 2,.bool true,.bool false,.bool false,.int .u64 0]).setCell ⟨g,29,none⟩ (.int .i64 3)).rangeAt bb 0 [.int .u64 16,.int .u32 0,.int .u64 16,.int .u8 1,.int .u8 0,.int .u64 1,.int .u8 2,.bool true,.bool false,.bool false,.int .u64 0]:=((HB1.out.drew).only o3 hbg).range
 have q2:(w1.drew.setCells g 18 [.int .u64 16,.int .u32 0,.int .u64 16,.int .u8 1,.int .u8 0,.int .u64 1,.int .u8 2,.bool true,.bool false,.bool false,.int .u64 0]).cell? ⟨pb,0,none⟩=some (.pointer (some ⟨g,16,none⟩)):=gp2.c 0 _ rfl
 have q3:((w1.drew.setCells g 18 [.int .u64 16,.int .u32 0,.int .u64 16,.int .u8 1,.int .u8 0,.int .u64 1,.int .u8 2,.bool true,.bool false,.bool false,.int .u64 0]).setCell ⟨g,29,none⟩ (.int .i64 3)).cell? ⟨pb,0,none⟩=some (.pointer (some ⟨g,16,none⟩)):=((HP1.out.drew).only o3 hpg).c 0 _ rfl
 have HT3:=hd0 t3
 have HO3:=hd0 o3
 clear t2 o2 gb2 gp2 t3 o3
 refine wp_region_held_drew (S:=fun W=>W.rangeAt bb 0 [.int .u64 16,.int .u32 0,.int .u64 16,.int .u8 1,.int .u8 0,.int .u64 1,.int .u8 2,.bool true,.bool false,.bool false,.int .u64 0]∧W.cell? ⟨pb,0,none⟩=some (.pointer (some ⟨g,16,none⟩))) (by kernel_rfl) ⟨r0,p0d⟩ (fun hHeld=>?_)
 refine tkH 0 ?_ ?h ?_
 case h=>(intro w hSw;go_simp;try with_reducible rfl)
 try simp only[Act.put,zz]
 refine tkH 1 ?_ ?h ?_
 case h=>(intro w hSw;go_simp;try with_reducible rfl)
 try simp only[Act.put,zz]
 refine wpAnyH_take (i:=2) (v:=.agg #[.int .u64 16,.int .u32 0,.int .u64 16,.int .u8 1,.int .u8 0,.int .u64 1,.int .u8 2,.bool true,.bool false,.bool false,.int .u64 0]) rfl (by kernel_rfl) (by kernel_rfl) (by kernel_rfl) (fun _ _ _ h=>h) (yieldsIf_load_mid (by rfl) 212 (.tmp 5) rfl bb 0 rfl [.int .u64 16,.int .u32 0,.int .u64 16,.int .u8 1,.int .u8 0,.int .u64 1,.int .u8 2,.bool true,.bool false,.bool false,.int .u64 0] _ (fun w h=>h.1) Tryz.underlying212 rfl HIB.out) (by assumption) ?_
 try simp only[Act.put,zz]
 refine tkH 3 ?_ ?h ?_
 case h=>(intro w hSw;go_simp;try with_reducible rfl)
 try simp only[Act.put,zz]
 refine tkH 4 ?_ ?h ?_
 case h=>(intro w hSw;go_simp;try with_reducible rfl)
 try simp only[Act.put,zz]
 refine rdH 5 fun K hK=>?_
 (rw[if_pos (by rfl)];refine wp_store_mid 212 (.tmp 19) (.tmp 17) rfl _ 18 #[.int .u64 16,.int .u32 0,.int .u64 16,.int .u8 1,.int .u8 0,.int .u64 1,.int .u8 2,.bool true,.bool false,.bool false,.int .u64 0] rfl (by rfl) TH.out HIS.out HOS.out ?_;refine hK.out _ _ ⟨r2,q2⟩ (fun hHeld=>?_);clear hK K;try simp only[Act.put,zz])
 refine tkH 6 ?_ ?h ?_
 case h=>(intro w hSw;go_simp;try with_reducible rfl)
 try simp only[Act.put,zz]
 refine tkH 7 ?_ ?h ?_
 case h=>(intro w hSw;go_simp;try with_reducible rfl)
 try simp only[Act.put,zz]
 refine rdH 8 fun K hK=>?_
 (go_simp;refine hK.out _ _ ⟨r3,q3⟩ (fun hHeld=>?_);clear hK K;try simp only[Act.put,zz])
 refine wpAnyH_done (by kernel_rfl) ?_ _
 have HF4:Hid (Fr (D2 m g) w ((w1.drew.setCells g 18 [.int .u64 16,.int .u32 0,.int .u64 16,.int .u8 1,.int .u8 0,.int .u64 1,.int .u8 2,.bool true,.bool false,.bool false,.int .u64 0]).setCell ⟨g,29,none⟩ (.int .i64 3))):=hd0 (HF1.out.drew.trans (Fr.of_only HO3.out (Or.inr rfl)))
 have HB4:=hd0 ((HB1.out.drew).only HO3.out hbg)
 have HP4:=hd0 ((HP1.out.drew).only HO3.out hpg)
 have HT4:Hid (TR ((w1.drew.setCells g 18 [.int .u64 16,.int .u32 0,.int .u64 16,.int .u8 1,.int .u8 0,.int .u64 1,.int .u8 2,.bool true,.bool false,.bool false,.int .u64 0]).setCell ⟨g,29,none⟩ (.int .i64 3)) m g cap t (ml 32 a (lk true (wD 16 true) 3 false 0) 32 0 (-1) 0 1 0)):=HT3
 obtain⟨w4,hw4⟩:∃ z,(w1.drew.setCells g 18 [.int .u64 16,.int .u32 0,.int .u64 16,.int .u8 1,.int .u8 0,.int .u64 1,.int .u8 2,.bool true,.bool false,.bool false,.int .u64 0]).setCell ⟨g,29,none⟩ (.int .i64 3)=z:=⟨_,rfl⟩
 rw[hw4] at HF4 HB4 HP4 HT4 ⊢
 clear hw4 p0d p0 TH k29 f29 r0 r2 r3 q2 q3 HT3 HO3 HT1 HF1 HB1 HP1
 have CH:Hid (Calls Tryz.prog 118 #[.pointer (some ⟨m,0,none⟩)] w4 fun en w'=>en=.returned (.tuple #[])∧TR w' m g cap t (ml 32 a (lk true (wD 16 true) 3 false 4) 16 5 1 1 2 3)∧Fr (D2 m g) w4 w'):=hd0 (tchooseT m g cap t a true 3 0 0 (by decide) w4 HT4.out)
 have HRO:Hid (∀ W,TR W m g cap t (ml 32 a (lk true (wD 16 true) 3 false 4) 16 5 1 1 2 3)→Calls Tryz.prog 78 #[.pointer (some ⟨m,0,none⟩),.int .u8 1] W fun en w'=>en=.returned (.int .u8 1)∧Below W.heap.size W w'):=hd0 fun W hW=>(troleR m g cap t 32 a (wD 16 true) 3 false 4 16 5 1 2 3 W hW).mono fun e w' h=>⟨h.1,h.2 ▸ Below.refl _ _⟩
 go_wp2_with fail
 with_reducible refine CH.out.mono ?_
 rintro en w5 ⟨rfl,ht5,hf5⟩
 have HNB:Hid (bb<w4.heap.size∧pb<w4.heap.size):=hd0 ⟨HB4.out.lt,HP4.out.lt⟩
 have hDb:¬ D2 m g bb:=by rintro (h|h) <;> (have:=HN.out;omega)
 have hDp:¬ D2 m g pb:=by rintro (h|h) <;> (have:=HN.out;omega)
 have HB5:=hd0 (HB4.out.fr' hf5 hDb)
 have HP5:=hd0 (HP4.out.fr' hf5 hDp)
 have HF5:=hd0 (HF4.out.trans hf5)
 have RO:=hd0 (HRO.out w5 ht5)
 have HT5:=hd0 ht5
 clear ht5 hf5 CH HB4 HP4 HF4 HT4 HRO hDb hDp
 go_wp2_with fail
 with_reducible refine RO.out.mono ?_
 rintro en w6 ⟨rfl,hb6⟩
 have HB6:=hd0 (HB5.out.later hb6)
 have HP6:=hd0 (HP5.out.later hb6)
 have HF6:=hd0 (HF5.out.trans (Fr.of_below hb6))
 have HT6:=hd0 (HT5.out.later hb6)
 clear hb6 HB5 HP5 HF5 HT5 RO
 have e5:∀ K:Later w6,K.out.cell? ⟨bb,8,none⟩=some (.bool false):=fun K=>(HB6.out.later K.h).c 8 _ rfl
 have e7:∀ K:Later w6,K.out.cell? ⟨bb,10,none⟩=some (.int .u64 0):=fun K=>(HB6.out.later K.h).c 10 _ rfl
 have m6:∀ K:Later w6,K.out.cell? ⟨m,6,none⟩=some (.int .u64 2):=fun K=>(HT6.out.later K.h).c6
 go_upto_region 7 with fail
 refine wp_region_later (by kernel_rfl) (by kernel_rfl) ?_
 repeat (go_big_quiet_step (fail))
 refine wpQuiet_nil ?_
 rintro _ ⟨K,rfl⟩
 clear e5 e7 m6
 have HB7:=hd0 (HB6.out.later K.h)
 have HP7:=hd0 (HP6.out.later K.h)
 have HF7:=hd0 (HF6.out.trans (Fr.of_below K.h))
 have HT7:=hd0 (HT6.out.later K.h)
 obtain⟨w7,hw7⟩:∃ z,K.out=z:=⟨_,rfl⟩
 rw[hw7] at HB7 HP7 HF7 HT7 ⊢
 clear hw7 K HB6 HP6 HF6 HT6
 have b9:w7.cell? ⟨bb,9,none⟩=some (.bool false):=HB7.out.c 9 _ rfl
 have b6:w7.cell? ⟨bb,6,none⟩=some (.int .u8 2):=HB7.out.c 6 _ rfl
 have b7:w7.cell? ⟨bb,7,none⟩=some (.bool true):=HB7.out.c 7 _ rfl
 have WO:=hd0 (twordB m g cap t a true 3 4 3 (by decide) (fun W hW=>(troleR m g cap t 32 a (wD 16 true) 3 false 4 16 5 1 2 3 W hW).mono fun e w' h=>⟨h.1,h.2 ▸ Below.refl _ _⟩) w7 HT7.out)
 go_wp2_with fail
 with_reducible refine WO.out.mono ?_
 rintro en w8 ⟨rfl,hb8⟩
 go_wp2_with fail
 have hba:Below w7.heap.size w7 (w8.alloc (.cells #[.int .u8 1,.int .u64 16,.int .u32 5,.int .u64 32,.int .u8 1,.int .u8 1,.int .u64 2,.int .u8 1,.bool false,.bool true,.bool true,.int .u64 1] 302)):=hb8.alloc hb8.size _
 have hz:w.heap.size≤w8.heap.size:=Nat.le_trans HF7.out.size hb8.size
 have gr:(w8.alloc (.cells #[.int .u8 1,.int .u64 16,.int .u32 5,.int .u64 32,.int .u8 1,.int .u8 1,.int .u64 2,.int .u8 1,.bool false,.bool true,.bool true,.int .u64 1] 302)).rangeAt w8.heap.size 0 (stW wR):=(GB.new 302 w8 #[.int .u8 1,.int .u64 16,.int .u32 5,.int .u64 32,.int .u8 1,.int .u8 1,.int .u64 2,.int .u8 1,.bool false,.bool true,.bool true,.int .u64 1]).range
 go_ret
 exact⟨⟨_,rfl,gr,hz⟩,HT7.out.later hba,HF7.out.trans (Fr.of_below hba)⟩
theorem thearH2 (m g cap:Nat)(t:List Value)(a:Bool)(w:World)(h:TR w m g cap t (ml 16 a (lk true bp0 0 false 0) 16 0 (-1) 0 1 0)):Calls Tryz.prog 150 #[.pointer (some ⟨m,0,none⟩),.int .u8 1,.agg #[.int .u64 32,.int .u32 0,.int .u64 32,.int .u8 1,.int .u8 0,.int .u64 1,.int .u8 2,.bool true,.bool false,.bool false,.int .u64 0]] w fun en w'=>(en=.returned (.slice none 0 0))∧TR w' m g cap t (ml 16 a (lk true (wD 32 true) 3 false 0) 16 0 (-1) 0 1 0)∧Fr (D2 m g) w w':=by
 have hML:=And.intro h.tm.lt h.row.lt
 have bA:=(Below.refl w.heap.size w).alloc (Nat.le_refl _) (.cells #[.int .u64 32,.int .u32 0,.int .u64 32,.int .u8 1,.int .u8 0,.int .u64 1,.int .u8 2,.bool true,.bool false,.bool false,.int .u64 0] 212)
 have gB:=GB.new 212 w #[.int .u64 32,.int .u32 0,.int .u64 32,.int .u8 1,.int .u8 0,.int .u64 1,.int .u8 2,.bool true,.bool false,.bool false,.int .u64 0]
 obtain⟨wa,hwa⟩:∃ z,w.alloc (.cells #[.int .u64 32,.int .u32 0,.int .u64 32,.int .u8 1,.int .u8 0,.int .u64 1,.int .u8 2,.bool true,.bool false,.bool false,.int .u64 0] 212)=z:=⟨_,rfl⟩
 rw[hwa] at bA gB
 have za:wa.heap.size=w.heap.size+1:=by rw[←hwa];simp
 have TA:=h.later bA
 have AT:=hd0 (tat_any m g cap t _ 1 (by decide) wa TA)
 have AT:Hid (Calls Tryz.prog 111 #[.pointer (some ⟨m,0,none⟩),.int .u8 1] wa fun en w'=>en=.returned (.pointer (some ⟨g,16,none⟩))∧wa=w'):=hd0 (AT.out.mono fun e w' h=>⟨h.1,h.2.symm⟩)
 have bP:=(Below.refl wa.heap.size wa).alloc (Nat.le_refl _) (.cells #[.pointer (some ⟨g,16,none⟩)] 276)
 have gP:=GB.new 276 wa #[.pointer (some ⟨g,16,none⟩)]
 obtain⟨w1,hw1⟩:∃ z,wa.alloc (.cells #[.pointer (some ⟨g,16,none⟩)] 276)=z:=⟨_,rfl⟩
 rw[hw1] at bP gP
 obtain⟨bb,hbb⟩:∃ z,w.heap.size=z:=⟨_,rfl⟩
 obtain⟨pb,hpb⟩:∃ z,wa.heap.size=z:=⟨_,rfl⟩
 have hN:bb=w.heap.size∧pb=w.heap.size+1:=⟨hbb.symm,by omega⟩
 rw[hbb] at gB
 rw[hpb] at gP
 have HT1:=hd0 (TA.later bP)
 have HF1:=hd0 (Fr.of_below (bA.trans (bP.mono bA.size)):Fr (D2 m g) w w1)
 have HB1:=hd0 (gB.later bP)
 have HP1:=hd0 gP
 have HN:=hd0 (And.intro hN hML)
 have L1:Hid (Calls Tryz.prog 125 #[.pointer (some ⟨g,16,none⟩)] w1 fun en w'=>en=.returned (.bool true)∧w1=w'):=hd0 ((tlink_k g 16 true w1 (HT1.out.x1 0 (by decide) _ rfl) (HT1.out.x1 1 (by decide) _ rfl)).mono fun e w' h=>⟨h.1,h.2.symm⟩)
 have p0:w1.cell? ⟨pb,0,none⟩=some (.pointer (some ⟨g,16,none⟩)):=gP.c 0 _ rfl
 clear h bA gB TA bP gP hN hML za
 go_enter Tryz.func150,Tryz.ntmps150
 go_upto_region 4 with(first
  |(go_at_call 111;with_reducible refine AT.out.mono ?_;rintro e w' ⟨rfl,rfl⟩)
  |(go_at_call 125;with_reducible refine L1.out.mono ?_;rintro e w' ⟨rfl,rfl⟩))
 have p0d:w1.drew.cell? ⟨pb,0,none⟩=some (.pointer (some ⟨g,16,none⟩)):=p0
 have HIB:Hid ((Tryz.prog.info? 212).map (·.size)=some (List.length ([.int .u64 32,.int .u32 0,.int .u64 32,.int .u8 1,.int .u8 0,.int .u64 1,.int .u8 2,.bool true,.bool false,.bool false,.int .u64 0]:List Value))):=hd0 (by kernel_rfl)
 have HIS:Hid ((Tryz.prog.info? 212).map (·.size)=some (Array.size #[Value.int .u64 32,.int .u32 0,.int .u64 32,.int .u8 1,.int .u8 0,.int .u64 1,.int .u8 2,.bool true,.bool false,.bool false,.int .u64 0])):=hd0 (by kernel_rfl)
 have HOS:Hid ((#[.int .u64 32,.int .u32 0,.int .u64 32,.int .u8 1,.int .u8 0,.int .u64 1,.int .u8 2,.bool true,.bool false,.bool false,.int .u64 0]:Array Value).all (·.oneCell')=true):=hd0 (by kernel_rfl)
 have TH:Hid (w1.drew.there g 18 (Array.size #[Value.int .u64 32,.int .u32 0,.int .u64 32,.int .u8 1,.int .u8 0,.int .u64 1,.int .u8 2,.bool true,.bool false,.bool false,.int .u64 0])):=hd0 fun j hj=>by
  have hj:j<11:=hj
  refine⟨?_,HT1.out.row.fr _⟩
  obtain⟨v,hv⟩:∃ v,(tpC (lk true bp0 0 false 0))[2+j]?=some v:=⟨_,List.getElem?_eq_getElem (by rw[tpC_len];omega)⟩
  have:=HT1.out.x1 (2+j) (by omega) v hv
  rw[show 16+(2+j)=18+j by omega] at this
  show(w1.cell? ⟨g,18+j,none⟩).isSome=true
  rw[this];rfl
 have t2:=(HT1.out.later (Below.refl _ _).drew).xHear (wD 32 true)
 have o2:Only g w1.drew (w1.drew.setCells g 18 [.int .u64 32,.int .u32 0,.int .u64 32,.int .u8 1,.int .u8 0,.int .u64 1,.int .u8 2,.bool true,.bool false,.bool false,.int .u64 0]):=only_cells g _ _ _
 have hbg:bb≠g:=by have:=HN.out;omega
 have hpg:pb≠g:=by have:=HN.out;omega
 have gb2:=(HB1.out.drew).only o2 hbg
 have gp2:=(HP1.out.drew).only o2 hpg
 have k29:(w1.drew.setCells g 18 [.int .u64 32,.int .u32 0,.int .u64 32,.int .u8 1,.int .u8 0,.int .u64 1,.int .u8 2,.bool true,.bool false,.bool false,.int .u64 0]).cell? ⟨g,29,none⟩=some (.int .i64 0):=t2.x1 13 (by decide) _ rfl
 have f29:(w1.drew.setCells g 18 [.int .u64 32,.int .u32 0,.int .u64 32,.int .u8 1,.int .u8 0,.int .u64 1,.int .u8 2,.bool true,.bool false,.bool false,.int .u64 0]).frozen? ⟨g,29,none⟩=false:=t2.row.fr 29
 have t3:=t2.xSet 13 (by decide) (.int .i64 3) (lk true (wD 32 true) 3 false 0) rfl
 have o3:Only g w1.drew ((w1.drew.setCells g 18 [.int .u64 32,.int .u32 0,.int .u64 32,.int .u8 1,.int .u8 0,.int .u64 1,.int .u8 2,.bool true,.bool false,.bool false,.int .u64 0]).setCell ⟨g,29,none⟩ (.int .i64 3)):=o2.trans (Only.set _ _ _ _)
 have r0:w1.drew.rangeAt bb 0 [.int .u64 32,.int .u32 0,.int .u64 32,.int .u8 1,.int .u8 0,.int .u64 1,.int .u8 2,.bool true,.bool false,.bool false,.int .u64 0]:=(HB1.out.drew).range
 have r2:(w1.drew.setCells g 18 [.int .u64 32,.int .u32 0,.int .u64 32,.int .u8 1,.int .u8 0,.int .u64 1,.int .u8 2,.bool true,.bool false,.bool false,.int .u64 0]).rangeAt bb 0 [.int .u64 32,.int .u32 0,.int .u64 32,.int .u8 1,.int .u8 0,.int .u64 1,.int .u8 2,.bool true,.bool false,.bool false,.int .u64 0]:=gb2.range
 have r3:((w1.drew.setCells g 18 [.int .u64 32,.int .u32 0,.int .u64 32,.int .u8 1,.int .u8 0,.int .u64 1,.int .u8 2,.bool true,.bool false,.bool false,.int .u64 0]).setCell ⟨g,29,none⟩ (.int .i64 3)).rangeAt bb 0 [.int .u64 32,.int .u32 0,.int .u64 32,.int .u8 1,.int .u8 0,.int .u64 1,.int .u8 2,.bool true,.bool false,.bool false,.int .u64 0]:=((HB1.out.drew).only o3 hbg).range
 have q2:(w1.drew.setCells g 18 [.int .u64 32,.int .u32 0,.int .u64 32,.int .u8 1,.int .u8 0,.int .u64 1,.int .u8 2,.bool true,.bool false,.bool false,.int .u64 0]).cell? ⟨pb,0,none⟩=some (.pointer (some ⟨g,16,none⟩)):=gp2.c 0 _ rfl
 have q3:((w1.drew.setCells g 18 [.int .u64 32,.int .u32 0,.int .u64 32,.int .u8 1,.int .u8 0,.int .u64 1,.int .u8 2,.bool true,.bool false,.bool false,.int .u64 0]).setCell ⟨g,29,none⟩ (.int .i64 3)).cell? ⟨pb,0,none⟩=some (.pointer (some ⟨g,16,none⟩)):=((HP1.out.drew).only o3 hpg).c 0 _ rfl
 have HT3:=hd0 t3
 have HO3:=hd0 o3
 clear t2 o2 gb2 gp2 t3 o3
 refine wp_region_held_drew (S:=fun W=>W.rangeAt bb 0 [.int .u64 32,.int .u32 0,.int .u64 32,.int .u8 1,.int .u8 0,.int .u64 1,.int .u8 2,.bool true,.bool false,.bool false,.int .u64 0]∧W.cell? ⟨pb,0,none⟩=some (.pointer (some ⟨g,16,none⟩))) (by kernel_rfl) ⟨r0,p0d⟩ (fun hHeld=>?_)
 refine tkH 0 ?_ ?h ?_
 case h=>(intro w hSw;go_simp;try with_reducible rfl)
 try simp only[Act.put,zz]
 refine tkH 1 ?_ ?h ?_
 case h=>(intro w hSw;go_simp;try with_reducible rfl)
 try simp only[Act.put,zz]
 refine wpAnyH_take (i:=2) (v:=.agg #[.int .u64 32,.int .u32 0,.int .u64 32,.int .u8 1,.int .u8 0,.int .u64 1,.int .u8 2,.bool true,.bool false,.bool false,.int .u64 0]) rfl (by kernel_rfl) (by kernel_rfl) (by kernel_rfl) (fun _ _ _ h=>h) (yieldsIf_load_mid (by rfl) 212 (.tmp 5) rfl bb 0 rfl [.int .u64 32,.int .u32 0,.int .u64 32,.int .u8 1,.int .u8 0,.int .u64 1,.int .u8 2,.bool true,.bool false,.bool false,.int .u64 0] _ (fun w h=>h.1) Tryz.underlying212 rfl HIB.out) (by assumption) ?_
 try simp only[Act.put,zz]
 refine tkH 3 ?_ ?h ?_
 case h=>(intro w hSw;go_simp;try with_reducible rfl)
 try simp only[Act.put,zz]
 refine tkH 4 ?_ ?h ?_
 case h=>(intro w hSw;go_simp;try with_reducible rfl)
 try simp only[Act.put,zz]
 refine rdH 5 fun K hK=>?_
 (rw[if_pos (by rfl)];refine wp_store_mid 212 (.tmp 19) (.tmp 17) rfl _ 18 #[.int .u64 32,.int .u32 0,.int .u64 32,.int .u8 1,.int .u8 0,.int .u64 1,.int .u8 2,.bool true,.bool false,.bool false,.int .u64 0] rfl (by rfl) TH.out HIS.out HOS.out ?_;refine hK.out _ _ ⟨r2,q2⟩ (fun hHeld=>?_);clear hK K;try simp only[Act.put,zz])
 refine tkH 6 ?_ ?h ?_
 case h=>(intro w hSw;go_simp;try with_reducible rfl)
 try simp only[Act.put,zz]
 refine tkH 7 ?_ ?h ?_
 case h=>(intro w hSw;go_simp;try with_reducible rfl)
 try simp only[Act.put,zz]
 refine rdH 8 fun K hK=>?_
 (go_simp;refine hK.out _ _ ⟨r3,q3⟩ (fun hHeld=>?_);clear hK K;try simp only[Act.put,zz])
 refine wpAnyH_done (by kernel_rfl) ?_ _
 have HF4:Hid (Fr (D2 m g) w ((w1.drew.setCells g 18 [.int .u64 32,.int .u32 0,.int .u64 32,.int .u8 1,.int .u8 0,.int .u64 1,.int .u8 2,.bool true,.bool false,.bool false,.int .u64 0]).setCell ⟨g,29,none⟩ (.int .i64 3))):=hd0 (HF1.out.drew.trans (Fr.of_only HO3.out (Or.inr rfl)))
 have HB4:=hd0 ((HB1.out.drew).only HO3.out hbg)
 have HP4:=hd0 ((HP1.out.drew).only HO3.out hpg)
 have HT4:Hid (TR ((w1.drew.setCells g 18 [.int .u64 32,.int .u32 0,.int .u64 32,.int .u8 1,.int .u8 0,.int .u64 1,.int .u8 2,.bool true,.bool false,.bool false,.int .u64 0]).setCell ⟨g,29,none⟩ (.int .i64 3)) m g cap t (ml 16 a (lk true (wD 32 true) 3 false 0) 16 0 (-1) 0 1 0)):=HT3
 obtain⟨w4,hw4⟩:∃ z,(w1.drew.setCells g 18 [.int .u64 32,.int .u32 0,.int .u64 32,.int .u8 1,.int .u8 0,.int .u64 1,.int .u8 2,.bool true,.bool false,.bool false,.int .u64 0]).setCell ⟨g,29,none⟩ (.int .i64 3)=z:=⟨_,rfl⟩
 rw[hw4] at HF4 HB4 HP4 HT4 ⊢
 clear hw4 p0d p0 TH k29 f29 r0 r2 r3 q2 q3 HT3 HO3 HT1 HF1 HB1 HP1
 have CH:Hid (Calls Tryz.prog 118 #[.pointer (some ⟨m,0,none⟩)] w4 fun en w'=>en=.returned (.tuple #[])∧TR w' m g cap t (ml 16 a (lk true (wD 32 true) 3 false 0) 16 0 (-1) 0 1 0)∧Fr (D2 m g) w4 w'):=hd0 ((tchooseW m g cap t 16 a 32 true 3 0 1 0 (by decide) (by decide) w4 HT4.out).mono fun e w' h=>⟨h.1,HT4.out.later h.2,Fr.of_below h.2⟩)
 have HRO:Hid (∀ W,TR W m g cap t (ml 16 a (lk true (wD 32 true) 3 false 0) 16 0 (-1) 0 1 0)→Calls Tryz.prog 78 #[.pointer (some ⟨m,0,none⟩),.int .u8 1] W fun en w'=>en=.returned (.int .u8 2)∧Below W.heap.size W w'):=hd0 fun W hW=>troleA1 m g cap t a true 3 false 0 0 1 0 (by decide) W hW
 go_wp2_with fail
 with_reducible refine CH.out.mono ?_
 rintro en w5 ⟨rfl,ht5,hf5⟩
 have HNB:Hid (bb<w4.heap.size∧pb<w4.heap.size):=hd0 ⟨HB4.out.lt,HP4.out.lt⟩
 have hDb:¬ D2 m g bb:=by rintro (h|h) <;> (have:=HN.out;omega)
 have hDp:¬ D2 m g pb:=by rintro (h|h) <;> (have:=HN.out;omega)
 have HB5:=hd0 (HB4.out.fr' hf5 hDb)
 have HP5:=hd0 (HP4.out.fr' hf5 hDp)
 have HF5:=hd0 (HF4.out.trans hf5)
 have RO:=hd0 (HRO.out w5 ht5)
 have HT5:=hd0 ht5
 clear ht5 hf5 CH HB4 HP4 HF4 HT4 HRO hDb hDp
 go_wp2_with fail
 with_reducible refine RO.out.mono ?_
 rintro en w6 ⟨rfl,hb6⟩
 have HB6:=hd0 (HB5.out.later hb6)
 have HP6:=hd0 (HP5.out.later hb6)
 have HF6:=hd0 (HF5.out.trans (Fr.of_below hb6))
 have HT6:=hd0 (HT5.out.later hb6)
 clear hb6 HB5 HP5 HF5 HT5 RO
 have e5:∀ K:Later w6,K.out.cell? ⟨bb,8,none⟩=some (.bool false):=fun K=>(HB6.out.later K.h).c 8 _ rfl
 have e7:∀ K:Later w6,K.out.cell? ⟨bb,10,none⟩=some (.int .u64 0):=fun K=>(HB6.out.later K.h).c 10 _ rfl
 have m6:∀ K:Later w6,K.out.cell? ⟨m,6,none⟩=some (.int .u64 1):=fun K=>(HT6.out.later K.h).c6
 go_upto_region 7 with fail
 refine wp_region_later (by kernel_rfl) (by kernel_rfl) ?_
 repeat (go_big_quiet_step (fail))
 refine wpQuiet_nil ?_
 rintro _ ⟨K,rfl⟩
 clear e5 e7 m6
 have HB7:=hd0 (HB6.out.later K.h)
 have HP7:=hd0 (HP6.out.later K.h)
 have HF7:=hd0 (HF6.out.trans (Fr.of_below K.h))
 have HT7:=hd0 (HT6.out.later K.h)
 obtain⟨w7,hw7⟩:∃ z,K.out=z:=⟨_,rfl⟩
 rw[hw7] at HB7 HP7 HF7 HT7 ⊢
 clear hw7 K HB6 HP6 HF6 HT6
 have b9:w7.cell? ⟨bb,9,none⟩=some (.bool false):=HB7.out.c 9 _ rfl
 have b6:w7.cell? ⟨bb,6,none⟩=some (.int .u8 2):=HB7.out.c 6 _ rfl
 have b7:w7.cell? ⟨bb,7,none⟩=some (.bool true):=HB7.out.c 7 _ rfl
 go_wp2_with fail
 go_ret
 exact⟨rfl,HT7.out,HF7.out⟩
theorem thearH4 (m g cap:Nat)(t:List Value)(a p:Bool)(sp:Int)(w:World)(h:TR w m g cap t (ml 32 a (lk true (wD 16 p) 2 false sp) 16 5 1 1 2 0)):Calls Tryz.prog 150 #[.pointer (some ⟨m,0,none⟩),.int .u8 1,.agg #[.int .u64 16,.int .u32 0,.int .u64 16,.int .u8 1,.int .u8 0,.int .u64 1,.int .u8 2,.bool false,.bool false,.bool false,.int .u64 0]] w fun en w'=>(en=.returned (.slice none 0 0))∧TR w' m g cap t (ml 32 a (lk true (wD 16 false) 3 false sp) 16 5 1 1 2 0)∧Fr (D2 m g) w w':=by
 have hML:=And.intro h.tm.lt h.row.lt
 have bA:=(Below.refl w.heap.size w).alloc (Nat.le_refl _) (.cells #[.int .u64 16,.int .u32 0,.int .u64 16,.int .u8 1,.int .u8 0,.int .u64 1,.int .u8 2,.bool false,.bool false,.bool false,.int .u64 0] 212)
 have gB:=GB.new 212 w #[.int .u64 16,.int .u32 0,.int .u64 16,.int .u8 1,.int .u8 0,.int .u64 1,.int .u8 2,.bool false,.bool false,.bool false,.int .u64 0]
 obtain⟨wa,hwa⟩:∃ z,w.alloc (.cells #[.int .u64 16,.int .u32 0,.int .u64 16,.int .u8 1,.int .u8 0,.int .u64 1,.int .u8 2,.bool false,.bool false,.bool false,.int .u64 0] 212)=z:=⟨_,rfl⟩
 rw[hwa] at bA gB
 have za:wa.heap.size=w.heap.size+1:=by rw[←hwa];simp
 have TA:=h.later bA
 have AT:=hd0 (tat_any m g cap t _ 1 (by decide) wa TA)
 have AT:Hid (Calls Tryz.prog 111 #[.pointer (some ⟨m,0,none⟩),.int .u8 1] wa fun en w'=>en=.returned (.pointer (some ⟨g,16,none⟩))∧wa=w'):=hd0 (AT.out.mono fun e w' h=>⟨h.1,h.2.symm⟩)
 have bP:=(Below.refl wa.heap.size wa).alloc (Nat.le_refl _) (.cells #[.pointer (some ⟨g,16,none⟩)] 276)
 have gP:=GB.new 276 wa #[.pointer (some ⟨g,16,none⟩)]
 obtain⟨w1,hw1⟩:∃ z,wa.alloc (.cells #[.pointer (some ⟨g,16,none⟩)] 276)=z:=⟨_,rfl⟩
 rw[hw1] at bP gP
 obtain⟨bb,hbb⟩:∃ z,w.heap.size=z:=⟨_,rfl⟩
 obtain⟨pb,hpb⟩:∃ z,wa.heap.size=z:=⟨_,rfl⟩
 have hN:bb=w.heap.size∧pb=w.heap.size+1:=⟨hbb.symm,by omega⟩
 rw[hbb] at gB
 rw[hpb] at gP
 have HT1:=hd0 (TA.later bP)
 have HF1:=hd0 (Fr.of_below (bA.trans (bP.mono bA.size)):Fr (D2 m g) w w1)
 have HB1:=hd0 (gB.later bP)
 have HP1:=hd0 gP
 have HN:=hd0 (And.intro hN hML)
 have L1:Hid (Calls Tryz.prog 125 #[.pointer (some ⟨g,16,none⟩)] w1 fun en w'=>en=.returned (.bool true)∧w1=w'):=hd0 ((tlink_k g 16 true w1 (HT1.out.x1 0 (by decide) _ rfl) (HT1.out.x1 1 (by decide) _ rfl)).mono fun e w' h=>⟨h.1,h.2.symm⟩)
 have p0:w1.cell? ⟨pb,0,none⟩=some (.pointer (some ⟨g,16,none⟩)):=gP.c 0 _ rfl
 clear h bA gB TA bP gP hN hML za
 go_enter Tryz.func150,Tryz.ntmps150
 go_upto_region 4 with(first
  |(go_at_call 111;with_reducible refine AT.out.mono ?_;rintro e w' ⟨rfl,rfl⟩)
  |(go_at_call 125;with_reducible refine L1.out.mono ?_;rintro e w' ⟨rfl,rfl⟩))
 have p0d:w1.drew.cell? ⟨pb,0,none⟩=some (.pointer (some ⟨g,16,none⟩)):=p0
 have HIB:Hid ((Tryz.prog.info? 212).map (·.size)=some (List.length ([.int .u64 16,.int .u32 0,.int .u64 16,.int .u8 1,.int .u8 0,.int .u64 1,.int .u8 2,.bool false,.bool false,.bool false,.int .u64 0]:List Value))):=hd0 (by kernel_rfl)
 have HIS:Hid ((Tryz.prog.info? 212).map (·.size)=some (Array.size #[Value.int .u64 16,.int .u32 0,.int .u64 16,.int .u8 1,.int .u8 0,.int .u64 1,.int .u8 2,.bool false,.bool false,.bool false,.int .u64 0])):=hd0 (by kernel_rfl)
 have HOS:Hid ((#[.int .u64 16,.int .u32 0,.int .u64 16,.int .u8 1,.int .u8 0,.int .u64 1,.int .u8 2,.bool false,.bool false,.bool false,.int .u64 0]:Array Value).all (·.oneCell')=true):=hd0 (by kernel_rfl)
 have TH:Hid (w1.drew.there g 18 (Array.size #[Value.int .u64 16,.int .u32 0,.int .u64 16,.int .u8 1,.int .u8 0,.int .u64 1,.int .u8 2,.bool false,.bool false,.bool false,.int .u64 0])):=hd0 fun j hj=>by
  have hj:j<11:=hj
  refine⟨?_,HT1.out.row.fr _⟩
  obtain⟨v,hv⟩:∃ v,(tpC (lk true (wD 16 p) 2 false sp))[2+j]?=some v:=⟨_,List.getElem?_eq_getElem (by rw[tpC_len];omega)⟩
  have:=HT1.out.x1 (2+j) (by omega) v hv
  rw[show 16+(2+j)=18+j by omega] at this
  show(w1.cell? ⟨g,18+j,none⟩).isSome=true
  rw[this];rfl
 have t2:=(HT1.out.later (Below.refl _ _).drew).xHear (wD 16 false)
 have o2:Only g w1.drew (w1.drew.setCells g 18 [.int .u64 16,.int .u32 0,.int .u64 16,.int .u8 1,.int .u8 0,.int .u64 1,.int .u8 2,.bool false,.bool false,.bool false,.int .u64 0]):=only_cells g _ _ _
 have hbg:bb≠g:=by have:=HN.out;omega
 have hpg:pb≠g:=by have:=HN.out;omega
 have gb2:=(HB1.out.drew).only o2 hbg
 have gp2:=(HP1.out.drew).only o2 hpg
 have k29:(w1.drew.setCells g 18 [.int .u64 16,.int .u32 0,.int .u64 16,.int .u8 1,.int .u8 0,.int .u64 1,.int .u8 2,.bool false,.bool false,.bool false,.int .u64 0]).cell? ⟨g,29,none⟩=some (.int .i64 2):=t2.x1 13 (by decide) _ rfl
 have f29:(w1.drew.setCells g 18 [.int .u64 16,.int .u32 0,.int .u64 16,.int .u8 1,.int .u8 0,.int .u64 1,.int .u8 2,.bool false,.bool false,.bool false,.int .u64 0]).frozen? ⟨g,29,none⟩=false:=t2.row.fr 29
 have t3:=t2.xSet 13 (by decide) (.int .i64 3) (lk true (wD 16 false) 3 false sp) rfl
 have o3:Only g w1.drew ((w1.drew.setCells g 18 [.int .u64 16,.int .u32 0,.int .u64 16,.int .u8 1,.int .u8 0,.int .u64 1,.int .u8 2,.bool false,.bool false,.bool false,.int .u64 0]).setCell ⟨g,29,none⟩ (.int .i64 3)):=o2.trans (Only.set _ _ _ _)
 have r0:w1.drew.rangeAt bb 0 [.int .u64 16,.int .u32 0,.int .u64 16,.int .u8 1,.int .u8 0,.int .u64 1,.int .u8 2,.bool false,.bool false,.bool false,.int .u64 0]:=(HB1.out.drew).range
 have r2:(w1.drew.setCells g 18 [.int .u64 16,.int .u32 0,.int .u64 16,.int .u8 1,.int .u8 0,.int .u64 1,.int .u8 2,.bool false,.bool false,.bool false,.int .u64 0]).rangeAt bb 0 [.int .u64 16,.int .u32 0,.int .u64 16,.int .u8 1,.int .u8 0,.int .u64 1,.int .u8 2,.bool false,.bool false,.bool false,.int .u64 0]:=gb2.range
 have r3:((w1.drew.setCells g 18 [.int .u64 16,.int .u32 0,.int .u64 16,.int .u8 1,.int .u8 0,.int .u64 1,.int .u8 2,.bool false,.bool false,.bool false,.int .u64 0]).setCell ⟨g,29,none⟩ (.int .i64 3)).rangeAt bb 0 [.int .u64 16,.int .u32 0,.int .u64 16,.int .u8 1,.int .u8 0,.int .u64 1,.int .u8 2,.bool false,.bool false,.bool false,.int .u64 0]:=((HB1.out.drew).only o3 hbg).range
 have q2:(w1.drew.setCells g 18 [.int .u64 16,.int .u32 0,.int .u64 16,.int .u8 1,.int .u8 0,.int .u64 1,.int .u8 2,.bool false,.bool false,.bool false,.int .u64 0]).cell? ⟨pb,0,none⟩=some (.pointer (some ⟨g,16,none⟩)):=gp2.c 0 _ rfl
 have q3:((w1.drew.setCells g 18 [.int .u64 16,.int .u32 0,.int .u64 16,.int .u8 1,.int .u8 0,.int .u64 1,.int .u8 2,.bool false,.bool false,.bool false,.int .u64 0]).setCell ⟨g,29,none⟩ (.int .i64 3)).cell? ⟨pb,0,none⟩=some (.pointer (some ⟨g,16,none⟩)):=((HP1.out.drew).only o3 hpg).c 0 _ rfl
 have HT3:=hd0 t3
 have HO3:=hd0 o3
 clear t2 o2 gb2 gp2 t3 o3
 refine wp_region_held_drew (S:=fun W=>W.rangeAt bb 0 [.int .u64 16,.int .u32 0,.int .u64 16,.int .u8 1,.int .u8 0,.int .u64 1,.int .u8 2,.bool false,.bool false,.bool false,.int .u64 0]∧W.cell? ⟨pb,0,none⟩=some (.pointer (some ⟨g,16,none⟩))) (by kernel_rfl) ⟨r0,p0d⟩ (fun hHeld=>?_)
 refine tkH 0 ?_ ?h ?_
 case h=>(intro w hSw;go_simp;try with_reducible rfl)
 try simp only[Act.put,zz]
 refine tkH 1 ?_ ?h ?_
 case h=>(intro w hSw;go_simp;try with_reducible rfl)
 try simp only[Act.put,zz]
 refine wpAnyH_take (i:=2) (v:=.agg #[.int .u64 16,.int .u32 0,.int .u64 16,.int .u8 1,.int .u8 0,.int .u64 1,.int .u8 2,.bool false,.bool false,.bool false,.int .u64 0]) rfl (by kernel_rfl) (by kernel_rfl) (by kernel_rfl) (fun _ _ _ h=>h) (yieldsIf_load_mid (by rfl) 212 (.tmp 5) rfl bb 0 rfl [.int .u64 16,.int .u32 0,.int .u64 16,.int .u8 1,.int .u8 0,.int .u64 1,.int .u8 2,.bool false,.bool false,.bool false,.int .u64 0] _ (fun w h=>h.1) Tryz.underlying212 rfl HIB.out) (by assumption) ?_
 try simp only[Act.put,zz]
 refine tkH 3 ?_ ?h ?_
 case h=>(intro w hSw;go_simp;try with_reducible rfl)
 try simp only[Act.put,zz]
 refine tkH 4 ?_ ?h ?_
 case h=>(intro w hSw;go_simp;try with_reducible rfl)
 try simp only[Act.put,zz]
 refine rdH 5 fun K hK=>?_
 (rw[if_pos (by rfl)];refine wp_store_mid 212 (.tmp 19) (.tmp 17) rfl _ 18 #[.int .u64 16,.int .u32 0,.int .u64 16,.int .u8 1,.int .u8 0,.int .u64 1,.int .u8 2,.bool false,.bool false,.bool false,.int .u64 0] rfl (by rfl) TH.out HIS.out HOS.out ?_;refine hK.out _ _ ⟨r2,q2⟩ (fun hHeld=>?_);clear hK K;try simp only[Act.put,zz])
 refine tkH 6 ?_ ?h ?_
 case h=>(intro w hSw;go_simp;try with_reducible rfl)
 try simp only[Act.put,zz]
 refine tkH 7 ?_ ?h ?_
 case h=>(intro w hSw;go_simp;try with_reducible rfl)
 try simp only[Act.put,zz]
 refine rdH 8 fun K hK=>?_
 (go_simp;refine hK.out _ _ ⟨r3,q3⟩ (fun hHeld=>?_);clear hK K;try simp only[Act.put,zz])
 refine wpAnyH_done (by kernel_rfl) ?_ _
 have HF4:Hid (Fr (D2 m g) w ((w1.drew.setCells g 18 [.int .u64 16,.int .u32 0,.int .u64 16,.int .u8 1,.int .u8 0,.int .u64 1,.int .u8 2,.bool false,.bool false,.bool false,.int .u64 0]).setCell ⟨g,29,none⟩ (.int .i64 3))):=hd0 (HF1.out.drew.trans (Fr.of_only HO3.out (Or.inr rfl)))
 have HB4:=hd0 ((HB1.out.drew).only HO3.out hbg)
 have HP4:=hd0 ((HP1.out.drew).only HO3.out hpg)
 have HT4:Hid (TR ((w1.drew.setCells g 18 [.int .u64 16,.int .u32 0,.int .u64 16,.int .u8 1,.int .u8 0,.int .u64 1,.int .u8 2,.bool false,.bool false,.bool false,.int .u64 0]).setCell ⟨g,29,none⟩ (.int .i64 3)) m g cap t (ml 32 a (lk true (wD 16 false) 3 false sp) 16 5 1 1 2 0)):=HT3
 obtain⟨w4,hw4⟩:∃ z,(w1.drew.setCells g 18 [.int .u64 16,.int .u32 0,.int .u64 16,.int .u8 1,.int .u8 0,.int .u64 1,.int .u8 2,.bool false,.bool false,.bool false,.int .u64 0]).setCell ⟨g,29,none⟩ (.int .i64 3)=z:=⟨_,rfl⟩
 rw[hw4] at HF4 HB4 HP4 HT4 ⊢
 clear hw4 p0d p0 TH k29 f29 r0 r2 r3 q2 q3 HT3 HO3 HT1 HF1 HB1 HP1
 have CH:Hid (Calls Tryz.prog 118 #[.pointer (some ⟨m,0,none⟩)] w4 fun en w'=>en=.returned (.tuple #[])∧TR w' m g cap t (ml 32 a (lk true (wD 16 false) 3 false sp) 16 5 1 1 2 0)∧Fr (D2 m g) w4 w'):=hd0 (tchooseS m g cap t a false 3 sp 0 (by decide) w4 HT4.out)
 have HRO:Hid (∀ W,TR W m g cap t (ml 32 a (lk true (wD 16 false) 3 false sp) 16 5 1 1 2 0)→Calls Tryz.prog 78 #[.pointer (some ⟨m,0,none⟩),.int .u8 1] W fun en w'=>en=.returned (.int .u8 1)∧Below W.heap.size W w'):=hd0 fun W hW=>(troleR m g cap t 32 a (wD 16 false) 3 false sp 16 5 1 2 0 W hW).mono fun e w' h=>⟨h.1,h.2 ▸ Below.refl _ _⟩
 go_wp2_with fail
 with_reducible refine CH.out.mono ?_
 rintro en w5 ⟨rfl,ht5,hf5⟩
 have HNB:Hid (bb<w4.heap.size∧pb<w4.heap.size):=hd0 ⟨HB4.out.lt,HP4.out.lt⟩
 have hDb:¬ D2 m g bb:=by rintro (h|h) <;> (have:=HN.out;omega)
 have hDp:¬ D2 m g pb:=by rintro (h|h) <;> (have:=HN.out;omega)
 have HB5:=hd0 (HB4.out.fr' hf5 hDb)
 have HP5:=hd0 (HP4.out.fr' hf5 hDp)
 have HF5:=hd0 (HF4.out.trans hf5)
 have RO:=hd0 (HRO.out w5 ht5)
 have HT5:=hd0 ht5
 clear ht5 hf5 CH HB4 HP4 HF4 HT4 HRO hDb hDp
 go_wp2_with fail
 with_reducible refine RO.out.mono ?_
 rintro en w6 ⟨rfl,hb6⟩
 have HB6:=hd0 (HB5.out.later hb6)
 have HP6:=hd0 (HP5.out.later hb6)
 have HF6:=hd0 (HF5.out.trans (Fr.of_below hb6))
 have HT6:=hd0 (HT5.out.later hb6)
 clear hb6 HB5 HP5 HF5 HT5 RO
 have e5:∀ K:Later w6,K.out.cell? ⟨bb,8,none⟩=some (.bool false):=fun K=>(HB6.out.later K.h).c 8 _ rfl
 have e7:∀ K:Later w6,K.out.cell? ⟨bb,10,none⟩=some (.int .u64 0):=fun K=>(HB6.out.later K.h).c 10 _ rfl
 have m6:∀ K:Later w6,K.out.cell? ⟨m,6,none⟩=some (.int .u64 2):=fun K=>(HT6.out.later K.h).c6
 go_upto_region 7 with fail
 refine wp_region_later (by kernel_rfl) (by kernel_rfl) ?_
 repeat (go_big_quiet_step (fail))
 refine wpQuiet_nil ?_
 rintro _ ⟨K,rfl⟩
 clear e5 e7 m6
 have HB7:=hd0 (HB6.out.later K.h)
 have HP7:=hd0 (HP6.out.later K.h)
 have HF7:=hd0 (HF6.out.trans (Fr.of_below K.h))
 have HT7:=hd0 (HT6.out.later K.h)
 obtain⟨w7,hw7⟩:∃ z,K.out=z:=⟨_,rfl⟩
 rw[hw7] at HB7 HP7 HF7 HT7 ⊢
 clear hw7 K HB6 HP6 HF6 HT6
 have b9:w7.cell? ⟨bb,9,none⟩=some (.bool false):=HB7.out.c 9 _ rfl
 have b6:w7.cell? ⟨bb,6,none⟩=some (.int .u8 2):=HB7.out.c 6 _ rfl
 have b7:w7.cell? ⟨bb,7,none⟩=some (.bool false):=HB7.out.c 7 _ rfl
 go_wp2_with fail
 go_ret
 exact⟨rfl,HT7.out,HF7.out⟩
theorem thearH3 (m g cap:Nat)(t:List Value)(a:Bool)(x:Bp)(la:Int)(ag:Bool)(w:World)(h:TR w m g cap t (ml 16 a (lk true x la ag 0) 16 0 (-1) 0 1 0)):Calls Tryz.prog 150 #[.pointer (some ⟨m,0,none⟩),.int .u8 1,.agg #[.int .u64 16,.int .u32 5,.int .u64 32,.int .u8 1,.int .u8 1,.int .u64 2,.int .u8 1,.bool false,.bool true,.bool true,.int .u64 1]] w fun en w'=>(en=.returned (.slice none 0 0))∧TR w' m g cap t (ml 16 a (lk true wR 3 true 0) 16 0 (-1) 0 1 1)∧Fr (D2 m g) w w':=by
 have hML:=And.intro h.tm.lt h.row.lt
 have bA:=(Below.refl w.heap.size w).alloc (Nat.le_refl _) (.cells #[.int .u64 16,.int .u32 5,.int .u64 32,.int .u8 1,.int .u8 1,.int .u64 2,.int .u8 1,.bool false,.bool true,.bool true,.int .u64 1] 212)
 have gB:=GB.new 212 w #[.int .u64 16,.int .u32 5,.int .u64 32,.int .u8 1,.int .u8 1,.int .u64 2,.int .u8 1,.bool false,.bool true,.bool true,.int .u64 1]
 obtain⟨wa,hwa⟩:∃ z,w.alloc (.cells #[.int .u64 16,.int .u32 5,.int .u64 32,.int .u8 1,.int .u8 1,.int .u64 2,.int .u8 1,.bool false,.bool true,.bool true,.int .u64 1] 212)=z:=⟨_,rfl⟩
 rw[hwa] at bA gB
 have za:wa.heap.size=w.heap.size+1:=by rw[←hwa];simp
 have TA:=h.later bA
 have AT:=hd0 (tat_any m g cap t _ 1 (by decide) wa TA)
 have AT:Hid (Calls Tryz.prog 111 #[.pointer (some ⟨m,0,none⟩),.int .u8 1] wa fun en w'=>en=.returned (.pointer (some ⟨g,16,none⟩))∧wa=w'):=hd0 (AT.out.mono fun e w' h=>⟨h.1,h.2.symm⟩)
 have bP:=(Below.refl wa.heap.size wa).alloc (Nat.le_refl _) (.cells #[.pointer (some ⟨g,16,none⟩)] 276)
 have gP:=GB.new 276 wa #[.pointer (some ⟨g,16,none⟩)]
 obtain⟨w1,hw1⟩:∃ z,wa.alloc (.cells #[.pointer (some ⟨g,16,none⟩)] 276)=z:=⟨_,rfl⟩
 rw[hw1] at bP gP
 obtain⟨bb,hbb⟩:∃ z,w.heap.size=z:=⟨_,rfl⟩
 obtain⟨pb,hpb⟩:∃ z,wa.heap.size=z:=⟨_,rfl⟩
 have hN:bb=w.heap.size∧pb=w.heap.size+1:=⟨hbb.symm,by omega⟩
 rw[hbb] at gB
 rw[hpb] at gP
 have HT1:=hd0 (TA.later bP)
 have HF1:=hd0 (Fr.of_below (bA.trans (bP.mono bA.size)):Fr (D2 m g) w w1)
 have HB1:=hd0 (gB.later bP)
 have HP1:=hd0 gP
 have HN:=hd0 (And.intro hN hML)
 have L1:Hid (Calls Tryz.prog 125 #[.pointer (some ⟨g,16,none⟩)] w1 fun en w'=>en=.returned (.bool true)∧w1=w'):=hd0 ((tlink_k g 16 true w1 (HT1.out.x1 0 (by decide) _ rfl) (HT1.out.x1 1 (by decide) _ rfl)).mono fun e w' h=>⟨h.1,h.2.symm⟩)
 have p0:w1.cell? ⟨pb,0,none⟩=some (.pointer (some ⟨g,16,none⟩)):=gP.c 0 _ rfl
 clear h bA gB TA bP gP hN hML za
 go_enter Tryz.func150,Tryz.ntmps150
 go_upto_region 4 with(first
  |(go_at_call 111;with_reducible refine AT.out.mono ?_;rintro e w' ⟨rfl,rfl⟩)
  |(go_at_call 125;with_reducible refine L1.out.mono ?_;rintro e w' ⟨rfl,rfl⟩))
 have p0d:w1.drew.cell? ⟨pb,0,none⟩=some (.pointer (some ⟨g,16,none⟩)):=p0
 have HIB:Hid ((Tryz.prog.info? 212).map (·.size)=some (List.length ([.int .u64 16,.int .u32 5,.int .u64 32,.int .u8 1,.int .u8 1,.int .u64 2,.int .u8 1,.bool false,.bool true,.bool true,.int .u64 1]:List Value))):=hd0 (by kernel_rfl)
 have HIS:Hid ((Tryz.prog.info? 212).map (·.size)=some (Array.size #[Value.int .u64 16,.int .u32 5,.int .u64 32,.int .u8 1,.int .u8 1,.int .u64 2,.int .u8 1,.bool false,.bool true,.bool true,.int .u64 1])):=hd0 (by kernel_rfl)
 have HOS:Hid ((#[.int .u64 16,.int .u32 5,.int .u64 32,.int .u8 1,.int .u8 1,.int .u64 2,.int .u8 1,.bool false,.bool true,.bool true,.int .u64 1]:Array Value).all (·.oneCell')=true):=hd0 (by kernel_rfl)
 have TH:Hid (w1.drew.there g 18 (Array.size #[Value.int .u64 16,.int .u32 5,.int .u64 32,.int .u8 1,.int .u8 1,.int .u64 2,.int .u8 1,.bool false,.bool true,.bool true,.int .u64 1])):=hd0 fun j hj=>by
  have hj:j<11:=hj
  refine⟨?_,HT1.out.row.fr _⟩
  obtain⟨v,hv⟩:∃ v,(tpC (lk true x la ag 0))[2+j]?=some v:=⟨_,List.getElem?_eq_getElem (by rw[tpC_len];omega)⟩
  have:=HT1.out.x1 (2+j) (by omega) v hv
  rw[show 16+(2+j)=18+j by omega] at this
  show(w1.cell? ⟨g,18+j,none⟩).isSome=true
  rw[this];rfl
 have t2:=(HT1.out.later (Below.refl _ _).drew).xHear wR
 have o2:Only g w1.drew (w1.drew.setCells g 18 [.int .u64 16,.int .u32 5,.int .u64 32,.int .u8 1,.int .u8 1,.int .u64 2,.int .u8 1,.bool false,.bool true,.bool true,.int .u64 1]):=only_cells g _ _ _
 have hbg:bb≠g:=by have:=HN.out;omega
 have hpg:pb≠g:=by have:=HN.out;omega
 have gb2:=(HB1.out.drew).only o2 hbg
 have gp2:=(HP1.out.drew).only o2 hpg
 have k29:(w1.drew.setCells g 18 [.int .u64 16,.int .u32 5,.int .u64 32,.int .u8 1,.int .u8 1,.int .u64 2,.int .u8 1,.bool false,.bool true,.bool true,.int .u64 1]).cell? ⟨g,29,none⟩=some (.int .i64 la):=t2.x1 13 (by decide) _ rfl
 have f29:(w1.drew.setCells g 18 [.int .u64 16,.int .u32 5,.int .u64 32,.int .u8 1,.int .u8 1,.int .u64 2,.int .u8 1,.bool false,.bool true,.bool true,.int .u64 1]).frozen? ⟨g,29,none⟩=false:=t2.row.fr 29
 have t3:=t2.xSet 13 (by decide) (.int .i64 3) (lk true wR 3 ag 0) rfl
 have o3:Only g w1.drew ((w1.drew.setCells g 18 [.int .u64 16,.int .u32 5,.int .u64 32,.int .u8 1,.int .u8 1,.int .u64 2,.int .u8 1,.bool false,.bool true,.bool true,.int .u64 1]).setCell ⟨g,29,none⟩ (.int .i64 3)):=o2.trans (Only.set _ _ _ _)
 have r0:w1.drew.rangeAt bb 0 [.int .u64 16,.int .u32 5,.int .u64 32,.int .u8 1,.int .u8 1,.int .u64 2,.int .u8 1,.bool false,.bool true,.bool true,.int .u64 1]:=(HB1.out.drew).range
 have r2:(w1.drew.setCells g 18 [.int .u64 16,.int .u32 5,.int .u64 32,.int .u8 1,.int .u8 1,.int .u64 2,.int .u8 1,.bool false,.bool true,.bool true,.int .u64 1]).rangeAt bb 0 [.int .u64 16,.int .u32 5,.int .u64 32,.int .u8 1,.int .u8 1,.int .u64 2,.int .u8 1,.bool false,.bool true,.bool true,.int .u64 1]:=gb2.range
 have r3:((w1.drew.setCells g 18 [.int .u64 16,.int .u32 5,.int .u64 32,.int .u8 1,.int .u8 1,.int .u64 2,.int .u8 1,.bool false,.bool true,.bool true,.int .u64 1]).setCell ⟨g,29,none⟩ (.int .i64 3)).rangeAt bb 0 [.int .u64 16,.int .u32 5,.int .u64 32,.int .u8 1,.int .u8 1,.int .u64 2,.int .u8 1,.bool false,.bool true,.bool true,.int .u64 1]:=((HB1.out.drew).only o3 hbg).range
 have q2:(w1.drew.setCells g 18 [.int .u64 16,.int .u32 5,.int .u64 32,.int .u8 1,.int .u8 1,.int .u64 2,.int .u8 1,.bool false,.bool true,.bool true,.int .u64 1]).cell? ⟨pb,0,none⟩=some (.pointer (some ⟨g,16,none⟩)):=gp2.c 0 _ rfl
 have q3:((w1.drew.setCells g 18 [.int .u64 16,.int .u32 5,.int .u64 32,.int .u8 1,.int .u8 1,.int .u64 2,.int .u8 1,.bool false,.bool true,.bool true,.int .u64 1]).setCell ⟨g,29,none⟩ (.int .i64 3)).cell? ⟨pb,0,none⟩=some (.pointer (some ⟨g,16,none⟩)):=((HP1.out.drew).only o3 hpg).c 0 _ rfl
 have HT3:=hd0 t3
 have HO3:=hd0 o3
 clear t2 o2 gb2 gp2 t3 o3
 refine wp_region_held_drew (S:=fun W=>W.rangeAt bb 0 [.int .u64 16,.int .u32 5,.int .u64 32,.int .u8 1,.int .u8 1,.int .u64 2,.int .u8 1,.bool false,.bool true,.bool true,.int .u64 1]∧W.cell? ⟨pb,0,none⟩=some (.pointer (some ⟨g,16,none⟩))) (by kernel_rfl) ⟨r0,p0d⟩ (fun hHeld=>?_)
 refine tkH 0 ?_ ?h ?_
 case h=>(intro w hSw;go_simp;try with_reducible rfl)
 try simp only[Act.put,zz]
 refine tkH 1 ?_ ?h ?_
 case h=>(intro w hSw;go_simp;try with_reducible rfl)
 try simp only[Act.put,zz]
 refine wpAnyH_take (i:=2) (v:=.agg #[.int .u64 16,.int .u32 5,.int .u64 32,.int .u8 1,.int .u8 1,.int .u64 2,.int .u8 1,.bool false,.bool true,.bool true,.int .u64 1]) rfl (by kernel_rfl) (by kernel_rfl) (by kernel_rfl) (fun _ _ _ h=>h) (yieldsIf_load_mid (by rfl) 212 (.tmp 5) rfl bb 0 rfl [.int .u64 16,.int .u32 5,.int .u64 32,.int .u8 1,.int .u8 1,.int .u64 2,.int .u8 1,.bool false,.bool true,.bool true,.int .u64 1] _ (fun w h=>h.1) Tryz.underlying212 rfl HIB.out) (by assumption) ?_
 try simp only[Act.put,zz]
 refine tkH 3 ?_ ?h ?_
 case h=>(intro w hSw;go_simp;try with_reducible rfl)
 try simp only[Act.put,zz]
 refine tkH 4 ?_ ?h ?_
 case h=>(intro w hSw;go_simp;try with_reducible rfl)
 try simp only[Act.put,zz]
 refine rdH 5 fun K hK=>?_
 (rw[if_pos (by rfl)];refine wp_store_mid 212 (.tmp 19) (.tmp 17) rfl _ 18 #[.int .u64 16,.int .u32 5,.int .u64 32,.int .u8 1,.int .u8 1,.int .u64 2,.int .u8 1,.bool false,.bool true,.bool true,.int .u64 1] rfl (by rfl) TH.out HIS.out HOS.out ?_;refine hK.out _ _ ⟨r2,q2⟩ (fun hHeld=>?_);clear hK K;try simp only[Act.put,zz])
 refine tkH 6 ?_ ?h ?_
 case h=>(intro w hSw;go_simp;try with_reducible rfl)
 try simp only[Act.put,zz]
 refine tkH 7 ?_ ?h ?_
 case h=>(intro w hSw;go_simp;try with_reducible rfl)
 try simp only[Act.put,zz]
 refine rdH 8 fun K hK=>?_
 (go_simp;refine hK.out _ _ ⟨r3,q3⟩ (fun hHeld=>?_);clear hK K;try simp only[Act.put,zz])
 refine wpAnyH_done (by kernel_rfl) ?_ _
 have HF4:Hid (Fr (D2 m g) w ((w1.drew.setCells g 18 [.int .u64 16,.int .u32 5,.int .u64 32,.int .u8 1,.int .u8 1,.int .u64 2,.int .u8 1,.bool false,.bool true,.bool true,.int .u64 1]).setCell ⟨g,29,none⟩ (.int .i64 3))):=hd0 (HF1.out.drew.trans (Fr.of_only HO3.out (Or.inr rfl)))
 have HB4:=hd0 ((HB1.out.drew).only HO3.out hbg)
 have HP4:=hd0 ((HP1.out.drew).only HO3.out hpg)
 have HT4:Hid (TR ((w1.drew.setCells g 18 [.int .u64 16,.int .u32 5,.int .u64 32,.int .u8 1,.int .u8 1,.int .u64 2,.int .u8 1,.bool false,.bool true,.bool true,.int .u64 1]).setCell ⟨g,29,none⟩ (.int .i64 3)) m g cap t (ml 16 a (lk true wR 3 ag 0) 16 0 (-1) 0 1 0)):=HT3
 obtain⟨w4,hw4⟩:∃ z,(w1.drew.setCells g 18 [.int .u64 16,.int .u32 5,.int .u64 32,.int .u8 1,.int .u8 1,.int .u64 2,.int .u8 1,.bool false,.bool true,.bool true,.int .u64 1]).setCell ⟨g,29,none⟩ (.int .i64 3)=z:=⟨_,rfl⟩
 rw[hw4] at HF4 HB4 HP4 HT4 ⊢
 clear hw4 p0d p0 TH k29 f29 r0 r2 r3 q2 q3 HT3 HO3 HT1 HF1 HB1 HP1
 have CH:Hid (Calls Tryz.prog 118 #[.pointer (some ⟨m,0,none⟩)] w4 fun en w'=>en=.returned (.tuple #[])∧TR w' m g cap t (ml 16 a (lk true wR 3 ag 0) 16 0 (-1) 0 1 0)∧Fr (D2 m g) w4 w'):=hd0 ((tchooseN m g cap t 16 a true wR 3 ag 0 1 0 (Or.inr (Or.inr ⟨by decide,by decide⟩)) (fun _ W hW=>troleA2 m g cap t a true 3 ag 0 0 1 0 (by decide) W hW) w4 HT4.out).mono fun e w' h=>⟨h.1,HT4.out.later h.2,Fr.of_below h.2⟩)
 have HRO:Hid (∀ W,TR W m g cap t (ml 16 a (lk true wR 3 ag 0) 16 0 (-1) 0 1 0)→Calls Tryz.prog 78 #[.pointer (some ⟨m,0,none⟩),.int .u8 1] W fun en w'=>en=.returned (.int .u8 2)∧Below W.heap.size W w'):=hd0 fun W hW=>troleA2 m g cap t a true 3 ag 0 0 1 0 (by decide) W hW
 go_wp2_with fail
 with_reducible refine CH.out.mono ?_
 rintro en w5 ⟨rfl,ht5,hf5⟩
 have HNB:Hid (bb<w4.heap.size∧pb<w4.heap.size):=hd0 ⟨HB4.out.lt,HP4.out.lt⟩
 have hDb:¬ D2 m g bb:=by rintro (h|h) <;> (have:=HN.out;omega)
 have hDp:¬ D2 m g pb:=by rintro (h|h) <;> (have:=HN.out;omega)
 have HB5:=hd0 (HB4.out.fr' hf5 hDb)
 have HP5:=hd0 (HP4.out.fr' hf5 hDp)
 have HF5:=hd0 (HF4.out.trans hf5)
 have RO:=hd0 (HRO.out w5 ht5)
 have HT5:=hd0 ht5
 clear ht5 hf5 CH HB4 HP4 HF4 HT4 HRO hDb hDp
 go_wp2_with fail
 with_reducible refine RO.out.mono ?_
 rintro en w6 ⟨rfl,hb6⟩
 have HB6:=hd0 (HB5.out.later hb6)
 have HP6:=hd0 (HP5.out.later hb6)
 have HF6:=hd0 (HF5.out.trans (Fr.of_below hb6))
 have HT6:=hd0 (HT5.out.later hb6)
 clear hb6 HB5 HP5 HF5 HT5 RO
 have e5:∀ K:Later w6,K.out.cell? ⟨bb,8,none⟩=some (.bool true):=fun K=>(HB6.out.later K.h).c 8 _ rfl
 have e7:∀ K:Later w6,K.out.cell? ⟨bb,10,none⟩=some (.int .u64 1):=fun K=>(HB6.out.later K.h).c 10 _ rfl
 have m6:∀ K:Later w6,K.out.cell? ⟨m,6,none⟩=some (.int .u64 1):=fun K=>(HT6.out.later K.h).c6
 go_upto_region 7 with fail
 refine wp_region_later (by kernel_rfl) (by kernel_rfl) ?_
 repeat (go_big_quiet_step (fail))
 refine wpQuiet_nil ?_
 rintro _ ⟨K,rfl⟩
 clear e5 e7 m6
 have HB7:=hd0 (HB6.out.later K.h)
 have HP7:=hd0 (HP6.out.later K.h)
 have HF7:=hd0 (HF6.out.trans (Fr.of_below K.h))
 have HT7:=hd0 (HT6.out.later K.h)
 obtain⟨w7,hw7⟩:∃ z,K.out=z:=⟨_,rfl⟩
 rw[hw7] at HB7 HP7 HF7 HT7 ⊢
 clear hw7 K HB6 HP6 HF6 HT6
 have b9:w7.cell? ⟨bb,9,none⟩=some (.bool true):=HB7.out.c 9 _ rfl
 have b6:w7.cell? ⟨bb,6,none⟩=some (.int .u8 1):=HB7.out.c 6 _ rfl
 have b7:w7.cell? ⟨bb,7,none⟩=some (.bool false):=HB7.out.c 7 _ rfl
 clear b9 b6 b7
 have p0:w7.cell? ⟨pb,0,none⟩=some (.pointer (some ⟨g,16,none⟩)):=HP7.out.c 0 _ rfl
 have k30:w7.cell? ⟨g,30,none⟩=some (.bool ag):=HT7.out.x1 14 (by decide) _ rfl
 have f30:=HT7.out.row.fr 30
 have t8:=HT7.out.xSet 14 (by decide) (.bool true) (lk true wR 3 true 0) rfl
 have o8:Only g w7 (w7.setCell ⟨g,30,none⟩ (.bool true)):=Only.set _ _ _ _
 go_upto_region 9 with fail
 obtain⟨w8,hw8⟩:∃ z,w7.setCell ⟨g,30,none⟩ (.bool true)=z:=⟨_,rfl⟩
 rw[hw8] at t8 o8 ⊢
 have HT8:=hd0 t8
 have HB8:=hd0 (HB7.out.only o8 hbg)
 have HP8:=hd0 (HP7.out.only o8 hpg)
 have HF8:=hd0 (HF7.out.trans (Fr.of_only o8 (Or.inr rfl)))
 clear hw8 p0 k30 f30 t8 o8 HT7 HB7 HP7 HF7
 have b9:w8.cell? ⟨bb,9,none⟩=some (.bool true):=HB8.out.c 9 _ rfl
 have b6:w8.cell? ⟨bb,6,none⟩=some (.int .u8 1):=HB8.out.c 6 _ rfl
 have c7:w8.cell? ⟨m,7,none⟩=some (.int .u8 0):=HT8.out.c7
 have f7:=HT8.out.tm.fr 7
 have c1:=HT8.out.l1
 go_upto_region 10 with fail
 clear b9 b6
 go_upto_region 11 with(go_region_with (fail))
 all_goals
  rw[show bits BinOp.or IntKind.u8 0 (bits BinOp.andNot IntKind.u8 (IntKind.u8.wrap (IntKind.u8.wrap 4-1)) (IntKind.u8.wrap 2))=1 from by decide]
  have hbm:m≠bb:=by have:=HN.out;omega
  have hpm:m≠pb:=by have:=HN.out;omega
  have HT9:Hid (TR (w8.setCell ⟨m,7,none⟩ (.int .u8 1)).drew m g cap t (ml 16 a (lk true wR 3 true 0) 16 0 (-1) 0 1 1)):=hd0 ((HT8.out.tmSet 7 (.int .u8 1) (ml 16 a (lk true wR 3 true 0) 16 0 (-1) 0 1 1) rfl rfl (fun s=>rfl)).later (Below.refl _ _).drew)
  have HB9:=hd0 ((HB8.out.other (o:=7) hbm (.int .u8 1)).drew)
  have HP9:=hd0 ((HP8.out.other (o:=7) hpm (.int .u8 1)).drew)
  have HF9:Hid (Fr (D2 m g) w (w8.setCell ⟨m,7,none⟩ (.int .u8 1)).drew):=hd0 (HF8.out.trans (Fr.of_only (Only.set _ _ _ _) (Or.inl rfl))).drew
  obtain⟨w9,hw9⟩:∃ z,(w8.setCell ⟨m,7,none⟩ (.int .u8 1)).drew=z:=⟨_,rfl⟩
  rw[hw9] at HT9 HB9 HP9 HF9 ⊢
  clear hw9 c7 f7 c1 HT8 HB8 HP8 HF8
  have SP:=hd0 (tspreadsH m g cap pb t 16 a wR 3 true 0 16 0 (-1) 0 1 1 w9 HT9.out (HP9.out.c 0 _ rfl))
  have b7:w9.cell? ⟨bb,7,none⟩=some (.bool false):=HB9.out.c 7 _ rfl
  go_wp2_with (go_at_call 201;with_reducible refine SP.out.mono ?_;rintro e w' ⟨rfl,rfl⟩)
  go_ret
  exact⟨rfl,HT9.out,HF9.out⟩
end Go.Proofs.YtghaobakpdninaaGreatDoor
