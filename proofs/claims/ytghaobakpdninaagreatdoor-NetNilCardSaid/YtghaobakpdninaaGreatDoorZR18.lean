/- ZR18 -/
import Derived.Test.YtghaobakpdninaaGreatDoorZR11
set_option linter.unusedVariables false
set_option linter.unusedSimpArgs false
set_option maxRecDepth 100000
set_option maxHeartbeats 16000000
namespace Go.Proofs.YtghaobakpdninaaGreatDoor
open Go.RowKit
theorem twordA (m g cap:Nat)(t:List Value)(id:Int)(a:Bool)(x:Bp)(la:Int)(ag:Bool)(fl:Int)(RO:∀ W,TR W m g cap t (ml id a (lk true x la ag 0) id 0 (-1) 0 1 fl)→Calls Tryz.prog 78 #[.pointer (some ⟨m,0,none⟩),.int .u8 1] W fun en w'=>en=.returned (.int .u8 2)∧Below W.heap.size W w')(w:World)(h:TR w m g cap t (ml id a (lk true x la ag 0) id 0 (-1) 0 1 fl)):Calls Tryz.prog 126 #[.pointer (some ⟨m,0,none⟩),.int .u8 1] w fun en w'=>en=.returned (.agg #[.int .u8 1,.int .u64 id,.int .u32 0,.int .u64 id,.int .u8 1,.int .u8 0,.int .u64 1,.int .u8 2,.bool (!ag),.bool false,.bool false,.int .u64 0])∧Below w.heap.size w w':=by
 have hb:=(Below.refl w.heap.size w).alloc (Nat.le_refl _) (.cells #[.int .u8 0,.int .u64 0,.int .u32 0,.int .u64 0,.int .u8 0,.int .u8 0,.int .u64 0,.int .u8 0,.bool false,.bool false,.bool false,.int .u64 0] 302)
 have z0:=GB.new 302 w #[.int .u8 0,.int .u64 0,.int .u32 0,.int .u64 0,.int .u8 0,.int .u8 0,.int .u64 0,.int .u8 0,.bool false,.bool false,.bool false,.int .u64 0]
 have T0:=h.later hb
 obtain⟨w0,hw0⟩:∃ z,w.alloc (.cells #[.int .u8 0,.int .u64 0,.int .u32 0,.int .u64 0,.int .u8 0,.int .u8 0,.int .u64 0,.int .u8 0,.bool false,.bool false,.bool false,.int .u64 0] 302)=z:=⟨_,rfl⟩
 rw[hw0] at hb z0 T0
 have c1:=T0.l1
 have R0:Hid (w0.rangeAt g 16 [.int .u32 5,.bool true,.int .u64 x.rt,.int .u32 x.co,.int .u64 x.br,.int .u8 x.po,.int .u8 x.ho,.int .u64 x.ve,.int .u8 x.ro,.bool x.pr,.bool x.ag,.bool x.tp,.int .u64 x.ec,.int .i64 la,.bool ag,.int .i64 0]):=hd0 fun j v hv=>T0.x1 j (by have:=(List.getElem?_eq_some_iff.1 hv).1;exact this) v hv
 have HI2:Hid ((Tryz.prog.info? 214).map (·.size)=some (List.length ([.int .u32 5,.bool true,.int .u64 x.rt,.int .u32 x.co,.int .u64 x.br,.int .u8 x.po,.int .u8 x.ho,.int .u64 x.ve,.int .u8 x.ro,.bool x.pr,.bool x.ag,.bool x.tp,.int .u64 x.ec,.int .i64 la,.bool ag,.int .i64 0]:List Value))):=hd0 (by kernel_rfl)
 have HT:=hd0 T0
 have HB:=hd0 hb
 have HZ:=hd0 z0
 have HRO:=hd0 RO
 clear h T0 hb z0 RO
 go_enter Tryz.func126,Tryz.ntmps126
 go_upto_region 1 with fail
 clear hw0
 go_upto_region 2 with((with_reducible refine wpList_load_mid rfl 214 (.tmp 12) rfl g 16 ?hx [.int .u32 5,.bool true,.int .u64 x.rt,.int .u32 x.co,.int .u64 x.br,.int .u8 x.po,.int .u8 x.ho,.int .u64 x.ve,.int .u8 x.ro,.bool x.pr,.bool x.ag,.bool x.tp,.int .u64 x.ec,.int .i64 la,.bool ag,.int .i64 0] _ R0.out Tryz.underlying214 ?hu HI2.out ?_);(case hx=>rfl);(case hu=>rfl))
 clear c1
 have hb1:Below w0.heap.size w0 (w0.alloc (.cells #[.int .u32 5,.bool true,.int .u64 x.rt,.int .u32 x.co,.int .u64 x.br,.int .u8 x.po,.int .u8 x.ho,.int .u64 x.ve,.int .u8 x.ro,.bool x.pr,.bool x.ag,.bool x.tp,.int .u64 x.ec,.int .i64 la,.bool ag,.int .i64 0] 214)):=bAo _
 have gq:=GB.new 214 w0 #[.int .u32 5,.bool true,.int .u64 x.rt,.int .u32 x.co,.int .u64 x.br,.int .u8 x.po,.int .u8 x.ho,.int .u64 x.ve,.int .u8 x.ro,.bool x.pr,.bool x.ag,.bool x.tp,.int .u64 x.ec,.int .i64 la,.bool ag,.int .i64 0]
 obtain⟨q,hq⟩:∃ z,w0.heap.size=z:=⟨_,rfl⟩
 have T1:=HT.out.later hb1
 have Z1:=HZ.out.later hb1
 have B1:=HB.out.trans (hb1.mono HB.out.size)
 have hlq:w.heap.size<q:=by rw[←hq];exact HZ.out.lt
 rw[hq] at gq ⊢
 obtain⟨w1,hw1⟩:∃ z,w0.alloc (.cells #[.int .u32 5,.bool true,.int .u64 x.rt,.int .u32 x.co,.int .u64 x.br,.int .u8 x.po,.int .u8 x.ho,.int .u64 x.ve,.int .u8 x.ro,.bool x.pr,.bool x.ag,.bool x.tp,.int .u64 x.ec,.int .i64 la,.bool ag,.int .i64 0] 214)=z:=⟨_,rfl⟩
 rw[hw1] at gq T1 Z1 B1 ⊢
 have SX:Hid (∀ W,Below w1.heap.size w1 W→W.cell? ⟨m,5,none⟩=some (.int .u8 0)∧W.cell? ⟨m,6,none⟩=some (.int .u64 1)∧W.cell? ⟨q,15,none⟩=some (.int .i64 0)):=hd0 fun W hW=>⟨(T1.later hW).c5,(T1.later hW).c6,(gq.later hW).c 15 _ rfl⟩
 have OW:Hid (∀ W,Below w1.heap.size w1 W→Calls Tryz.prog 113 #[.pointer (some ⟨m,0,none⟩),.int .u8 1] W fun en w'=>en=.returned (.agg #[.int .u64 id,.int .u32 0,.int .u64 id,.int .u8 1])∧Below W.heap.size W w'):=hd0 fun W hW=>town m g cap t _ 1 W (T1.later hW)
 have HT1:=hd0 T1
 have HZ1:=hd0 Z1
 have HQ1:=hd0 gq
 have HB1:=hd0 B1
 have HLQ:=hd0 (And.intro hlq gq.lt)
 have D1:Below w1.heap.size w1 w1.drew:=(Below.refl _ _).drew
 have HIS:Hid ((Tryz.prog.info? 212).map (·.size)=some (Array.size #[Value.int .u64 id,.int .u32 0,.int .u64 id,.int .u8 1,.int .u8 0,.int .u64 1,.int .u8 3,.bool false,.bool false,.bool false,.int .u64 0])):=hd0 (by kernel_rfl)
 have HOS:Hid ((#[.int .u64 id,.int .u32 0,.int .u64 id,.int .u8 1,.int .u8 0,.int .u64 1,.int .u8 3,.bool false,.bool false,.bool false,.int .u64 0]:Array Value).all (·.oneCell')=true):=hd0 (by kernel_rfl)
 clear gq T1 Z1 B1 hb1 hw1 hq R0 HI2 HT HB HZ hlq
 go_cut [6] (fun s6 wx=>∃ z,s6=.pointer (some ⟨z,0,none⟩)∧Hid (GB 212 wx z #[.int .u64 id,.int .u32 0,.int .u64 id,.int .u8 1,.int .u8 0,.int .u64 1,.int .u8 3,.bool false,.bool false,.bool false,.int .u64 0]∧w1.heap.size≤z∧Below w1.heap.size w1 wx))
 case first =>
  refine wp_region_held_drew (S:=fun W=>W.cell? ⟨m,5,none⟩=some (.int .u8 0)∧W.cell? ⟨m,6,none⟩=some (.int .u64 1)∧W.cell? ⟨q,15,none⟩=some (.int .i64 0)) (by kernel_rfl) (SX.out _ D1) (fun hHeld=>?_)
  refine tkH 0 ?_ ?h ?_
  case h=>(intro w hSw;go_simp;try with_reducible rfl)
  try simp only[Act.put,zz]
  refine tkH 1 ?_ ?h ?_
  case h=>(intro w hSw;go_simp;try with_reducible rfl)
  try simp only[Act.put,zz]
  refine tkH 3 ?_ ?h ?_
  case h=>(intro w hSw;go_simp;try with_reducible rfl)
  try simp only[Act.put,zz]
  refine tkH 4 ?_ ?h ?_
  case h=>(intro w hSw;go_simp;try with_reducible rfl)
  try simp only[Act.put,zz]
  refine tkH 5 ?_ ?h ?_
  case h=>(intro w hSw;go_simp;try with_reducible rfl)
  try simp only[Act.put,zz]
  refine tkH 6 ?_ ?h ?_
  case h=>(intro w hSw;go_simp;try with_reducible rfl)
  try simp only[Act.put,zz]
  refine tkH 7 ?_ ?h ?_
  case h=>(intro w hSw;go_simp;try with_reducible rfl)
  try simp only[Act.put,zz]
  refine tkH 8 ?_ ?h ?_
  case h=>(intro w hSw;go_simp;try with_reducible rfl)
  try simp only[Act.put,zz]
  refine tkH 9 ?_ ?h ?_
  case h=>(intro w hSw;go_simp;try with_reducible rfl)
  try simp only[Act.put,zz]
  refine tkH 10 ?_ ?h ?_
  case h=>(intro w hSw;go_simp;try with_reducible rfl)
  try simp only[Act.put,zz]
  refine tkH 11 ?_ ?h ?_
  case h=>(intro w hSw;go_simp;try with_reducible rfl)
  try simp only[Act.put,zz]
  refine tkH 12 ?_ ?h ?_
  case h=>(intro w hSw;go_simp;try with_reducible rfl)
  try simp only[Act.put,zz]
  refine tkH 13 ?_ ?h ?_
  case h=>(intro w hSw;go_simp;try with_reducible rfl)
  try simp only[Act.put,zz]
  refine wpAnyH_ready (rs:=[2,15]) (by kernel_rfl) (by simp) (AllReadyH.cons rfl (fun K hK=>?_) (AllReadyH.cons rfl (fun K hK=>?_) AllReadyH.nil))
  ·(go_simp;go_at_call 113;(with_reducible refine(OW.out _ D1).mono ?_);rintro en w6 ⟨rfl,hb⟩;have B6:=hd0 (D1.trans hb);refine hK.out _ _ (SX.out _ B6.out) (fun hHeld=>?_);clear hK K hb;try simp only[Act.put,zz])
   refine tkH 14 ?_ ?h ?_
   case h=>(intro w hSw;go_simp;try with_reducible rfl)
   try simp only[Act.put,zz]
   have HZ6:=hd0 (GB.new 212 w6 #[.int .u64 0,.int .u32 0,.int .u64 0,.int .u8 0,.int .u8 0,.int .u64 0,.int .u8 0,.bool false,.bool false,.bool false,.int .u64 0])
   have B7:=hd0 (B6.out.trans (((Below.refl w6.heap.size w6).alloc (Nat.le_refl _) (.cells #[.int .u64 0,.int .u32 0,.int .u64 0,.int .u8 0,.int .u8 0,.int .u64 0,.int .u8 0,.bool false,.bool false,.bool false,.int .u64 0] 212)).mono B6.out.size))
   refine rdH 15 fun K hK=>?_
   (go_simp;refine hK.out _ _ (SX.out _ B7.out) (fun hHeld=>?_);clear hK K;try simp only[Act.put,zz])
   have HL:=hd0 (show w1.heap.size≤w6.heap.size from B6.out.size)
   refine rdH 16 fun K hK=>?_
   (rw[if_pos (by rfl)];refine wp_store_mid 212 (.tmp 6) (.tmp 28) rfl _ 0 #[.int .u64 id,.int .u32 0,.int .u64 id,.int .u8 1,.int .u8 0,.int .u64 1,.int .u8 3,.bool false,.bool false,.bool false,.int .u64 0] rfl (by rfl) (HZ6.out.there (Nat.le_refl _)) HIS.out HOS.out ?_;refine hK.out _ _ (SX.out _ (below_cellsG HL.out _ _ _ B7.out)) (fun hHeld=>?_);clear hK K;try simp only[Act.put,zz])
   refine wpAnyH_done (by kernel_rfl) ?_ _
   go_wp2_with fail
   go_meet
   exact⟨_,rfl,hd0 ⟨HZ6.out.store rfl HOS.out,HL.out,below_cellsG HL.out _ _ _ B7.out⟩⟩
  ·have B6:Hid (Below w1.heap.size w1 (w1.alloc (.cells #[.int .u64 0,.int .u32 0,.int .u64 0,.int .u8 0,.int .u8 0,.int .u64 0,.int .u8 0,.bool false,.bool false,.bool false,.int .u64 0] 212)).drew):=hd0 (((Below.refl w1.heap.size w1).alloc (Nat.le_refl _) (.cells #[.int .u64 0,.int .u32 0,.int .u64 0,.int .u8 0,.int .u8 0,.int .u64 0,.int .u8 0,.bool false,.bool false,.bool false,.int .u64 0] 212)).drew)
   have Z5:GB 212 (w1.alloc (.cells #[.int .u64 0,.int .u32 0,.int .u64 0,.int .u8 0,.int .u8 0,.int .u64 0,.int .u8 0,.bool false,.bool false,.bool false,.int .u64 0] 212)).drew w1.heap.size #[.int .u64 0,.int .u32 0,.int .u64 0,.int .u8 0,.int .u8 0,.int .u64 0,.int .u8 0,.bool false,.bool false,.bool false,.int .u64 0]:=(GB.new 212 w1 #[.int .u64 0,.int .u32 0,.int .u64 0,.int .u8 0,.int .u8 0,.int .u64 0,.int .u8 0,.bool false,.bool false,.bool false,.int .u64 0]).drew
   (go_simp;refine hK.out _ _ (SX.out _ B6.out) (fun hHeld=>?_);clear hK K;try simp only[Act.put,zz])
   refine rdH 2 fun K hK=>?_
   (go_simp;go_at_call 113;(with_reducible refine(OW.out _ B6.out).mono ?_);rintro en w6 ⟨rfl,hb⟩;have B7:=hd0 (B6.out.trans (hb.mono B6.out.size));have HZ6:=hd0 (Z5.later hb);refine hK.out _ _ (SX.out _ B7.out) (fun hHeld=>?_);clear hK K hb;try simp only[Act.put,zz])
   refine tkH 14 ?_ ?h ?_
   case h=>(intro w hSw;go_simp;try with_reducible rfl)
   try simp only[Act.put,zz]
   refine rdH 16 fun K hK=>?_
   (rw[if_pos (by rfl)];refine wp_store_mid 212 (.tmp 6) (.tmp 28) rfl _ 0 #[.int .u64 id,.int .u32 0,.int .u64 id,.int .u8 1,.int .u8 0,.int .u64 1,.int .u8 3,.bool false,.bool false,.bool false,.int .u64 0] rfl (by rfl) (HZ6.out.there (Nat.le_refl _)) HIS.out HOS.out ?_;refine hK.out _ _ (SX.out _ (below_cellsG (Nat.le_refl _) _ _ _ B7.out)) (fun hHeld=>?_);clear hK K;try simp only[Act.put,zz])
   refine wpAnyH_done (by kernel_rfl) ?_ _
   go_wp2_with fail
   go_meet
   exact⟨_,rfl,hd0 ⟨HZ6.out.store rfl HOS.out,Nat.le_refl _,below_cellsG (Nat.le_refl _) _ _ _ B7.out⟩⟩
 case rest =>
  obtain⟨z,rfl,hcut⟩:=hcut
  have hr:=hd0 (HRO.out _ (HT1.out.later hcut.out.2.2))
  go_wp2_with fail
  with_reducible refine hr.out.mono ?_
  rintro en w7 ⟨rfl,hb7⟩
  have gz:=hcut.out.1.later hb7
  have gq:=(HQ1.out.later hcut.out.2.2).later hb7
  have q14:w7.cell? ⟨q,14,none⟩=some (.bool ag):=gq.c 14 _ rfl
  have z6:w7.cell? ⟨z,6,none⟩=some (.int .u8 3):=gz.c 6 _ rfl
  have z7:w7.cell? ⟨z,7,none⟩=some (.bool false):=gz.c 7 _ rfl
  have f6:=gz.fr 6
  have f7:=gz.fr 7
  have g8:GB 212 ((w7.setCell ⟨z,6,none⟩ (.int .u8 2)).setCell ⟨z,7,none⟩ (.bool (!ag))).drew z #[.int .u64 id,.int .u32 0,.int .u64 id,.int .u8 1,.int .u8 0,.int .u64 1,.int .u8 2,.bool (!ag),.bool false,.bool false,.int .u64 0]:=GB.drew ((gz.set 6 _).set 7 _)
  have zs:=(HZ1.out.later hcut.out.2.2).later hb7
  have hle:w.heap.size≤z:=by have:=hcut.out.2.1;have:=HLQ.out;omega
  have hne:z≠w.heap.size:=by have:=hcut.out.2.1;have:=HLQ.out;omega
  have b7:=HB1.out.trans ((hcut.out.2.2.trans (hb7.mono hcut.out.2.2.size)).mono HB1.out.size)
  have z8:GB 302 ((w7.setCell ⟨z,6,none⟩ (.int .u8 2)).setCell ⟨z,7,none⟩ (.bool (!ag))).drew w.heap.size #[.int .u8 0,.int .u64 0,.int .u32 0,.int .u64 0,.int .u8 0,.int .u8 0,.int .u64 0,.int .u8 0,.bool false,.bool false,.bool false,.int .u64 0]:=GB.drew ((zs.other hne _).other hne _)
  have b8:Below w.heap.size w ((w7.setCell ⟨z,6,none⟩ (.int .u8 2)).setCell ⟨z,7,none⟩ (.bool (!ag))).drew:=Below.drew (below_set (below_set b7 hle _) hle _)
  obtain⟨w8,hw8⟩:∃ x,((w7.setCell ⟨z,6,none⟩ (.int .u8 2)).setCell ⟨z,7,none⟩ (.bool (!ag)))=x:=⟨_,rfl⟩
  rw[hw8] at g8 z8 b8
  have G8:=hd0 g8
  have Z8:=hd0 z8
  have B8:=hd0 b8
  have r8:=g8.range
  have HIB:Hid ((Tryz.prog.info? 212).map (·.size)=some (List.length ([.int .u64 id,.int .u32 0,.int .u64 id,.int .u8 1,.int .u8 0,.int .u64 1,.int .u8 2,.bool (!ag),.bool false,.bool false,.int .u64 0]:List Value))):=hd0 (by kernel_rfl)
  have HIT:Hid ((Tryz.prog.info? 302).map (·.size)=some (Array.size #[Value.int .u8 1,.int .u64 id,.int .u32 0,.int .u64 id,.int .u8 1,.int .u8 0,.int .u64 1,.int .u8 2,.bool (!ag),.bool false,.bool false,.int .u64 0])):=hd0 (by kernel_rfl)
  have HOT:Hid ((#[.int .u8 1,.int .u64 id,.int .u32 0,.int .u64 id,.int .u8 1,.int .u8 0,.int .u64 1,.int .u8 2,.bool (!ag),.bool false,.bool false,.int .u64 0]:Array Value).all (·.oneCell')=true):=hd0 (by cases ag <;> kernel_rfl)
  have TH8:Hid (w8.drew.there w.heap.size 0 (Array.size #[Value.int .u8 1,.int .u64 id,.int .u32 0,.int .u64 id,.int .u8 1,.int .u8 0,.int .u64 1,.int .u8 2,.bool (!ag),.bool false,.bool false,.int .u64 0])):=hd0 (z8.there (Nat.le_refl _))
  clear g8 z8 b8 zs b7
  go_upto_region 8 with(go_region_with (fail))
  all_goals
   go_wp2_with (first
    |((with_reducible refine wpList_load_mid rfl 212 (.tmp 6) rfl z 0 ?hx [.int .u64 id,.int .u32 0,.int .u64 id,.int .u8 1,.int .u8 0,.int .u64 1,.int .u8 2,.bool (!ag),.bool false,.bool false,.int .u64 0] _ r8 Tryz.underlying212 ?hu HIB.out ?_);(case hx=>rfl);(case hu=>rfl))
    |((with_reducible refine wpList_store_mid rfl 302 (.tmp 4) (.tmp 49) rfl w.heap.size 0 #[Value.int .u8 1,.int .u64 id,.int .u32 0,.int .u64 id,.int .u8 1,.int .u8 0,.int .u64 1,.int .u8 2,.bool (!ag),.bool false,.bool false,.int .u64 0] ?hx ?hy TH8.out HIT.out HOT.out ?_);(case hx=>rfl);(case hy=>rfl)))
   exact bodyPost_ret (v:=.agg #[.int .u8 1,.int .u64 id,.int .u32 0,.int .u64 id,.int .u8 1,.int .u8 0,.int .u64 1,.int .u8 2,.bool (!ag),.bool false,.bool false,.int .u64 0]) (res_one (p:=4) (d:=_) rfl rfl Tryz.underlying302 _ _ w.heap.size _ rfl (Z8.out.store rfl HOT.out) (by kernel_rfl)) rfl ⟨rfl,below_cellsG (Nat.le_refl _) _ _ _ B8.out⟩
theorem twordB (m g cap:Nat)(t:List Value)(a p:Bool)(la sp fl:Int)(hs:0<sp)(RO:∀ W,TR W m g cap t (ml 32 a (lk true (wD 16 p) la false sp) 16 5 1 1 2 fl)→Calls Tryz.prog 78 #[.pointer (some ⟨m,0,none⟩),.int .u8 1] W fun en w'=>en=.returned (.int .u8 1)∧Below W.heap.size W w')(w:World)(h:TR w m g cap t (ml 32 a (lk true (wD 16 p) la false sp) 16 5 1 1 2 fl)):Calls Tryz.prog 126 #[.pointer (some ⟨m,0,none⟩),.int .u8 1] w fun en w'=>en=.returned (.agg #[.int .u8 1,.int .u64 16,.int .u32 5,.int .u64 32,.int .u8 1,.int .u8 1,.int .u64 2,.int .u8 1,.bool false,.bool true,.bool true,.int .u64 1])∧Below w.heap.size w w':=by
 have ds:decide (0<sp)=true:=decide_eq_true hs
 have hb:=(Below.refl w.heap.size w).alloc (Nat.le_refl _) (.cells #[.int .u8 0,.int .u64 0,.int .u32 0,.int .u64 0,.int .u8 0,.int .u8 0,.int .u64 0,.int .u8 0,.bool false,.bool false,.bool false,.int .u64 0] 302)
 have z0:=GB.new 302 w #[.int .u8 0,.int .u64 0,.int .u32 0,.int .u64 0,.int .u8 0,.int .u8 0,.int .u64 0,.int .u8 0,.bool false,.bool false,.bool false,.int .u64 0]
 have T0:=h.later hb
 obtain⟨w0,hw0⟩:∃ z,w.alloc (.cells #[.int .u8 0,.int .u64 0,.int .u32 0,.int .u64 0,.int .u8 0,.int .u8 0,.int .u64 0,.int .u8 0,.bool false,.bool false,.bool false,.int .u64 0] 302)=z:=⟨_,rfl⟩
 rw[hw0] at hb z0 T0
 have c1:=T0.l1
 have R0:Hid (w0.rangeAt g 16 [.int .u32 5,.bool true,.int .u64 16,.int .u32 0,.int .u64 16,.int .u8 1,.int .u8 0,.int .u64 1,.int .u8 2,.bool p,.bool false,.bool false,.int .u64 0,.int .i64 la,.bool false,.int .i64 sp]):=hd0 fun j v hv=>T0.x1 j (by have:=(List.getElem?_eq_some_iff.1 hv).1;exact this) v hv
 have HI2:Hid ((Tryz.prog.info? 214).map (·.size)=some (List.length ([.int .u32 5,.bool true,.int .u64 16,.int .u32 0,.int .u64 16,.int .u8 1,.int .u8 0,.int .u64 1,.int .u8 2,.bool p,.bool false,.bool false,.int .u64 0,.int .i64 la,.bool false,.int .i64 sp]:List Value))):=hd0 (by kernel_rfl)
 have HT:=hd0 T0
 have HB:=hd0 hb
 have HZ:=hd0 z0
 have HRO:=hd0 RO
 clear h T0 hb z0 RO
 go_enter Tryz.func126,Tryz.ntmps126
 go_upto_region 1 with fail
 clear hw0
 go_upto_region 2 with((with_reducible refine wpList_load_mid rfl 214 (.tmp 12) rfl g 16 ?hx [.int .u32 5,.bool true,.int .u64 16,.int .u32 0,.int .u64 16,.int .u8 1,.int .u8 0,.int .u64 1,.int .u8 2,.bool p,.bool false,.bool false,.int .u64 0,.int .i64 la,.bool false,.int .i64 sp] _ R0.out Tryz.underlying214 ?hu HI2.out ?_);(case hx=>rfl);(case hu=>rfl))
 clear c1
 have hb1:Below w0.heap.size w0 (w0.alloc (.cells #[.int .u32 5,.bool true,.int .u64 16,.int .u32 0,.int .u64 16,.int .u8 1,.int .u8 0,.int .u64 1,.int .u8 2,.bool p,.bool false,.bool false,.int .u64 0,.int .i64 la,.bool false,.int .i64 sp] 214)):=bAo _
 have gq:=GB.new 214 w0 #[.int .u32 5,.bool true,.int .u64 16,.int .u32 0,.int .u64 16,.int .u8 1,.int .u8 0,.int .u64 1,.int .u8 2,.bool p,.bool false,.bool false,.int .u64 0,.int .i64 la,.bool false,.int .i64 sp]
 obtain⟨q,hq⟩:∃ z,w0.heap.size=z:=⟨_,rfl⟩
 have T1:=HT.out.later hb1
 have Z1:=HZ.out.later hb1
 have B1:=HB.out.trans (hb1.mono HB.out.size)
 have hlq:w.heap.size<q:=by rw[←hq];exact HZ.out.lt
 rw[hq] at gq ⊢
 obtain⟨w1,hw1⟩:∃ z,w0.alloc (.cells #[.int .u32 5,.bool true,.int .u64 16,.int .u32 0,.int .u64 16,.int .u8 1,.int .u8 0,.int .u64 1,.int .u8 2,.bool p,.bool false,.bool false,.int .u64 0,.int .i64 la,.bool false,.int .i64 sp] 214)=z:=⟨_,rfl⟩
 rw[hw1] at gq T1 Z1 B1 ⊢
 have SX:Hid (∀ W,Below w1.heap.size w1 W→W.cell? ⟨m,5,none⟩=some (.int .u8 1)∧W.cell? ⟨m,6,none⟩=some (.int .u64 2)∧W.cell? ⟨q,15,none⟩=some (.int .i64 sp)):=hd0 fun W hW=>⟨(T1.later hW).c5,(T1.later hW).c6,(gq.later hW).c 15 _ rfl⟩
 have OW:Hid (∀ W,Below w1.heap.size w1 W→Calls Tryz.prog 113 #[.pointer (some ⟨m,0,none⟩),.int .u8 1] W fun en w'=>en=.returned (.agg #[.int .u64 16,.int .u32 5,.int .u64 32,.int .u8 1])∧Below W.heap.size W w'):=hd0 fun W hW=>town m g cap t _ 1 W (T1.later hW)
 have HT1:=hd0 T1
 have HZ1:=hd0 Z1
 have HQ1:=hd0 gq
 have HB1:=hd0 B1
 have HLQ:=hd0 (And.intro hlq gq.lt)
 have D1:Below w1.heap.size w1 w1.drew:=(Below.refl _ _).drew
 have HIS:Hid ((Tryz.prog.info? 212).map (·.size)=some (Array.size #[Value.int .u64 16,.int .u32 5,.int .u64 32,.int .u8 1,.int .u8 1,.int .u64 2,.int .u8 3,.bool false,.bool false,.bool true,.int .u64 0])):=hd0 (by kernel_rfl)
 have HOS:Hid ((#[.int .u64 16,.int .u32 5,.int .u64 32,.int .u8 1,.int .u8 1,.int .u64 2,.int .u8 3,.bool false,.bool false,.bool true,.int .u64 0]:Array Value).all (·.oneCell')=true):=hd0 (by kernel_rfl)
 clear gq T1 Z1 B1 hb1 hw1 hq R0 HI2 HT HB HZ hlq
 go_cut [6] (fun s6 wx=>∃ z,s6=.pointer (some ⟨z,0,none⟩)∧Hid (GB 212 wx z #[.int .u64 16,.int .u32 5,.int .u64 32,.int .u8 1,.int .u8 1,.int .u64 2,.int .u8 3,.bool false,.bool false,.bool true,.int .u64 0]∧w1.heap.size≤z∧Below w1.heap.size w1 wx))
 case first =>
  refine wp_region_held_drew (S:=fun W=>W.cell? ⟨m,5,none⟩=some (.int .u8 1)∧W.cell? ⟨m,6,none⟩=some (.int .u64 2)∧W.cell? ⟨q,15,none⟩=some (.int .i64 sp)) (by kernel_rfl) (SX.out _ D1) (fun hHeld=>?_)
  refine tkH 0 ?_ ?h ?_
  case h=>(intro w hSw;go_simp;try with_reducible rfl)
  try simp only[Act.put,zz]
  refine tkH 1 ?_ ?h ?_
  case h=>(intro w hSw;go_simp;try with_reducible rfl)
  try simp only[Act.put,zz]
  refine tkH 3 ?_ ?h ?_
  case h=>(intro w hSw;go_simp;try with_reducible rfl)
  try simp only[Act.put,zz]
  refine tkH 4 ?_ ?h ?_
  case h=>(intro w hSw;go_simp;try with_reducible rfl)
  try simp only[Act.put,zz]
  refine tkH 5 ?_ ?h ?_
  case h=>(intro w hSw;go_simp;try with_reducible rfl)
  try simp only[Act.put,zz]
  refine tkH 6 ?_ ?h ?_
  case h=>(intro w hSw;go_simp;try with_reducible rfl)
  try simp only[Act.put,zz]
  refine tkH 7 ?_ ?h ?_
  case h=>(intro w hSw;go_simp;try with_reducible rfl)
  try simp only[Act.put,zz]
  refine tkH 8 ?_ ?h ?_
  case h=>(intro w hSw;go_simp;try with_reducible rfl)
  try simp only[Act.put,zz]
  refine tkH 9 ?_ ?h ?_
  case h=>(intro w hSw;go_simp;try with_reducible rfl)
  try simp only[Act.put,zz]
  refine tkH 10 ?_ ?h ?_
  case h=>(intro w hSw;go_simp;try with_reducible rfl)
  try simp only[Act.put,zz]
  refine tkH 11 ?_ ?h ?_
  case h=>(intro w hSw;go_simp;try with_reducible rfl)
  try simp only[Act.put,zz]
  refine tkH 12 ?_ ?h ?_
  case h=>(intro w hSw;go_simp;try with_reducible rfl)
  try simp only[Act.put,zz]
  refine tkH 13 ?_ ?h ?_
  case h=>(intro w hSw;go_simp;try with_reducible rfl)
  try simp only[Act.put,zz]
  refine wpAnyH_ready (rs:=[2,15]) (by kernel_rfl) (by simp) (AllReadyH.cons rfl (fun K hK=>?_) (AllReadyH.cons rfl (fun K hK=>?_) AllReadyH.nil))
  ·(go_simp;go_at_call 113;(with_reducible refine(OW.out _ D1).mono ?_);rintro en w6 ⟨rfl,hb⟩;have B6:=hd0 (D1.trans hb);refine hK.out _ _ (SX.out _ B6.out) (fun hHeld=>?_);clear hK K hb;try simp only[Act.put,zz])
   refine tkH 14 ?_ ?h ?_
   case h=>(intro w hSw;go_simp;try with_reducible rfl)
   try simp only[Act.put,zz]
   have HZ6:=hd0 (GB.new 212 w6 #[.int .u64 0,.int .u32 0,.int .u64 0,.int .u8 0,.int .u8 0,.int .u64 0,.int .u8 0,.bool false,.bool false,.bool false,.int .u64 0])
   have B7:=hd0 (B6.out.trans (((Below.refl w6.heap.size w6).alloc (Nat.le_refl _) (.cells #[.int .u64 0,.int .u32 0,.int .u64 0,.int .u8 0,.int .u8 0,.int .u64 0,.int .u8 0,.bool false,.bool false,.bool false,.int .u64 0] 212)).mono B6.out.size))
   refine rdH 15 fun K hK=>?_
   (go_simp;refine hK.out _ _ (SX.out _ B7.out) (fun hHeld=>?_);clear hK K;try simp only[Act.put,zz])
   have HL:=hd0 (show w1.heap.size≤w6.heap.size from B6.out.size)
   refine rdH 16 fun K hK=>?_
   (rw[if_pos (by rfl)];refine wp_store_mid 212 (.tmp 6) (.tmp 28) rfl _ 0 #[.int .u64 16,.int .u32 5,.int .u64 32,.int .u8 1,.int .u8 1,.int .u64 2,.int .u8 3,.bool false,.bool false,.bool true,.int .u64 0] rfl (by rfl) (HZ6.out.there (Nat.le_refl _)) HIS.out HOS.out ?_;refine hK.out _ _ (SX.out _ (below_cellsG HL.out _ _ _ B7.out)) (fun hHeld=>?_);clear hK K;try simp only[Act.put,zz])
   refine wpAnyH_done (by kernel_rfl) ?_ _
   go_wp2_with fail
   go_meet
   exact⟨_,rfl,hd0 ⟨HZ6.out.store rfl HOS.out,HL.out,below_cellsG HL.out _ _ _ B7.out⟩⟩
  ·have B6:Hid (Below w1.heap.size w1 (w1.alloc (.cells #[.int .u64 0,.int .u32 0,.int .u64 0,.int .u8 0,.int .u8 0,.int .u64 0,.int .u8 0,.bool false,.bool false,.bool false,.int .u64 0] 212)).drew):=hd0 (((Below.refl w1.heap.size w1).alloc (Nat.le_refl _) (.cells #[.int .u64 0,.int .u32 0,.int .u64 0,.int .u8 0,.int .u8 0,.int .u64 0,.int .u8 0,.bool false,.bool false,.bool false,.int .u64 0] 212)).drew)
   have Z5:GB 212 (w1.alloc (.cells #[.int .u64 0,.int .u32 0,.int .u64 0,.int .u8 0,.int .u8 0,.int .u64 0,.int .u8 0,.bool false,.bool false,.bool false,.int .u64 0] 212)).drew w1.heap.size #[.int .u64 0,.int .u32 0,.int .u64 0,.int .u8 0,.int .u8 0,.int .u64 0,.int .u8 0,.bool false,.bool false,.bool false,.int .u64 0]:=(GB.new 212 w1 #[.int .u64 0,.int .u32 0,.int .u64 0,.int .u8 0,.int .u8 0,.int .u64 0,.int .u8 0,.bool false,.bool false,.bool false,.int .u64 0]).drew
   (go_simp;refine hK.out _ _ (SX.out _ B6.out) (fun hHeld=>?_);clear hK K;try simp only[Act.put,zz])
   refine rdH 2 fun K hK=>?_
   (go_simp;go_at_call 113;(with_reducible refine(OW.out _ B6.out).mono ?_);rintro en w6 ⟨rfl,hb⟩;have B7:=hd0 (B6.out.trans (hb.mono B6.out.size));have HZ6:=hd0 (Z5.later hb);refine hK.out _ _ (SX.out _ B7.out) (fun hHeld=>?_);clear hK K hb;try simp only[Act.put,zz])
   refine tkH 14 ?_ ?h ?_
   case h=>(intro w hSw;go_simp;try with_reducible rfl)
   try simp only[Act.put,zz]
   refine rdH 16 fun K hK=>?_
   (rw[if_pos (by rfl)];refine wp_store_mid 212 (.tmp 6) (.tmp 28) rfl _ 0 #[.int .u64 16,.int .u32 5,.int .u64 32,.int .u8 1,.int .u8 1,.int .u64 2,.int .u8 3,.bool false,.bool false,.bool true,.int .u64 0] rfl (by rfl) (HZ6.out.there (Nat.le_refl _)) HIS.out HOS.out ?_;refine hK.out _ _ (SX.out _ (below_cellsG (Nat.le_refl _) _ _ _ B7.out)) (fun hHeld=>?_);clear hK K;try simp only[Act.put,zz])
   refine wpAnyH_done (by kernel_rfl) ?_ _
   go_wp2_with fail
   go_meet
   exact⟨_,rfl,hd0 ⟨HZ6.out.store rfl HOS.out,Nat.le_refl _,below_cellsG (Nat.le_refl _) _ _ _ B7.out⟩⟩
 case rest =>
  obtain⟨z,rfl,hcut⟩:=hcut
  have hr:=hd0 (HRO.out _ (HT1.out.later hcut.out.2.2))
  go_wp2_with fail
  with_reducible refine hr.out.mono ?_
  rintro en w7 ⟨rfl,hb7⟩
  have gz:=hcut.out.1.later hb7
  have gq:=(HQ1.out.later hcut.out.2.2).later hb7
  have q7:w7.cell? ⟨q,7,none⟩=some (.int .u64 1):=gq.c 7 _ rfl
  have z6:w7.cell? ⟨z,6,none⟩=some (.int .u8 3):=gz.c 6 _ rfl
  have z8:w7.cell? ⟨z,8,none⟩=some (.bool false):=gz.c 8 _ rfl
  have z10:w7.cell? ⟨z,10,none⟩=some (.int .u64 0):=gz.c 10 _ rfl
  have f6:=gz.fr 6
  have f8:=gz.fr 8
  have f10:=gz.fr 10
  have g8:GB 212 (((w7.setCell ⟨z,6,none⟩ (.int .u8 1)).setCell ⟨z,8,none⟩ (.bool true)).setCell ⟨z,10,none⟩ (.int .u64 1)).drew z #[.int .u64 16,.int .u32 5,.int .u64 32,.int .u8 1,.int .u8 1,.int .u64 2,.int .u8 1,.bool false,.bool true,.bool true,.int .u64 1]:=GB.drew (((gz.set 6 _).set 8 _).set 10 _)
  have zs:=(HZ1.out.later hcut.out.2.2).later hb7
  have hle:w.heap.size≤z:=by have:=hcut.out.2.1;have:=HLQ.out;omega
  have hne:z≠w.heap.size:=by have:=hcut.out.2.1;have:=HLQ.out;omega
  have b7:=HB1.out.trans ((hcut.out.2.2.trans (hb7.mono hcut.out.2.2.size)).mono HB1.out.size)
  have z8:GB 302 (((w7.setCell ⟨z,6,none⟩ (.int .u8 1)).setCell ⟨z,8,none⟩ (.bool true)).setCell ⟨z,10,none⟩ (.int .u64 1)).drew w.heap.size #[.int .u8 0,.int .u64 0,.int .u32 0,.int .u64 0,.int .u8 0,.int .u8 0,.int .u64 0,.int .u8 0,.bool false,.bool false,.bool false,.int .u64 0]:=GB.drew (((zs.other hne _).other hne _).other hne _)
  have b8:Below w.heap.size w (((w7.setCell ⟨z,6,none⟩ (.int .u8 1)).setCell ⟨z,8,none⟩ (.bool true)).setCell ⟨z,10,none⟩ (.int .u64 1)).drew:=Below.drew (below_set (below_set (below_set b7 hle _) hle _) hle _)
  obtain⟨w8,hw8⟩:∃ x,(((w7.setCell ⟨z,6,none⟩ (.int .u8 1)).setCell ⟨z,8,none⟩ (.bool true)).setCell ⟨z,10,none⟩ (.int .u64 1))=x:=⟨_,rfl⟩
  rw[hw8] at g8 z8 b8
  have G8:=hd0 g8
  have Z8:=hd0 z8
  have B8:=hd0 b8
  have r8:=g8.range
  have HIB:Hid ((Tryz.prog.info? 212).map (·.size)=some (List.length ([.int .u64 16,.int .u32 5,.int .u64 32,.int .u8 1,.int .u8 1,.int .u64 2,.int .u8 1,.bool false,.bool true,.bool true,.int .u64 1]:List Value))):=hd0 (by kernel_rfl)
  have HIT:Hid ((Tryz.prog.info? 302).map (·.size)=some (Array.size #[Value.int .u8 1,.int .u64 16,.int .u32 5,.int .u64 32,.int .u8 1,.int .u8 1,.int .u64 2,.int .u8 1,.bool false,.bool true,.bool true,.int .u64 1])):=hd0 (by kernel_rfl)
  have HOT:Hid ((#[.int .u8 1,.int .u64 16,.int .u32 5,.int .u64 32,.int .u8 1,.int .u8 1,.int .u64 2,.int .u8 1,.bool false,.bool true,.bool true,.int .u64 1]:Array Value).all (·.oneCell')=true):=hd0 (by kernel_rfl)
  have TH8:Hid (w8.drew.there w.heap.size 0 (Array.size #[Value.int .u8 1,.int .u64 16,.int .u32 5,.int .u64 32,.int .u8 1,.int .u8 1,.int .u64 2,.int .u8 1,.bool false,.bool true,.bool true,.int .u64 1])):=hd0 (z8.there (Nat.le_refl _))
  clear g8 z8 b8 zs b7
  go_upto_region 8 with(go_region_with (fail))
  all_goals
   go_wp2_with (first
    |((with_reducible refine wpList_load_mid rfl 212 (.tmp 6) rfl z 0 ?hx [.int .u64 16,.int .u32 5,.int .u64 32,.int .u8 1,.int .u8 1,.int .u64 2,.int .u8 1,.bool false,.bool true,.bool true,.int .u64 1] _ r8 Tryz.underlying212 ?hu HIB.out ?_);(case hx=>rfl);(case hu=>rfl))
    |((with_reducible refine wpList_store_mid rfl 302 (.tmp 4) (.tmp 49) rfl w.heap.size 0 #[Value.int .u8 1,.int .u64 16,.int .u32 5,.int .u64 32,.int .u8 1,.int .u8 1,.int .u64 2,.int .u8 1,.bool false,.bool true,.bool true,.int .u64 1] ?hx ?hy TH8.out HIT.out HOT.out ?_);(case hx=>rfl);(case hy=>rfl)))
   exact bodyPost_ret (v:=.agg #[.int .u8 1,.int .u64 16,.int .u32 5,.int .u64 32,.int .u8 1,.int .u8 1,.int .u64 2,.int .u8 1,.bool false,.bool true,.bool true,.int .u64 1]) (res_one (p:=4) (d:=_) rfl rfl Tryz.underlying302 _ _ w.heap.size _ rfl (Z8.out.store rfl HOT.out) (by kernel_rfl)) rfl ⟨rfl,below_cellsG (Nat.le_refl _) _ _ _ B8.out⟩
end Go.Proofs.YtghaobakpdninaaGreatDoor
