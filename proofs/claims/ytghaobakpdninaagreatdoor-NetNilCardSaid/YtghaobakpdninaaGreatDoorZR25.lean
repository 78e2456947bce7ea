/- ZR25 -/
import Derived.Test.YtghaobakpdninaaGreatDoorZR24
set_option linter.unusedVariables false
set_option linter.unusedSimpArgs false
set_option maxRecDepth 100000
set_option maxHeartbeats 16000000
namespace Go.Proofs.YtghaobakpdninaaGreatDoor
open Go.RowKit
theorem routD (p:Int)(A Z:Array Value)(hA:isFr A)(hZ:isFr Z)(r q vm f s:Nat)(o:List Int)(V:List Vn)(v:Value)
  (OUT0:∀ W,RL W r q vm f s 2 o V v→Calls Tryz.prog 253 #[.pointer (some ⟨q,0,none⟩),.int .u8 p,.int .u16 1,.agg A] W fun en w'=>en=.returned (.tuple #[.agg Z,.bool true])∧Below W.heap.size W w') (w:World) (h:RL w r q vm f s 2 o V v) :
  Calls Tryz.prog 193 #[.pointer (some ⟨r,0,none⟩),.int .u8 p,.int .u16 1,.agg A] w fun en w'=>en=.returned (.tuple #[.agg Z,.bool true])∧Below w.heap.size w w':=by
 have OUT:=hd0 OUT0
 have HI:=hd0 hA
 have HIL:=hd0 (frame_infoL hA)
 have HIZ:=hd0 (frame_info hZ)
 have HO1:=hd0 hZ.one
 have HSZ:=hd0 hZ.size
 clear hA hZ OUT0
 have hb:=((Below.refl w.heap.size w).alloc (Nat.le_refl _) (.cells A 264)).alloc (by simp) (.cells #[.int .u8 0,.int .u8 0,.int .u8 0,.int .u8 0,.int .u8 0,.int .u8 0,.int .u8 0,.int .u8 0,.int .u8 0,.int .u8 0,.int .u8 0,.int .u8 0,.bool false,.int .u8 0,.int .u16 0,.int .u16 0,.string { data:=#[] }] 264)
 have g1:GB 264 ((w.alloc (.cells A 264)).alloc (.cells #[.int .u8 0,.int .u8 0,.int .u8 0,.int .u8 0,.int .u8 0,.int .u8 0,.int .u8 0,.int .u8 0,.int .u8 0,.int .u8 0,.int .u8 0,.int .u8 0,.bool false,.int .u8 0,.int .u16 0,.int .u16 0,.string { data:=#[] }] 264)) w.heap.size A:=(GB.new 264 w A).later (bAo _)
 have g2:GB 264 ((w.alloc (.cells A 264)).alloc (.cells #[.int .u8 0,.int .u8 0,.int .u8 0,.int .u8 0,.int .u8 0,.int .u8 0,.int .u8 0,.int .u8 0,.int .u8 0,.int .u8 0,.int .u8 0,.int .u8 0,.bool false,.int .u8 0,.int .u16 0,.int .u16 0,.string { data:=#[] }] 264)) (w.heap.size+1) #[.int .u8 0,.int .u8 0,.int .u8 0,.int .u8 0,.int .u8 0,.int .u8 0,.int .u8 0,.int .u8 0,.int .u8 0,.int .u8 0,.int .u8 0,.int .u8 0,.bool false,.int .u8 0,.int .u16 0,.int .u16 0,.string { data:=#[] }]:=by
  have:=GB.new 264 (w.alloc (.cells A 264)) #[.int .u8 0,.int .u8 0,.int .u8 0,.int .u8 0,.int .u8 0,.int .u8 0,.int .u8 0,.int .u8 0,.int .u8 0,.int .u8 0,.int .u8 0,.int .u8 0,.bool false,.int .u8 0,.int .u16 0,.int .u16 0,.string { data:=#[] }]
  rwa [show(w.alloc (.cells A 264)).heap.size=w.heap.size+1 by simp] at this
 have h0:=h.later hb
 obtain⟨w0,hw0⟩:∃ z,(w.alloc (.cells A 264)).alloc (.cells #[.int .u8 0,.int .u8 0,.int .u8 0,.int .u8 0,.int .u8 0,.int .u8 0,.int .u8 0,.int .u8 0,.int .u8 0,.int .u8 0,.int .u8 0,.int .u8 0,.bool false,.int .u8 0,.int .u16 0,.int .u16 0,.string { data:=#[] }] 264)=z:=⟨_,rfl⟩
 rw[hw0] at hb g1 g2 h0
 have dd:=(Below.refl w0.heap.size w0).drew
 have HB:=hd0 (hb.trans (dd.mono hb.size))
 have HR:=hd0 (h0.later dd)
 have HG:=hd0 (g1.later dd)
 have HZ:=hd0 (g2.later dd)
 clear h hb h0 g1 g2
 have VL:Hid (Calls Tryz.prog 152 #[.pointer (some ⟨r,0,none⟩)] w0.drew fun en w'=>en=.returned (.pointer (some ⟨q,0,none⟩))∧w0.drew=w'):=hd0 ((rvlans_any r _ v _ HR.out.c0 ⟨_,rfl⟩).mono (by rintro e w' ⟨rfl,rfl⟩;exact⟨rfl,rfl⟩))
 go_enter Tryz.func193,Tryz.ntmps193
 go_upto_region 1 with fail
 clear hw0
 refine wp_region_held_drew (S:=fun _=>True) (by kernel_rfl) trivial (fun hHeld=>?_)
 refine tkH 0 ?_ ?h ?_
 case h=>(intro w hSw;go_simp;try with_reducible rfl)
 try simp only[Act.put,zz]
 refine tkH 2 ?_ ?h ?_
 case h=>(intro w hSw;go_simp;try with_reducible rfl)
 try simp only[Act.put,zz]
 refine tkH 3 ?_ ?h ?_
 case h=>(intro w hSw;go_simp;try with_reducible rfl)
 try simp only[Act.put,zz]
 refine wpAnyH_ready (rs:=[1,4]) (by kernel_rfl) (by simp) (AllReadyH.cons rfl (fun K hK=>?_) (AllReadyH.cons rfl (fun K hK=>?_) AllReadyH.nil))
 ·(go_simp;go_at_call 152;(with_reducible refine VL.out.mono ?_);rintro en' wv ⟨rfl,rfl⟩;refine hK.out _ _ trivial (fun hHeld=>?_);clear hK K;try simp only[Act.put,zz])
  refine rdH 4 fun K hK=>?_
  (rw[if_pos (by rfl)];refine wp_load_mid 264 (.tmp 7) rfl w.heap.size 0 rfl A.toList _ HG.out.range Tryz.underlying264 rfl HIL.out ?_;refine hK.out _ _ trivial (fun hHeld=>?_);clear hK K;try simp only[Act.put,zz])
  refine rdH 5 fun K hK=>?_
  (go_simp;go_at_call 253;(with_reducible refine(OUT.out _ HR.out).mono ?_);rintro en' w5 ⟨rfl,hb5⟩;have HZ5:=hd0 (HZ.out.later hb5);have HB5:=hd0 (HB.out.trans (hb5.mono HB.out.size));clear hb5;refine hK.out _ _ trivial (fun hHeld=>?_);clear hK K;try simp only[Act.put,zz])
  refine tkH 6 ?_ ?h ?_
  case h=>(intro w hSw;go_simp;try with_reducible rfl)
  try simp only[Act.put,zz]
  refine tkH 7 ?_ ?h ?_
  case h=>(intro w hSw;go_simp;try with_reducible rfl)
  try simp only[Act.put,zz]
  refine rdH 8 fun K hK=>?_
  (rw[if_pos (by rfl)];refine wp_store_mid 264 (.tmp 8) (.tmp 16) rfl _ 0 Z rfl (by rfl) (HZ5.out.there (by rw[HSZ.out];exact Nat.le_refl _)) HIZ.out HO1.out ?_;refine hK.out _ _ trivial (fun hHeld=>?_);clear hK K;try simp only[Act.put,zz])
  refine tkH 9 ?_ ?h ?_
  case h=>(intro w hSw;go_simp;try with_reducible rfl)
  try simp only[Act.put,zz]
  refine wpAnyH_done (by kernel_rfl) ?_ _
  go_wp2_with fail
  exact bodyPost_ret (v:=.tuple #[.agg Z,.bool true]) (res_two (p:=8) (u:=9) (d:=_) rfl rfl Tryz.underlying264 _ _ (w.heap.size+1) _ rfl (HZ5.out.store (by rw[HSZ.out];rfl) HO1.out) HIZ.out) rfl ⟨rfl,below_cellsG (Nat.le_succ _) _ _ _ HB5.out⟩
 ·(rw[if_pos (by rfl)];refine wp_load_mid 264 (.tmp 7) rfl w.heap.size 0 rfl A.toList _ HG.out.range Tryz.underlying264 rfl HIL.out ?_;refine hK.out _ _ trivial (fun hHeld=>?_);clear hK K;try simp only[Act.put,zz])
  refine rdH 1 fun K hK=>?_
  (go_simp;go_at_call 152;(with_reducible refine VL.out.mono ?_);rintro en' wv ⟨rfl,rfl⟩;refine hK.out _ _ trivial (fun hHeld=>?_);clear hK K;try simp only[Act.put,zz])
  refine rdH 5 fun K hK=>?_
  (go_simp;go_at_call 253;(with_reducible refine(OUT.out _ HR.out).mono ?_);rintro en' w5 ⟨rfl,hb5⟩;have HZ5:=hd0 (HZ.out.later hb5);have HB5:=hd0 (HB.out.trans (hb5.mono HB.out.size));clear hb5;refine hK.out _ _ trivial (fun hHeld=>?_);clear hK K;try simp only[Act.put,zz])
  refine tkH 6 ?_ ?h ?_
  case h=>(intro w hSw;go_simp;try with_reducible rfl)
  try simp only[Act.put,zz]
  refine tkH 7 ?_ ?h ?_
  case h=>(intro w hSw;go_simp;try with_reducible rfl)
  try simp only[Act.put,zz]
  refine rdH 8 fun K hK=>?_
  (rw[if_pos (by rfl)];refine wp_store_mid 264 (.tmp 8) (.tmp 16) rfl _ 0 Z rfl (by rfl) (HZ5.out.there (by rw[HSZ.out];exact Nat.le_refl _)) HIZ.out HO1.out ?_;refine hK.out _ _ trivial (fun hHeld=>?_);clear hK K;try simp only[Act.put,zz])
  refine tkH 9 ?_ ?h ?_
  case h=>(intro w hSw;go_simp;try with_reducible rfl)
  try simp only[Act.put,zz]
  refine wpAnyH_done (by kernel_rfl) ?_ _
  go_wp2_with fail
  exact bodyPost_ret (v:=.tuple #[.agg Z,.bool true]) (res_two (p:=8) (u:=9) (d:=_) rfl rfl Tryz.underlying264 _ _ (w.heap.size+1) _ rfl (HZ5.out.store (by rw[HSZ.out];rfl) HO1.out) HIZ.out) rfl ⟨rfl,below_cellsG (Nat.le_succ _) _ _ _ HB5.out⟩
theorem bwireD (lo hi:Nat)(P:BP)(T:TM)(o:List Int)(V:List Vn)(v:Value)(p:Int)(A Z:Array Value)(d:List UInt8)(hA:isFr A)(hZ:isFr Z)
  (OUT0:∀ W,BN W lo hi P T o V v→Calls Tryz.prog 193 #[.pointer (some ⟨P.r,0,none⟩),.int .u8 p,.int .u16 1,.agg A] W fun en w'=>en=.returned (.tuple #[.agg Z,.bool true])∧Below W.heap.size W w')
  (PUT0:∀ w,Calls Tryz.prog 123 #[.agg Z] w fun en w'=>en=.returned (.tuple #[.string (bs d),.int .i64 0])∧Below w.heap.size w w')
  (w:World) (h:BN w lo hi P T o V v):Calls Tryz.prog 138 #[.pointer (some ⟨P.b,0,none⟩),.int .u8 p,.int .u16 1,.agg A] w fun en w'=>∃ g,en=.returned (.slice (some ⟨g,0,none⟩) 1 1)∧Rw 2 sdC w' (.slice (some ⟨g,0,none⟩) 1 1) [(p,d)]∧w.heap.size≤g∧Below w.heap.size w w':=by
 have OUT:=hd0 OUT0
 have PUT:=hd0 PUT0
 have HIL:=hd0 (frame_infoL hA)
 have HIZ:=hd0 (frame_info hZ)
 have HZL:=hd0 (frame_infoL hZ)
 have HO1:=hd0 hZ.one
 have HSZ:=hd0 hZ.size
 clear hA hZ OUT0 PUT0
 have hb:=(Below.refl w.heap.size w).alloc (Nat.le_refl _) (.cells A 264)
 have g1:=GB.new 264 w A
 have h0:=h.later hb
 obtain⟨w0,hw0⟩:∃ z,w.alloc (.cells A 264)=z:=⟨_,rfl⟩
 rw[hw0] at hb g1 h0
 have HB:=hd0 hb
 have SX:Hid (∀ W,Below w0.heap.size w0 W→GB 264 W w.heap.size A∧W.cell? ⟨P.b,2,none⟩=some (.pointer (some ⟨P.r,0,none⟩))):=hd0 fun W hb=>⟨g1.later hb,(h0.later hb).c2⟩
 have HS:Hid (∀ W,Below w0.heap.size w0 W→BN W lo hi P T o V v):=hd0 fun W hb=>h0.later hb
 have BD:Below w0.heap.size w0 w0.drew:=(Below.refl _ _).drew
 clear h hb g1 h0
 go_enter Tryz.func138,Tryz.ntmps138
 go_upto_region 1 with fail
 clear hw0
 go_cut [9,10] (fun s9 s10 wx=>∃ z,s9=.pointer (some ⟨z,0,none⟩)∧s10=.bool true∧Hid (GB 264 wx z Z∧w.heap.size≤z∧Below w.heap.size w wx))
 case first =>
  refine wp_region_held_drew (S:=fun W=>GB 264 W w.heap.size A∧W.cell? ⟨P.b,2,none⟩=some (.pointer (some ⟨P.r,0,none⟩))) (by kernel_rfl) (SX.out _ BD) (fun hHeld=>?_)
  refine tkH 0 ?_ ?h ?_
  case h=>(intro w hSw;go_simp;try with_reducible rfl)
  try simp only[Act.put,zz]
  refine tkH 1 ?_ ?h ?_
  case h=>(intro w hSw;go_simp;try with_reducible rfl)
  try simp only[Act.put,zz]
  refine tkH 2 ?_ ?h ?_
  case h=>(intro w hSw;go_simp;try with_reducible rfl)
  try simp only[Act.put,zz]
  refine tkH 3 ?_ ?h ?_
  case h=>(intro w hSw;go_simp;try with_reducible rfl)
  try simp only[Act.put,zz]
  refine tkH 4 ?_ ?h ?_
  case h=>(intro w hSw;go_simp;try with_reducible rfl)
  try simp only[Act.put,zz]
  refine tkH 5 ?_ ?h ?_
  case h=>(intro w hSw;go_simp;try with_reducible rfl)
  try simp only[Act.put,zz]
  refine wpAnyH_take (i:=6) (v:=.agg A) rfl (by kernel_rfl) (by kernel_rfl) (by kernel_rfl) (fun _ _ _ h=>h) (Or.inl ⟨by rfl,?hy6⟩) (by assumption) ?_
  case hy6=>(intro W hSw;exact execLoad rfl rfl (hSw.1.loadAt Tryz.underlying264 rfl HIL.out))
  try simp only[Act.put,zz]
  refine wpAnyH_ready (rs:=[7,11]) (by kernel_rfl) (by simp) (AllReadyH.cons rfl (fun K hK=>?_) (AllReadyH.cons rfl (fun K hK=>?_) AllReadyH.nil))
  ·(go_simp;go_at_call 193;(with_reducible refine(OUT.out _ (HS.out _ BD)).mono ?_);rintro en w5 ⟨rfl,hb⟩;have B5:=hd0 (BD.trans hb);refine hK.out _ _ (SX.out _ B5.out) (fun hHeld=>?_);clear hK K hb;try simp only[Act.put,zz])
   refine tkH 8 ?_ ?h ?_
   case h=>(intro w hSw;go_simp;try with_reducible rfl)
   try simp only[Act.put,zz]
   refine tkH 9 ?_ ?h ?_
   case h=>(intro w hSw;go_simp;try with_reducible rfl)
   try simp only[Act.put,zz]
   refine tkH 10 ?_ ?h ?_
   case h=>(intro w hSw;go_simp;try with_reducible rfl)
   try simp only[Act.put,zz]
   have HZ5:=hd0 (GB.new 264 w5 #[.int .u8 0,.int .u8 0,.int .u8 0,.int .u8 0,.int .u8 0,.int .u8 0,.int .u8 0,.int .u8 0,.int .u8 0,.int .u8 0,.int .u8 0,.int .u8 0,.bool false,.int .u8 0,.int .u16 0,.int .u16 0,.string { data:=#[] }])
   have B6:=hd0 (B5.out.trans (((Below.refl w5.heap.size w5).alloc (Nat.le_refl _) (.cells #[.int .u8 0,.int .u8 0,.int .u8 0,.int .u8 0,.int .u8 0,.int .u8 0,.int .u8 0,.int .u8 0,.int .u8 0,.int .u8 0,.int .u8 0,.int .u8 0,.bool false,.int .u8 0,.int .u16 0,.int .u16 0,.string { data:=#[] }] 264)).mono B5.out.size))
   refine rdH 11 fun K hK=>?_
   (go_simp;refine hK.out _ _ (SX.out _ B6.out) (fun hHeld=>?_);clear hK K;try simp only[Act.put,zz])
   have HL:=hd0 (show w0.heap.size≤w5.heap.size from B5.out.size)
   refine rdH 12 fun K hK=>?_
   (rw[if_pos (by rfl)];refine wp_store_mid 264 (.tmp 9) (.tmp 22) rfl _ 0 Z rfl (by rfl) (HZ5.out.there (by rw[HSZ.out];exact Nat.le_refl _)) HIZ.out HO1.out ?_;refine hK.out _ _ (SX.out _ (below_cellsG HL.out _ _ _ B6.out)) (fun hHeld=>?_);clear hK K;try simp only[Act.put,zz])
   refine tkH 13 ?_ ?h ?_
   case h=>(intro w hSw;go_simp;try with_reducible rfl)
   try simp only[Act.put,zz]
   refine wpAnyH_done (by kernel_rfl) ?_ _
   go_wp2_with fail
   go_meet
   exact⟨_,rfl,rfl,hd0 ⟨HZ5.out.store (by rw[HSZ.out];rfl) HO1.out,Nat.le_trans HB.out.size HL.out,HB.out.trans ((below_cellsG HL.out _ _ _ B6.out).mono HB.out.size)⟩⟩
  ·have B6:Hid (Below w0.heap.size w0 (w0.alloc (.cells #[.int .u8 0,.int .u8 0,.int .u8 0,.int .u8 0,.int .u8 0,.int .u8 0,.int .u8 0,.int .u8 0,.int .u8 0,.int .u8 0,.int .u8 0,.int .u8 0,.bool false,.int .u8 0,.int .u16 0,.int .u16 0,.string { data:=#[] }] 264)).drew):=hd0 (((Below.refl w0.heap.size w0).alloc (Nat.le_refl _) (.cells #[.int .u8 0,.int .u8 0,.int .u8 0,.int .u8 0,.int .u8 0,.int .u8 0,.int .u8 0,.int .u8 0,.int .u8 0,.int .u8 0,.int .u8 0,.int .u8 0,.bool false,.int .u8 0,.int .u16 0,.int .u16 0,.string { data:=#[] }] 264)).drew)
   have Z5:GB 264 (w0.alloc (.cells #[.int .u8 0,.int .u8 0,.int .u8 0,.int .u8 0,.int .u8 0,.int .u8 0,.int .u8 0,.int .u8 0,.int .u8 0,.int .u8 0,.int .u8 0,.int .u8 0,.bool false,.int .u8 0,.int .u16 0,.int .u16 0,.string { data:=#[] }] 264)).drew w0.heap.size #[.int .u8 0,.int .u8 0,.int .u8 0,.int .u8 0,.int .u8 0,.int .u8 0,.int .u8 0,.int .u8 0,.int .u8 0,.int .u8 0,.int .u8 0,.int .u8 0,.bool false,.int .u8 0,.int .u16 0,.int .u16 0,.string { data:=#[] }]:=(GB.new 264 w0 #[.int .u8 0,.int .u8 0,.int .u8 0,.int .u8 0,.int .u8 0,.int .u8 0,.int .u8 0,.int .u8 0,.int .u8 0,.int .u8 0,.int .u8 0,.int .u8 0,.bool false,.int .u8 0,.int .u16 0,.int .u16 0,.string { data:=#[] }]).drew
   (go_simp;refine hK.out _ _ (SX.out _ B6.out) (fun hHeld=>?_);clear hK K;try simp only[Act.put,zz])
   refine rdH 7 fun K hK=>?_
   (go_simp;go_at_call 193;(with_reducible refine(OUT.out _ (HS.out _ B6.out)).mono ?_);rintro en w5 ⟨rfl,hb⟩;have B5:=hd0 (B6.out.trans (hb.mono B6.out.size));have HZ5:=hd0 (Z5.later hb);refine hK.out _ _ (SX.out _ B5.out) (fun hHeld=>?_);clear hK K hb;try simp only[Act.put,zz])
   refine tkH 8 ?_ ?h ?_
   case h=>(intro w hSw;go_simp;try with_reducible rfl)
   try simp only[Act.put,zz]
   refine tkH 9 ?_ ?h ?_
   case h=>(intro w hSw;go_simp;try with_reducible rfl)
   try simp only[Act.put,zz]
   refine tkH 10 ?_ ?h ?_
   case h=>(intro w hSw;go_simp;try with_reducible rfl)
   try simp only[Act.put,zz]
   refine rdH 12 fun K hK=>?_
   (rw[if_pos (by rfl)];refine wp_store_mid 264 (.tmp 9) (.tmp 22) rfl _ 0 Z rfl (by rfl) (HZ5.out.there (by rw[HSZ.out];exact Nat.le_refl _)) HIZ.out HO1.out ?_;refine hK.out _ _ (SX.out _ (below_cellsG (Nat.le_refl _) _ _ _ B5.out)) (fun hHeld=>?_);clear hK K;try simp only[Act.put,zz])
   refine tkH 13 ?_ ?h ?_
   case h=>(intro w hSw;go_simp;try with_reducible rfl)
   try simp only[Act.put,zz]
   refine wpAnyH_done (by kernel_rfl) ?_ _
   go_wp2_with fail
   go_meet
   exact⟨_,rfl,rfl,hd0 ⟨HZ5.out.store (by rw[HSZ.out];rfl) HO1.out,HB.out.size,HB.out.trans ((below_cellsG (Nat.le_refl _) _ _ _ B5.out).mono HB.out.size)⟩⟩
 case rest =>
  obtain⟨z,rfl,rfl,hcut⟩:=hcut
  go_wp2_with (first
   |((with_reducible refine wpList_load_mid rfl 264 (.tmp 9) rfl z 0 ?hx Z.toList _ hcut.out.1.range Tryz.underlying264 ?hu HZL.out ?_);(case hx=>rfl);(case hu=>rfl))
   |(go_at_call 123;with_reducible refine(PUT.out _).mono ?_;rintro e w7 ⟨rfl,hb7⟩))
  have hba:=(Below.refl w7.heap.size w7).alloc (Nat.le_refl _) (.cells #[.int .u8 p,.string (bs d)] 257)
  go_ret
  have hbz:=hcut.out.2.2.trans (hb7.mono hcut.out.2.2.size)
  exact⟨_,rfl,(Ow.lit (E:=257) sdC_len w7 0 (p,d) #[.int .u8 p,.string (bs d)] rfl (Nat.zero_le _)).rw sdC_len,hbz.size,hbz.trans (hba.mono hbz.size)⟩
theorem boutD (lo hi:Nat)(P:BP)(T:TM)(o:List Int)(V:List Vn)(v:Value)(p:Int)(A:Array Value)(d:List UInt8)(hA:DFr A)
  (WI0:∀ W,BN W lo hi P T o V v→Calls Tryz.prog 138 #[.pointer (some ⟨P.b,0,none⟩),.int .u8 p,.int .u16 1,.agg A] W fun en w'=>∃ g,en=.returned (.slice (some ⟨g,0,none⟩) 1 1)∧Rw 2 sdC w' (.slice (some ⟨g,0,none⟩) 1 1) [(p,d)]∧W.heap.size≤g∧Below W.heap.size W w')
  (w:World) (h:BN w lo hi P T o V v):Calls Tryz.prog 192 #[.pointer (some ⟨P.b,0,none⟩),.int .u8 p,.int .u16 1,.agg A] w fun en w'=>∃ g,en=.returned (.slice (some ⟨g,0,none⟩) 1 1)∧Rw 2 sdC w' (.slice (some ⟨g,0,none⟩) 1 1) [(p,d)]∧w.heap.size≤g∧Below w.heap.size w w':=by
 have WI:=hd0 WI0
 have CO:=hd0 (cofD hA)
 have HIL:=hd0 (frame_infoL hA.i)
 clear hA WI0
 have hb:=(Below.refl w.heap.size w).alloc (Nat.le_refl _) (.cells A 264)
 have g1:=GB.new 264 w A
 have h0:=h.later hb
 obtain⟨w0,hw0⟩:∃ z,w.alloc (.cells A 264)=z:=⟨_,rfl⟩
 rw[hw0] at hb g1 h0
 have HB:=hd0 hb
 have HS:=hd0 h0
 have r0:=g1.range
 have G1:=hd0 g1
 clear h hb g1 h0
 go_enter Tryz.func192,Tryz.ntmps192
 go_upto_region 1 with fail
 clear hw0
 go_upto_region 12 with(first
  |((with_reducible refine wpList_load_mid rfl 264 (.tmp 7) rfl w.heap.size 0 ?hx A.toList _ r0 Tryz.underlying264 ?hu HIL.out ?_);(case hx=>rfl);(case hu=>rfl))
  |(go_at_call 154;with_reducible refine(CO.out _).mono ?_;rintro e w1 ⟨rfl,hb1⟩))
 have r1:=(G1.out.later hb1).range
 have W1:=hd0 (WI.out w1 (HS.out.later hb1))
 have HB1:=hd0 (HB.out.trans (hb1.mono HB.out.size))
 clear hb1 r0
 go_wp2_with (first
  |((with_reducible refine wpList_load_mid rfl 264 (.tmp 7) rfl w.heap.size 0 ?hx A.toList _ r1 Tryz.underlying264 ?hu HIL.out ?_);(case hx=>rfl);(case hu=>rfl))
  |(go_at_call 138;with_reducible refine W1.out.mono ?_;rintro e w2 ⟨g,rfl,hr,hg,hb2⟩))
 go_ret
 exact⟨_,rfl,hr,Nat.le_trans HB1.out.size hg,HB1.out.trans (hb2.mono HB1.out.size)⟩
theorem goesD (ip sx:Int)(hip:(ip=0∧sx=2)∨(ip=1∧sx=1))(A:Array Value)(hA:DFr A)(r q vm f s:Nat)(o:List Int)(w:World)(h:RL w r q vm f s 2 o [(1,3,1)] (.slice none 0 0)) :
  Calls Tryz.prog 190 #[.pointer (some ⟨r,0,none⟩),.int .i64 ip,.int .u16 1,.agg A,.int .u8 3] w fun en w'=>en=.returned (.int .u8 sx)∧(∃ v',RL w' r q vm f s 2 o [(1,3,1)] v')∧Only f w w':=by
 have LE:Hid (∀ W,FT W f s (.slice none 0 0)→Calls Tryz.prog 250 #[.pointer (some ⟨f,0,none⟩),.int .u16 1,.agg #[.int .u8 2,.int .u8 0,.int .u8 0,.int .u8 0,.int .u8 0,.int .u8 1],.int .u8 ip] W fun en w'=>en=.returned (.tuple #[])∧Only f W w'∧∃ g cap,FT w' f s (.slice (some ⟨g,0,none⟩) 1 cap)∧Calls Tryz.prog 251 #[.pointer (some ⟨f,0,none⟩),.int .u16 1,.agg #[.int .u8 255,.int .u8 255,.int .u8 255,.int .u8 255,.int .u8 255,.int .u8 255]] w' fun en w''=>en=.returned (.tuple #[.int .u8 0,.bool false])∧Below w'.heap.size w' w''):=hd0 fun W hW=>(flearnP ip (hip.imp And.left And.left) f s W hW).mono (by
  rintro e w' ⟨v,rfl,h1,h2,h3⟩
  obtain⟨g,cap,t,rfl,hg,hcp,-⟩:=h2.ne (by decide)
  exact⟨rfl,h3,g,cap,h1,flookP ip f s g cap w' h1 (cellsP ip h2)⟩)
 have RS:Hid (∀ w,Calls Tryz.prog 151 #[.agg #[.int .u8 255,.int .u8 255,.int .u8 255,.int .u8 255,.int .u8 255,.int .u8 255]] w fun en w'=>en=.returned (.bool false)∧Below w.heap.size w w'):=hd0 fun w=>reserved_any 255 255 255 255 255 255 w
 have hb:=(Below.refl w.heap.size w).alloc (Nat.le_refl _) (.cells A 264)
 have g1:=GB.new 264 w A
 have h0:=h.later hb
 have hfl:=h.ft.g.lt
 obtain⟨w0,hw0⟩:∃ z,w.alloc (.cells A 264)=z:=⟨_,rfl⟩
 rw[hw0] at hb g1 h0
 have HB:=hd0 hb
 have HR:=hd0 h0
 have HG:=hd0 g1
 have VL:Hid (Calls Tryz.prog 152 #[.pointer (some ⟨r,0,none⟩)] w0 fun en w'=>en=.returned (.pointer (some ⟨q,0,none⟩))∧w0=w'):=hd0 ((rvlans_any r _ (.slice none 0 0) w0 h0.c0 ⟨q,rfl⟩).mono fun e w' h=>⟨h.1,h.2.symm⟩)
 have BA:Hid (Calls Tryz.prog 88 #[.pointer (some ⟨r,0,none⟩)] w0 fun en w'=>en=.returned (.pointer (some ⟨f,0,none⟩))∧w0=w'):=hd0 ((rbase_any r _ (.slice none 0 0) w0 h0.c1 ⟨f,rfl⟩).mono fun e w' h=>⟨h.1,h.2.symm⟩)
 have c0:w0.cell? ⟨w.heap.size,0,none⟩=some (.int .u8 255):=g1.c 0 _ hA.d.1
 have c1:w0.cell? ⟨w.heap.size,1,none⟩=some (.int .u8 255):=g1.c 1 _ hA.d.2.1
 have c2:w0.cell? ⟨w.heap.size,2,none⟩=some (.int .u8 255):=g1.c 2 _ hA.d.2.2.1
 have c3:w0.cell? ⟨w.heap.size,3,none⟩=some (.int .u8 255):=g1.c 3 _ hA.d.2.2.2.1
 have c4:w0.cell? ⟨w.heap.size,4,none⟩=some (.int .u8 255):=g1.c 4 _ hA.d.2.2.2.2.1
 have c5:w0.cell? ⟨w.heap.size,5,none⟩=some (.int .u8 255):=g1.c 5 _ hA.d.2.2.2.2.2
 have HFL:=hd0 hfl
 have HA:=hd0 hA
 clear h hb g1 h0 hfl hA
 rcases hip with⟨rfl,rfl⟩|⟨rfl,rfl⟩
 all_goals
  go_enter Tryz.func190,Tryz.ntmps190
  go_upto_region 1 with fail
  clear hw0
  go_upto_region 3 with(first
   |(go_at_call 152;with_reducible refine VL.out.mono ?_;rintro e wx ⟨rfl,rfl⟩)
   |(go_at_call 88;with_reducible refine BA.out.mono ?_;rintro e wx ⟨rfl,rfl⟩)
   |(go_at_call 151;with_reducible refine(RS.out _).mono ?_;rintro e w1 ⟨rfl,hb1⟩))
  have HB1:=hd0 (HB.out.trans (hb1.mono HB.out.size))
  have R1:=HR.out.later hb1
  have G1:=HG.out.later hb1
  have HLF:=hd0 HG.out.lt
  clear hb1 c0 c1 c2 c3 c4 c5 VL BA RS HB HR
  have ME:Hid (Calls Tryz.prog 249 #[.pointer (some ⟨q,0,none⟩),.int .u16 1] w1 fun en w'=>en=.returned (.int .u8 3)∧w1=w'):=hd0 (vmembers_any q vm 2 o [(1,3,1)] 1 w1 R1.ts (by decide))
  have c6:w1.cell? ⟨w.heap.size,6,none⟩=some (.int .u8 2):=G1.c 6 _ HA.out.s.1
  have c7:w1.cell? ⟨w.heap.size,7,none⟩=some (.int .u8 0):=G1.c 7 _ HA.out.s.2.1
  have c8:w1.cell? ⟨w.heap.size,8,none⟩=some (.int .u8 0):=G1.c 8 _ HA.out.s.2.2.1
  have c9:w1.cell? ⟨w.heap.size,9,none⟩=some (.int .u8 0):=G1.c 9 _ HA.out.s.2.2.2.1
  have c10:w1.cell? ⟨w.heap.size,10,none⟩=some (.int .u8 0):=G1.c 10 _ HA.out.s.2.2.2.2.1
  have c11:w1.cell? ⟨w.heap.size,11,none⟩=some (.int .u8 1):=G1.c 11 _ HA.out.s.2.2.2.2.2
  have LE1:=hd0 (LE.out w1 R1.ft)
  have R1H:=hd0 R1
  have G1H:=hd0 G1
  clear R1 G1
  go_upto_region 9 with(first
   |(go_at_call 249;with_reducible refine ME.out.mono ?_;rintro e wx ⟨rfl,rfl⟩)
   |(go_at_call 250;with_reducible refine LE1.out.mono ?_;rintro e w2 ⟨rfl,on2,g,cap,ft2,lk2⟩))
  have G2:=G1H.out.only on2 (by have:=HFL.out;omega)
  have d0:w2.cell? ⟨w.heap.size,0,none⟩=some (.int .u8 255):=G2.c 0 _ HA.out.d.1
  have d1:w2.cell? ⟨w.heap.size,1,none⟩=some (.int .u8 255):=G2.c 1 _ HA.out.d.2.1
  have d2:w2.cell? ⟨w.heap.size,2,none⟩=some (.int .u8 255):=G2.c 2 _ HA.out.d.2.2.1
  have d3:w2.cell? ⟨w.heap.size,3,none⟩=some (.int .u8 255):=G2.c 3 _ HA.out.d.2.2.2.1
  have d4:w2.cell? ⟨w.heap.size,4,none⟩=some (.int .u8 255):=G2.c 4 _ HA.out.d.2.2.2.2.1
  have d5:w2.cell? ⟨w.heap.size,5,none⟩=some (.int .u8 255):=G2.c 5 _ HA.out.d.2.2.2.2.2
  have LK:=hd0 lk2
  have R1:=R1H.out
  have HR2:Hid (RL w2 r q vm f s 2 o [(1,3,1)] (.slice (some ⟨g,0,none⟩) 1 cap)):=hd0 ⟨R1.g.only on2 R1.nr.2.2.1,R1.ts.blk (on2.block q R1.ts.tb.lt (by simpa using R1.nr.2.2.2.2.1)) (on2.block vm R1.ts.vm.lt (by simpa using R1.nr.2.2.2.2.2.2.1)),ft2,R1.nr⟩
  have HN2:=hd0 ((below_only HB1.out).trans on2)
  clear lk2 ft2 on2 G2 R1
  go_wp2_with (go_at_call 251;with_reducible refine LK.out.mono ?_;rintro e w3 ⟨rfl,hb3⟩)
  go_ret
  exact⟨rfl,⟨_,HR2.out.later hb3⟩,HN2.out.trans (below_only hb3)⟩
section
open Go.Shelf
attribute [local go_sem] Oper.semAt_some
theorem bforwardsN (lo hi:Nat)(P:BP)(T:TM)(o:List Int)(V:List Vn)(v:Value)
  (TF0:∀ (p:Nat) (b:Bool) (W:World),((p=0∧b=true)∨(p=1∧b=true)∨(2≤p∧p<256∧b=false))→BN W lo hi P T o V v→Calls Tryz.prog 52 #[.pointer (some ⟨P.m,0,none⟩),.int .u8 p] W fun en w'=>en=.returned (.bool b)∧Below W.heap.size W w')
  (w:World) (h:BN w lo hi P T o V v) :
  CallsIn Fence.wide 3 Tryz.prog 191 #[.pointer (some ⟨P.b,0,none⟩)] w fun en w'=>en=.returned (.int .u8 3)∧Below w.heap.size w w':=by
 refine callsIn_of_wp_marks Tryz.func191 rfl trivial ?_ rfl
 simp only[Tryz.ntmps191,List.size_toArray,List.length_cons,List.length_nil,Nat.reduceAdd,Nat.reduceSub,Array.replicate_succ,Array.replicate_zero,List.push_toArray,List.append_toArray,List.nil_append,List.cons_append]
 have HH:=hd0 h
 have TFA:=hd0 TF0
 clear h TF0
 have PO:=ports_any 255
 gi_wp2_with (refine⟨trivial,?_⟩;gi_at_call 189;refine(callsIn_wide.2 (PO _)).mono ?_;rintro e w1 ⟨rfl,rfl⟩)
 have hz3:(((w.alloc (.cells #[.pointer (some ⟨P.b,0,none⟩)] 59)).alloc (.cells #[.int .u8 0] 5)).alloc (.cells #[.int .u8 255] 5)).heap.size=w.heap.size+3:=by simp
 have bA:=(Below.refl w.heap.size w).alloc (Nat.le_refl _) (.cells #[.pointer (some ⟨P.b,0,none⟩)] 59)
 have gA:=GB.new 59 w #[.pointer (some ⟨P.b,0,none⟩)]
 obtain⟨wa,hwa⟩:∃ z,w.alloc (.cells #[.pointer (some ⟨P.b,0,none⟩)] 59)=z:=⟨_,rfl⟩
 have hza:wa.heap.size=w.heap.size+1:=by rw[←hwa];simp
 rw[hwa] at bA gA hz3 ⊢
 have bx0:=GB.new 5 wa #[.int .u8 0]
 have bx:=bx0.later (bAo (.cells #[.int .u8 255] 5))
 have bs:=GB.new 5 (wa.alloc (.cells #[.int .u8 0] 5)) #[.int .u8 255]
 have b3:=((Below.refl wa.heap.size wa).alloc (Nat.le_refl _) (.cells #[.int .u8 0] 5)).alloc (by simp) (.cells #[.int .u8 255] 5)
 rw[show(wa.alloc (.cells #[.int .u8 0] 5)).heap.size=w.heap.size+2 by simp;omega] at bs
 rw[hza] at bx b3
 obtain⟨w3,hw3⟩:∃ z,(wa.alloc (.cells #[.int .u8 0] 5)).alloc (.cells #[.int .u8 255] 5)=z:=⟨_,rfl⟩
 rw[hw3] at bx bs b3 hz3 ⊢
 have hsz:wa.heap.size=w.heap.size+1:=hza
 have BH:=hd0 fun(W:World) (hW:Below (w.heap.size+1) wa W)=>HH.out.later (bA.trans ((show Below wa.heap.size wa W by rw[hsz];exact hW).mono bA.size))
 have CB:=hd0 fun(W:World) (hW:Below (w.heap.size+1) wa W)=>show W.cell? ⟨w.heap.size,0,none⟩=some (.pointer (some ⟨P.b,0,none⟩)) from(gA.later (show Below wa.heap.size wa W by rw[hsz];exact hW)).c 0 _ rfl
 have BW:=hd0 fun(W:World) (hW:Below (w.heap.size+1) wa W)=>bA.trans (hW.mono (Nat.le_succ _))
 have c255:=bs.c 0 _ rfl
 refine wpIn_rangeFunc_ownG rfl (by decide) (gf:=248) (lb:=#[.pointer (some ⟨w.heap.size+2,0,none⟩)]) rfl trivial (enters_of Tryz.func248 (by kernel_rfl) rfl) (portsStops 255 (by decide) (w.heap.size+2) w3 (by omega) c255) kpB_t (kpB_b (by omega)) (Below.refl _ _) (fun _=>rfl)
  (fun pre W=>Boxed W (w.heap.size+1) 5 (.int .u8 (accL pre))∧Below (w.heap.size+1) w3 W)
  (fun _ _ _=>False)
  (OwnFrom.and (Own.from (boxed_own (w.heap.size+1) 5 (fun pre=>.int .u8 (accL pre))) _) (ownFrom_below (by omega) (by omega)))
  (fun _ _ _ _ _ hs _ _=>hs)
  ⟨bx,Below.refl _ _⟩
  (fun p=>{ tmps:=#[.pointer (some ⟨P.b,0,none⟩),.pointer (some ⟨w.heap.size,0,none⟩),.int .u8 0,.pointer (some ⟨w.heap.size+1,0,none⟩),.int .u8 (p.1:Int),.func (.func 248) #[] #[.pointer (some ⟨w.heap.size+2,0,none⟩)],.int .u8 (p.1:Int),undef,undef,undef,undef,undef,undef,undef,undef,undef,undef,undef],defers:=[] }) ?assign ?body ?done ?stop
 case assign =>
  intro l x W K hK
  gi_wp2
  exact hK
 case body =>
  rintro l pre ⟨p,hp8,hpb⟩ W ⟨hv,hB3⟩ hlt
  have hB:=b3.trans hB3
  have cb:=CB.out W hB
  have hc:=hv.cell
  have hf:=hv.frozen
  have B0:=BH.out W hB
  have c1:=B0.c1
  have hs3:w.heap.size+3≤W.heap.size:=by have:=hB3.size;omega
  have hw3z:w.heap.size+3≤w3.heap.size:=by omega
  have F0:Hid (∀ X,Below W.heap.size W X→KeepsFrom w3.heap.size W X∧KpB (w.heap.size+2) W X∧Boxed X (w.heap.size+1) 5 (.int .u8 (accL pre))∧Below (w.heap.size+1) w3 X):=hd0 fun X hX=>⟨keepsFrom_below hX,⟨hX.cell (p:=⟨w.heap.size+2,0,none⟩) (by show w.heap.size+2<W.heap.size;omega),hX.size⟩,(show GB 5 W (w.heap.size+1) #[.int .u8 (accL pre)] from hv).later hX,hB3.trans (hX.mono (by omega))⟩
  have FS:Hid (∀ X,Below W.heap.size W X→∀ y:Int,KeepsFrom w3.heap.size W (X.setCell ⟨w.heap.size+1,0,none⟩ (.int .u8 y))∧KpB (w.heap.size+2) W (X.setCell ⟨w.heap.size+1,0,none⟩ (.int .u8 y))∧Boxed (X.setCell ⟨w.heap.size+1,0,none⟩ (.int .u8 y)) (w.heap.size+1) 5 (.int .u8 y)∧Below (w.heap.size+1) w3 (X.setCell ⟨w.heap.size+1,0,none⟩ (.int .u8 y))):=hd0 fun X hX y=>by
   obtain⟨k1,k2,k3,k4⟩:=F0.out X hX
   exact⟨k1.trans ((KeepsOthers.setCell X ⟨w.heap.size+1,0,none⟩ _).from w3.heap.size),kpB_t k2 ⟨by unfold World.cell?;rw[Below.heap_setCell _ _ _ _ (by simp)],by simp[World.setCell]⟩,(show GB 5 X (w.heap.size+1) #[.int .u8 (accL pre)] from k3).set 0 _,below_set k4 (Nat.le_refl _) _⟩
  have HS:=hd0 (accL_snoc pre ⟨p,hp8,hpb⟩)
  have CX:Hid (∀ X,Below W.heap.size W X→X.cell? ⟨w.heap.size+1,0,none⟩=some (.int .u8 (accL pre))∧X.frozen? ⟨w.heap.size+1,0,none⟩=false):=hd0 fun X hX=>⟨(F0.out X hX).2.2.1.cell,(F0.out X hX).2.2.1.frozen⟩
  clear hv hB hB3
  dsimp only
  by_cases h0:p=0
  ·subst h0
   have TF:=hd0 (TFA.out 0 true W (Or.inl ⟨rfl,rfl⟩) B0)
   clear B0
   gi_wp2_with (refine⟨trivial,?_⟩;gi_at_call 52;refine(CallsIn.inRound l (callsIn_wide.2 TF.out)).mono ?_;rintro e wx ⟨rfl,hbx⟩;obtain⟨hcx,hfx⟩:=CX.out wx hbx)
   obtain⟨k1,k2,k3,k4⟩:=FS.out wx hbx _
   refine⟨k1,k2,?_,k4⟩
   rw[HS.out]
   exact k3
  ·by_cases h1:p=1
   ·subst h1
    have TF:=hd0 (TFA.out 1 true W (Or.inr (Or.inl ⟨rfl,rfl⟩)) B0)
    clear B0
    gi_wp2_with (refine⟨trivial,?_⟩;gi_at_call 52;refine(CallsIn.inRound l (callsIn_wide.2 TF.out)).mono ?_;rintro e wx ⟨rfl,hbx⟩;obtain⟨hcx,hfx⟩:=CX.out wx hbx)
    obtain⟨k1,k2,k3,k4⟩:=FS.out wx hbx _
    refine⟨k1,k2,?_,k4⟩
    rw[HS.out]
    exact k3
   ·have TF:=hd0 (TFA.out p false W (Or.inr (Or.inr ⟨by omega,by omega,rfl⟩)) B0)
    clear B0
    gi_wp2_with (refine⟨trivial,?_⟩;gi_at_call 52;refine(CallsIn.inRound l (callsIn_wide.2 TF.out)).mono ?_;rintro e wx ⟨rfl,hbx⟩;obtain⟨hcx,hfx⟩:=CX.out wx hbx)
    obtain⟨k1,k2,k3,k4⟩:=F0.out wx hbx
    refine⟨k1,k2,?_,k4⟩
    rw[HS.out,show accF (accL pre) p=accL pre by unfold accF;rw[if_neg h0,if_neg h1]]
    exact k3
 case done =>
  rintro D ys W hD rfl ⟨hv,hB3⟩ hK
  have hB:=b3.trans hB3
  rw[accL_all] at hv
  have hc:=hv.cell
  gi_wp2
  refine⟨by simp,.inl ⟨_,_,rfl,run_takeDeferred hK,?_⟩⟩
  exact⟨_,results_tmp rfl _ _ _,rfl,(BW.out W hB).trans (belowK_b (w:=w) (Nat.le_refl _) W D _ _ (by omega) hK rfl rfl)⟩
 case stop =>
  rintro D c pre W _ _ h _
  exact h.elim
end
end Go.Proofs.YtghaobakpdninaaGreatDoor
