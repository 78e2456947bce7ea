/- ZR14 -/
import Derived.Test.YtghaobakpdninaaGreatDoorZR13
set_option linter.unusedVariables false
set_option linter.unusedSimpArgs false
set_option maxRecDepth 100000
set_option maxHeartbeats 16000000
namespace Go.Proofs.YtghaobakpdninaaGreatDoor
open Go.RowKit
theorem tchooseS (m g cap:Nat)(t:List Value)(a:Bool)(p:Bool)(la:Int)(sp fl:Int)(hl:la≠0)(w:World)(h:TR w m g cap t (ml 32 a (lk true (wD 16 p) la false sp) 16 5 1 1 2 fl)):Calls Tryz.prog 118 #[.pointer (some ⟨m,0,none⟩)] w fun en w'=>en=.returned (.tuple #[])∧TR w' m g cap t (ml 32 a (lk true (wD 16 p) la false sp) 16 5 1 1 2 fl)∧Fr (D2 m g) w w':=by
 have c1:=h.l1
 have HT:=hd0 fun W (hW:Below w.heap.size w W)=>h.later hW
 have P0:=hd0 fun W (hW:Below w.heap.size w W)=>tpath0 m g cap t 32 a (lk true (wD 16 p) la false sp) 16 5 1 1 2 fl W (h.later hW)
 have P1:=hd0 fun W (hW:Below w.heap.size w W)=>tpathY m g cap t 32 a 16 p la false sp 16 5 1 1 2 fl hl (by decide) W (h.later hW)
 have HI0:Hid ((Tryz.prog.info? 281).map (·.size)=some (List.length ([.int .u64 16,.int .u32 5,.int .u64 16,.int .u8 1,.int .u8 1]:List Value))):=hd0 (by kernel_rfl)
 have HML:=hd0 (And.intro h.tm.lt h.row.lt)
 clear h hl
 go_enter Tryz.func118,Tryz.ntmps118
 go_wp2_with fail
 refine wp_loop_rounds 3 ?_
 rw[rounds_succ]
 go_wp2_with fail
 with_reducible refine(P0.out _ (Below.refl _ _)).mono ?_
 rintro en w1 ⟨rfl,hb1⟩
 have b1:Below w.heap.size w (w1.alloc (.cells #[.int .u64 0,.int .u32 0,.int .u64 0,.int .u8 0,.int .u8 0] 281)):=hb1.alloc hb1.size _
 go_upto_region 7 with fail
 obtain⟨wa,hwa⟩:∃ z,w1.alloc (.cells #[.int .u64 0,.int .u32 0,.int .u64 0,.int .u8 0,.int .u8 0] 281)=z:=⟨_,rfl⟩
 rw[hwa] at b1 ⊢
 have k1:=(HT.out _ b1).l1
 clear hb1 c1 hwa
 go_wp2_with fail
 rw[rounds_succ]
 go_wp2_with fail
 with_reducible refine(P1.out _ b1).mono ?_
 rintro en w2 ⟨rfl,hb2⟩
 have b2:Below w.heap.size w (w2.alloc (.cells #[.int .u64 16,.int .u32 5,.int .u64 16,.int .u8 1,.int .u8 1] 281)):=(b1.trans (hb2.mono b1.size)).alloc (b1.trans (hb2.mono b1.size)).size _
 obtain⟨wb,hwb⟩:∃ z,w2.alloc (.cells #[.int .u64 16,.int .u32 5,.int .u64 16,.int .u8 1,.int .u8 1] 281)=z:=⟨_,rfl⟩
 have g2:=GB.new 281 w2 #[.int .u64 16,.int .u32 5,.int .u64 16,.int .u8 1,.int .u8 1]
 rw[hwb] at b2 g2
 have r2:=g2.range
 have hlit:Rw 5 pvC (wb.alloc (.cells #[.int .u64 16,.int .u32 5,.int .u64 16,.int .u8 1,.int .u8 1] 281)) (.slice (some ⟨wb.heap.size,0,none⟩) 1 1) [16]:=(Ow.lit (E:=281) pvC_len wb 0 16 #[.int .u64 16,.int .u32 5,.int .u64 16,.int .u8 1,.int .u8 1] rfl (Nat.zero_le _)).rw pvC_len
 have HL:=hd0 hlit
 have b2l:Below w.heap.size w (wb.alloc (.cells #[.int .u64 16,.int .u32 5,.int .u64 16,.int .u8 1,.int .u8 1] 281)):=b2.alloc b2.size _
 have HBL:=hd0 b2l
 clear hb2 k1 b1 hlit g2 b2l
 go_upto_region 6 with fail
 clear hwb
 go_upto_region 7 with(first
  |((with_reducible refine wpList_load_mid rfl 281 (.tmp 4) rfl w2.heap.size 0 ?hx [.int .u64 16,.int .u32 5,.int .u64 16,.int .u8 1,.int .u8 1] _ r2 Tryz.underlying281 ?hu HI0.out ?_);(case hx=>rfl);(case hu=>rfl))
  |(at_builtin;refine wpList_append_rw pvC_len pvC_one 281 286 _ 40 Tryz.underlying286 info_path rfl (by decide) (by decide) rfl (.tmp 25) (.tmp 27) rfl w.heap.size (.slice none 0 0) [] rfl (Ow.none _ _) _ _ rfl HL.out (by simp) HBL.out.size ?_;intro v1 wr ho1 hb3;obtain⟨g1,cap1,t1,rfl,hg1,hc1,hh1⟩:=ho1.ne (by simp)))
 have b2:=HBL.out.trans hb3
 have HG1:=hd0 hh1
 clear ho1 hb3 hh1 r2 HL HBL
 go_wp2_with fail
 rw[rounds_succ]
 have TRr:=HT.out wr b2
 have c2:wr.cell? ⟨m,2,none⟩=some (.int .u64 16):=TRr.c2
 have c3:wr.cell? ⟨m,3,none⟩=some (.int .u32 5):=TRr.c3
 have c4:wr.cell? ⟨m,4,none⟩=some (.int .i64 1):=TRr.c4
 have hbw:=(Below.refl wr.heap.size wr).alloc (Nat.le_refl _) (.cells #[.int .u64 16,.int .u32 5,.int .i64 1] 217)
 have gw:=GB.new 217 wr #[.int .u64 16,.int .u32 5,.int .i64 1]
 obtain⟨wc,hwc⟩:∃ z,wr.alloc (.cells #[.int .u64 16,.int .u32 5,.int .i64 1] 217)=z:=⟨_,rfl⟩
 rw[hwc] at hbw gw
 have HB:=hd0 (b2.trans (hbw.mono b2.size))
 have TR1:=TRr.later hbw
 have HNB:Hid ((w.heap.size≤wr.heap.size∧wr.heap.size<wc.heap.size)∧w.heap.size≤g1∧g1<wc.heap.size):=hd0 ⟨⟨b2.size,gw.lt⟩,hg1,Nat.lt_of_lt_of_le (Array.getElem?_eq_some_iff.1 HG1.out).1 hbw.size⟩
 have hR1:wc.rangeAt g1 0 [.int .u64 16,.int .u32 5,.int .u64 16,.int .u8 1,.int .u8 1]:=row_range hbw HG1.out
 clear TRr hbw b2
 go_upto_region 9 with fail
 clear hwc c2 c3 c4
 have c0:wc.cell? ⟨m,0,none⟩=some (.int .u64 32):=TR1.c0
 have c2:wc.cell? ⟨m,2,none⟩=some (.int .u64 16):=TR1.c2
 have c3:wc.cell? ⟨m,3,none⟩=some (.int .u32 5):=TR1.c3
 have c4:wc.cell? ⟨m,4,none⟩=some (.int .i64 1):=TR1.c4
 have c5:wc.cell? ⟨m,5,none⟩=some (.int .u8 1):=TR1.c5
 have f2:=TR1.tm.fr 2
 have f3:=TR1.tm.fr 3
 have f4:=TR1.tm.fr 4
 have f5:=TR1.tm.fr 5
 have t9:TR ((((wc.setCell ⟨m,2,none⟩ (.int .u64 32)).setCell ⟨m,3,none⟩ (.int .u32 0)).setCell ⟨m,4,none⟩ (.int .i64 (-1))).setCell ⟨m,5,none⟩ (.int .u8 0)) m g cap t (ml 32 a (lk true (wD 16 p) la false sp) 32 0 (-1) 0 2 fl) :=
  (((TR1.tmSet 2 (.int .u64 32) (ml 32 a (lk true (wD 16 p) la false sp) 32 5 1 1 2 fl) rfl rfl (fun s=>rfl)).tmSet 3 (.int .u32 0) (ml 32 a (lk true (wD 16 p) la false sp) 32 0 1 1 2 fl) rfl rfl (fun s=>rfl)).tmSet 4 (.int .i64 (-1)) (ml 32 a (lk true (wD 16 p) la false sp) 32 0 (-1) 1 2 fl) rfl rfl (fun s=>rfl)).tmSet 5 (.int .u8 0) _ rfl rfl (fun s=>rfl)
 have o9:Only m wc ((((wc.setCell ⟨m,2,none⟩ (.int .u64 32)).setCell ⟨m,3,none⟩ (.int .u32 0)).setCell ⟨m,4,none⟩ (.int .i64 (-1))).setCell ⟨m,5,none⟩ (.int .u8 0)):=(((Only.set _ _ _ _).trans (Only.set _ _ _ _)).trans (Only.set _ _ _ _)).trans (Only.set _ _ _ _)
 go_upto_region 10 with fail
 obtain⟨w9,hw9⟩:∃ z,((((wc.setCell ⟨m,2,none⟩ (.int .u64 32)).setCell ⟨m,3,none⟩ (.int .u32 0)).setCell ⟨m,4,none⟩ (.int .i64 (-1))).setCell ⟨m,5,none⟩ (.int .u8 0))=z:=⟨_,rfl⟩
 rw[hw9] at t9 o9 ⊢
 clear hw9 c0 c2 c3 c4 c5 f2 f3 f4 f5 TR1
 have hgm:g1≠m:=by have:=HNB.out.2.1;have:=HML.out.1;omega
 have hR9:w9.rangeAt g1 0 [.int .u64 16,.int .u32 5,.int .u64 16,.int .u8 1,.int .u8 1]:=fun j v hv=>by
  have:=hR1 j v hv
  unfold World.cell? at this ⊢
  rw[o9.block g1 HNB.out.2.2 (by simpa using hgm)];exact this
 have hwm:wr.heap.size≠m:=by have:=HNB.out.1.1;have:=HML.out.1;omega
 have gw9:GB 217 w9 wr.heap.size #[.int .u64 16,.int .u32 5,.int .i64 1]:=gw.only o9 hwm
 have HT9:=hd0 t9
 have HO9:=hd0 (Fr.trans (Fr.of_below HB.out) (Fr.of_only o9 (Or.inl rfl)):Fr (D2 m g) w w9)
 have HG9:=hd0 gw9
 have LE:=hd0 (vleast1 g1 cap1 16 w9 hR9)
 clear t9 o9 gw gw9 hR9 hR1 hgm hwm
 go_upto_region 11 with(go_at_call 115;with_reducible refine LE.out.mono ?_;rintro e w3 ⟨rfl,hb3⟩)
 have hb4:Below w9.heap.size w9 (w3.alloc (.cells #[.int .u64 16,.int .u32 5,.int .u64 16,.int .u8 1,.int .u8 1] 281)):=hb3.alloc hb3.size _
 have gx:=GB.new 281 w3 #[.int .u64 16,.int .u32 5,.int .u64 16,.int .u8 1,.int .u8 1]
 obtain⟨q,hq⟩:∃ z,w3.heap.size=z:=⟨_,rfl⟩
 have hqm:w9.heap.size≤q:=by rw[←hq];exact hb3.size
 rw[hq] at gx ⊢
 obtain⟨w4,hw4⟩:∃ z,w3.alloc (.cells #[.int .u64 16,.int .u32 5,.int .u64 16,.int .u8 1,.int .u8 1] 281)=z:=⟨_,rfl⟩
 rw[hw4] at hb4 gx ⊢
 have HT4:=hd0 (HT9.out.later hb4)
 have HG4:=hd0 (HG9.out.later hb4)
 have HF4:=hd0 (HO9.out.trans (Fr.of_below hb4))
 have HGX:=hd0 gx
 have HQ:=hd0 (show q≠m by have:=HT9.out.tm.lt;omega)
 clear hb3 hb4 gx hw4 hq LE hqm HT9 HO9 HG9
 have x0:∀ K:Later w4,K.out.cell? ⟨q,0,none⟩=some (.int .u64 16):=fun K=>(HGX.out.later K.h).c 0 _ rfl
 have m0:∀ K:Later w4,K.out.cell? ⟨m,0,none⟩=some (.int .u64 32):=fun K=>(HT4.out.later K.h).c0
 refine wp_region_later (by kernel_rfl) (by kernel_rfl) ?_
 repeat (go_big_quiet_step (fail))
 refine wpQuiet_nil ?_
 rintro _ ⟨K,rfl⟩
 clear x0 m0
 have HT5:=hd0 (HT4.out.later K.h)
 have HG5:=hd0 (HG4.out.later K.h)
 have HF5:=hd0 (HF4.out.trans (Fr.of_below K.h))
 have HX5:=hd0 (HGX.out.later K.h)
 obtain⟨w5,hw5⟩:∃ z,K.out=z:=⟨_,rfl⟩
 rw[hw5] at HT5 HG5 HF5 HX5 ⊢
 clear hw5 K HT4 HG4 HF4 HGX
 have x0:w5.cell? ⟨q,0,none⟩=some (.int .u64 16):=HX5.out.c 0 _ rfl
 have x1:w5.cell? ⟨q,1,none⟩=some (.int .u32 5):=HX5.out.c 1 _ rfl
 have x4:w5.cell? ⟨q,4,none⟩=some (.int .u8 1):=HX5.out.c 4 _ rfl
 have c2:w5.cell? ⟨m,2,none⟩=some (.int .u64 32):=HT5.out.c2
 have c3:w5.cell? ⟨m,3,none⟩=some (.int .u32 0):=HT5.out.c3
 have c4:w5.cell? ⟨m,4,none⟩=some (.int .i64 (-1)):=HT5.out.c4
 have f2:=HT5.out.tm.fr 2
 have f3:=HT5.out.tm.fr 3
 have f4:=HT5.out.tm.fr 4
 go_upto_region 13 with fail
 have t6:TR (((w5.setCell ⟨m,2,none⟩ (.int .u64 16)).setCell ⟨m,3,none⟩ (.int .u32 5)).setCell ⟨m,4,none⟩ (.int .i64 1)) m g cap t (ml 32 a (lk true (wD 16 p) la false sp) 16 5 1 0 2 fl) :=
  ((HT5.out.tmSet 2 (.int .u64 16) (ml 32 a (lk true (wD 16 p) la false sp) 16 0 (-1) 0 2 fl) rfl rfl (fun s=>rfl)).tmSet 3 (.int .u32 5) (ml 32 a (lk true (wD 16 p) la false sp) 16 5 (-1) 0 2 fl) rfl rfl (fun s=>rfl)).tmSet 4 (.int .i64 1) _ rfl rfl (fun s=>rfl)
 have o6:Only m w5 (((w5.setCell ⟨m,2,none⟩ (.int .u64 16)).setCell ⟨m,3,none⟩ (.int .u32 5)).setCell ⟨m,4,none⟩ (.int .i64 1)):=((Only.set _ _ _ _).trans (Only.set _ _ _ _)).trans (Only.set _ _ _ _)
 obtain⟨w6,hw6⟩:∃ z,(((w5.setCell ⟨m,2,none⟩ (.int .u64 16)).setCell ⟨m,3,none⟩ (.int .u32 5)).setCell ⟨m,4,none⟩ (.int .i64 1))=z:=⟨_,rfl⟩
 rw[hw6] at t6 o6 ⊢
 have HT6:=hd0 t6
 have HX6:=hd0 (HX5.out.only o6 HQ.out)
 have HG6:=hd0 (HG5.out.only o6 (by have:=HNB.out.1.1;have:=HML.out.1;omega))
 have HF6:=hd0 (HF5.out.trans (Fr.of_only o6 (Or.inl rfl)))
 clear hw6 x0 x1 x4 c2 c3 c4 f2 f3 f4 t6 o6 HT5 HG5 HF5 HX5
 have k1:w6.drew.cell? ⟨m,1,none⟩=some (.slice (some ⟨g,0,none⟩) 2 cap):=HT6.out.l1
 have x4:w6.drew.cell? ⟨q,4,none⟩=some (.int .u8 1):=HX6.out.c 4 _ rfl
 have p22:w6.drew.cell? ⟨g,22,none⟩=some (.int .u8 0):=HT6.out.x1 6 (by decide) _ rfl
 have c5:w6.drew.cell? ⟨m,5,none⟩=some (.int .u8 0):=HT6.out.c5
 have f5:w6.drew.frozen? ⟨m,5,none⟩=false:=HT6.out.tm.fr 5
 have t7:TR (w6.drew.setCell ⟨m,5,none⟩ (.int .u8 1)) m g cap t (ml 32 a (lk true (wD 16 p) la false sp) 16 5 1 1 2 fl):=(HT6.out.later (Below.refl _ _).drew).tmSet 5 (.int .u8 1) _ rfl rfl (fun s=>rfl)
 have hx7:GB 281 (w6.drew.setCell ⟨m,5,none⟩ (.int .u8 1)) q #[.int .u64 16,.int .u32 5,.int .u64 16,.int .u8 1,.int .u8 1]:=(HX6.out.drew).other (fun e=>HQ.out e.symm) _
 have hg7:GB 217 (w6.drew.setCell ⟨m,5,none⟩ (.int .u8 1)) wr.heap.size #[.int .u64 16,.int .u32 5,.int .i64 1]:=(HG6.out.drew).other (by have:=HNB.out.1.1;have:=HML.out.1;omega) _
 have hf7:Fr (D2 m g) w (w6.drew.setCell ⟨m,5,none⟩ (.int .u8 1)):=(HF6.out.drew).trans (Fr.of_only (Only.set _ _ _ _) (Or.inl rfl))
 have k7:(w6.drew.setCell ⟨m,5,none⟩ (.int .u8 1)).cell? ⟨m,1,none⟩=some (.slice (some ⟨g,0,none⟩) 2 cap):=t7.l1
 have x7:(w6.drew.setCell ⟨m,5,none⟩ (.int .u8 1)).cell? ⟨q,4,none⟩=some (.int .u8 1):=hx7.c 4 _ rfl
 have p7:(w6.drew.setCell ⟨m,5,none⟩ (.int .u8 1)).cell? ⟨g,22,none⟩=some (.int .u8 0):=t7.x1 6 (by decide) _ rfl
 have HT7:=hd0 t7
 have HG7:=hd0 hg7
 have HF7:=hd0 hf7
 clear t7 hx7 hg7 hf7
 refine wp_region_held_drew (S:=fun W=>W.cell? ⟨m,1,none⟩=some (.slice (some ⟨g,0,none⟩) 2 cap)∧W.cell? ⟨q,4,none⟩=some (.int .u8 1)∧W.cell? ⟨g,22,none⟩=some (.int .u8 0)) (by kernel_rfl) ⟨k1,x4,p22⟩ (fun hHeld=>?_)
 refine tkH 0 ?_ ?h ?_
 case h=>(intro w hSw;go_simp;try with_reducible rfl)
 try simp only[Act.put,zz]
 refine tkH 1 ?_ ?h ?_
 case h=>(intro w hSw;go_simp;try with_reducible rfl)
 try simp only[Act.put,zz]
 refine tkH 2 ?_ ?h ?_
 case h=>(intro w hSw;go_simp;try with_reducible rfl)
 try simp only[Act.put,zz]
 refine tkH 3 ?_ ?h ?_
 case h=>(intro w hSw;go_simp;try with_reducible rfl)
 try simp only[Act.put,zz]
 refine tkH 4 ?_ ?h ?_
 case h=>(intro w hSw;go_simp;try with_reducible rfl)
 try simp only[Act.put,zz]
 refine tkH 5 ?_ ?h ?_
 case h=>(intro w hSw;go_simp;try with_reducible rfl)
 try simp only[Act.put,zz]
 refine tkH 6 ?_ ?h ?_
 case h=>(intro w hSw;go_simp;try with_reducible rfl)
 try simp only[Act.put,zz]
 refine tkH 7 ?_ ?h ?_
 case h=>(intro w hSw;go_simp;try with_reducible rfl)
 try simp only[Act.put,zz]
 refine tkH 8 ?_ ?h ?_
 case h=>(intro w hSw;go_simp;try with_reducible rfl)
 try simp only[Act.put,zz]
 refine tkH 9 ?_ ?h ?_
 case h=>(intro w hSw;go_simp;try with_reducible rfl)
 try simp only[Act.put,zz]
 refine tkH 10 ?_ ?h ?_
 case h=>(intro w hSw;go_simp;try with_reducible rfl)
 try simp only[Act.put,zz]
 refine tkH 11 ?_ ?h ?_
 case h=>(intro w hSw;go_simp;try with_reducible rfl)
 try simp only[Act.put,zz]
 refine tkH 12 ?_ ?h ?_
 case h=>(intro w hSw;go_simp;try with_reducible rfl)
 try simp only[Act.put,zz]
 refine tkH 13 ?_ ?h ?_
 case h=>(intro w hSw;go_simp;try with_reducible rfl)
 try simp only[Act.put,zz]
 refine rdH 14 fun K hK=>?_
 (go_simp;refine hK.out _ _ ⟨k7,x7,p7⟩ (fun hHeld=>?_);clear hK K;try simp only[Act.put,zz])
 refine wpAnyH_done (by kernel_rfl) ?_ _
 rw[show(w6.setCell ⟨m,5,none⟩ (.int .u8 (IntKind.u8.wrap 1))).drew=w6.drew.setCell ⟨m,5,none⟩ (.int .u8 1) from rfl]
 obtain⟨w7,hw7⟩:∃ z,w6.drew.setCell ⟨m,5,none⟩ (.int .u8 1)=z:=⟨_,rfl⟩
 rw[hw7] at HT7 HG7 HF7 ⊢
 clear hw7 k1 x4 p22 c5 f5 k7 x7 p7 HT6 HX6 HG6 HF6
 go_upto_region 14 with fail
 have l2:∀ K:Later w7,K.out.cell? ⟨m,2,none⟩=some (.int .u64 16):=fun K=>(HT7.out.later K.h).c2
 have l3:∀ K:Later w7,K.out.cell? ⟨m,3,none⟩=some (.int .u32 5):=fun K=>(HT7.out.later K.h).c3
 have l4:∀ K:Later w7,K.out.cell? ⟨m,4,none⟩=some (.int .i64 1):=fun K=>(HT7.out.later K.h).c4
 have n0:∀ K:Later w7,K.out.cell? ⟨wr.heap.size,0,none⟩=some (.int .u64 16):=fun K=>(HG7.out.later K.h).c 0 _ rfl
 have n1:∀ K:Later w7,K.out.cell? ⟨wr.heap.size,1,none⟩=some (.int .u32 5):=fun K=>(HG7.out.later K.h).c 1 _ rfl
 have n2:∀ K:Later w7,K.out.cell? ⟨wr.heap.size,2,none⟩=some (.int .i64 1):=fun K=>(HG7.out.later K.h).c 2 _ rfl
 have EQ:∀ W:World,(binOp .neq 217 (.agg #[.int .u64 16,.int .u32 5,.int .i64 1]) (.agg #[.int .u64 16,.int .u32 5,.int .i64 1])).run Tryz.prog W=.ok (.bool false) W:=fun W=>by kernel_rfl
 refine wp_region_later (by kernel_rfl) (by kernel_rfl) ?_
 repeat (go_big_quiet_step (fail))
 refine wpQuiet_nil ?_
 rintro _ ⟨K2,rfl⟩
 clear l2 l3 l4 n0 n1 n2 EQ
 have HT8:=hd0 (HT7.out.later K2.h)
 have HF8:=hd0 (HF7.out.trans (Fr.of_below K2.h))
 obtain⟨w8,hw8⟩:∃ z,K2.out=z:=⟨_,rfl⟩
 rw[hw8] at HT8 HF8 ⊢
 clear hw8 K2 HT7 HF7 HG7
 obtain⟨wf,hwf⟩:∃ z,w8=z:=⟨_,rfl⟩
 rw[hwf] at HT8 HF8 ⊢
 have HTf:=HT8
 have HFf:=HF8
 clear hwf HT8 HF8
 have c1:=HTf.out.l1
 go_wp2_with fail
 clear c1
 refine wp_loop_rounds 3 ?_
 rw[rounds_succ]
 have c1:wf.drew.cell? ⟨m,1,none⟩=some (.slice (some ⟨g,0,none⟩) 2 cap):=HTf.out.l1
 have a1:wf.drew.cell? ⟨g,14,none⟩=some (.bool false):=HTf.out.h0 14 (by decide) _ rfl
 have fa:wf.drew.frozen? ⟨g,14,none⟩=false:=HTf.out.row.fr 14
 have sa:=setCell_id a1
 go_upto_region 19 with fail
 refine wp_region_held_drew (S:=fun W=>W.cell? ⟨m,1,none⟩=some (.slice (some ⟨g,0,none⟩) 2 cap)∧W.cell? ⟨g,14,none⟩=some (.bool false)) (by kernel_rfl) ⟨c1,a1⟩ (fun hHeld=>?_)
 refine tkH 0 ?_ ?h ?_
 case h=>(intro w hSw;go_simp;try with_reducible rfl)
 try simp only[Act.put,zz]
 refine tkH 1 ?_ ?h ?_
 case h=>(intro w hSw;go_simp;try with_reducible rfl)
 try simp only[Act.put,zz]
 refine tkH 2 ?_ ?h ?_
 case h=>(intro w hSw;go_simp;try with_reducible rfl)
 try simp only[Act.put,zz]
 refine tkH 3 ?_ ?h ?_
 case h=>(intro w hSw;go_simp;try with_reducible rfl)
 try simp only[Act.put,zz]
 refine tkH 4 ?_ ?h ?_
 case h=>(intro w hSw;go_simp;try with_reducible rfl)
 try simp only[Act.put,zz]
 refine tkH 5 ?_ ?h ?_
 case h=>(intro w hSw;go_simp;try with_reducible rfl)
 try simp only[Act.put,zz]
 refine tkH 6 ?_ ?h ?_
 case h=>(intro w hSw;go_simp;try with_reducible rfl)
 try simp only[Act.put,zz]
 refine tkH 7 ?_ ?h ?_
 case h=>(intro w hSw;go_simp;try with_reducible rfl)
 try simp only[Act.put,zz]
 refine tkH 8 ?_ ?h ?_
 case h=>(intro w hSw;go_simp;try with_reducible rfl)
 try simp only[Act.put,zz]
 refine tkH 9 ?_ ?h ?_
 case h=>(intro w hSw;go_simp;try with_reducible rfl)
 try simp only[Act.put,zz]
 refine tkH 10 ?_ ?h ?_
 case h=>(intro w hSw;go_simp;try with_reducible rfl)
 try simp only[Act.put,zz]
 refine tkH 11 ?_ ?h ?_
 case h=>(intro w hSw;go_simp;try with_reducible rfl)
 try simp only[Act.put,zz]
 refine tkH 12 ?_ ?h ?_
 case h=>(intro w hSw;go_simp;try with_reducible rfl)
 try simp only[Act.put,zz]
 refine tkH 13 ?_ ?h ?_
 case h=>(intro w hSw;go_simp;try with_reducible rfl)
 try simp only[Act.put,zz]
 refine wpAnyH_take (i:=14) (v:=undef) rfl (by kernel_rfl) (by kernel_rfl) (by kernel_rfl) (fun _ _ _ h=>h) (Or.inr ⟨by rfl,rfl⟩) (by assumption) ?_
 try simp only[Act.put,zz]
 refine wpAnyH_take (i:=15) (v:=undef) rfl (by kernel_rfl) (by kernel_rfl) (by kernel_rfl) (fun _ _ _ h=>h) (Or.inr ⟨by rfl,rfl⟩) (by assumption) ?_
 try simp only[Act.put,zz]
 refine wpAnyH_take (i:=16) (v:=undef) rfl (by kernel_rfl) (by kernel_rfl) (by kernel_rfl) (fun _ _ _ h=>h) (Or.inr ⟨by rfl,rfl⟩) (by assumption) ?_
 try simp only[Act.put,zz]
 refine wpAnyH_take (i:=17) (v:=undef) rfl (by kernel_rfl) (by kernel_rfl) (by kernel_rfl) (fun _ _ _ h=>h) (Or.inr ⟨by rfl,rfl⟩) (by assumption) ?_
 try simp only[Act.put,zz]
 refine wpAnyH_take (i:=18) (v:=undef) rfl (by kernel_rfl) (by kernel_rfl) (by kernel_rfl) (fun _ _ _ h=>h) (Or.inr ⟨by rfl,rfl⟩) (by assumption) ?_
 try simp only[Act.put,zz]
 refine tkH 19 ?_ ?h ?_
 case h=>(intro w hSw;go_simp;try with_reducible rfl)
 try simp only[Act.put,zz]
 refine tkH 20 ?_ ?h ?_
 case h=>(intro w hSw;go_simp;try with_reducible rfl)
 try simp only[Act.put,zz]
 refine tkH 21 ?_ ?h ?_
 case h=>(intro w hSw;go_simp;try with_reducible rfl)
 try simp only[Act.put,zz]
 refine rdH 22 fun K hK=>?_
 (go_simp;refine hK.out _ _ ⟨c1,a1⟩ (fun hHeld=>?_);clear hK K;try simp only[Act.put,zz])
 refine wpAnyH_done (by kernel_rfl) ?_ _
 clear a1 fa sa c1
 have HTg:=hd0 (HTf.out.later (Below.refl _ _).drew)
 have HFg:=hd0 (HFf.out.drew)
 obtain⟨wg,hwg⟩:∃ z,wf.drew=z:=⟨_,rfl⟩
 rw[hwg] at HTg HFg ⊢
 clear hwg
 go_wp2_with fail
 rw[rounds_succ]
 have c1:wg.drew.cell? ⟨m,1,none⟩=some (.slice (some ⟨g,0,none⟩) 2 cap):=HTg.out.l1
 have a1:wg.drew.cell? ⟨g,30,none⟩=some (.bool false):=HTg.out.x1 14 (by decide) _ rfl
 have fa:wg.drew.frozen? ⟨g,30,none⟩=false:=HTg.out.row.fr 30
 have sa:=setCell_id a1
 go_upto_region 19 with fail
 refine wp_region_held_drew (S:=fun W=>W.cell? ⟨m,1,none⟩=some (.slice (some ⟨g,0,none⟩) 2 cap)∧W.cell? ⟨g,30,none⟩=some (.bool false)) (by kernel_rfl) ⟨c1,a1⟩ (fun hHeld=>?_)
 refine tkH 0 ?_ ?h ?_
 case h=>(intro w hSw;go_simp;try with_reducible rfl)
 try simp only[Act.put,zz]
 refine tkH 1 ?_ ?h ?_
 case h=>(intro w hSw;go_simp;try with_reducible rfl)
 try simp only[Act.put,zz]
 refine tkH 2 ?_ ?h ?_
 case h=>(intro w hSw;go_simp;try with_reducible rfl)
 try simp only[Act.put,zz]
 refine tkH 3 ?_ ?h ?_
 case h=>(intro w hSw;go_simp;try with_reducible rfl)
 try simp only[Act.put,zz]
 refine tkH 4 ?_ ?h ?_
 case h=>(intro w hSw;go_simp;try with_reducible rfl)
 try simp only[Act.put,zz]
 refine tkH 5 ?_ ?h ?_
 case h=>(intro w hSw;go_simp;try with_reducible rfl)
 try simp only[Act.put,zz]
 refine tkH 6 ?_ ?h ?_
 case h=>(intro w hSw;go_simp;try with_reducible rfl)
 try simp only[Act.put,zz]
 refine tkH 7 ?_ ?h ?_
 case h=>(intro w hSw;go_simp;try with_reducible rfl)
 try simp only[Act.put,zz]
 refine tkH 8 ?_ ?h ?_
 case h=>(intro w hSw;go_simp;try with_reducible rfl)
 try simp only[Act.put,zz]
 refine tkH 9 ?_ ?h ?_
 case h=>(intro w hSw;go_simp;try with_reducible rfl)
 try simp only[Act.put,zz]
 refine tkH 10 ?_ ?h ?_
 case h=>(intro w hSw;go_simp;try with_reducible rfl)
 try simp only[Act.put,zz]
 refine tkH 11 ?_ ?h ?_
 case h=>(intro w hSw;go_simp;try with_reducible rfl)
 try simp only[Act.put,zz]
 refine tkH 12 ?_ ?h ?_
 case h=>(intro w hSw;go_simp;try with_reducible rfl)
 try simp only[Act.put,zz]
 refine tkH 13 ?_ ?h ?_
 case h=>(intro w hSw;go_simp;try with_reducible rfl)
 try simp only[Act.put,zz]
 refine wpAnyH_take (i:=14) (v:=undef) rfl (by kernel_rfl) (by kernel_rfl) (by kernel_rfl) (fun _ _ _ h=>h) (Or.inr ⟨by rfl,rfl⟩) (by assumption) ?_
 try simp only[Act.put,zz]
 refine wpAnyH_take (i:=15) (v:=undef) rfl (by kernel_rfl) (by kernel_rfl) (by kernel_rfl) (fun _ _ _ h=>h) (Or.inr ⟨by rfl,rfl⟩) (by assumption) ?_
 try simp only[Act.put,zz]
 refine wpAnyH_take (i:=16) (v:=undef) rfl (by kernel_rfl) (by kernel_rfl) (by kernel_rfl) (fun _ _ _ h=>h) (Or.inr ⟨by rfl,rfl⟩) (by assumption) ?_
 try simp only[Act.put,zz]
 refine wpAnyH_take (i:=17) (v:=undef) rfl (by kernel_rfl) (by kernel_rfl) (by kernel_rfl) (fun _ _ _ h=>h) (Or.inr ⟨by rfl,rfl⟩) (by assumption) ?_
 try simp only[Act.put,zz]
 refine wpAnyH_take (i:=18) (v:=undef) rfl (by kernel_rfl) (by kernel_rfl) (by kernel_rfl) (fun _ _ _ h=>h) (Or.inr ⟨by rfl,rfl⟩) (by assumption) ?_
 try simp only[Act.put,zz]
 refine tkH 19 ?_ ?h ?_
 case h=>(intro w hSw;go_simp;try with_reducible rfl)
 try simp only[Act.put,zz]
 refine tkH 20 ?_ ?h ?_
 case h=>(intro w hSw;go_simp;try with_reducible rfl)
 try simp only[Act.put,zz]
 refine tkH 21 ?_ ?h ?_
 case h=>(intro w hSw;go_simp;try with_reducible rfl)
 try simp only[Act.put,zz]
 refine rdH 22 fun K hK=>?_
 (go_simp;refine hK.out _ _ ⟨c1,a1⟩ (fun hHeld=>?_);clear hK K;try simp only[Act.put,zz])
 refine wpAnyH_done (by kernel_rfl) ?_ _
 clear a1 fa sa c1
 have HTh:=hd0 (HTg.out.later (Below.refl _ _).drew)
 have HFh:=hd0 (HFg.out.drew)
 obtain⟨wh,hwh⟩:∃ z,wg.drew=z:=⟨_,rfl⟩
 rw[hwh] at HTh HFh ⊢
 clear hwh
 go_wp2_with fail
 rw[rounds_succ]
 go_wp2_with fail
 go_end0
 exact⟨rfl,HTh.out,HFh.out⟩
theorem tchooseT (m g cap:Nat)(t:List Value)(a:Bool)(p:Bool)(la:Int)(sp fl:Int)(hl:la≠0)(w:World)(h:TR w m g cap t (ml 32 a (lk true (wD 16 p) la false 0) 32 0 (-1) 0 1 0)):Calls Tryz.prog 118 #[.pointer (some ⟨m,0,none⟩)] w fun en w'=>en=.returned (.tuple #[])∧TR w' m g cap t (ml 32 a (lk true (wD 16 p) la false 4) 16 5 1 1 2 3)∧Fr (D2 m g) w w':=by
 have c1:=h.l1
 have HT:=hd0 fun W (hW:Below w.heap.size w W)=>h.later hW
 have P0:=hd0 fun W (hW:Below w.heap.size w W)=>tpath0 m g cap t 32 a (lk true (wD 16 p) la false 0) 32 0 (-1) 0 1 0 W (h.later hW)
 have P1:=hd0 fun W (hW:Below w.heap.size w W)=>tpathY m g cap t 32 a 16 p la false 0 32 0 (-1) 0 1 0 hl (by decide) W (h.later hW)
 have HI0:Hid ((Tryz.prog.info? 281).map (·.size)=some (List.length ([.int .u64 16,.int .u32 5,.int .u64 16,.int .u8 1,.int .u8 1]:List Value))):=hd0 (by kernel_rfl)
 have HML:=hd0 (And.intro h.tm.lt h.row.lt)
 clear h hl
 go_enter Tryz.func118,Tryz.ntmps118
 go_wp2_with fail
 refine wp_loop_rounds 3 ?_
 rw[rounds_succ]
 go_wp2_with fail
 with_reducible refine(P0.out _ (Below.refl _ _)).mono ?_
 rintro en w1 ⟨rfl,hb1⟩
 have b1:Below w.heap.size w (w1.alloc (.cells #[.int .u64 0,.int .u32 0,.int .u64 0,.int .u8 0,.int .u8 0] 281)):=hb1.alloc hb1.size _
 go_upto_region 7 with fail
 obtain⟨wa,hwa⟩:∃ z,w1.alloc (.cells #[.int .u64 0,.int .u32 0,.int .u64 0,.int .u8 0,.int .u8 0] 281)=z:=⟨_,rfl⟩
 rw[hwa] at b1 ⊢
 have k1:=(HT.out _ b1).l1
 clear hb1 c1 hwa
 go_wp2_with fail
 rw[rounds_succ]
 go_wp2_with fail
 with_reducible refine(P1.out _ b1).mono ?_
 rintro en w2 ⟨rfl,hb2⟩
 have b2:Below w.heap.size w (w2.alloc (.cells #[.int .u64 16,.int .u32 5,.int .u64 16,.int .u8 1,.int .u8 1] 281)):=(b1.trans (hb2.mono b1.size)).alloc (b1.trans (hb2.mono b1.size)).size _
 obtain⟨wb,hwb⟩:∃ z,w2.alloc (.cells #[.int .u64 16,.int .u32 5,.int .u64 16,.int .u8 1,.int .u8 1] 281)=z:=⟨_,rfl⟩
 have g2:=GB.new 281 w2 #[.int .u64 16,.int .u32 5,.int .u64 16,.int .u8 1,.int .u8 1]
 rw[hwb] at b2 g2
 have r2:=g2.range
 have hlit:Rw 5 pvC (wb.alloc (.cells #[.int .u64 16,.int .u32 5,.int .u64 16,.int .u8 1,.int .u8 1] 281)) (.slice (some ⟨wb.heap.size,0,none⟩) 1 1) [16]:=(Ow.lit (E:=281) pvC_len wb 0 16 #[.int .u64 16,.int .u32 5,.int .u64 16,.int .u8 1,.int .u8 1] rfl (Nat.zero_le _)).rw pvC_len
 have HL:=hd0 hlit
 have b2l:Below w.heap.size w (wb.alloc (.cells #[.int .u64 16,.int .u32 5,.int .u64 16,.int .u8 1,.int .u8 1] 281)):=b2.alloc b2.size _
 have HBL:=hd0 b2l
 clear hb2 k1 b1 hlit g2 b2l
 go_upto_region 6 with fail
 clear hwb
 go_upto_region 7 with(first
  |((with_reducible refine wpList_load_mid rfl 281 (.tmp 4) rfl w2.heap.size 0 ?hx [.int .u64 16,.int .u32 5,.int .u64 16,.int .u8 1,.int .u8 1] _ r2 Tryz.underlying281 ?hu HI0.out ?_);(case hx=>rfl);(case hu=>rfl))
  |(at_builtin;refine wpList_append_rw pvC_len pvC_one 281 286 _ 40 Tryz.underlying286 info_path rfl (by decide) (by decide) rfl (.tmp 25) (.tmp 27) rfl w.heap.size (.slice none 0 0) [] rfl (Ow.none _ _) _ _ rfl HL.out (by simp) HBL.out.size ?_;intro v1 wr ho1 hb3;obtain⟨g1,cap1,t1,rfl,hg1,hc1,hh1⟩:=ho1.ne (by simp)))
 have b2:=HBL.out.trans hb3
 have HG1:=hd0 hh1
 clear ho1 hb3 hh1 r2 HL HBL
 go_wp2_with fail
 rw[rounds_succ]
 have TRr:=HT.out wr b2
 have c2:wr.cell? ⟨m,2,none⟩=some (.int .u64 32):=TRr.c2
 have c3:wr.cell? ⟨m,3,none⟩=some (.int .u32 0):=TRr.c3
 have c4:wr.cell? ⟨m,4,none⟩=some (.int .i64 (-1)):=TRr.c4
 have hbw:=(Below.refl wr.heap.size wr).alloc (Nat.le_refl _) (.cells #[.int .u64 32,.int .u32 0,.int .i64 (-1)] 217)
 have gw:=GB.new 217 wr #[.int .u64 32,.int .u32 0,.int .i64 (-1)]
 obtain⟨wc,hwc⟩:∃ z,wr.alloc (.cells #[.int .u64 32,.int .u32 0,.int .i64 (-1)] 217)=z:=⟨_,rfl⟩
 rw[hwc] at hbw gw
 have HB:=hd0 (b2.trans (hbw.mono b2.size))
 have TR1:=TRr.later hbw
 have HNB:Hid ((w.heap.size≤wr.heap.size∧wr.heap.size<wc.heap.size)∧w.heap.size≤g1∧g1<wc.heap.size):=hd0 ⟨⟨b2.size,gw.lt⟩,hg1,Nat.lt_of_lt_of_le (Array.getElem?_eq_some_iff.1 HG1.out).1 hbw.size⟩
 have hR1:wc.rangeAt g1 0 [.int .u64 16,.int .u32 5,.int .u64 16,.int .u8 1,.int .u8 1]:=row_range hbw HG1.out
 clear TRr hbw b2
 go_upto_region 9 with fail
 clear hwc c2 c3 c4
 have c0:wc.cell? ⟨m,0,none⟩=some (.int .u64 32):=TR1.c0
 have c2:wc.cell? ⟨m,2,none⟩=some (.int .u64 32):=TR1.c2
 have c3:wc.cell? ⟨m,3,none⟩=some (.int .u32 0):=TR1.c3
 have c4:wc.cell? ⟨m,4,none⟩=some (.int .i64 (-1)):=TR1.c4
 have c5:wc.cell? ⟨m,5,none⟩=some (.int .u8 0):=TR1.c5
 have f2:=TR1.tm.fr 2
 have f3:=TR1.tm.fr 3
 have f4:=TR1.tm.fr 4
 have f5:=TR1.tm.fr 5
 have t9:TR ((((wc.setCell ⟨m,2,none⟩ (.int .u64 32)).setCell ⟨m,3,none⟩ (.int .u32 0)).setCell ⟨m,4,none⟩ (.int .i64 (-1))).setCell ⟨m,5,none⟩ (.int .u8 0)) m g cap t (ml 32 a (lk true (wD 16 p) la false 0) 32 0 (-1) 0 1 0) :=
  (((TR1.tmSet 2 (.int .u64 32) (ml 32 a (lk true (wD 16 p) la false 0) 32 0 (-1) 0 1 0) rfl rfl (fun s=>rfl)).tmSet 3 (.int .u32 0) (ml 32 a (lk true (wD 16 p) la false 0) 32 0 (-1) 0 1 0) rfl rfl (fun s=>rfl)).tmSet 4 (.int .i64 (-1)) (ml 32 a (lk true (wD 16 p) la false 0) 32 0 (-1) 0 1 0) rfl rfl (fun s=>rfl)).tmSet 5 (.int .u8 0) _ rfl rfl (fun s=>rfl)
 have o9:Only m wc ((((wc.setCell ⟨m,2,none⟩ (.int .u64 32)).setCell ⟨m,3,none⟩ (.int .u32 0)).setCell ⟨m,4,none⟩ (.int .i64 (-1))).setCell ⟨m,5,none⟩ (.int .u8 0)):=(((Only.set _ _ _ _).trans (Only.set _ _ _ _)).trans (Only.set _ _ _ _)).trans (Only.set _ _ _ _)
 go_upto_region 10 with fail
 obtain⟨w9,hw9⟩:∃ z,((((wc.setCell ⟨m,2,none⟩ (.int .u64 32)).setCell ⟨m,3,none⟩ (.int .u32 0)).setCell ⟨m,4,none⟩ (.int .i64 (-1))).setCell ⟨m,5,none⟩ (.int .u8 0))=z:=⟨_,rfl⟩
 rw[hw9] at t9 o9 ⊢
 clear hw9 c0 c2 c3 c4 c5 f2 f3 f4 f5 TR1
 have hgm:g1≠m:=by have:=HNB.out.2.1;have:=HML.out.1;omega
 have hR9:w9.rangeAt g1 0 [.int .u64 16,.int .u32 5,.int .u64 16,.int .u8 1,.int .u8 1]:=fun j v hv=>by
  have:=hR1 j v hv
  unfold World.cell? at this ⊢
  rw[o9.block g1 HNB.out.2.2 (by simpa using hgm)];exact this
 have hwm:wr.heap.size≠m:=by have:=HNB.out.1.1;have:=HML.out.1;omega
 have gw9:GB 217 w9 wr.heap.size #[.int .u64 32,.int .u32 0,.int .i64 (-1)]:=gw.only o9 hwm
 have HT9:=hd0 t9
 have HO9:=hd0 (Fr.trans (Fr.of_below HB.out) (Fr.of_only o9 (Or.inl rfl)):Fr (D2 m g) w w9)
 have HG9:=hd0 gw9
 have LE:=hd0 (vleast1 g1 cap1 16 w9 hR9)
 clear t9 o9 gw gw9 hR9 hR1 hgm hwm
 go_upto_region 11 with(go_at_call 115;with_reducible refine LE.out.mono ?_;rintro e w3 ⟨rfl,hb3⟩)
 have hb4:Below w9.heap.size w9 (w3.alloc (.cells #[.int .u64 16,.int .u32 5,.int .u64 16,.int .u8 1,.int .u8 1] 281)):=hb3.alloc hb3.size _
 have gx:=GB.new 281 w3 #[.int .u64 16,.int .u32 5,.int .u64 16,.int .u8 1,.int .u8 1]
 obtain⟨q,hq⟩:∃ z,w3.heap.size=z:=⟨_,rfl⟩
 have hqm:w9.heap.size≤q:=by rw[←hq];exact hb3.size
 rw[hq] at gx ⊢
 obtain⟨w4,hw4⟩:∃ z,w3.alloc (.cells #[.int .u64 16,.int .u32 5,.int .u64 16,.int .u8 1,.int .u8 1] 281)=z:=⟨_,rfl⟩
 rw[hw4] at hb4 gx ⊢
 have HT4:=hd0 (HT9.out.later hb4)
 have HG4:=hd0 (HG9.out.later hb4)
 have HF4:=hd0 (HO9.out.trans (Fr.of_below hb4))
 have HGX:=hd0 gx
 have HQ:=hd0 (show q≠m by have:=HT9.out.tm.lt;omega)
 clear hb3 hb4 gx hw4 hq LE hqm HT9 HO9 HG9
 have x0:∀ K:Later w4,K.out.cell? ⟨q,0,none⟩=some (.int .u64 16):=fun K=>(HGX.out.later K.h).c 0 _ rfl
 have m0:∀ K:Later w4,K.out.cell? ⟨m,0,none⟩=some (.int .u64 32):=fun K=>(HT4.out.later K.h).c0
 refine wp_region_later (by kernel_rfl) (by kernel_rfl) ?_
 repeat (go_big_quiet_step (fail))
 refine wpQuiet_nil ?_
 rintro _ ⟨K,rfl⟩
 clear x0 m0
 have HT5:=hd0 (HT4.out.later K.h)
 have HG5:=hd0 (HG4.out.later K.h)
 have HF5:=hd0 (HF4.out.trans (Fr.of_below K.h))
 have HX5:=hd0 (HGX.out.later K.h)
 obtain⟨w5,hw5⟩:∃ z,K.out=z:=⟨_,rfl⟩
 rw[hw5] at HT5 HG5 HF5 HX5 ⊢
 clear hw5 K HT4 HG4 HF4 HGX
 have x0:w5.cell? ⟨q,0,none⟩=some (.int .u64 16):=HX5.out.c 0 _ rfl
 have x1:w5.cell? ⟨q,1,none⟩=some (.int .u32 5):=HX5.out.c 1 _ rfl
 have x4:w5.cell? ⟨q,4,none⟩=some (.int .u8 1):=HX5.out.c 4 _ rfl
 have c2:w5.cell? ⟨m,2,none⟩=some (.int .u64 32):=HT5.out.c2
 have c3:w5.cell? ⟨m,3,none⟩=some (.int .u32 0):=HT5.out.c3
 have c4:w5.cell? ⟨m,4,none⟩=some (.int .i64 (-1)):=HT5.out.c4
 have f2:=HT5.out.tm.fr 2
 have f3:=HT5.out.tm.fr 3
 have f4:=HT5.out.tm.fr 4
 go_upto_region 13 with fail
 have t6:TR (((w5.setCell ⟨m,2,none⟩ (.int .u64 16)).setCell ⟨m,3,none⟩ (.int .u32 5)).setCell ⟨m,4,none⟩ (.int .i64 1)) m g cap t (ml 32 a (lk true (wD 16 p) la false 0) 16 5 1 0 1 0) :=
  ((HT5.out.tmSet 2 (.int .u64 16) (ml 32 a (lk true (wD 16 p) la false 0) 16 0 (-1) 0 1 0) rfl rfl (fun s=>rfl)).tmSet 3 (.int .u32 5) (ml 32 a (lk true (wD 16 p) la false 0) 16 5 (-1) 0 1 0) rfl rfl (fun s=>rfl)).tmSet 4 (.int .i64 1) _ rfl rfl (fun s=>rfl)
 have o6:Only m w5 (((w5.setCell ⟨m,2,none⟩ (.int .u64 16)).setCell ⟨m,3,none⟩ (.int .u32 5)).setCell ⟨m,4,none⟩ (.int .i64 1)):=((Only.set _ _ _ _).trans (Only.set _ _ _ _)).trans (Only.set _ _ _ _)
 obtain⟨w6,hw6⟩:∃ z,(((w5.setCell ⟨m,2,none⟩ (.int .u64 16)).setCell ⟨m,3,none⟩ (.int .u32 5)).setCell ⟨m,4,none⟩ (.int .i64 1))=z:=⟨_,rfl⟩
 rw[hw6] at t6 o6 ⊢
 have HT6:=hd0 t6
 have HX6:=hd0 (HX5.out.only o6 HQ.out)
 have HG6:=hd0 (HG5.out.only o6 (by have:=HNB.out.1.1;have:=HML.out.1;omega))
 have HF6:=hd0 (HF5.out.trans (Fr.of_only o6 (Or.inl rfl)))
 clear hw6 x0 x1 x4 c2 c3 c4 f2 f3 f4 t6 o6 HT5 HG5 HF5 HX5
 have k1:w6.drew.cell? ⟨m,1,none⟩=some (.slice (some ⟨g,0,none⟩) 2 cap):=HT6.out.l1
 have x4:w6.drew.cell? ⟨q,4,none⟩=some (.int .u8 1):=HX6.out.c 4 _ rfl
 have p22:w6.drew.cell? ⟨g,22,none⟩=some (.int .u8 0):=HT6.out.x1 6 (by decide) _ rfl
 have c5:w6.drew.cell? ⟨m,5,none⟩=some (.int .u8 0):=HT6.out.c5
 have f5:w6.drew.frozen? ⟨m,5,none⟩=false:=HT6.out.tm.fr 5
 have t7:TR (w6.drew.setCell ⟨m,5,none⟩ (.int .u8 1)) m g cap t (ml 32 a (lk true (wD 16 p) la false 0) 16 5 1 1 1 0):=(HT6.out.later (Below.refl _ _).drew).tmSet 5 (.int .u8 1) _ rfl rfl (fun s=>rfl)
 have hx7:GB 281 (w6.drew.setCell ⟨m,5,none⟩ (.int .u8 1)) q #[.int .u64 16,.int .u32 5,.int .u64 16,.int .u8 1,.int .u8 1]:=(HX6.out.drew).other (fun e=>HQ.out e.symm) _
 have hg7:GB 217 (w6.drew.setCell ⟨m,5,none⟩ (.int .u8 1)) wr.heap.size #[.int .u64 32,.int .u32 0,.int .i64 (-1)]:=(HG6.out.drew).other (by have:=HNB.out.1.1;have:=HML.out.1;omega) _
 have hf7:Fr (D2 m g) w (w6.drew.setCell ⟨m,5,none⟩ (.int .u8 1)):=(HF6.out.drew).trans (Fr.of_only (Only.set _ _ _ _) (Or.inl rfl))
 have k7:(w6.drew.setCell ⟨m,5,none⟩ (.int .u8 1)).cell? ⟨m,1,none⟩=some (.slice (some ⟨g,0,none⟩) 2 cap):=t7.l1
 have x7:(w6.drew.setCell ⟨m,5,none⟩ (.int .u8 1)).cell? ⟨q,4,none⟩=some (.int .u8 1):=hx7.c 4 _ rfl
 have p7:(w6.drew.setCell ⟨m,5,none⟩ (.int .u8 1)).cell? ⟨g,22,none⟩=some (.int .u8 0):=t7.x1 6 (by decide) _ rfl
 have HT7:=hd0 t7
 have HG7:=hd0 hg7
 have HF7:=hd0 hf7
 clear t7 hx7 hg7 hf7
 refine wp_region_held_drew (S:=fun W=>W.cell? ⟨m,1,none⟩=some (.slice (some ⟨g,0,none⟩) 2 cap)∧W.cell? ⟨q,4,none⟩=some (.int .u8 1)∧W.cell? ⟨g,22,none⟩=some (.int .u8 0)) (by kernel_rfl) ⟨k1,x4,p22⟩ (fun hHeld=>?_)
 refine tkH 0 ?_ ?h ?_
 case h=>(intro w hSw;go_simp;try with_reducible rfl)
 try simp only[Act.put,zz]
 refine tkH 1 ?_ ?h ?_
 case h=>(intro w hSw;go_simp;try with_reducible rfl)
 try simp only[Act.put,zz]
 refine tkH 2 ?_ ?h ?_
 case h=>(intro w hSw;go_simp;try with_reducible rfl)
 try simp only[Act.put,zz]
 refine tkH 3 ?_ ?h ?_
 case h=>(intro w hSw;go_simp;try with_reducible rfl)
 try simp only[Act.put,zz]
 refine tkH 4 ?_ ?h ?_
 case h=>(intro w hSw;go_simp;try with_reducible rfl)
 try simp only[Act.put,zz]
 refine tkH 5 ?_ ?h ?_
 case h=>(intro w hSw;go_simp;try with_reducible rfl)
 try simp only[Act.put,zz]
 refine tkH 6 ?_ ?h ?_
 case h=>(intro w hSw;go_simp;try with_reducible rfl)
 try simp only[Act.put,zz]
 refine tkH 7 ?_ ?h ?_
 case h=>(intro w hSw;go_simp;try with_reducible rfl)
 try simp only[Act.put,zz]
 refine tkH 8 ?_ ?h ?_
 case h=>(intro w hSw;go_simp;try with_reducible rfl)
 try simp only[Act.put,zz]
 refine tkH 9 ?_ ?h ?_
 case h=>(intro w hSw;go_simp;try with_reducible rfl)
 try simp only[Act.put,zz]
 refine tkH 10 ?_ ?h ?_
 case h=>(intro w hSw;go_simp;try with_reducible rfl)
 try simp only[Act.put,zz]
 refine tkH 11 ?_ ?h ?_
 case h=>(intro w hSw;go_simp;try with_reducible rfl)
 try simp only[Act.put,zz]
 refine tkH 12 ?_ ?h ?_
 case h=>(intro w hSw;go_simp;try with_reducible rfl)
 try simp only[Act.put,zz]
 refine tkH 13 ?_ ?h ?_
 case h=>(intro w hSw;go_simp;try with_reducible rfl)
 try simp only[Act.put,zz]
 refine rdH 14 fun K hK=>?_
 (go_simp;refine hK.out _ _ ⟨k7,x7,p7⟩ (fun hHeld=>?_);clear hK K;try simp only[Act.put,zz])
 refine wpAnyH_done (by kernel_rfl) ?_ _
 rw[show(w6.setCell ⟨m,5,none⟩ (.int .u8 (IntKind.u8.wrap 1))).drew=w6.drew.setCell ⟨m,5,none⟩ (.int .u8 1) from rfl]
 obtain⟨w7,hw7⟩:∃ z,w6.drew.setCell ⟨m,5,none⟩ (.int .u8 1)=z:=⟨_,rfl⟩
 rw[hw7] at HT7 HG7 HF7 ⊢
 clear hw7 k1 x4 p22 c5 f5 k7 x7 p7 HT6 HX6 HG6 HF6
 go_upto_region 14 with fail
 have l2:∀ K:Later w7,K.out.cell? ⟨m,2,none⟩=some (.int .u64 16):=fun K=>(HT7.out.later K.h).c2
 have l3:∀ K:Later w7,K.out.cell? ⟨m,3,none⟩=some (.int .u32 5):=fun K=>(HT7.out.later K.h).c3
 have l4:∀ K:Later w7,K.out.cell? ⟨m,4,none⟩=some (.int .i64 1):=fun K=>(HT7.out.later K.h).c4
 have n0:∀ K:Later w7,K.out.cell? ⟨wr.heap.size,0,none⟩=some (.int .u64 32):=fun K=>(HG7.out.later K.h).c 0 _ rfl
 have n1:∀ K:Later w7,K.out.cell? ⟨wr.heap.size,1,none⟩=some (.int .u32 0):=fun K=>(HG7.out.later K.h).c 1 _ rfl
 have n2:∀ K:Later w7,K.out.cell? ⟨wr.heap.size,2,none⟩=some (.int .i64 (-1)):=fun K=>(HG7.out.later K.h).c 2 _ rfl
 have EQ:∀ W:World,(binOp .neq 217 (.agg #[.int .u64 16,.int .u32 5,.int .i64 1]) (.agg #[.int .u64 32,.int .u32 0,.int .i64 (-1)])).run Tryz.prog W=.ok (.bool true) W:=fun W=>by kernel_rfl
 refine wp_region_later (by kernel_rfl) (by kernel_rfl) ?_
 repeat (go_big_quiet_step (fail))
 refine wpQuiet_nil ?_
 rintro _ ⟨K2,rfl⟩
 clear l2 l3 l4 n0 n1 n2 EQ
 have HT8:=hd0 (HT7.out.later K2.h)
 have HF8:=hd0 (HF7.out.trans (Fr.of_below K2.h))
 obtain⟨w8,hw8⟩:∃ z,K2.out=z:=⟨_,rfl⟩
 rw[hw8] at HT8 HF8 ⊢
 clear hw8 K2 HT7 HF7 HG7
 have TN:=hd0 (tturnT m g cap t 32 a (wD 16 p) la 0 16 5 1 1 w8 HT8.out)
 go_upto_region 16 with(go_at_call 173;with_reducible refine TN.out.mono ?_;rintro e wf ⟨rfl,htf,hff⟩)
 have HTf:=hd0 htf
 have HFf:=hd0 (HF8.out.trans hff)
 clear htf hff TN HT8 HF8
 have c1:=HTf.out.l1
 go_wp2_with fail
 clear c1
 refine wp_loop_rounds 3 ?_
 rw[rounds_succ]
 have c1:wf.drew.cell? ⟨m,1,none⟩=some (.slice (some ⟨g,0,none⟩) 2 cap):=HTf.out.l1
 have a1:wf.drew.cell? ⟨g,14,none⟩=some (.bool false):=HTf.out.h0 14 (by decide) _ rfl
 have fa:wf.drew.frozen? ⟨g,14,none⟩=false:=HTf.out.row.fr 14
 have sa:=setCell_id a1
 go_upto_region 19 with fail
 refine wp_region_held_drew (S:=fun W=>W.cell? ⟨m,1,none⟩=some (.slice (some ⟨g,0,none⟩) 2 cap)∧W.cell? ⟨g,14,none⟩=some (.bool false)) (by kernel_rfl) ⟨c1,a1⟩ (fun hHeld=>?_)
 refine tkH 0 ?_ ?h ?_
 case h=>(intro w hSw;go_simp;try with_reducible rfl)
 try simp only[Act.put,zz]
 refine tkH 1 ?_ ?h ?_
 case h=>(intro w hSw;go_simp;try with_reducible rfl)
 try simp only[Act.put,zz]
 refine tkH 2 ?_ ?h ?_
 case h=>(intro w hSw;go_simp;try with_reducible rfl)
 try simp only[Act.put,zz]
 refine tkH 3 ?_ ?h ?_
 case h=>(intro w hSw;go_simp;try with_reducible rfl)
 try simp only[Act.put,zz]
 refine tkH 4 ?_ ?h ?_
 case h=>(intro w hSw;go_simp;try with_reducible rfl)
 try simp only[Act.put,zz]
 refine tkH 5 ?_ ?h ?_
 case h=>(intro w hSw;go_simp;try with_reducible rfl)
 try simp only[Act.put,zz]
 refine tkH 6 ?_ ?h ?_
 case h=>(intro w hSw;go_simp;try with_reducible rfl)
 try simp only[Act.put,zz]
 refine tkH 7 ?_ ?h ?_
 case h=>(intro w hSw;go_simp;try with_reducible rfl)
 try simp only[Act.put,zz]
 refine tkH 8 ?_ ?h ?_
 case h=>(intro w hSw;go_simp;try with_reducible rfl)
 try simp only[Act.put,zz]
 refine tkH 9 ?_ ?h ?_
 case h=>(intro w hSw;go_simp;try with_reducible rfl)
 try simp only[Act.put,zz]
 refine tkH 10 ?_ ?h ?_
 case h=>(intro w hSw;go_simp;try with_reducible rfl)
 try simp only[Act.put,zz]
 refine tkH 11 ?_ ?h ?_
 case h=>(intro w hSw;go_simp;try with_reducible rfl)
 try simp only[Act.put,zz]
 refine tkH 12 ?_ ?h ?_
 case h=>(intro w hSw;go_simp;try with_reducible rfl)
 try simp only[Act.put,zz]
 refine tkH 13 ?_ ?h ?_
 case h=>(intro w hSw;go_simp;try with_reducible rfl)
 try simp only[Act.put,zz]
 refine wpAnyH_take (i:=14) (v:=undef) rfl (by kernel_rfl) (by kernel_rfl) (by kernel_rfl) (fun _ _ _ h=>h) (Or.inr ⟨by rfl,rfl⟩) (by assumption) ?_
 try simp only[Act.put,zz]
 refine wpAnyH_take (i:=15) (v:=undef) rfl (by kernel_rfl) (by kernel_rfl) (by kernel_rfl) (fun _ _ _ h=>h) (Or.inr ⟨by rfl,rfl⟩) (by assumption) ?_
 try simp only[Act.put,zz]
 refine wpAnyH_take (i:=16) (v:=undef) rfl (by kernel_rfl) (by kernel_rfl) (by kernel_rfl) (fun _ _ _ h=>h) (Or.inr ⟨by rfl,rfl⟩) (by assumption) ?_
 try simp only[Act.put,zz]
 refine wpAnyH_take (i:=17) (v:=undef) rfl (by kernel_rfl) (by kernel_rfl) (by kernel_rfl) (fun _ _ _ h=>h) (Or.inr ⟨by rfl,rfl⟩) (by assumption) ?_
 try simp only[Act.put,zz]
 refine wpAnyH_take (i:=18) (v:=undef) rfl (by kernel_rfl) (by kernel_rfl) (by kernel_rfl) (fun _ _ _ h=>h) (Or.inr ⟨by rfl,rfl⟩) (by assumption) ?_
 try simp only[Act.put,zz]
 refine tkH 19 ?_ ?h ?_
 case h=>(intro w hSw;go_simp;try with_reducible rfl)
 try simp only[Act.put,zz]
 refine tkH 20 ?_ ?h ?_
 case h=>(intro w hSw;go_simp;try with_reducible rfl)
 try simp only[Act.put,zz]
 refine tkH 21 ?_ ?h ?_
 case h=>(intro w hSw;go_simp;try with_reducible rfl)
 try simp only[Act.put,zz]
 refine rdH 22 fun K hK=>?_
 (go_simp;refine hK.out _ _ ⟨c1,a1⟩ (fun hHeld=>?_);clear hK K;try simp only[Act.put,zz])
 refine wpAnyH_done (by kernel_rfl) ?_ _
 clear a1 fa sa c1
 have HTg:=hd0 (HTf.out.later (Below.refl _ _).drew)
 have HFg:=hd0 (HFf.out.drew)
 obtain⟨wg,hwg⟩:∃ z,wf.drew=z:=⟨_,rfl⟩
 rw[hwg] at HTg HFg ⊢
 clear hwg
 go_wp2_with fail
 rw[rounds_succ]
 have c1:wg.drew.cell? ⟨m,1,none⟩=some (.slice (some ⟨g,0,none⟩) 2 cap):=HTg.out.l1
 have a1:wg.drew.cell? ⟨g,30,none⟩=some (.bool false):=HTg.out.x1 14 (by decide) _ rfl
 have fa:wg.drew.frozen? ⟨g,30,none⟩=false:=HTg.out.row.fr 30
 have sa:=setCell_id a1
 go_upto_region 19 with fail
 refine wp_region_held_drew (S:=fun W=>W.cell? ⟨m,1,none⟩=some (.slice (some ⟨g,0,none⟩) 2 cap)∧W.cell? ⟨g,30,none⟩=some (.bool false)) (by kernel_rfl) ⟨c1,a1⟩ (fun hHeld=>?_)
 refine tkH 0 ?_ ?h ?_
 case h=>(intro w hSw;go_simp;try with_reducible rfl)
 try simp only[Act.put,zz]
 refine tkH 1 ?_ ?h ?_
 case h=>(intro w hSw;go_simp;try with_reducible rfl)
 try simp only[Act.put,zz]
 refine tkH 2 ?_ ?h ?_
 case h=>(intro w hSw;go_simp;try with_reducible rfl)
 try simp only[Act.put,zz]
 refine tkH 3 ?_ ?h ?_
 case h=>(intro w hSw;go_simp;try with_reducible rfl)
 try simp only[Act.put,zz]
 refine tkH 4 ?_ ?h ?_
 case h=>(intro w hSw;go_simp;try with_reducible rfl)
 try simp only[Act.put,zz]
 refine tkH 5 ?_ ?h ?_
 case h=>(intro w hSw;go_simp;try with_reducible rfl)
 try simp only[Act.put,zz]
 refine tkH 6 ?_ ?h ?_
 case h=>(intro w hSw;go_simp;try with_reducible rfl)
 try simp only[Act.put,zz]
 refine tkH 7 ?_ ?h ?_
 case h=>(intro w hSw;go_simp;try with_reducible rfl)
 try simp only[Act.put,zz]
 refine tkH 8 ?_ ?h ?_
 case h=>(intro w hSw;go_simp;try with_reducible rfl)
 try simp only[Act.put,zz]
 refine tkH 9 ?_ ?h ?_
 case h=>(intro w hSw;go_simp;try with_reducible rfl)
 try simp only[Act.put,zz]
 refine tkH 10 ?_ ?h ?_
 case h=>(intro w hSw;go_simp;try with_reducible rfl)
 try simp only[Act.put,zz]
 refine tkH 11 ?_ ?h ?_
 case h=>(intro w hSw;go_simp;try with_reducible rfl)
 try simp only[Act.put,zz]
 refine tkH 12 ?_ ?h ?_
 case h=>(intro w hSw;go_simp;try with_reducible rfl)
 try simp only[Act.put,zz]
 refine tkH 13 ?_ ?h ?_
 case h=>(intro w hSw;go_simp;try with_reducible rfl)
 try simp only[Act.put,zz]
 refine wpAnyH_take (i:=14) (v:=undef) rfl (by kernel_rfl) (by kernel_rfl) (by kernel_rfl) (fun _ _ _ h=>h) (Or.inr ⟨by rfl,rfl⟩) (by assumption) ?_
 try simp only[Act.put,zz]
 refine wpAnyH_take (i:=15) (v:=undef) rfl (by kernel_rfl) (by kernel_rfl) (by kernel_rfl) (fun _ _ _ h=>h) (Or.inr ⟨by rfl,rfl⟩) (by assumption) ?_
 try simp only[Act.put,zz]
 refine wpAnyH_take (i:=16) (v:=undef) rfl (by kernel_rfl) (by kernel_rfl) (by kernel_rfl) (fun _ _ _ h=>h) (Or.inr ⟨by rfl,rfl⟩) (by assumption) ?_
 try simp only[Act.put,zz]
 refine wpAnyH_take (i:=17) (v:=undef) rfl (by kernel_rfl) (by kernel_rfl) (by kernel_rfl) (fun _ _ _ h=>h) (Or.inr ⟨by rfl,rfl⟩) (by assumption) ?_
 try simp only[Act.put,zz]
 refine wpAnyH_take (i:=18) (v:=undef) rfl (by kernel_rfl) (by kernel_rfl) (by kernel_rfl) (fun _ _ _ h=>h) (Or.inr ⟨by rfl,rfl⟩) (by assumption) ?_
 try simp only[Act.put,zz]
 refine tkH 19 ?_ ?h ?_
 case h=>(intro w hSw;go_simp;try with_reducible rfl)
 try simp only[Act.put,zz]
 refine tkH 20 ?_ ?h ?_
 case h=>(intro w hSw;go_simp;try with_reducible rfl)
 try simp only[Act.put,zz]
 refine tkH 21 ?_ ?h ?_
 case h=>(intro w hSw;go_simp;try with_reducible rfl)
 try simp only[Act.put,zz]
 refine rdH 22 fun K hK=>?_
 (go_simp;refine hK.out _ _ ⟨c1,a1⟩ (fun hHeld=>?_);clear hK K;try simp only[Act.put,zz])
 refine wpAnyH_done (by kernel_rfl) ?_ _
 clear a1 fa sa c1
 have HTh:=hd0 (HTg.out.later (Below.refl _ _).drew)
 have HFh:=hd0 (HFg.out.drew)
 obtain⟨wh,hwh⟩:∃ z,wg.drew=z:=⟨_,rfl⟩
 rw[hwh] at HTh HFh ⊢
 clear hwh
 go_wp2_with fail
 rw[rounds_succ]
 go_wp2_with fail
 go_end0
 exact⟨rfl,HTh.out,HFh.out⟩
end Go.Proofs.YtghaobakpdninaaGreatDoor
