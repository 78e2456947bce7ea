/- ZR09 -/
import Derived.Test.YtghaobakpdninaaGreatDoorZR08
set_option linter.unusedVariables false
set_option linter.unusedSimpArgs false
set_option maxRecDepth 100000
set_option maxHeartbeats 16000000
namespace Go.Proofs.YtghaobakpdninaaGreatDoor
open Go.RowKit
theorem cor4 (b c:Nat)(a0 a1:Int)(ha:a0=-1∨a0=0∧a1=-1)(w:World)(c0:w.cell? ⟨b,0,none⟩=some (.int .i64 a0))(c1:w.cell? ⟨b,1,none⟩=some (.int .i64 a1)):Calls Tryz.prog 231 #[.slice (some ⟨b,0,none⟩) 4 c] w fun en w'=>en=.returned (.int .i64 (-1))∧w=w':=by
 rcases ha with rfl|⟨rfl,rfl⟩
 all_goals
  go_enter Tryz.func231,Tryz.ntmps231
  go_wp2_with fail
  refine wp_loop_rounds 3 ?_
  rw[rounds_succ]
  go_wp2_with fail
 ·go_ret
  exact⟨rfl,rfl⟩
 ·rw[rounds_succ]
  go_wp2_with fail
  go_ret
  exact⟨rfl,rfl⟩
theorem vfirst4 (b c:Nat)(a0 a1:Int)(ha:a0=-1∨a0=0∧a1=-1)(w:World)(c0:w.cell? ⟨b,0,none⟩=some (.int .i64 a0))(c1:w.cell? ⟨b,1,none⟩=some (.int .i64 a1)):Calls Tryz.prog 165 #[.slice (some ⟨b,0,none⟩) 4 c] w fun en w'=>en=.returned (.int .i64 (-1))∧w=w':=by
 have OR:=hd0 (cor4 b c a0 a1 ha w c0 c1)
 clear ha c0 c1
 go_enter Tryz.func165,Tryz.ntmps165
 go_wp2_with (go_at_call 231;with_reducible refine OR.out.mono ?_;rintro e w' ⟨rfl,rfl⟩)
 go_ret
 exact⟨rfl,rfl⟩
theorem vcmp1 (w:World):Calls Tryz.prog 112 #[.agg #[.int .u64 16,.int .u32 0,.int .u64 16,.int .u8 1],.agg #[.int .u64 32,.int .u32 0,.int .u64 32,.int .u8 1]] w fun en w'=>en=.returned (.int .i64 (-1))∧Below w.heap.size w w':=by
 have hb:=((Below.refl w.heap.size w).alloc (Nat.le_refl _) (.cells #[.int .u64 16,.int .u32 0,.int .u64 16,.int .u8 1] 210)).alloc (by simp) (.cells #[.int .u64 32,.int .u32 0,.int .u64 32,.int .u8 1] 210)
 have ga:=(GB.new 210 w #[.int .u64 16,.int .u32 0,.int .u64 16,.int .u8 1]).later (bAo (.cells #[.int .u64 32,.int .u32 0,.int .u64 32,.int .u8 1] 210))
 have gb:=GB.new 210 (w.alloc (.cells #[.int .u64 16,.int .u32 0,.int .u64 16,.int .u8 1] 210)) #[.int .u64 32,.int .u32 0,.int .u64 32,.int .u8 1]
 obtain⟨wa,hwa⟩:∃ z,w.alloc (.cells #[.int .u64 16,.int .u32 0,.int .u64 16,.int .u8 1] 210)=z:=⟨_,rfl⟩
 rw[hwa] at hb ga gb
 obtain⟨w0,hw0⟩:∃ z,wa.alloc (.cells #[.int .u64 32,.int .u32 0,.int .u64 32,.int .u8 1] 210)=z:=⟨_,rfl⟩
 rw[hw0] at hb ga gb
 have r0:=ga.range
 have r1:=gb.range
 have HI0:Hid ((Tryz.prog.info? 210).map (·.size)=some (List.length ([.int .u64 16,.int .u32 0,.int .u64 16,.int .u8 1]:List Value))):=hd0 (by kernel_rfl)
 have HI1:Hid ((Tryz.prog.info? 210).map (·.size)=some (List.length ([.int .u64 32,.int .u32 0,.int .u64 32,.int .u8 1]:List Value))):=hd0 (by kernel_rfl)
 have EQ:∀ W:World,(binOp .eql 210 (.agg #[.int .u64 16,.int .u32 0,.int .u64 16,.int .u8 1]) (.agg #[.int .u64 32,.int .u32 0,.int .u64 32,.int .u8 1])).run Tryz.prog W=.ok (.bool false) W:=fun W=>by kernel_rfl
 have HB:=hd0 hb
 have SX:Hid (∀ W,Below w0.heap.size w0 W→W.cell? ⟨w.heap.size,0,none⟩=some (.int .u64 16)∧W.cell? ⟨w.heap.size,1,none⟩=some (.int .u32 0)∧W.cell? ⟨w.heap.size,2,none⟩=some (.int .u64 16)∧W.cell? ⟨w.heap.size,3,none⟩=some (.int .u8 1)∧W.cell? ⟨wa.heap.size,0,none⟩=some (.int .u64 32)∧W.cell? ⟨wa.heap.size,1,none⟩=some (.int .u32 0)∧W.cell? ⟨wa.heap.size,2,none⟩=some (.int .u64 32)∧W.cell? ⟨wa.heap.size,3,none⟩=some (.int .u8 1)):=hd0 fun W hW=>⟨(ga.later hW).c 0 _ rfl,(ga.later hW).c 1 _ rfl,(ga.later hW).c 2 _ rfl,(ga.later hW).c 3 _ rfl,(gb.later hW).c 0 _ rfl,(gb.later hW).c 1 _ rfl,(gb.later hW).c 2 _ rfl,(gb.later hW).c 3 _ rfl⟩
 clear ga gb hb
 have VF:Hid (∀ (W:World) b c,W.cell? ⟨b,0,none⟩=some (.int .i64 (cmpI 16 32))→W.cell? ⟨b,1,none⟩=some (.int .i64 (cmpI 0 0))→Calls Tryz.prog 165 #[.slice (some ⟨b,0,none⟩) 4 c] W fun en w'=>en=.returned (.int .i64 (-1))∧W=w'):=hd0 fun W b c h0 h1=>vfirst4 b c _ _ (by decide) W h0 h1
 go_enter Tryz.func112,Tryz.ntmps112
 go_upto_region 1 with fail
 clear hw0
 go_upto_region 3 with(first
  |((with_reducible refine wpList_load_mid rfl 210 (.tmp 2) rfl w.heap.size 0 ?hx [.int .u64 16,.int .u32 0,.int .u64 16,.int .u8 1] _ r0 Tryz.underlying210 ?hu HI0.out ?_);(case hx=>rfl);(case hu=>rfl))
  |((with_reducible refine wpList_load_mid rfl 210 (.tmp 3) rfl (wa.heap.size) 0 ?hx [.int .u64 32,.int .u32 0,.int .u64 32,.int .u8 1] _ r1 Tryz.underlying210 ?hu HI1.out ?_);(case hx=>rfl);(case hu=>rfl)))
 have s0:=SX.out _ (Below.refl w0.heap.size w0).drew
 go_region_held3 (fun W=>W.cell? ⟨w.heap.size,0,none⟩=some (.int .u64 16)∧W.cell? ⟨w.heap.size,1,none⟩=some (.int .u32 0)∧W.cell? ⟨w.heap.size,2,none⟩=some (.int .u64 16)∧W.cell? ⟨w.heap.size,3,none⟩=some (.int .u8 1)∧W.cell? ⟨wa.heap.size,0,none⟩=some (.int .u64 32)∧W.cell? ⟨wa.heap.size,1,none⟩=some (.int .u32 0)∧W.cell? ⟨wa.heap.size,2,none⟩=some (.int .u64 32)∧W.cell? ⟨wa.heap.size,3,none⟩=some (.int .u8 1))
  (first|exact s0|exact SX.out _ ((Below.refl w0.heap.size w0).drew.alloc (Nat.le_refl _) _))
  (first
   |(go_at_call 166;refine(cmp_uint64 _ _ _).mono ?_;rintro e w' ⟨rfl,rfl⟩)
   |(go_at_call 167;refine(cmp_uint32 _ _ _).mono ?_;rintro e w' ⟨rfl,rfl⟩)
   |(go_at_call 168;refine(cmp_uint8 _ _ _).mono ?_;rintro e w' ⟨rfl,rfl⟩)
   |(go_at_call 165;refine(VF.out _ _ _ (by exact(GB.new _ _ _).c 0 _ rfl) (by exact(GB.new _ _ _).c 1 _ rfl)).mono ?_;rintro e w' ⟨rfl,rfl⟩))
 go_wp2
 go_ret
 exact⟨rfl,HB.out.trans ((((Below.refl w0.heap.size w0).alloc (Nat.le_refl _) _).drew).mono HB.out.size)⟩
theorem vcmp2 (w:World):Calls Tryz.prog 112 #[.agg #[.int .u64 16,.int .u32 0,.int .u64 16,.int .u8 1],.agg #[.int .u64 16,.int .u32 5,.int .u64 32,.int .u8 1]] w fun en w'=>en=.returned (.int .i64 (-1))∧Below w.heap.size w w':=by
 have hb:=((Below.refl w.heap.size w).alloc (Nat.le_refl _) (.cells #[.int .u64 16,.int .u32 0,.int .u64 16,.int .u8 1] 210)).alloc (by simp) (.cells #[.int .u64 16,.int .u32 5,.int .u64 32,.int .u8 1] 210)
 have ga:=(GB.new 210 w #[.int .u64 16,.int .u32 0,.int .u64 16,.int .u8 1]).later (bAo (.cells #[.int .u64 16,.int .u32 5,.int .u64 32,.int .u8 1] 210))
 have gb:=GB.new 210 (w.alloc (.cells #[.int .u64 16,.int .u32 0,.int .u64 16,.int .u8 1] 210)) #[.int .u64 16,.int .u32 5,.int .u64 32,.int .u8 1]
 obtain⟨wa,hwa⟩:∃ z,w.alloc (.cells #[.int .u64 16,.int .u32 0,.int .u64 16,.int .u8 1] 210)=z:=⟨_,rfl⟩
 rw[hwa] at hb ga gb
 obtain⟨w0,hw0⟩:∃ z,wa.alloc (.cells #[.int .u64 16,.int .u32 5,.int .u64 32,.int .u8 1] 210)=z:=⟨_,rfl⟩
 rw[hw0] at hb ga gb
 have r0:=ga.range
 have r1:=gb.range
 have HI0:Hid ((Tryz.prog.info? 210).map (·.size)=some (List.length ([.int .u64 16,.int .u32 0,.int .u64 16,.int .u8 1]:List Value))):=hd0 (by kernel_rfl)
 have HI1:Hid ((Tryz.prog.info? 210).map (·.size)=some (List.length ([.int .u64 16,.int .u32 5,.int .u64 32,.int .u8 1]:List Value))):=hd0 (by kernel_rfl)
 have EQ:∀ W:World,(binOp .eql 210 (.agg #[.int .u64 16,.int .u32 0,.int .u64 16,.int .u8 1]) (.agg #[.int .u64 16,.int .u32 5,.int .u64 32,.int .u8 1])).run Tryz.prog W=.ok (.bool false) W:=fun W=>by kernel_rfl
 have HB:=hd0 hb
 have SX:Hid (∀ W,Below w0.heap.size w0 W→W.cell? ⟨w.heap.size,0,none⟩=some (.int .u64 16)∧W.cell? ⟨w.heap.size,1,none⟩=some (.int .u32 0)∧W.cell? ⟨w.heap.size,2,none⟩=some (.int .u64 16)∧W.cell? ⟨w.heap.size,3,none⟩=some (.int .u8 1)∧W.cell? ⟨wa.heap.size,0,none⟩=some (.int .u64 16)∧W.cell? ⟨wa.heap.size,1,none⟩=some (.int .u32 5)∧W.cell? ⟨wa.heap.size,2,none⟩=some (.int .u64 32)∧W.cell? ⟨wa.heap.size,3,none⟩=some (.int .u8 1)):=hd0 fun W hW=>⟨(ga.later hW).c 0 _ rfl,(ga.later hW).c 1 _ rfl,(ga.later hW).c 2 _ rfl,(ga.later hW).c 3 _ rfl,(gb.later hW).c 0 _ rfl,(gb.later hW).c 1 _ rfl,(gb.later hW).c 2 _ rfl,(gb.later hW).c 3 _ rfl⟩
 clear ga gb hb
 have VF:Hid (∀ (W:World) b c,W.cell? ⟨b,0,none⟩=some (.int .i64 (cmpI 16 16))→W.cell? ⟨b,1,none⟩=some (.int .i64 (cmpI 0 5))→Calls Tryz.prog 165 #[.slice (some ⟨b,0,none⟩) 4 c] W fun en w'=>en=.returned (.int .i64 (-1))∧W=w'):=hd0 fun W b c h0 h1=>vfirst4 b c _ _ (by decide) W h0 h1
 go_enter Tryz.func112,Tryz.ntmps112
 go_upto_region 1 with fail
 clear hw0
 go_upto_region 3 with(first
  |((with_reducible refine wpList_load_mid rfl 210 (.tmp 2) rfl w.heap.size 0 ?hx [.int .u64 16,.int .u32 0,.int .u64 16,.int .u8 1] _ r0 Tryz.underlying210 ?hu HI0.out ?_);(case hx=>rfl);(case hu=>rfl))
  |((with_reducible refine wpList_load_mid rfl 210 (.tmp 3) rfl (wa.heap.size) 0 ?hx [.int .u64 16,.int .u32 5,.int .u64 32,.int .u8 1] _ r1 Tryz.underlying210 ?hu HI1.out ?_);(case hx=>rfl);(case hu=>rfl)))
 have s0:=SX.out _ (Below.refl w0.heap.size w0).drew
 go_region_held3 (fun W=>W.cell? ⟨w.heap.size,0,none⟩=some (.int .u64 16)∧W.cell? ⟨w.heap.size,1,none⟩=some (.int .u32 0)∧W.cell? ⟨w.heap.size,2,none⟩=some (.int .u64 16)∧W.cell? ⟨w.heap.size,3,none⟩=some (.int .u8 1)∧W.cell? ⟨wa.heap.size,0,none⟩=some (.int .u64 16)∧W.cell? ⟨wa.heap.size,1,none⟩=some (.int .u32 5)∧W.cell? ⟨wa.heap.size,2,none⟩=some (.int .u64 32)∧W.cell? ⟨wa.heap.size,3,none⟩=some (.int .u8 1))
  (first|exact s0|exact SX.out _ ((Below.refl w0.heap.size w0).drew.alloc (Nat.le_refl _) _))
  (first
   |(go_at_call 166;refine(cmp_uint64 _ _ _).mono ?_;rintro e w' ⟨rfl,rfl⟩)
   |(go_at_call 167;refine(cmp_uint32 _ _ _).mono ?_;rintro e w' ⟨rfl,rfl⟩)
   |(go_at_call 168;refine(cmp_uint8 _ _ _).mono ?_;rintro e w' ⟨rfl,rfl⟩)
   |(go_at_call 165;refine(VF.out _ _ _ (by exact(GB.new _ _ _).c 0 _ rfl) (by exact(GB.new _ _ _).c 1 _ rfl)).mono ?_;rintro e w' ⟨rfl,rfl⟩))
 go_wp2
 go_ret
 exact⟨rfl,HB.out.trans ((((Below.refl w0.heap.size w0).alloc (Nat.le_refl _) _).drew).mono HB.out.size)⟩
def pathZ:Array Value:=#[.int .u64 0,.int .u32 0,.int .u64 0,.int .u8 0,.int .u8 0]
theorem vleast_nil (w:World):Calls Tryz.prog 115 #[.slice none 0 0] w fun en w'=>en=.returned (.tuple #[.agg #[.int .u64 0,.int .u32 0,.int .u64 0,.int .u8 0,.int .u8 0],.bool false])∧Below w.heap.size w w':=by
 have hb:Below w.heap.size w (w.alloc (.cells pathZ 281)):=bAo _
 have HB:=hd0 hb
 clear hb
 go_enter Tryz.func115,Tryz.ntmps115
 go_wp2
 exact bodyPost_ret (v:=.tuple #[.agg pathZ,.bool false]) (res_two (p:=2) (u:=3) (d:=_) rfl rfl Tryz.underlying281 _ _ w.heap.size _ rfl (GB.new _ _ _) (by kernel_rfl)) rfl ⟨rfl,HB.out⟩
theorem vmin1 (b c:Nat)(r:Int)(fv:Value)(w:World)(hr:w.rangeAt b 0 [.int .u64 r,.int .u32 5,.int .u64 r,.int .u8 1,.int .u8 1]):Calls Tryz.prog 170 #[.slice (some ⟨b,0,none⟩) 1 c,fv] w fun en w'=>en=.returned (.agg #[.int .u64 r,.int .u32 5,.int .u64 r,.int .u8 1,.int .u8 1])∧Below w.heap.size w w':=by
 have HI0:Hid ((Tryz.prog.info? 281).map (·.size)=some (List.length ([.int .u64 r,.int .u32 5,.int .u64 r,.int .u8 1,.int .u8 1]:List Value))):=hd0 (by kernel_rfl)
 have hlt:b<w.heap.size:=World.block_lt_of_cell? _ _ (hr 0 _ rfl)
 have HR:=hd0 fun W (hb:Below w.heap.size w W)=>(show W.rangeAt b 0 [.int .u64 r,.int .u32 5,.int .u64 r,.int .u8 1,.int .u8 1] from fun j v hv=>(hb.cell (p:=⟨b,0+j,none⟩) hlt).trans (hr j v hv))
 clear hr hlt
 go_enter Tryz.func170,Tryz.ntmps170
 go_upto_region 3 with fail
 have b1:=(Below.refl w.heap.size w).alloc (Nat.le_refl _) (.cells #[.int .u64 0,.int .u32 0,.int .u64 0,.int .u8 0,.int .u8 0] 281)
 have R1:=HR.out _ b1
 have z1:=GB.new 281 w #[.int .u64 0,.int .u32 0,.int .u64 0,.int .u8 0,.int .u8 0]
 obtain⟨w1,hw1⟩:∃ z,w.alloc (.cells #[.int .u64 0,.int .u32 0,.int .u64 0,.int .u8 0,.int .u8 0] 281)=z:=⟨_,rfl⟩
 have hz:w1.heap.size=w.heap.size+1:=by rw[←hw1];simp
 have b2:=b1.alloc b1.size (.cells #[.int .u64 r,.int .u32 5,.int .u64 r,.int .u8 1,.int .u8 1] 281)
 have z2:=z1.later (bAo (.cells #[.int .u64 r,.int .u32 5,.int .u64 r,.int .u8 1,.int .u8 1] 281))
 rw[hw1] at R1 b2 z2
 have g2:=GB.new 281 w1 #[.int .u64 r,.int .u32 5,.int .u64 r,.int .u8 1,.int .u8 1]
 rw[hz] at g2
 go_upto_region 4 with((with_reducible refine wpList_load_mid rfl 281 (.tmp 12) rfl b 0 ?hx [.int .u64 r,.int .u32 5,.int .u64 r,.int .u8 1,.int .u8 1] _ R1 Tryz.underlying281 ?hu HI0.out ?_);(case hx=>rfl);(case hu=>rfl))
 obtain⟨w2,hw2⟩:∃ z,w1.alloc (.cells #[.int .u64 r,.int .u32 5,.int .u64 r,.int .u8 1,.int .u8 1] 281)=z:=⟨_,rfl⟩
 rw[hw2] at b2 z2 g2 ⊢
 have r2:=g2.range
 have TH:Hid (w2.there w.heap.size 0 (Array.size #[Value.int .u64 r,.int .u32 5,.int .u64 r,.int .u8 1,.int .u8 1])):=hd0 (z2.there (Nat.le_refl _))
 have HO:Hid ((#[.int .u64 r,.int .u32 5,.int .u64 r,.int .u8 1,.int .u8 1]:Array Value).all (·.oneCell')=true):=hd0 (by kernel_rfl)
 have HI1:Hid ((Tryz.prog.info? 281).map (·.size)=some (Array.size #[Value.int .u64 r,.int .u32 5,.int .u64 r,.int .u8 1,.int .u8 1])):=hd0 (by kernel_rfl)
 have Z2:=hd0 z2
 have B2:=hd0 b2
 clear hw2 hw1 z1 z2 b1 b2 g2 R1
 go_wp2_with fail
 refine wp_loop_rounds 1 ?_
 rw[rounds_succ]
 go_wp2_with (first
  |((with_reducible refine wpList_load_mid rfl 281 (.tmp 5) rfl (w.heap.size+1) 0 ?hx [.int .u64 r,.int .u32 5,.int .u64 r,.int .u8 1,.int .u8 1] _ r2 Tryz.underlying281 ?hu HI0.out ?_);(case hx=>rfl);(case hu=>rfl))
  |((with_reducible refine wpList_store_mid rfl 281 (.tmp 4) (.tmp 32) rfl w.heap.size 0 #[Value.int .u64 r,.int .u32 5,.int .u64 r,.int .u8 1,.int .u8 1] ?hx ?hy TH.out HI1.out HO.out ?_);(case hx=>rfl);(case hy=>rfl)))
 exact bodyPost_ret (v:=.agg #[.int .u64 r,.int .u32 5,.int .u64 r,.int .u8 1,.int .u8 1]) (res_one (p:=4) (d:=_) rfl rfl Tryz.underlying281 _ _ w.heap.size _ rfl (Z2.out.store rfl HO.out) (by kernel_rfl)) rfl ⟨rfl,below_cellsG (Nat.le_refl _) _ _ _ B2.out⟩
theorem vleast1 (b c:Nat)(r:Int)(w:World)(hr:w.rangeAt b 0 [.int .u64 r,.int .u32 5,.int .u64 r,.int .u8 1,.int .u8 1]):Calls Tryz.prog 115 #[.slice (some ⟨b,0,none⟩) 1 c] w fun en w'=>en=.returned (.tuple #[.agg #[.int .u64 r,.int .u32 5,.int .u64 r,.int .u8 1,.int .u8 1],.bool true])∧Below w.heap.size w w':=by
 have HMR:=hd0 fun W (hb:Below w.heap.size w W)=>vmin1 b c r (.func (.func 171) #[] #[]) W (fun j v hv=>(hb.cell (p:=⟨b,0+j,none⟩) (World.block_lt_of_cell? _ _ (hr j v hv))).trans (hr j v hv))
 clear hr
 go_enter Tryz.func115,Tryz.ntmps115
 go_upto_region 3 with fail
 have b1:=(Below.refl w.heap.size w).alloc (Nat.le_refl _) (.cells #[.int .u64 0,.int .u32 0,.int .u64 0,.int .u8 0,.int .u8 0] 281)
 have z1:=GB.new 281 w #[.int .u64 0,.int .u32 0,.int .u64 0,.int .u8 0,.int .u8 0]
 have M1:=hd0 (HMR.out _ b1)
 obtain⟨w1,hw1⟩:∃ z,w.alloc (.cells #[.int .u64 0,.int .u32 0,.int .u64 0,.int .u8 0,.int .u8 0] 281)=z:=⟨_,rfl⟩
 rw[hw1] at b1 z1 M1 ⊢
 clear hw1 HMR
 go_wp2_with fail
 with_reducible refine M1.out.mono ?_
 rintro e w2 ⟨rfl,hb2⟩
 have Z2:=hd0 (z1.later hb2)
 have B2:=hd0 (b1.trans (hb2.mono b1.size))
 have TH:Hid (w2.there w.heap.size 0 (Array.size #[Value.int .u64 r,.int .u32 5,.int .u64 r,.int .u8 1,.int .u8 1])):=hd0 (Z2.out.there (Nat.le_refl _))
 have HO:Hid ((#[.int .u64 r,.int .u32 5,.int .u64 r,.int .u8 1,.int .u8 1]:Array Value).all (·.oneCell')=true):=hd0 (by kernel_rfl)
 have HI1:Hid ((Tryz.prog.info? 281).map (·.size)=some (Array.size #[Value.int .u64 r,.int .u32 5,.int .u64 r,.int .u8 1,.int .u8 1])):=hd0 (by kernel_rfl)
 clear z1 b1 hb2 M1
 go_wp2_with ((with_reducible refine wpList_store_mid rfl 281 (.tmp 2) (.tmp 9) rfl w.heap.size 0 #[Value.int .u64 r,.int .u32 5,.int .u64 r,.int .u8 1,.int .u8 1] ?hx ?hy TH.out HI1.out HO.out ?_);(case hx=>rfl);(case hy=>rfl))
 exact bodyPost_ret (v:=.tuple #[.agg #[.int .u64 r,.int .u32 5,.int .u64 r,.int .u8 1,.int .u8 1],.bool true]) (res_two (p:=2) (u:=3) (d:=_) rfl rfl Tryz.underlying281 _ _ w.heap.size _ rfl (Z2.out.store rfl HO.out) (by kernel_rfl)) rfl ⟨rfl,below_cellsG (Nat.le_refl _) _ _ _ B2.out⟩
theorem vfar1 (r:Int)(w:World):Calls Tryz.prog 169 #[.agg #[.int .u64 r,.int .u32 0,.int .u64 r,.int .u8 1],.int .u32 5] w fun en w'=>en=.returned (.tuple #[.agg #[.int .u64 r,.int .u32 5,.int .u64 r,.int .u8 1],.bool true])∧Below w.heap.size w w':=by
 have hb0:=(Below.refl w.heap.size w).alloc (Nat.le_refl _) (.cells #[.int .u64 r,.int .u32 0,.int .u64 r,.int .u8 1] 210)
 have g0:=GB.new 210 w #[.int .u64 r,.int .u32 0,.int .u64 r,.int .u8 1]
 obtain⟨wa,hwa⟩:∃ z,w.alloc (.cells #[.int .u64 r,.int .u32 0,.int .u64 r,.int .u8 1] 210)=z:=⟨_,rfl⟩
 rw[hwa] at hb0 g0
 have hza:wa.heap.size=w.heap.size+1:=by rw[←hwa];simp
 have hb1:=hb0.trans (((Below.refl wa.heap.size wa).alloc (Nat.le_refl _) (.cells #[.int .u64 0,.int .u32 0,.int .u64 0,.int .u8 0] 210)).mono hb0.size)
 have g1:=g0.later (bAo (.cells #[.int .u64 0,.int .u32 0,.int .u64 0,.int .u8 0] 210))
 have z1:=GB.new 210 wa #[.int .u64 0,.int .u32 0,.int .u64 0,.int .u8 0]
 rw[hza] at z1
 obtain⟨w0,hw0⟩:∃ z,wa.alloc (.cells #[.int .u64 0,.int .u32 0,.int .u64 0,.int .u8 0] 210)=z:=⟨_,rfl⟩
 rw[hw0] at hb1 g1 z1
 have c1:w0.cell? ⟨w.heap.size,1,none⟩=some (.int .u32 0):=g1.c 1 _ rfl
 have f1:=g1.fr 1
 have g2:GB 210 (w0.setCell ⟨w.heap.size,1,none⟩ (.int .u32 5)) w.heap.size #[.int .u64 r,.int .u32 5,.int .u64 r,.int .u8 1]:=g1.set 1 _
 have z2:=z1.other (t:=w.heap.size) (o:=1) (by omega) (.int .u32 5)
 have hb2:=below_set hb1 (Nat.le_refl _) (o:=1) (.int .u32 5)
 obtain⟨w2,hw2⟩:∃ z,w0.setCell ⟨w.heap.size,1,none⟩ (.int .u32 5)=z:=⟨_,rfl⟩
 rw[hw2] at g2 z2 hb2
 have r2:=g2.range
 have HIL:Hid ((Tryz.prog.info? 210).map (·.size)=some (List.length ([.int .u64 r,.int .u32 5,.int .u64 r,.int .u8 1]:List Value))):=hd0 (by kernel_rfl)
 have HI1:Hid ((Tryz.prog.info? 210).map (·.size)=some (Array.size #[Value.int .u64 r,.int .u32 5,.int .u64 r,.int .u8 1])):=hd0 (by kernel_rfl)
 have HO:Hid ((#[.int .u64 r,.int .u32 5,.int .u64 r,.int .u8 1]:Array Value).all (·.oneCell')=true):=hd0 (by kernel_rfl)
 have TH:Hid (w2.there (w.heap.size+1) 0 (Array.size #[Value.int .u64 r,.int .u32 5,.int .u64 r,.int .u8 1])):=hd0 (z2.there (Nat.le_refl _))
 have HZ2:=hd0 z2
 have HB2:=hd0 hb2
 clear g0 hb0 hb1 g1 z1 g2 z2 hb2
 go_enter Tryz.func169,Tryz.ntmps169
 go_upto_region 4 with fail
 go_wp2_with (first
  |((with_reducible refine wpList_load_mid rfl 210 (.tmp 2) rfl w.heap.size 0 ?hx [.int .u64 r,.int .u32 5,.int .u64 r,.int .u8 1] _ r2 Tryz.underlying210 ?hu HIL.out ?_);(case hx=>rfl);(case hu=>rfl))
  |((with_reducible refine wpList_store_mid rfl 210 (.tmp 4) (.tmp 23) rfl (w.heap.size+1) 0 #[Value.int .u64 r,.int .u32 5,.int .u64 r,.int .u8 1] ?hx ?hy TH.out HI1.out HO.out ?_);(case hx=>rfl);(case hy=>rfl)))
 exact bodyPost_ret (v:=.tuple #[.agg #[.int .u64 r,.int .u32 5,.int .u64 r,.int .u8 1],.bool true]) (res_two (p:=4) (u:=5) (d:=_) rfl rfl Tryz.underlying210 _ _ (w.heap.size+1) _ rfl (HZ2.out.store rfl HO.out) (by kernel_rfl)) rfl ⟨rfl,below_cellsG (Nat.le_succ _) _ _ _ HB2.out⟩
end Go.Proofs.YtghaobakpdninaaGreatDoor
