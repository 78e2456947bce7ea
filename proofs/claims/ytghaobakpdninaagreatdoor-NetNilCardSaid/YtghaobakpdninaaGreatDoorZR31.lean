/- ZR31 -/
import Derived.Test.YtghaobakpdninaaGreatDoorZR30
set_option linter.unusedVariables false
set_option linter.unusedSimpArgs false
set_option maxRecDepth 100000
set_option maxHeartbeats 16000000
namespace Go.Proofs.YtghaobakpdninaaGreatDoor
open Go.RowKit
theorem Fr.behind {D D':Nat→Prop}{w wd w5:World}(hb:Below w.heap.size w wd)(hf:Fr D' wd w5)(h:∀ k,k<w.heap.size→D' k→D k):Fr D w w5 :=
 ⟨hf.os.trans hb.os,hf.tape.trans hb.tape,hf.output.trans hb.output,Nat.le_trans hb.size hf.size,fun k hk hn=>(hf.block k (Nat.lt_of_lt_of_le hk hb.size) fun h'=>hn (h k hk h')).trans (hb.block k hk)⟩
theorem ngoes_10 (N:NPos)(TA TB:TM)(oA oB:List Int)(VA VB:List Vn)(vA vB:Value)(B0 B1:List Value)(gs cs:Nat)(d:List UInt8)(hd:d.length≤1522)(hB:B0.length<64∧B1.length<64)(w:World)(h:NS w N TA TB oA oB VA VB vA vB B0 B1)(hr:w.rangeAt gs 0 (sdC (0,d))) :
  Calls Tryz.prog 70 #[.pointer (some ⟨N.n,0,none⟩),.int .i64 1,.slice (some ⟨gs,0,none⟩) 1 cs] w fun en w'=>(∃ g1 c1,en=.returned (.slice (some ⟨g1,0,none⟩) 1 c1)∧w'.rangeAt g1 0 (outC (1,0,d))∧w.heap.size≤g1)∧NS w' N TA TB oA oB VA VB vA vB B0 B1∧Fr (fun k=>k=N.c0∨k=N.c1) w w':=by
 have b1:=(Below.refl w.heap.size w).alloc (Nat.le_refl _) (.cells #[.pointer (some ⟨N.n,0,none⟩)] 44)
 have g1:=GB.new 44 w #[.pointer (some ⟨N.n,0,none⟩)]
 have z1:(w.alloc (.cells #[.pointer (some ⟨N.n,0,none⟩)] 44)).heap.size=w.heap.size+1:=by simp
 obtain⟨wa,hwa⟩:∃ z,w.alloc (.cells #[.pointer (some ⟨N.n,0,none⟩)] 44)=z:=⟨_,rfl⟩
 rw[hwa] at b1 g1 z1
 have b2:=(Below.refl wa.heap.size wa).alloc (Nat.le_refl _) (.cells #[.int .i64 1] 3)
 have g2:=GB.new 3 wa #[.int .i64 1]
 have z2:(wa.alloc (.cells #[.int .i64 1] 3)).heap.size=wa.heap.size+1:=by simp
 obtain⟨wb,hwb⟩:∃ z,wa.alloc (.cells #[.int .i64 1] 3)=z:=⟨_,rfl⟩
 rw[hwb] at b2 g2 z2
 have b3:=(Below.refl wb.heap.size wb).alloc (Nat.le_refl _) (.cells #[.slice none 0 0] 46)
 have g3:=GB.new 46 wb #[.slice none 0 0]
 obtain⟨wc,hwc⟩:∃ z,wb.alloc (.cells #[.slice none 0 0] 46)=z:=⟨_,rfl⟩
 rw[hwc] at b3 g3
 have b23:=b2.trans (b3.mono b2.size)
 have b13:=b1.trans (b23.mono b1.size)
 have r0:wc.rangeAt gs 0 [.int .u8 0,.string (bs d)]:=range_later hr b13
 have b4:=(Below.refl wc.heap.size wc).alloc (Nat.le_refl _) (.cells #[.int .u8 0,.string (bs d)] 257)
 have g4:=GB.new 257 wc #[.int .u8 0,.string (bs d)]
 obtain⟨wd,hwd⟩:∃ z,wc.alloc (.cells #[.int .u8 0,.string (bs d)] 257)=z:=⟨_,rfl⟩
 rw[hwd] at b4 g4
 have r4:=g4.range
 have b14:=b13.trans (b4.mono b13.size)
 have HIL:Hid ((Tryz.prog.info? 257).map (·.size)=some (List.length ([.int .u8 0,.string (bs d)]:List Value))):=hd0 (by kernel_rfl)
 have GO:=hd0 (ngoes1_10 N TA TB TA TB oA oB oA oB VA VB VA VB vA vB vA vB B0 B1 B0 B1 w h wb.heap.size wa.heap.size w.heap.size d hd wd (h.later b14) (by omega) (g3.later b4) ((g2.later b3).later b4) ((g1.later b23).later b4) (by omega) hB)
 have HB:=hd0 b14
 have HZ:=hd0 (show w.heap.size<wb.heap.size by omega)
 clear h hr hd hB b1 g1 z1 b2 g2 z2 b3 g3 b23 b13 b4 g4 b14
 go_enter Tryz.func70,Tryz.ntmps70
 go_wp2_with fail
 refine wp_loop_rounds 2 ?_
 rw[rounds_succ]
 go_upto_region 6 with((with_reducible refine wpList_load_mid rfl 257 (.tmp 16) rfl gs 0 ?hx [.int .u8 0,.string (bs d)] _ r0 Tryz.underlying257 ?hu HIL.out ?_);(case hx=>rfl);(case hu=>rfl))
 go_wp2_with (first
  |((with_reducible refine wpList_load_mid rfl 257 (.tmp 10) rfl wc.heap.size 0 ?hx [.int .u8 0,.string (bs d)] _ r4 Tryz.underlying257 ?hu HIL.out ?_);(case hx=>rfl);(case hu=>rfl))
  |(go_at_call 96;with_reducible refine GO.out.mono ?_;rintro en w5 ⟨rfl,⟨g1,c1,hk,hrr,hg1⟩,hns,hf⟩))
 rw[rounds_succ]
 go_wp2_with fail
 have hF:=Fr.behind HB.out hf (D:=fun k=>k=N.c0∨k=N.c1) (fun k h1 h2=>h2.resolve_left fun h3=>by have:=HZ.out;omega)
 exact bodyPost_ret (v:=.slice (some ⟨g1,0,none⟩) 1 c1) (by simp[results,Tryz.results70,go_sem]) rfl ⟨⟨g1,c1,rfl,hrr,Nat.le_trans HB.out.size hg1⟩,hns,hF⟩
theorem ngoes_01 (N:NPos)(TA TB:TM)(oA oB:List Int)(VA VB:List Vn)(vA vB:Value)(B0 B1:List Value)(gs cs:Nat)(d:List UInt8)(hd:d.length≤1522)(hB:B0.length<64∧B1.length<64)(w:World)(h:NS w N TA TB oA oB VA VB vA vB B0 B1)(hr:w.rangeAt gs 0 (sdC (1,d))) :
  Calls Tryz.prog 70 #[.pointer (some ⟨N.n,0,none⟩),.int .i64 0,.slice (some ⟨gs,0,none⟩) 1 cs] w fun en w'=>(∃ g1 c1,en=.returned (.slice (some ⟨g1,0,none⟩) 1 c1)∧w'.rangeAt g1 0 (outC (0,1,d))∧w.heap.size≤g1)∧NS w' N TA TB oA oB VA VB vA vB (B0++[.string (bs d)]) B1∧Fr (fun k=>k=N.c0∨k=N.c1) w w':=by
 have b1:=(Below.refl w.heap.size w).alloc (Nat.le_refl _) (.cells #[.pointer (some ⟨N.n,0,none⟩)] 44)
 have g1:=GB.new 44 w #[.pointer (some ⟨N.n,0,none⟩)]
 have z1:(w.alloc (.cells #[.pointer (some ⟨N.n,0,none⟩)] 44)).heap.size=w.heap.size+1:=by simp
 obtain⟨wa,hwa⟩:∃ z,w.alloc (.cells #[.pointer (some ⟨N.n,0,none⟩)] 44)=z:=⟨_,rfl⟩
 rw[hwa] at b1 g1 z1
 have b2:=(Below.refl wa.heap.size wa).alloc (Nat.le_refl _) (.cells #[.int .i64 0] 3)
 have g2:=GB.new 3 wa #[.int .i64 0]
 have z2:(wa.alloc (.cells #[.int .i64 0] 3)).heap.size=wa.heap.size+1:=by simp
 obtain⟨wb,hwb⟩:∃ z,wa.alloc (.cells #[.int .i64 0] 3)=z:=⟨_,rfl⟩
 rw[hwb] at b2 g2 z2
 have b3:=(Below.refl wb.heap.size wb).alloc (Nat.le_refl _) (.cells #[.slice none 0 0] 46)
 have g3:=GB.new 46 wb #[.slice none 0 0]
 obtain⟨wc,hwc⟩:∃ z,wb.alloc (.cells #[.slice none 0 0] 46)=z:=⟨_,rfl⟩
 rw[hwc] at b3 g3
 have b23:=b2.trans (b3.mono b2.size)
 have b13:=b1.trans (b23.mono b1.size)
 have r0:wc.rangeAt gs 0 [.int .u8 1,.string (bs d)]:=range_later hr b13
 have b4:=(Below.refl wc.heap.size wc).alloc (Nat.le_refl _) (.cells #[.int .u8 1,.string (bs d)] 257)
 have g4:=GB.new 257 wc #[.int .u8 1,.string (bs d)]
 obtain⟨wd,hwd⟩:∃ z,wc.alloc (.cells #[.int .u8 1,.string (bs d)] 257)=z:=⟨_,rfl⟩
 rw[hwd] at b4 g4
 have r4:=g4.range
 have b14:=b13.trans (b4.mono b13.size)
 have HIL:Hid ((Tryz.prog.info? 257).map (·.size)=some (List.length ([.int .u8 1,.string (bs d)]:List Value))):=hd0 (by kernel_rfl)
 have GO:=hd0 (ngoes1_01 N TA TB TA TB oA oB oA oB VA VB VA VB vA vB vA vB B0 B1 B0 B1 w h wb.heap.size wa.heap.size w.heap.size d hd wd (h.later b14) (by omega) (g3.later b4) ((g2.later b3).later b4) ((g1.later b23).later b4) (by omega) hB)
 have HB:=hd0 b14
 have HZ:=hd0 (show w.heap.size<wb.heap.size by omega)
 clear h hr hd hB b1 g1 z1 b2 g2 z2 b3 g3 b23 b13 b4 g4 b14
 go_enter Tryz.func70,Tryz.ntmps70
 go_wp2_with fail
 refine wp_loop_rounds 2 ?_
 rw[rounds_succ]
 go_upto_region 6 with((with_reducible refine wpList_load_mid rfl 257 (.tmp 16) rfl gs 0 ?hx [.int .u8 1,.string (bs d)] _ r0 Tryz.underlying257 ?hu HIL.out ?_);(case hx=>rfl);(case hu=>rfl))
 go_wp2_with (first
  |((with_reducible refine wpList_load_mid rfl 257 (.tmp 10) rfl wc.heap.size 0 ?hx [.int .u8 1,.string (bs d)] _ r4 Tryz.underlying257 ?hu HIL.out ?_);(case hx=>rfl);(case hu=>rfl))
  |(go_at_call 96;with_reducible refine GO.out.mono ?_;rintro en w5 ⟨rfl,⟨g1,c1,hk,hrr,hg1⟩,hns,hf⟩))
 rw[rounds_succ]
 go_wp2_with fail
 have hF:=Fr.behind HB.out hf (D:=fun k=>k=N.c0∨k=N.c1) (fun k h1 h2=>h2.resolve_left fun h3=>by have:=HZ.out;omega)
 exact bodyPost_ret (v:=.slice (some ⟨g1,0,none⟩) 1 c1) (by simp[results,Tryz.results70,go_sem]) rfl ⟨⟨g1,c1,rfl,hrr,Nat.le_trans HB.out.size hg1⟩,hns,hF⟩
theorem ngoes_11 (N:NPos)(TA TB:TM)(oA oB:List Int)(VA VB:List Vn)(vA vB:Value)(B0 B1:List Value)(gs cs:Nat)(d:List UInt8)(hd:d.length≤1522)(hB:B0.length<64∧B1.length<64)(w:World)(h:NS w N TA TB oA oB VA VB vA vB B0 B1)(hr:w.rangeAt gs 0 (sdC (1,d))) :
  Calls Tryz.prog 70 #[.pointer (some ⟨N.n,0,none⟩),.int .i64 1,.slice (some ⟨gs,0,none⟩) 1 cs] w fun en w'=>(∃ g1 c1,en=.returned (.slice (some ⟨g1,0,none⟩) 1 c1)∧w'.rangeAt g1 0 (outC (1,1,d))∧w.heap.size≤g1)∧NS w' N TA TB oA oB VA VB vA vB B0 (B1++[.string (bs d)])∧Fr (fun k=>k=N.c0∨k=N.c1) w w':=by
 have b1:=(Below.refl w.heap.size w).alloc (Nat.le_refl _) (.cells #[.pointer (some ⟨N.n,0,none⟩)] 44)
 have g1:=GB.new 44 w #[.pointer (some ⟨N.n,0,none⟩)]
 have z1:(w.alloc (.cells #[.pointer (some ⟨N.n,0,none⟩)] 44)).heap.size=w.heap.size+1:=by simp
 obtain⟨wa,hwa⟩:∃ z,w.alloc (.cells #[.pointer (some ⟨N.n,0,none⟩)] 44)=z:=⟨_,rfl⟩
 rw[hwa] at b1 g1 z1
 have b2:=(Below.refl wa.heap.size wa).alloc (Nat.le_refl _) (.cells #[.int .i64 1] 3)
 have g2:=GB.new 3 wa #[.int .i64 1]
 have z2:(wa.alloc (.cells #[.int .i64 1] 3)).heap.size=wa.heap.size+1:=by simp
 obtain⟨wb,hwb⟩:∃ z,wa.alloc (.cells #[.int .i64 1] 3)=z:=⟨_,rfl⟩
 rw[hwb] at b2 g2 z2
 have b3:=(Below.refl wb.heap.size wb).alloc (Nat.le_refl _) (.cells #[.slice none 0 0] 46)
 have g3:=GB.new 46 wb #[.slice none 0 0]
 obtain⟨wc,hwc⟩:∃ z,wb.alloc (.cells #[.slice none 0 0] 46)=z:=⟨_,rfl⟩
 rw[hwc] at b3 g3
 have b23:=b2.trans (b3.mono b2.size)
 have b13:=b1.trans (b23.mono b1.size)
 have r0:wc.rangeAt gs 0 [.int .u8 1,.string (bs d)]:=range_later hr b13
 have b4:=(Below.refl wc.heap.size wc).alloc (Nat.le_refl _) (.cells #[.int .u8 1,.string (bs d)] 257)
 have g4:=GB.new 257 wc #[.int .u8 1,.string (bs d)]
 obtain⟨wd,hwd⟩:∃ z,wc.alloc (.cells #[.int .u8 1,.string (bs d)] 257)=z:=⟨_,rfl⟩
 rw[hwd] at b4 g4
 have r4:=g4.range
 have b14:=b13.trans (b4.mono b13.size)
 have HIL:Hid ((Tryz.prog.info? 257).map (·.size)=some (List.length ([.int .u8 1,.string (bs d)]:List Value))):=hd0 (by kernel_rfl)
 have GO:=hd0 (ngoes1_11 N TA TB TA TB oA oB oA oB VA VB VA VB vA vB vA vB B0 B1 B0 B1 w h wb.heap.size wa.heap.size w.heap.size d hd wd (h.later b14) (by omega) (g3.later b4) ((g2.later b3).later b4) ((g1.later b23).later b4) (by omega) hB)
 have HB:=hd0 b14
 have HZ:=hd0 (show w.heap.size<wb.heap.size by omega)
 clear h hr hd hB b1 g1 z1 b2 g2 z2 b3 g3 b23 b13 b4 g4 b14
 go_enter Tryz.func70,Tryz.ntmps70
 go_wp2_with fail
 refine wp_loop_rounds 2 ?_
 rw[rounds_succ]
 go_upto_region 6 with((with_reducible refine wpList_load_mid rfl 257 (.tmp 16) rfl gs 0 ?hx [.int .u8 1,.string (bs d)] _ r0 Tryz.underlying257 ?hu HIL.out ?_);(case hx=>rfl);(case hu=>rfl))
 go_wp2_with (first
  |((with_reducible refine wpList_load_mid rfl 257 (.tmp 10) rfl wc.heap.size 0 ?hx [.int .u8 1,.string (bs d)] _ r4 Tryz.underlying257 ?hu HIL.out ?_);(case hx=>rfl);(case hu=>rfl))
  |(go_at_call 96;with_reducible refine GO.out.mono ?_;rintro en w5 ⟨rfl,⟨g1,c1,hk,hrr,hg1⟩,hns,hf⟩))
 rw[rounds_succ]
 go_wp2_with fail
 have hF:=Fr.behind HB.out hf (D:=fun k=>k=N.c0∨k=N.c1) (fun k h1 h2=>h2.resolve_left fun h3=>by have:=HZ.out;omega)
 exact bodyPost_ret (v:=.slice (some ⟨g1,0,none⟩) 1 c1) (by simp[results,Tryz.results70,go_sem]) rfl ⟨⟨g1,c1,rfl,hrr,Nat.le_trans HB.out.size hg1⟩,hns,hF⟩
theorem ngoes_none (n i:Nat)(c:Nat)(w:World) :
  Calls Tryz.prog 70 #[.pointer (some ⟨n,0,none⟩),.int .i64 i,.slice none 0 c] w fun en w'=>en=.returned (.slice none 0 0)∧Below w.heap.size w w':=by
 have b1:=(Below.refl w.heap.size w).alloc (Nat.le_refl _) (.cells #[.pointer (some ⟨n,0,none⟩)] 44)
 obtain⟨wa,hwa⟩:∃ z,w.alloc (.cells #[.pointer (some ⟨n,0,none⟩)] 44)=z:=⟨_,rfl⟩
 rw[hwa] at b1
 have b2:=b1.alloc b1.size (.cells #[.int .i64 i] 3)
 obtain⟨wb,hwb⟩:∃ z,wa.alloc (.cells #[.int .i64 i] 3)=z:=⟨_,rfl⟩
 rw[hwb] at b2
 have b3:=b2.alloc b2.size (.cells #[.slice none 0 0] 46)
 have g3:=GB.new 46 wb #[.slice none 0 0]
 obtain⟨wc,hwc⟩:∃ z,wb.alloc (.cells #[.slice none 0 0] 46)=z:=⟨_,rfl⟩
 rw[hwc] at b3 g3
 have k3:wc.cell? ⟨wb.heap.size,0,none⟩=some (.slice none 0 0):=g3.c 0 _ rfl
 clear g3 b1 b2
 go_enter Tryz.func70,Tryz.ntmps70
 go_wp2_with fail
 refine wp_loop_rounds 1 ?_
 rw[rounds_succ]
 go_wp2_with fail
 exact bodyPost_ret (v:=.slice none 0 0) (by simp[results,Tryz.results70,go_sem]) rfl ⟨rfl,b3⟩
structure NSt where
 TA:TM
 TB:TM
 oA:List Int
 oB:List Int
 VA:List Vn
 VB:List Vn
 vA:Bool
 vB:Bool
 B0:List Value
 B1:List Value
def NZ (W:World)(N:NPos)(s:NSt):Prop:=∃ a b:Value,(s.vA=false→a=.slice none 0 0)∧(s.vB=false→b=.slice none 0 0)∧NS W N s.TA s.TB s.oA s.oB s.VA s.VB a b s.B0 s.B1
def NK (N:NPos)(k:Nat):Prop:=InR N.a0 N.a1 k∨InR N.b0 N.b1 k∨k=N.c0∨k=N.c1
section
variable {W W' W0:World} {N:NPos} {s s0:NSt}
theorem NZ.later (h:NZ W N s)(hb:Below W.heap.size W W'):NZ W' N s:=by
 obtain⟨a,b,h1,h2,h⟩:=h
 exact⟨a,b,h1,h2,h.later hb⟩
theorem NZ.below {B:Nat}(h:NZ W N s)(h0:NZ W0 N s0)(hB:W0.heap.size≤B)(hb:Below B W W'):NZ W' N s:=by
 obtain⟨a,b,h1,h2,h⟩:=h
 obtain⟨a0,b0,-,-,h0⟩:=h0
 exact⟨a,b,h1,h2,h.below h0 hB hb⟩
theorem NZ.gn (h:NZ W N s):GB 97 W N.n #[.slice (some ⟨N.bs,0,none⟩) 2 N.bc,.slice (some ⟨N.ls,0,none⟩) 1 N.lc,.map (some N.sm),.int .u64 0]:=by obtain⟨a,b,-,-,h⟩:=h;exact h.gn
theorem NZ.rb (h:NZ W N s):W.rangeAt N.bs 0 [.pointer (some ⟨N.A.b,0,none⟩),.pointer (some ⟨N.B.b,0,none⟩)]:=by obtain⟨a,b,-,-,h⟩:=h;exact h.rb
theorem NZ.rl (h:NZ W N s):W.rangeAt N.ls 0 [.pointer (some ⟨N.l,0,none⟩),.int .i64 0,.int .u8 1,.int .u32 5,.int .i64 1,.int .u8 1,.int .u32 5]:=by obtain⟨a,b,-,-,h⟩:=h;exact h.rl
theorem NZ.sm (h:NZ W N s):SM W N.sm:=by obtain⟨a,b,-,-,h⟩:=h;exact h.sm
theorem NZ.lk (h:NZ W N s):LK W N.l N.q0 N.c0 N.q1 N.c1 true s.B0 s.B1:=by obtain⟨a,b,-,-,h⟩:=h;exact h.lk
theorem NZ.sep (h:NZ W N s):N.out N.n∧N.out N.bs∧N.out N.ls∧N.out N.sm∧N.out N.l∧N.out N.q0∧N.out N.c0∧N.out N.q1∧N.out N.c1:=by obtain⟨a,b,-,-,h⟩:=h;exact h.sep
theorem NZ.tops (h:NZ W N s):N.a1≤W.heap.size∧N.b1≤W.heap.size:=by obtain⟨a,b,-,-,h⟩:=h;exact h.tops
theorem NZ.A (h:NZ W N s):∃ a,(s.vA=false→a=.slice none 0 0)∧BN W N.a0 N.a1 N.A s.TA s.oA s.VA a:=by obtain⟨a,b,h1,-,h⟩:=h;exact⟨a,h1,h.A⟩
theorem NZ.B (h:NZ W N s):∃ a,(s.vB=false→a=.slice none 0 0)∧BN W N.b0 N.b1 N.B s.TB s.oB s.VB a:=by obtain⟨a,b,-,h1,h⟩:=h;exact⟨b,h1,h.B⟩
theorem NZ.A0 (h:NZ W N s)(hv:s.vA=false):BN W N.a0 N.a1 N.A s.TA s.oA s.VA (.slice none 0 0):=by obtain⟨a,h1,h⟩:=h.A;rwa [h1 hv] at h
theorem NZ.B0 (h:NZ W N s)(hv:s.vB=false):BN W N.b0 N.b1 N.B s.TB s.oB s.VB (.slice none 0 0):=by obtain⟨a,h1,h⟩:=h.B;rwa [h1 hv] at h
theorem NZ.setA {T:TM}{o:List Int}{V:List Vn}{v:Bool}{a:Value}(h:NZ W N s)(hA:BN W' N.a0 N.a1 N.A T o V a)(hf:Fr (InR N.a0 N.a1) W W')(hv:v=false→a=.slice none 0 0):NZ W' N { s with TA:=T,oA:=o,VA:=V,vA:=v }:=by
 obtain⟨a',b,h1,h2,h⟩:=h
 exact⟨a,b,hv,h2,h.setA hA hf⟩
theorem NZ.setB {T:TM}{o:List Int}{V:List Vn}{v:Bool}{a:Value}(h:NZ W N s)(hB:BN W' N.b0 N.b1 N.B T o V a)(hf:Fr (InR N.b0 N.b1) W W')(hv:v=false→a=.slice none 0 0):NZ W' N { s with TB:=T,oB:=o,VB:=V,vB:=v }:=by
 obtain⟨a',b,h1,h2,h⟩:=h
 exact⟨a',a,h1,hv,h.setB hB hf⟩
theorem NZ.setL (h:NZ W N s){c:Nat}{X Y:List Value}(hL:LK W' N.l N.q0 N.c0 N.q1 N.c1 true X Y)(hf:Fr (fun k=>k=c) W W')(hc:c=N.c0∨c=N.c1):NZ W' N { s with B0:=X,B1:=Y }:=by
 obtain⟨a,b,h1,h2,h⟩:=h
 exact⟨a,b,h1,h2,h.setL hL hf hc⟩
theorem NZ.nk (h:NZ W N s){k:Nat}(hk:NK N k):k<W.heap.size:=by
 rcases hk with hk|hk|rfl|rfl
 ·exact Nat.lt_of_lt_of_le hk.2 h.tops.1
 ·exact Nat.lt_of_lt_of_le hk.2 h.tops.2
 ·exact h.lk.lt0
 ·exact h.lk.lt1
theorem NZ.out (h:NZ W N s):¬ NK N N.n∧¬ NK N N.bs∧¬ NK N N.ls∧¬ NK N N.sm∧¬ NK N N.l:=by
 obtain⟨s0,r0,k0⟩:=h.lk.h0
 obtain⟨s1,r1,k1⟩:=h.lk.h1
 obtain⟨o1,o2,o3,o4,o5,o6,o7,o8,o9⟩:=h.sep
 refine⟨?_,?_,?_,?_,?_⟩
 ·rintro (x|x|x|x)
  ·exact o1.1 x
  ·exact o1.2 x
  ·exact chan_ne h.gn k0 x
  ·exact chan_ne h.gn k1 x
 ·rintro (x|x|x|x)
  ·exact o2.1 x
  ·exact o2.2 x
  ·exact range_chan (by simp) h.rb k0 x
  ·exact range_chan (by simp) h.rb k1 x
 ·rintro (x|x|x|x)
  ·exact o3.1 x
  ·exact o3.2 x
  ·exact range_chan (by simp) h.rl k0 x
  ·exact range_chan (by simp) h.rl k1 x
 ·rintro (x|x|x|x)
  ·exact o4.1 x
  ·exact o4.2 x
  ·exact sm_chan h.sm k0 x
  ·exact sm_chan h.sm k1 x
 ·rintro (x|x|x|x)
  ·exact o5.1 x
  ·exact o5.2 x
  ·exact chan_ne h.lk.gl k0 x
  ·exact chan_ne h.lk.gl k1 x
def SQ (W:World)(N:NPos)(s:NSt)(v:Value):Option (Int × List UInt8)→Prop
 | none=>v=.slice none 0 0∧NZ W N s
 | some x=>(∃ g c:Nat,v=.slice (some ⟨g,0,none⟩) 1 c∧W.rangeAt g 0 (sdC x))∧NZ W N s
theorem SQ.later {v:Value}{o:Option (Int × List UInt8)}(h:SQ W N s v o)(hb:Below W.heap.size W W'):SQ W' N s v o:=by
 cases o with
 | none=>exact⟨h.1,h.2.later hb⟩
 | some x =>
  obtain⟨⟨g,c,rfl,hr⟩,hn⟩:=h
  exact⟨⟨g,c,rfl,range_later hr hb⟩,hn.later hb⟩
theorem SQ.nz {v:Value}{o:Option (Int × List UInt8)}(h:SQ W N s v o):NZ W N s:=by cases o <;> exact h.2
def OV (W:World)(lo:Nat)(v:Value)(l:List (Int × Int × List UInt8)):Prop:=Rw 3 outC W v l∧∀ g,v.ownBlock=some g→lo≤g
end
theorem Ow.fr {α:Type}{k:Nat}{f:α→List Value}{E:TypeId}{B:Nat}{D:Nat→Prop}{w w':World}{v:Value}{l:List α}(h:Ow k f E w B v l)(hf:Fr D w w')(hd:∀ g,B≤g→¬ D g):Ow k f E w' B v l:=by
 obtain⟨h1,h2⟩:=h
 refine⟨h1,?_⟩
 rcases h2 with h2|⟨g,cap,cur,hv,hg,hh,r⟩
 ·exact .inl h2
 ·refine .inr ⟨g,cap,cur,hv,hg,?_,r⟩
  rw[hf.block g (Array.getElem?_eq_some_iff.1 hh).1 (hd g hg)];exact hh
theorem Ow.cell {α:Type}{k:Nat}{f:α→List Value}{E:TypeId}{B:Nat}{w:World}{v:Value}{l:List α}(h:Ow k f E w B v l){t o:Nat}(ht:t<B)(u:Value):Ow k f E (w.setCell ⟨t,o,Option.none⟩ u) B v l :=
 h.fr (D:=fun k=>k=t) (Fr.of_only (Only.set _ _ _ _) rfl) fun g hg e=>by omega
theorem outs_one {w:World}{g c:Nat}{x:Int × Int × List UInt8}(h:w.rangeAt g 0 (outC x)):Rw 3 outC w (.slice (some ⟨g,0,none⟩) 1 c) [x]:=by
 refine .inr ⟨⟨g,0,none⟩,c,rfl,.inr ⟨g,0,rfl,fun j hj i hi=>?_⟩⟩
 have:j=0:=by simpa using hj
 subst this
 rw[show 0+0*3+i=0+i by omega]
 show _=(outC x)[i]?
 have hl:i<(outC x).length:=hi
 rw[List.getElem?_eq_getElem hl]
 exact h i _ (by rw[List.getElem?_eq_getElem hl])
structure TD (w W:World)(N:NPos)(s:NSt)(rb tb M:Nat)(v:Value)(l:List (Int × Int × List UInt8)):Prop where
 gr:GB 49 W rb #[.int .i64 0,.int .i64 0,.slice none 0 0,.slice none 0 0]
 gt:GB 49 W tb #[.int .i64 0,.int .i64 0,v,.slice none 0 0]
 ow:Ow 3 outC 87 W M v l
 nz:NZ W N s
 fr:Fr (NK N) w W
 lt:w.heap.size≤rb∧rb<tb∧tb<M∧M≤W.heap.size∧∀ k,NK N k→k<w.heap.size
section
variable {w W W':World} {N:NPos} {s s':NSt} {rb tb M:Nat} {v v':Value} {l l':List (Int × Int × List UInt8)}
theorem TD.turn (h:TD w W N s rb tb M v l)(hz:NZ W' N s')(hf:Fr (NK N) W W'):TD w W' N s' rb tb M v l:=by
 obtain⟨h1,h2,h3,h4,h5⟩:=h.lt
 exact⟨h.gr.fr' hf fun hk=>by have:=h5 _ hk;omega,h.gt.fr' hf fun hk=>by have:=h5 _ hk;omega,h.ow.fr hf fun g hg hk=>by have:=h5 _ hk;omega,hz,h.fr.trans hf,h1,h2,h3,Nat.le_trans h4 hf.size,h5⟩
theorem TD.later (h:TD w W N s rb tb M v l)(hb:Below W.heap.size W W'):TD w W' N s rb tb M v l:=h.turn (h.nz.later hb) (Fr.of_below hb)
theorem TD.put {W0:World}{s0:NSt}(h:TD w W N s rb tb M v l)(h0:NZ W0 N s0)(e:W0.heap.size=w.heap.size)(ho:Ow 3 outC 87 W' M v' l')(hb:Below M W W'):TD w (W'.setCell ⟨tb,2,none⟩ v') N s rb tb M v' l':=by
 obtain⟨h1,h2,h3,h4,h5⟩:=h.lt
 have hb':Below tb W (W'.setCell ⟨tb,2,none⟩ v'):=below_set (hb.mono (Nat.le_of_lt h3)) (Nat.le_refl _) _
 refine⟨h.gr.below h2 hb',(h.gt.below h3 hb).set 2 v',ho.cell h3 _,h.nz.below h0 (by omega) hb',⟨hb'.os.trans h.fr.os,hb'.tape.trans h.fr.tape,hb'.output.trans h.fr.output,Nat.le_trans h.fr.size hb'.size,fun k hk hn=>(hb'.block k (by omega)).trans (h.fr.block k hk hn)⟩,h1,h2,h3,?_,h5⟩
 have:=hb.size
 simp only[World.size_setCell];omega
end
theorem ngN (N:NPos)(i:Nat)(s:NSt)(v:Value)(w:World)(h:SQ w N s v none):Calls Tryz.prog 70 #[.pointer (some ⟨N.n,0,none⟩),.int .i64 i,v] w fun en w'=>∃ v',en=.returned v'∧OV w' w.heap.size v' []∧NZ w' N s∧Fr (NK N) w w':=by
 obtain⟨rfl,hn⟩:=h
 refine(ngoes_none N.n i 0 w).mono ?_
 rintro en w' ⟨rfl,hb⟩
 exact⟨_,rfl,⟨Rw.nil w',fun g hg=>by cases hg⟩,hn.later hb,Fr.of_below hb⟩
theorem ng10 (N:NPos)(s:NSt)(d:List UInt8)(hd:d.length≤1522)(hB:s.B0.length<64∧s.B1.length<64)(v:Value)(w:World)(h:SQ w N s v (some (0,d))):Calls Tryz.prog 70 #[.pointer (some ⟨N.n,0,none⟩),.int .i64 1,v] w fun en w'=>∃ v',en=.returned v'∧OV w' w.heap.size v' [(1,0,d)]∧NZ w' N { s with B0:=s.B0,B1:=s.B1 }∧Fr (NK N) w w':=by
 obtain⟨⟨g,c,rfl,hr⟩,a,b,ha,hb,hn⟩:=h
 refine(ngoes_10 N s.TA s.TB s.oA s.oB s.VA s.VB a b s.B0 s.B1 g c d hd hB w hn hr).mono ?_
 rintro en w' ⟨⟨g1,c1,rfl,h1,h2⟩,h3,h4⟩
 exact⟨_,rfl,⟨outs_one h1,fun k hk=>by cases hk;exact h2⟩,⟨a,b,ha,hb,h3⟩,h4.mono fun k _ hk=>Or.inr (Or.inr hk)⟩
theorem ng01 (N:NPos)(s:NSt)(d:List UInt8)(hd:d.length≤1522)(hB:s.B0.length<64∧s.B1.length<64)(v:Value)(w:World)(h:SQ w N s v (some (1,d))):Calls Tryz.prog 70 #[.pointer (some ⟨N.n,0,none⟩),.int .i64 0,v] w fun en w'=>∃ v',en=.returned v'∧OV w' w.heap.size v' [(0,1,d)]∧NZ w' N { s with B0:=(s.B0++[.string (bs d)]),B1:=s.B1 }∧Fr (NK N) w w':=by
 obtain⟨⟨g,c,rfl,hr⟩,a,b,ha,hb,hn⟩:=h
 refine(ngoes_01 N s.TA s.TB s.oA s.oB s.VA s.VB a b s.B0 s.B1 g c d hd hB w hn hr).mono ?_
 rintro en w' ⟨⟨g1,c1,rfl,h1,h2⟩,h3,h4⟩
 exact⟨_,rfl,⟨outs_one h1,fun k hk=>by cases hk;exact h2⟩,⟨a,b,ha,hb,h3⟩,h4.mono fun k _ hk=>Or.inr (Or.inr hk)⟩
theorem ng11 (N:NPos)(s:NSt)(d:List UInt8)(hd:d.length≤1522)(hB:s.B0.length<64∧s.B1.length<64)(v:Value)(w:World)(h:SQ w N s v (some (1,d))):Calls Tryz.prog 70 #[.pointer (some ⟨N.n,0,none⟩),.int .i64 1,v] w fun en w'=>∃ v',en=.returned v'∧OV w' w.heap.size v' [(1,1,d)]∧NZ w' N { s with B0:=s.B0,B1:=(s.B1++[.string (bs d)]) }∧Fr (NK N) w w':=by
 obtain⟨⟨g,c,rfl,hr⟩,a,b,ha,hb,hn⟩:=h
 refine(ngoes_11 N s.TA s.TB s.oA s.oB s.VA s.VB a b s.B0 s.B1 g c d hd hB w hn hr).mono ?_
 rintro en w' ⟨⟨g1,c1,rfl,h1,h2⟩,h3,h4⟩
 exact⟨_,rfl,⟨outs_one h1,fun k hk=>by cases hk;exact h2⟩,⟨a,b,ha,hb,h3⟩,h4.mono fun k _ hk=>Or.inr (Or.inr hk)⟩
end Go.Proofs.YtghaobakpdninaaGreatDoor
