/- ZR36 -/
import Derived.Test.YtghaobakpdninaaGreatDoorZR35
import Derived.Test.YtghaobakpdninaaGreatDoorZR33
set_option linter.unusedVariables false
set_option linter.unusedSimpArgs false
set_option maxRecDepth 100000
set_option maxHeartbeats 16000000
namespace Go.Proofs.YtghaobakpdninaaGreatDoor
open Go.RowKit
def slC (x:Nat × Nat):List Value:=[.slice (some ⟨x.1,0,none⟩) 2 x.2]
theorem slC_len (x:Nat × Nat):(slC x).length=1:=rfl
theorem slC_one (x:Nat × Nat):∀ u∈slC x,u.oneCell'=true:=by
 intro u hu
 simp[slC] at hu
 subst hu;rfl
theorem info_slu:(Tryz.prog.info? 137).map (fun i=>(i.zero,i.size,i.bytes))=some (some (.slice none 0 0),1,24):=by kernel_rfl
theorem ow_ne {α:Type}{k:Nat}{f:α→List Value}{E T:TypeId}{B g n c a:Nat}{w:World}{l:List α}{A:Array Value}(h:Ow k f E w B (.slice (some ⟨g,0,none⟩) n c) l)(ha:GB T w a A)(ht:T≠E):a≠g:=by
 rintro rfl
 rcases h.2 with⟨h1,_⟩|⟨g',cap,cur,h1,_,hh,_⟩
 ·cases h1
 ·injection h1 with h1 _ _
  injection h1 with h1
  injection h1 with h1 _ _
  subst h1
  unfold GB at ha
  rw[ha] at hh
  injection hh with hh
  injection hh with _ hh
  exact ht hh
theorem GB.grown {T:TypeId}{w w':World}{a:Nat}{A:Array Value}{row:Option Nat}(h:GB T w a A)(hg:w.grownBy w' row)(hr:some a≠row):GB T w' a A:=(hg.block a h.lt hr).trans h
theorem ncosts (gi gp gl ci cp cl:Nat)(w:World)(h1:w.rangeAt gi 0 [.int .u64 16,.int .u64 32])(h2:w.rangeAt gp 0 [.int .i64 2,.int .i64 2])(h3:w.rangeAt gl 0 (lnC ())) :
  Calls Tryz.prog 36 #[.agg #[.slice (some ⟨gi,0,none⟩) 2 ci,.slice (some ⟨gp,0,none⟩) 2 cp,.slice (some ⟨gl,0,none⟩) 1 cl]] w fun en w'=>∃ g c a ca b cb:Nat,en=.returned (.tuple #[.slice (some ⟨g,0,none⟩) 2 c,.bool true])∧w'.rangeAt g 0 [.slice (some ⟨a,0,none⟩) 2 ca,.slice (some ⟨b,0,none⟩) 2 cb]∧w'.rangeAt a 0 [.int .u32 0,.int .u32 5]∧w'.rangeAt b 0 [.int .u32 0,.int .u32 5]∧Below w.heap.size w w':=by
 have hb:=(Below.refl w.heap.size w).alloc (Nat.le_refl _) (.cells #[.slice (some ⟨gi,0,none⟩) 2 ci,.slice (some ⟨gp,0,none⟩) 2 cp,.slice (some ⟨gl,0,none⟩) 1 cl] 70)
 have g1:=GB.new 70 w #[.slice (some ⟨gi,0,none⟩) 2 ci,.slice (some ⟨gp,0,none⟩) 2 cp,.slice (some ⟨gl,0,none⟩) 1 cl]
 have hz:(w.alloc (.cells #[.slice (some ⟨gi,0,none⟩) 2 ci,.slice (some ⟨gp,0,none⟩) 2 cp,.slice (some ⟨gl,0,none⟩) 1 cl] 70)).heap.size=w.heap.size+1:=by simp
 obtain⟨w0,hw0⟩:∃ z,w.alloc (.cells #[.slice (some ⟨gi,0,none⟩) 2 ci,.slice (some ⟨gp,0,none⟩) 2 cp,.slice (some ⟨gl,0,none⟩) 1 cl] 70)=z:=⟨_,rfl⟩
 rw[hw0] at hb g1 hz
 have d0:w0.cell? ⟨w.heap.size,0,none⟩=some (.slice (some ⟨gi,0,none⟩) 2 ci):=g1.c 0 _ rfl
 have d1:w0.cell? ⟨w.heap.size,1,none⟩=some (.slice (some ⟨gp,0,none⟩) 2 cp):=g1.c 1 _ rfl
 have d2:w0.cell? ⟨w.heap.size,2,none⟩=some (.slice (some ⟨gl,0,none⟩) 1 cl):=g1.c 2 _ rfl
 have p0:w0.cell? ⟨gp,0,none⟩=some (.int .i64 2):=by have:=range_later h2 hb 0 _ rfl;rwa [Nat.zero_add] at this
 have p1:w0.cell? ⟨gp,1,none⟩=some (.int .i64 2):=by have:=range_later h2 hb 1 _ rfl;rwa [Nat.zero_add] at this
 go_enter Tryz.func36,Tryz.ntmps36
 go_wp2_with fail
 refine wp_loop_rounds 3 ?_
 have HBW:=hd0 hb
 have HG0:=hd0 g1
 have H123:=hd0 (And.intro (range_later h1 hb) (And.intro (range_later h2 hb) (range_later h3 hb)))
 have MS:∀ W:World,(Instr.makeSlice 137 (.int .i64 2) (.int .i64 2)).run Tryz.prog W=.ok (.slice (some ⟨W.heap.size,0,none⟩) 2 2) (W.alloc (.cells #[.int .u32 0,.int .u32 0] 101)):=fun W=>by kernel_rfl
 clear hw0 h1 h2 h3 hb g1
 have HZ:=hd0 hz
 clear hz
 have KP0:Hid (Below w0.heap.size w0 w0):=hd0 (Below.refl _ _)
 have OW0:Hid (Ow 1 slC 137 w0 w0.heap.size (.slice none 0 0) []):=hd0 (Ow.none _ _)
 rw[rounds_succ]
 have b0:=((Below.refl w0.heap.size w0).alloc (show w0.heap.size≤w0.heap.size by have:=KP0.out.size;omega) (.cells #[.int .u32 0,.int .u32 0] 101)).alloc (show w0.heap.size≤(w0.alloc _).heap.size by have:=KP0.out.size;simp <;> omega) (.cells #[.slice (some ⟨w0.heap.size,0,none⟩) 2 2] 137)
 have ga0:=(GB.new 101 w0 #[.int .u32 0,.int .u32 0]).later (bAo (.cells #[.slice (some ⟨w0.heap.size,0,none⟩) 2 2] 137))
 have gs0:=(GB.new 137 (w0.alloc (.cells #[.int .u32 0,.int .u32 0] 101)) #[.slice (some ⟨w0.heap.size,0,none⟩) 2 2]).c 0 _ rfl
 rw[show(w0.alloc (.cells #[.int .u32 0,.int .u32 0] 101)).heap.size=w0.heap.size+1 by simp] at gs0
 have ow0:=OW0.out.later ((bAo (.cells #[.int .u32 0,.int .u32 0] 101)).alloc (by simp) (.cells #[.slice (some ⟨w0.heap.size,0,none⟩) 2 2] 137))
 have SR0:Hid (∀ j (hj:j<[(w0.heap.size,2)].length) i,i<1→((w0.alloc (.cells #[.int .u32 0,.int .u32 0] 101)).alloc (.cells #[.slice (some ⟨w0.heap.size,0,none⟩) 2 2] 137)).cell? ⟨w0.heap.size+1,j*1+i,none⟩=(slC [(w0.heap.size,2)][j])[i]?):=hd0 fun j hj i hi=>by
  obtain rfl:j=0:=by simpa using hj
  obtain rfl:i=0:=by omega
  exact gs0
 have HB0:=hd0 b0
 have GA0:=hd0 ga0
 have OA0:=hd0 ow0
 clear b0 ga0 gs0 ow0
 go_upto_region 10 with(at_builtin;refine wpList_plain rfl fun K hK=>?_;refine wp_append_rwG slC_len slC_one 137 131 _ 24 Tryz.underlying131 info_slu rfl (by decide) (by decide) (.tmp 49) (.tmp 52) rfl w0.heap.size (.slice none 0 0) [] rfl OA0.out (w0.heap.size+1) 1 [(w0.heap.size,2)] rfl SR0.out (by simp) (by have:=KP0.out.size;simp <;> omega) ?_;intro v1 w1 ho0 hg0 hb0;refine hK _ _ ?_)
 obtain⟨g0,c0,t0,hv0,hg0',hc0,-⟩:=ho0.ne (by simp)
 replace hv0:v1=.slice (some ⟨g0,0,none⟩) 1 c0:=hv0
 subst hv0
 have KP1:Hid (Below w0.heap.size w0 w1):=hd0 (HB0.out.trans hb0)
 have OW1:Hid (Ow 1 slC 137 w1 w0.heap.size (.slice (some ⟨g0,0,none⟩) 1 c0) [(w0.heap.size,2)]):=hd0 ho0
 have A0:=hd0 (GA0.out.grown hg0 (by simp[Value.ownBlock]))
 have q1:=(KP1.out.cell (World.block_lt_of_cell? _ _ p1)).trans p1
 clear ho0 hg0 hb0 hc0
 go_wp2_with fail
 rw[rounds_succ]
 have b1:=((Below.refl w0.heap.size w1).alloc (show w0.heap.size≤w1.heap.size by have:=KP1.out.size;omega) (.cells #[.int .u32 0,.int .u32 0] 101)).alloc (show w0.heap.size≤(w1.alloc _).heap.size by have:=KP1.out.size;simp <;> omega) (.cells #[.slice (some ⟨w1.heap.size,0,none⟩) 2 2] 137)
 have ga1:=(GB.new 101 w1 #[.int .u32 0,.int .u32 0]).later (bAo (.cells #[.slice (some ⟨w1.heap.size,0,none⟩) 2 2] 137))
 have gs1:=(GB.new 137 (w1.alloc (.cells #[.int .u32 0,.int .u32 0] 101)) #[.slice (some ⟨w1.heap.size,0,none⟩) 2 2]).c 0 _ rfl
 rw[show(w1.alloc (.cells #[.int .u32 0,.int .u32 0] 101)).heap.size=w1.heap.size+1 by simp] at gs1
 have ow1:=OW1.out.later ((bAo (.cells #[.int .u32 0,.int .u32 0] 101)).alloc (by simp) (.cells #[.slice (some ⟨w1.heap.size,0,none⟩) 2 2] 137))
 have SR1:Hid (∀ j (hj:j<[(w1.heap.size,2)].length) i,i<1→((w1.alloc (.cells #[.int .u32 0,.int .u32 0] 101)).alloc (.cells #[.slice (some ⟨w1.heap.size,0,none⟩) 2 2] 137)).cell? ⟨w1.heap.size+1,j*1+i,none⟩=(slC [(w1.heap.size,2)][j])[i]?):=hd0 fun j hj i hi=>by
  obtain rfl:j=0:=by simpa using hj
  obtain rfl:i=0:=by omega
  exact gs1
 have HB1:=hd0 b1
 have GA1:=hd0 ga1
 have OA1:=hd0 ow1
 clear b1 ga1 gs1 ow1
 go_upto_region 10 with(at_builtin;refine wpList_plain rfl fun K hK=>?_;refine wp_append_rwG slC_len slC_one 137 131 _ 24 Tryz.underlying131 info_slu rfl (by decide) (by decide) (.tmp 49) (.tmp 52) rfl w0.heap.size (.slice (some ⟨g0,0,none⟩) 1 c0) [(w0.heap.size,2)] rfl OA1.out (w1.heap.size+1) 1 [(w1.heap.size,2)] rfl SR1.out (by simp) (by have:=KP1.out.size;simp <;> omega) ?_;intro v2 w2 ho1 hg1 hb1;refine hK _ _ ?_)
 obtain⟨g1,c1,t1,hv1,hg1',hc1,-⟩:=ho1.ne (by simp)
 replace hv1:v2=.slice (some ⟨g1,0,none⟩) 2 c1:=hv1
 subst hv1
 have KP2:Hid (Below w0.heap.size w0 w2):=hd0 (KP1.out.trans (HB1.out.trans hb1))
 have ha0:=A0.out.later ((bAo (.cells #[.int .u32 0,.int .u32 0] 101)).alloc (by simp) (.cells #[.slice (some ⟨w1.heap.size,0,none⟩) 2 2] 137))
 have n0:=ow_ne OA1.out ha0 (by decide)
 have n1:=ow_ne OA1.out GA1.out (by decide)
 have D0:=hd0 (ha0.grown hg1 (by simpa [Value.ownBlock] using n0))
 have D1:=hd0 (GA1.out.grown hg1 (by simpa [Value.ownBlock] using n1))
 have OW2:Hid (w2.ownsRow w0.heap.size 137 1 (.slice (some ⟨g1,0,none⟩) 2 c1) 2 ([(w0.heap.size,2),(w1.heap.size,2)].flatMap slC)):=hd0 ho1
 have m0:=ow_ne ho1 D0.out (by decide)
 have m1:=ow_ne ho1 D1.out (by decide)
 have k0:w2.cell? ⟨g1,0,none⟩=some (.slice (some ⟨w0.heap.size,0,none⟩) 2 2):=World.ownsRow.cellAt OW2.out 0 (by decide)
 have k1:w2.cell? ⟨g1,1,none⟩=some (.slice (some ⟨w1.heap.size,0,none⟩) 2 2):=World.ownsRow.cellAt OW2.out 1 (by decide)
 have q2:=(KP2.out.cell (World.block_lt_of_cell? _ _ d2)).trans d2
 have na:w0.heap.size<w1.heap.size:=by have:=A0.out.lt;omega
 clear ho1 hg1 hb1 hc1 ha0 n0 n1
 go_wp2_with fail
 rw[rounds_succ]
 go_wp2_with fail
 refine wp_loop_rounds 2 ?_
 rw[rounds_succ]
 have f0:w2.cell? ⟨gl,0,none⟩=some (.int .i64 0):=by have:=range_later H123.out.2.2 KP2.out 0 _ rfl;rwa [Nat.zero_add] at this
 have f1:w2.cell? ⟨gl,1,none⟩=some (.int .u8 1):=by have:=range_later H123.out.2.2 KP2.out 1 _ rfl;rwa [Nat.zero_add] at this
 have f2:w2.cell? ⟨gl,2,none⟩=some (.int .u32 5):=by have:=range_later H123.out.2.2 KP2.out 2 _ rfl;rwa [Nat.zero_add] at this
 have f3:w2.cell? ⟨gl,3,none⟩=some (.int .i64 1):=by have:=range_later H123.out.2.2 KP2.out 3 _ rfl;rwa [Nat.zero_add] at this
 have f4:w2.cell? ⟨gl,4,none⟩=some (.int .u8 1):=by have:=range_later H123.out.2.2 KP2.out 4 _ rfl;rwa [Nat.zero_add] at this
 have f5:w2.cell? ⟨gl,5,none⟩=some (.int .u32 5):=by have:=range_later H123.out.2.2 KP2.out 5 _ rfl;rwa [Nat.zero_add] at this
 have IX0:∀ W:World,(Instr.index 104 (.agg #[.int .i64 0,.int .u8 1,.int .u32 5,.int .i64 1,.int .u8 1,.int .u32 5]) (.int .i64 0)).run Tryz.prog W=.ok (.agg #[.int .i64 0,.int .u8 1,.int .u32 5]) W:=fun W=>by kernel_rfl
 have IX1:∀ W:World,(Instr.index 104 (.agg #[.int .i64 0,.int .u8 1,.int .u32 5,.int .i64 1,.int .u8 1,.int .u32 5]) (.int .i64 1)).run Tryz.prog W=.ok (.agg #[.int .i64 1,.int .u8 1,.int .u32 5]) W:=fun W=>by kernel_rfl
 go_wp2_with fail
 have b3:Below w2.heap.size w2 (w2.alloc (.cells #[.int .i64 0,.int .u8 1,.int .u32 5,.int .i64 1,.int .u8 1,.int .u32 5] 104)):=bAo _
 have S0:Hid (Below w0.heap.size w0 (w2.alloc (.cells #[.int .i64 0,.int .u8 1,.int .u32 5,.int .i64 1,.int .u8 1,.int .u32 5] 104))∧GB 101 (w2.alloc (.cells #[.int .i64 0,.int .u8 1,.int .u32 5,.int .i64 1,.int .u8 1,.int .u32 5] 104)) w0.heap.size #[.int .u32 0,.int .u32 0]∧GB 101 (w2.alloc (.cells #[.int .i64 0,.int .u8 1,.int .u32 5,.int .i64 1,.int .u8 1,.int .u32 5] 104)) w1.heap.size #[.int .u32 0,.int .u32 0]∧(w2.alloc (.cells #[.int .i64 0,.int .u8 1,.int .u32 5,.int .i64 1,.int .u8 1,.int .u32 5] 104)).cell? ⟨g1,0,none⟩=some (.slice (some ⟨w0.heap.size,0,none⟩) 2 2)∧(w2.alloc (.cells #[.int .i64 0,.int .u8 1,.int .u32 5,.int .i64 1,.int .u8 1,.int .u32 5] 104)).cell? ⟨g1,1,none⟩=some (.slice (some ⟨w1.heap.size,0,none⟩) 2 2)):=hd0 ⟨KP2.out.trans (b3.mono KP2.out.size),D0.out.later b3,D1.out.later b3,(b3.cell (World.block_lt_of_cell? _ _ k0)).trans k0,(b3.cell (World.block_lt_of_cell? _ _ k1)).trans k1⟩
 obtain⟨x0,hx0⟩:∃ z,w2.alloc (.cells #[.int .i64 0,.int .u8 1,.int .u32 5,.int .i64 1,.int .u8 1,.int .u32 5] 104)=z:=⟨_,rfl⟩
 rw[hx0] at S0 ⊢
 clear hx0 b3 f0 f1 f2 f3 f4 f5 k0 k1 d0 d1 d2 p0 p1 q1 q2 MS
 refine wp_loop_rounds 3 ?_
 rw[rounds_succ]
 go_upto_region 17 with fail
 have c0:Below x0.heap.size x0 (x0.alloc (.cells #[.int .i64 0,.int .u8 1,.int .u32 5] 103)):=bAo _
 have ge0:=GB.new 103 x0 #[.int .i64 0,.int .u8 1,.int .u32 5]
 have T0:Hid (∀ W,Below x0.heap.size x0 W→Below w0.heap.size w0 W∧GB 101 W w0.heap.size #[.int .u32 0,.int .u32 0]∧GB 101 W w1.heap.size #[.int .u32 0,.int .u32 0]∧W.cell? ⟨g1,0,none⟩=some (.slice (some ⟨w0.heap.size,0,none⟩) 2 2)∧W.cell? ⟨g1,1,none⟩=some (.slice (some ⟨w1.heap.size,0,none⟩) 2 2)):=hd0 fun W hW=>⟨S0.out.1.trans (hW.mono S0.out.1.size),S0.out.2.1.later hW,S0.out.2.2.1.later hW,(hW.cell (World.block_lt_of_cell? _ _ S0.out.2.2.2.1)).trans S0.out.2.2.2.1,(hW.cell (World.block_lt_of_cell? _ _ S0.out.2.2.2.2)).trans S0.out.2.2.2.2⟩
 have zz0:w0.heap.size<x0.heap.size∧w1.heap.size<x0.heap.size:=⟨S0.out.2.1.lt,S0.out.2.2.1.lt⟩
 obtain⟨z0,hz0⟩:∃ z,x0.heap.size=z:=⟨_,rfl⟩
 rw[hz0] at ge0 ⊢
 obtain⟨y0,hy0⟩:∃ z,x0.alloc (.cells #[.int .i64 0,.int .u8 1,.int .u32 5] 103)=z:=⟨_,rfl⟩
 rw[hy0] at c0 ge0 ⊢
 have U0:=hd0 fun(K:Later y0)=>T0.out K.out (c0.trans (K.h.mono c0.size))
 have G0:=hd0 fun(K:Later y0)=>ge0.later K.h
 have l0:∀ K:Later y0,K.out.cell? ⟨z0,0,none⟩=some (.int .i64 0):=fun K=>(G0.out K).c 0 _ rfl
 have l1:∀ K:Later y0,K.out.cell? ⟨z0,1,none⟩=some (.int .u8 1):=fun K=>(G0.out K).c 1 _ rfl
 have l2:∀ K:Later y0,K.out.cell? ⟨z0,2,none⟩=some (.int .u32 5):=fun K=>(G0.out K).c 2 _ rfl
 have l3:∀ K:Later y0,K.out.cell? ⟨g1,0,none⟩=some (.slice (some ⟨w0.heap.size,0,none⟩) 2 2):=fun K=>(U0.out K).2.2.2.1
 have l4:∀ K:Later y0,K.out.cell? ⟨w0.heap.size,1,none⟩=some (.int .u32 0):=fun K=>(U0.out K).2.1.c 1 _ rfl
 clear hy0
 refine wp_region_later (by kernel_rfl) (by kernel_rfl) ?_
 repeat (go_big_quiet_step (fail))
 refine wpQuiet_nil ?_
 rintro _ ⟨K,rfl⟩
 clear l0 l1 l2 l3 l4
 go_upto_region 19 with fail
 have V0:=hd0 (U0.out K)
 have E0:=hd0 (G0.out K)
 obtain⟨v0,hv0⟩:∃ z,K.out=z:=⟨_,rfl⟩
 rw[hv0] at V0 E0 ⊢
 clear hv0 K
 have ca0:v0.drew.cell? ⟨w0.heap.size,1,none⟩=some (.int .u32 0):=V0.out.2.1.c 1 _ rfl
 have fa0:v0.drew.frozen? ⟨w0.heap.size,1,none⟩=false:=V0.out.2.1.fr 1
 refine wp_region_held_drew (S:=fun W=>W.cell? ⟨z0,0,none⟩=some (.int .i64 0)∧W.cell? ⟨z0,1,none⟩=some (.int .u8 1)∧W.cell? ⟨z0,2,none⟩=some (.int .u32 5)∧W.cell? ⟨g1,0,none⟩=some (.slice (some ⟨w0.heap.size,0,none⟩) 2 2)) (by kernel_rfl) ⟨E0.out.c 0 _ rfl,E0.out.c 1 _ rfl,E0.out.c 2 _ rfl,V0.out.2.2.2.1⟩ (fun hHeld=>?_)
 refine tkH 0 ?_ ?h ?_
 case h=>(intro w hSw;go_simp;try with_reducible rfl)
 try simp only[Act.put,zz]
 refine tkH 1 ?_ ?h ?_
 case h=>(intro w hSw;go_simp;try with_reducible rfl)
 try simp only[Act.put,zz]
 refine tkH 2 ?_ ?h ?_
 case h=>(intro w hSw;go_simp;try with_reducible rfl)
 try simp only[Act.put,zz]
 refine tkH 3 ?_ ?h ?_
 case h=>(intro w hSw;go_simp;try with_reducible rfl)
 try simp only[Act.put,zz]
 refine tkH 4 ?_ ?h ?_
 case h=>(intro w hSw;go_simp;try with_reducible rfl)
 try simp only[Act.put,zz]
 refine tkH 5 ?_ ?h ?_
 case h=>(intro w hSw;go_simp;try with_reducible rfl)
 try simp only[Act.put,zz]
 refine tkH 6 ?_ ?h ?_
 case h=>(intro w hSw;go_simp;try with_reducible rfl)
 try simp only[Act.put,zz]
 refine tkH 7 ?_ ?h ?_
 case h=>(intro w hSw;go_simp;try with_reducible rfl)
 try simp only[Act.put,zz]
 refine tkH 8 ?_ ?h ?_
 case h=>(intro w hSw;go_simp;try with_reducible rfl)
 try simp only[Act.put,zz]
 refine tkH 9 ?_ ?h ?_
 case h=>(intro w hSw;go_simp;try with_reducible rfl)
 try simp only[Act.put,zz]
 have FS0:Hid (∀ (b o:Nat) (u x:Value),b≠w0.heap.size→v0.drew.cell? ⟨b,o,none⟩=some x→(v0.drew.setCell ⟨w0.heap.size,1,none⟩ u).cell? ⟨b,o,none⟩=some x):=hd0 fun b o u x hb h=>by rw[World.cell?_setCell_far _ _ _ _ (fun e=>hb e.symm)];exact h
 refine rdH 10 fun K hK=>?_
 (go_simp;refine hK.out _ _ ⟨FS0.out _ _ _ _ (by omega) hHeld.1,FS0.out _ _ _ _ (by omega) hHeld.2.1,FS0.out _ _ _ _ (by omega) hHeld.2.2.1,FS0.out _ _ _ _ (by omega) hHeld.2.2.2⟩ (fun hHeld=>?_);clear hK K;try simp only[Act.put,zz])
 refine wpAnyH_done (by kernel_rfl) ?_ _
 have S1:Hid (Below w0.heap.size w0 (v0.drew.setCell ⟨w0.heap.size,1,none⟩ (.int .u32 5))∧GB 101 (v0.drew.setCell ⟨w0.heap.size,1,none⟩ (.int .u32 5)) w0.heap.size #[.int .u32 0,.int .u32 5]∧GB 101 (v0.drew.setCell ⟨w0.heap.size,1,none⟩ (.int .u32 5)) w1.heap.size #[.int .u32 0,.int .u32 0]∧(v0.drew.setCell ⟨w0.heap.size,1,none⟩ (.int .u32 5)).cell? ⟨g1,0,none⟩=some (.slice (some ⟨w0.heap.size,0,none⟩) 2 2)∧(v0.drew.setCell ⟨w0.heap.size,1,none⟩ (.int .u32 5)).cell? ⟨g1,1,none⟩=some (.slice (some ⟨w1.heap.size,0,none⟩) 2 2)):=hd0 ⟨below_set V0.out.1.drew (by omega) _,V0.out.2.1.drew.set 1 _,V0.out.2.2.1.drew.other (by omega) _,FS0.out _ _ _ _ (by omega) V0.out.2.2.2.1,FS0.out _ _ _ _ (by omega) V0.out.2.2.2.2⟩
 clear ca0 fa0 hHeld FS0 zz0 hz0 c0 ge0
 obtain⟨x1,hx1⟩:∃ z,(v0.setCell ⟨w0.heap.size,1,none⟩ (.int .u32 5)).drew=z:=⟨_,rfl⟩
 rw[show v0.drew.setCell ⟨w0.heap.size,1,none⟩ (.int .u32 5)=x1 from hx1] at S1
 rw[hx1]
 clear hx1
 go_wp2_with fail
 rw[rounds_succ]
 go_upto_region 17 with fail
 have c1:Below x1.heap.size x1 (x1.alloc (.cells #[.int .i64 1,.int .u8 1,.int .u32 5] 103)):=bAo _
 have ge1:=GB.new 103 x1 #[.int .i64 1,.int .u8 1,.int .u32 5]
 have T1:Hid (∀ W,Below x1.heap.size x1 W→Below w0.heap.size w0 W∧GB 101 W w0.heap.size #[.int .u32 0,.int .u32 5]∧GB 101 W w1.heap.size #[.int .u32 0,.int .u32 0]∧W.cell? ⟨g1,0,none⟩=some (.slice (some ⟨w0.heap.size,0,none⟩) 2 2)∧W.cell? ⟨g1,1,none⟩=some (.slice (some ⟨w1.heap.size,0,none⟩) 2 2)):=hd0 fun W hW=>⟨S1.out.1.trans (hW.mono S1.out.1.size),S1.out.2.1.later hW,S1.out.2.2.1.later hW,(hW.cell (World.block_lt_of_cell? _ _ S1.out.2.2.2.1)).trans S1.out.2.2.2.1,(hW.cell (World.block_lt_of_cell? _ _ S1.out.2.2.2.2)).trans S1.out.2.2.2.2⟩
 have zz1:w0.heap.size<x1.heap.size∧w1.heap.size<x1.heap.size:=⟨S1.out.2.1.lt,S1.out.2.2.1.lt⟩
 obtain⟨z1,hz1⟩:∃ z,x1.heap.size=z:=⟨_,rfl⟩
 rw[hz1] at ge1 ⊢
 obtain⟨y1,hy1⟩:∃ z,x1.alloc (.cells #[.int .i64 1,.int .u8 1,.int .u32 5] 103)=z:=⟨_,rfl⟩
 rw[hy1] at c1 ge1 ⊢
 have U1:=hd0 fun(K:Later y1)=>T1.out K.out (c1.trans (K.h.mono c1.size))
 have G1:=hd0 fun(K:Later y1)=>ge1.later K.h
 have l0:∀ K:Later y1,K.out.cell? ⟨z1,0,none⟩=some (.int .i64 1):=fun K=>(G1.out K).c 0 _ rfl
 have l1:∀ K:Later y1,K.out.cell? ⟨z1,1,none⟩=some (.int .u8 1):=fun K=>(G1.out K).c 1 _ rfl
 have l2:∀ K:Later y1,K.out.cell? ⟨z1,2,none⟩=some (.int .u32 5):=fun K=>(G1.out K).c 2 _ rfl
 have l3:∀ K:Later y1,K.out.cell? ⟨g1,1,none⟩=some (.slice (some ⟨w1.heap.size,0,none⟩) 2 2):=fun K=>(U1.out K).2.2.2.2
 have l4:∀ K:Later y1,K.out.cell? ⟨w1.heap.size,1,none⟩=some (.int .u32 0):=fun K=>(U1.out K).2.2.1.c 1 _ rfl
 clear hy1
 refine wp_region_later (by kernel_rfl) (by kernel_rfl) ?_
 repeat (go_big_quiet_step (fail))
 refine wpQuiet_nil ?_
 rintro _ ⟨K,rfl⟩
 clear l0 l1 l2 l3 l4
 go_upto_region 19 with fail
 have V1:=hd0 (U1.out K)
 have E1:=hd0 (G1.out K)
 obtain⟨v1,hv1⟩:∃ z,K.out=z:=⟨_,rfl⟩
 rw[hv1] at V1 E1 ⊢
 clear hv1 K
 have ca1:v1.drew.cell? ⟨w1.heap.size,1,none⟩=some (.int .u32 0):=V1.out.2.2.1.c 1 _ rfl
 have fa1:v1.drew.frozen? ⟨w1.heap.size,1,none⟩=false:=V1.out.2.2.1.fr 1
 refine wp_region_held_drew (S:=fun W=>W.cell? ⟨z1,0,none⟩=some (.int .i64 1)∧W.cell? ⟨z1,1,none⟩=some (.int .u8 1)∧W.cell? ⟨z1,2,none⟩=some (.int .u32 5)∧W.cell? ⟨g1,1,none⟩=some (.slice (some ⟨w1.heap.size,0,none⟩) 2 2)) (by kernel_rfl) ⟨E1.out.c 0 _ rfl,E1.out.c 1 _ rfl,E1.out.c 2 _ rfl,V1.out.2.2.2.2⟩ (fun hHeld=>?_)
 refine tkH 0 ?_ ?h ?_
 case h=>(intro w hSw;go_simp;try with_reducible rfl)
 try simp only[Act.put,zz]
 refine tkH 1 ?_ ?h ?_
 case h=>(intro w hSw;go_simp;try with_reducible rfl)
 try simp only[Act.put,zz]
 refine tkH 2 ?_ ?h ?_
 case h=>(intro w hSw;go_simp;try with_reducible rfl)
 try simp only[Act.put,zz]
 refine tkH 3 ?_ ?h ?_
 case h=>(intro w hSw;go_simp;try with_reducible rfl)
 try simp only[Act.put,zz]
 refine tkH 4 ?_ ?h ?_
 case h=>(intro w hSw;go_simp;try with_reducible rfl)
 try simp only[Act.put,zz]
 refine tkH 5 ?_ ?h ?_
 case h=>(intro w hSw;go_simp;try with_reducible rfl)
 try simp only[Act.put,zz]
 refine tkH 6 ?_ ?h ?_
 case h=>(intro w hSw;go_simp;try with_reducible rfl)
 try simp only[Act.put,zz]
 refine tkH 7 ?_ ?h ?_
 case h=>(intro w hSw;go_simp;try with_reducible rfl)
 try simp only[Act.put,zz]
 refine tkH 8 ?_ ?h ?_
 case h=>(intro w hSw;go_simp;try with_reducible rfl)
 try simp only[Act.put,zz]
 refine tkH 9 ?_ ?h ?_
 case h=>(intro w hSw;go_simp;try with_reducible rfl)
 try simp only[Act.put,zz]
 have FS1:Hid (∀ (b o:Nat) (u x:Value),b≠w1.heap.size→v1.drew.cell? ⟨b,o,none⟩=some x→(v1.drew.setCell ⟨w1.heap.size,1,none⟩ u).cell? ⟨b,o,none⟩=some x):=hd0 fun b o u x hb h=>by rw[World.cell?_setCell_far _ _ _ _ (fun e=>hb e.symm)];exact h
 refine rdH 10 fun K hK=>?_
 (go_simp;refine hK.out _ _ ⟨FS1.out _ _ _ _ (by omega) hHeld.1,FS1.out _ _ _ _ (by omega) hHeld.2.1,FS1.out _ _ _ _ (by omega) hHeld.2.2.1,FS1.out _ _ _ _ (by omega) hHeld.2.2.2⟩ (fun hHeld=>?_);clear hK K;try simp only[Act.put,zz])
 refine wpAnyH_done (by kernel_rfl) ?_ _
 have S2:Hid (Below w0.heap.size w0 (v1.drew.setCell ⟨w1.heap.size,1,none⟩ (.int .u32 5))∧GB 101 (v1.drew.setCell ⟨w1.heap.size,1,none⟩ (.int .u32 5)) w0.heap.size #[.int .u32 0,.int .u32 5]∧GB 101 (v1.drew.setCell ⟨w1.heap.size,1,none⟩ (.int .u32 5)) w1.heap.size #[.int .u32 0,.int .u32 5]∧(v1.drew.setCell ⟨w1.heap.size,1,none⟩ (.int .u32 5)).cell? ⟨g1,0,none⟩=some (.slice (some ⟨w0.heap.size,0,none⟩) 2 2)∧(v1.drew.setCell ⟨w1.heap.size,1,none⟩ (.int .u32 5)).cell? ⟨g1,1,none⟩=some (.slice (some ⟨w1.heap.size,0,none⟩) 2 2)):=hd0 ⟨below_set V1.out.1.drew (by omega) _,V1.out.2.1.drew.other (by omega) _,V1.out.2.2.1.drew.set 1 _,FS1.out _ _ _ _ (by omega) V1.out.2.2.2.1,FS1.out _ _ _ _ (by omega) V1.out.2.2.2.2⟩
 clear ca1 fa1 hHeld FS1 zz1 hz1 c1 ge1
 obtain⟨x2,hx2⟩:∃ z,(v1.setCell ⟨w1.heap.size,1,none⟩ (.int .u32 5)).drew=z:=⟨_,rfl⟩
 rw[show v1.drew.setCell ⟨w1.heap.size,1,none⟩ (.int .u32 5)=x2 from hx2] at S2
 rw[hx2]
 clear hx2
 go_wp2_with fail
 rw[rounds_succ]
 go_wp2_with fail
 rw[rounds_succ]
 go_wp2_with fail
 refine bodyPost_ret (v:=.tuple #[.slice (some ⟨g1,0,none⟩) 2 c1,.bool true]) (by simp[results,Tryz.results36,go_sem]) rfl ?_
 refine⟨g1,c1,w0.heap.size,2,w1.heap.size,2,rfl,fun j v hv=>?_,range_of S2.out.2.1,range_of S2.out.2.2.1,HBW.out.trans (S2.out.1.mono HBW.out.size)⟩
 have hj:j<2:=by have:=(List.getElem?_eq_some_iff.1 hv).1;simpa using this
 rw[Nat.zero_add]
 rcases(show j=0∨j=1 by omega) with rfl|rfl
 ·rw[←hv];exact S2.out.2.2.2.1
 ·rw[←hv];exact S2.out.2.2.2.2
open Go.Maps (Keyed int_keyed keyOf_int_mk)
theorem u64_keyed:Keyed Tryz.prog 63:=int_keyed Tryz.underlying63
def UM (W:World)(m n:Nat)(D:DataW Unit):Prop:=W.ownsMap Tryz.prog 63 (plainElem (H:=Unit) Tryz.prog 4) m n D
theorem UM.blk {W W':World}{m n:Nat}{D:DataW Unit}(h:UM W m n D)(e:W'.heap[m]?=W.heap[m]?):UM W' m n D:=by
 obtain⟨es,clock,hb,F,hs,hD⟩:=h
 exact⟨es,clock,e.trans hb,F,hs,hD⟩
theorem UM.look {W:World}{m n:Nat}{D:DataW Unit}(h:UM W m n D)(k:Int)(h0:0≤k∧k<18446744073709551616)(hn:∀ z,D.atKey (.int .u64 k) z=z):(Instr.lookup 134 (.map (some m)) (.int .u64 k) false).run Tryz.prog W=.ok (.bool false) W:=by
 have hw:(Lit.int .u64 k).wf=true:=by simp[Lit.wf,IntKind.min,IntKind.max,IntKind.bits,IntKind.signed];omega
 obtain⟨es,clock,hb,F,hs,hD⟩:=h
 rcases Maps.fit_look false u64_keyed Tryz.underlying134 (show(zeroValue 4).run Tryz.prog W=.ok (.bool false) W by kernel_rfl) hb F (keyOf_int_mk Tryz.underlying63 hw) with⟨hrun,_,hat⟩|⟨e0,y,_,_,hrun,hRv,hat,_⟩
 ·exact hrun
 ·rw[←hD] at hat
  have a:=hat (.lit (.bool false))
  have b:=hat (.lit (.bool true))
  rw[hn] at a b
  rw[←b] at a
  injection a with a
  injection a with a
  cases a
def ptC (x:Nat):List Value:=[.pointer (some ⟨x,0,none⟩)]
theorem ptC_len (x:Nat):(ptC x).length=1:=rfl
theorem ptC_one (x:Nat):∀ u∈ptC x,u.oneCell'=true:=by
 intro u hu
 simp[ptC] at hu
 subst hu;rfl
theorem info_ptb:(Tryz.prog.info? 59).map (fun i=>(i.zero,i.size,i.bytes))=some (some (.pointer none),1,8):=by kernel_rfl
def jtC (x:Nat):List Value:=[.pointer (some ⟨x,0,none⟩),.int .i64 0,.int .u8 1,.int .u32 5,.int .i64 1,.int .u8 1,.int .u32 5]
theorem jtC_len (x:Nat):(jtC x).length=7:=rfl
theorem jtC_one (x:Nat):∀ u∈jtC x,u.oneCell'=true:=by
 intro u hu
 simp[jtC] at hu
 rcases hu with rfl|rfl|rfl|rfl|rfl|rfl|rfl <;> rfl
theorem info_jt:(Tryz.prog.info? 106).map (fun i=>(i.zero,i.size,i.bytes))=some (some (.agg #[.pointer none,.int .i64 0,.int .u8 0,.int .u32 0,.int .i64 0,.int .u8 0,.int .u32 0]),7,40):=by kernel_rfl
theorem bapp {w:World}{o:Oper}{a:Act}{Q:Exit→Act→World→Prop}{K:Act→World→Prop}(s x:Operand)(ho:o.op=.call { callee:=.builtin .append,args:=#[s,x],argTypes:=#[93,93] })
  (B g n cap:Nat) (l:List Nat) (hs:a.eval s=.slice (some ⟨g,0,none⟩) n cap) (hown:Ow 1 ptC 59 w B (.slice (some ⟨g,0,none⟩) n cap) l) (gs c y:Nat) (hx:a.eval x=.slice (some ⟨gs,0,none⟩) 1 c) (hsrc:w.cell? ⟨gs,0,none⟩=some (.pointer (some ⟨y,0,none⟩))) (hn:l.length<1000) (hB:B≤w.heap.size)
  (h:∀ v' w',Ow 1 ptC 59 w' B v' (l++[y])→w.grownBy w' (some g)→(∀ g',v'.ownBlock=some g'→g'=g∨w.heap.size≤g')→K (a.put o.dst v') w'):o.wp Tryz.prog a w K Q:=by
 obtain⟨i,hi,hz0,hz1,hz2⟩:=info_parts info_ptb
 have hown':w.ownsRow B 59 1 (.slice (some ⟨g,0,none⟩) n cap) l.length (l.flatMap ptC):=hown
 have hnl:n=l.length:=by
  rcases hown.2 with⟨h1,_⟩|⟨g',cap',cur,h1,_⟩
  ·cases h1
  ·injection h1
 have hnews:∀ (j:Nat) (u:Value),[Value.pointer (some ⟨y,0,none⟩)][j]?=some u→w.cell? ((⟨gs,0,none⟩:Addr).add j)=some u:=fun j u hj=>by
  have hj0:j<1:=by have:=(List.getElem?_eq_some_iff.1 hj).1;simpa using this
  obtain rfl:j=0:=by omega
  rw[Go.WideShapes.add_plain]
  simp at hj
  rw[←hj];exact hsrc
 have h1c:∀ u∈[Value.pointer (some ⟨y,0,none⟩)],u.oneCell'=true:=fun u hu=>by
  simp at hu
  subst hu;rfl
 obtain⟨v',w',hr,h2,h3,h4⟩:=run_append_own (P:=Tryz.prog) w B 93 o.type 59 i (.pointer none) 1 8 Tryz.underlying93 hi hz0 hz1 hz2 rfl (by decide) (.slice (some ⟨g,0,none⟩) n cap) l.length (l.flatMap ptC) hown' ⟨gs,0,none⟩ 1 c [.pointer (some ⟨y,0,none⟩)] rfl hnews h1c (by unfold maxLen;omega) (by omega) hB
 have hw:∀ g',v'.ownBlock=some g'→g'=g∨w.heap.size≤g':=by
  rcases hown'.2 with⟨e1,_⟩|⟨g1,cap1,cur,e1,_,hg,hnc,hcm,hcs,htake⟩
  ·cases e1
  ·injection e1 with e1 e2 e3
   injection e1 with e1
   injection e1 with e1 _ _
   subst e1 e3
   by_cases hroom:n+1≤cap
   ·have hr2:=run_append_room (P:=Tryz.prog) w 93 o.type 59 i Tryz.underlying93 hi g n cap cur hg ⟨gs,0,none⟩ 1 c [.pointer (some ⟨y,0,none⟩)] (by rw[hz1];rfl) hnews h1c hroom (by rw[hz1,hcs];simp;omega)
    rw[hr] at hr2
    injection hr2 with hr2 _
    subst hr2
    intro g' hg'
    injection hg' with hg'
    exact .inl hg'.symm
   ·have hr2:=run_append_grow (P:=Tryz.prog) w 93 o.type 59 i (.pointer none) Tryz.underlying93 hi hz0 ⟨g,0,none⟩ n cap (l.flatMap ptC) (by rw[hz1,hown'.1,hnl]) (hown'.cells (g:=g) rfl) ⟨gs,0,none⟩ 1 c [.pointer (some ⟨y,0,none⟩)] (by rw[hz1];rfl) hnews (by omega) (by omega) (growslice_fits (by omega) (by rw[hz2];omega))
    rw[hr] at hr2
    injection hr2 with hr2 _
    subst hr2
    intro g' hg'
    injection hg' with hg'
    exact .inr (Nat.le_of_eq hg')
 unfold Oper.wp execOp
 simp only[ho,resolve,invoke,builtin,Sem.run_bind,Sem.run_pure,Result.andThen_ok,List.map_toArray,List.map_cons,List.map_nil,hs,hx,hr]
 refine h v' w' ?_ h3 hw
 unfold Ow
 rw[List.length_append,List.flatMap_append];exact h2
structure NL (w1 W:World)(B:Nat)(v:Value)(l:List Nat)(k:Nat)(D:DataW Unit):Prop where
 bel:Below w1.heap.size w1 W
 sm:W.ownsMap Tryz.prog 142 sEl w1.heap.size 0 (.map [])
 um:UM W (w1.heap.size+1+1) k D
 net:GB 97 W (w1.heap.size+1) #[v,.slice none 0 0,.map (some w1.heap.size),.int .u64 0]
 ow:Ow 1 ptC 59 W B v l
 hB:w1.heap.size+3≤B∧B≤W.heap.size
section
variable {w1 W W':World} {B k k':Nat} {v v':Value} {l l':List Nat} {D D':DataW Unit}
theorem NL.later (h:NL w1 W B v l k D)(hb:Below W.heap.size W W'):NL w1 W' B v l k D:=by
 obtain⟨es,clock,hh,F,hs,hD⟩:=h.sm
 exact⟨h.bel.trans (hb.mono h.bel.size),⟨es,clock,(hb.block _ (Array.getElem?_eq_some_iff.1 hh).1).trans hh,F,hs,hD⟩,h.um.blk (hb.block _ (World.ownsMap.lt h.um)),h.net.later hb,h.ow.later hb,h.hB.1,Nat.le_trans h.hB.2 hb.size⟩
theorem NL.upd (h:NL w1 W B v l k D)(hm:UM W' (w1.heap.size+1+1) k' D')(hg:W.grownBy W' (some (w1.heap.size+1+1))):NL w1 W' B v l k' D':=by
 have hl:=h.hB
 have hw:=h.bel.size
 refine⟨h.bel.grown hg hw (fun k e=>by cases e;omega),h.sm.kept hg (by simp;omega),hm,h.net.grown hg (by simp),?_,hl.1,Nat.le_trans hl.2 hg.size⟩
 refine World.ownsRow.kept h.ow hg ?_
 cases e:v.ownBlock with
 | none=>exact .inl rfl
 | some g =>
  have:=World.ownsRow.lt h.ow g e
  exact .inr (by simp;omega)
theorem NL.app (h:NL w1 W B v l k D)(ho:Ow 1 ptC 59 W' B v' l')(hg:W.grownBy W' v.ownBlock):NL w1 (W'.setCell ⟨w1.heap.size+1,0,none⟩ v') B v' l' k D:=by
 have hl:=h.hB
 have hw:=h.bel.size
 have hr:∀ k,k<B→some k≠v.ownBlock:=fun k hk e=>by have:=World.ownsRow.lt h.ow k e.symm;omega
 have fs:∀ k,k≠w1.heap.size+1→(W'.setCell ⟨w1.heap.size+1,0,none⟩ v').heap[k]?=W'.heap[k]?:=fun k hk=>Below.heap_setCell _ _ _ _ (by intro e;exact hk e)
 have b1:Below w1.heap.size w1 W':=h.bel.grown hg hw (fun k e=>by have:=World.ownsRow.lt h.ow k e;omega)
 have s1:=h.sm.kept hg (hr _ (by omega))
 obtain⟨es,clock,hh,F,hs,hD⟩:=s1
 exact⟨below_set b1 (by omega) _,⟨es,clock,(fs _ (by omega)).trans hh,F,hs,hD⟩,(UM.blk h.um (hg.block _ (World.ownsMap.lt h.um) (hr _ (by omega)))).blk (fs _ (by omega)),(h.net.grown hg (hr _ (by omega))).set 0 v',ho.cell (by omega) v',hl.1,by rw[World.size_setCell];exact Nat.le_trans hl.2 hg.size⟩
theorem NL.rebase (h:NL w1 W B (.slice none 0 0) [] k D){B':Nat}(h1:w1.heap.size+3≤B')(h2:B'≤W.heap.size):NL w1 W B' (.slice none 0 0) [] k D:=⟨h.bel,h.sm,h.um,h.net,Ow.none _ _,h1,h2⟩
end
end Go.Proofs.YtghaobakpdninaaGreatDoor
