/- ZR08 -/
import Derived.Test.YtghaobakpdninaaGreatDoorZR07
set_option linter.unusedVariables false
set_option linter.unusedSimpArgs false
set_option maxRecDepth 100000
set_option maxHeartbeats 16000000
namespace Go.Proofs.YtghaobakpdninaaGreatDoor
open Go.RowKit
def bA:List UInt8:=[255,255,255,255,255,255,2,0,0,0,0,1,8,0,120]
def bT:List UInt8:=[255,255,255,255,255,255,2,0,0,0,0,1,129,0,0,1,8,0,120]
structure DFr (A:Array Value):Prop where
 i:isFr A
 d:A[0]?=some (.int .u8 255)∧A[1]?=some (.int .u8 255)∧A[2]?=some (.int .u8 255)∧A[3]?=some (.int .u8 255)∧A[4]?=some (.int .u8 255)∧A[5]?=some (.int .u8 255)
 s:A[6]?=some (.int .u8 2)∧A[7]?=some (.int .u8 0)∧A[8]?=some (.int .u8 0)∧A[9]?=some (.int .u8 0)∧A[10]?=some (.int .u8 0)∧A[11]?=some (.int .u8 1)
 y:A[15]?=some (.int .u16 2048)
theorem dfA:DFr #[.int .u8 255,.int .u8 255,.int .u8 255,.int .u8 255,.int .u8 255,.int .u8 255,.int .u8 2,.int .u8 0,.int .u8 0,.int .u8 0,.int .u8 0,.int .u8 1,.bool false,.int .u8 0,.int .u16 0,.int .u16 2048,.string (bs [120])]:=⟨isFr_A,⟨rfl,rfl,rfl,rfl,rfl,rfl⟩,⟨rfl,rfl,rfl,rfl,rfl,rfl⟩,rfl⟩
theorem dfT:DFr #[.int .u8 255,.int .u8 255,.int .u8 255,.int .u8 255,.int .u8 255,.int .u8 255,.int .u8 2,.int .u8 0,.int .u8 0,.int .u8 0,.int .u8 0,.int .u8 1,.bool true,.int .u8 0,.int .u16 1,.int .u16 2048,.string (bs [120])]:=⟨⟨255,255,255,255,255,255,2,0,0,0,0,1,true,0,1,2048,[120],rfl⟩,⟨rfl,rfl,rfl,rfl,rfl,rfl⟩,⟨rfl,rfl,rfl,rfl,rfl,rfl⟩,rfl⟩
theorem takeAD (w:World):Calls Tryz.prog 103 #[.string (bs bA)] w fun en w'=>en=.returned (.tuple #[.agg #[.int .u8 255,.int .u8 255,.int .u8 255,.int .u8 255,.int .u8 255,.int .u8 255,.int .u8 2,.int .u8 0,.int .u8 0,.int .u8 0,.int .u8 0,.int .u8 1,.bool false,.int .u8 0,.int .u16 0,.int .u16 2048,.string (bs [120])],.int .i64 0])∧Below w.heap.size w w':=by
 have h:=ftake_any bA w (by decide)
 rw[show tkF bA=(#[.int .u8 255,.int .u8 255,.int .u8 255,.int .u8 255,.int .u8 255,.int .u8 255,.int .u8 2,.int .u8 0,.int .u8 0,.int .u8 0,.int .u8 0,.int .u8 1,.bool false,.int .u8 0,.int .u16 0,.int .u16 2048,.string (bs [120])],0) by kernel_rfl] at h;exact h
theorem putAD (w:World):Calls Tryz.prog 123 #[.agg #[.int .u8 255,.int .u8 255,.int .u8 255,.int .u8 255,.int .u8 255,.int .u8 255,.int .u8 2,.int .u8 0,.int .u8 0,.int .u8 0,.int .u8 0,.int .u8 1,.bool false,.int .u8 0,.int .u16 0,.int .u16 2048,.string (bs [120])]] w fun en w'=>en=.returned (.tuple #[.string (bs bA),.int .i64 0])∧Below w.heap.size w w':=by
 have h:=fput_any 255 255 255 255 255 255 2 0 0 0 0 1 false 0 0 2048 [120] w (by unfold wfF wfM;decide) (by decide)
 rw[show putF 255 255 255 255 255 255 2 0 0 0 0 1 false 0 0 2048 [120]=(bA,0) by kernel_rfl] at h;exact h
theorem takeTD (w:World):Calls Tryz.prog 103 #[.string (bs bT)] w fun en w'=>en=.returned (.tuple #[.agg #[.int .u8 255,.int .u8 255,.int .u8 255,.int .u8 255,.int .u8 255,.int .u8 255,.int .u8 2,.int .u8 0,.int .u8 0,.int .u8 0,.int .u8 0,.int .u8 1,.bool true,.int .u8 0,.int .u16 1,.int .u16 2048,.string (bs [120])],.int .i64 0])∧Below w.heap.size w w':=by
 have h:=ftake_any bT w (by decide)
 rw[show tkF bT=(#[.int .u8 255,.int .u8 255,.int .u8 255,.int .u8 255,.int .u8 255,.int .u8 255,.int .u8 2,.int .u8 0,.int .u8 0,.int .u8 0,.int .u8 0,.int .u8 1,.bool true,.int .u8 0,.int .u16 1,.int .u16 2048,.string (bs [120])],0) by kernel_rfl] at h;exact h
theorem putTD (w:World):Calls Tryz.prog 123 #[.agg #[.int .u8 255,.int .u8 255,.int .u8 255,.int .u8 255,.int .u8 255,.int .u8 255,.int .u8 2,.int .u8 0,.int .u8 0,.int .u8 0,.int .u8 0,.int .u8 1,.bool true,.int .u8 0,.int .u16 1,.int .u16 2048,.string (bs [120])]] w fun en w'=>en=.returned (.tuple #[.string (bs bT),.int .i64 0])∧Below w.heap.size w w':=by
 have h:=fput_any 255 255 255 255 255 255 2 0 0 0 0 1 true 0 1 2048 [120] w (by unfold wfF wfM;decide) (by decide)
 rw[show putF 255 255 255 255 255 255 2 0 0 0 0 1 true 0 1 2048 [120]=(bT,0) by kernel_rfl] at h;exact h
section
variable {A:Array Value} (hA:DFr A)
include hA
theorem cofD (w:World):Calls Tryz.prog 154 #[.agg A] w fun en w'=>en=.returned (.tuple #[.int .u8 0,.int .u8 0,.bool false])∧Below w.heap.size w w':=by
 have hb:=(Below.refl w.heap.size w).alloc (Nat.le_refl _) (.cells A 264)
 have c15:(w.alloc (.cells A 264)).cell? ⟨w.heap.size,15,none⟩=some (.int .u16 2048):=(GB.new 264 w A).c 15 _ hA.y
 obtain⟨w0,hw0⟩:∃ z,w.alloc (.cells A 264)=z:=⟨_,rfl⟩
 rw[hw0] at hb c15
 go_enter Tryz.func154,Tryz.ntmps154
 go_wp2
 refine bodyPost_ret (v:=.tuple #[.int .u8 0,.int .u8 0,.bool false]) (by simp[results,Tryz.results154,go_sem]) rfl ⟨rfl,hb⟩
theorem rvidD (p:Int)(r q vm f s:Nat)(o:List Int)(V:List Vn)(v:Value)(IN0:∀ W,RL W r q vm f s 2 o V v→Calls Tryz.prog 153 #[.pointer (some ⟨q,0,none⟩),.int .u8 p,.agg A] W fun en w'=>en=.returned (.tuple #[.int .u16 1,.bool true])∧Below W.heap.size W w')(w:World)(h:RL w r q vm f s 2 o V v) :
  Calls Tryz.prog 107 #[.pointer (some ⟨r,0,none⟩),.int .u8 p,.agg A] w fun en w'=>en=.returned (.tuple #[.int .u16 1,.bool true])∧Below w.heap.size w w':=by
 have RS:Hid (∀ w,Calls Tryz.prog 151 #[.agg #[.int .u8 255,.int .u8 255,.int .u8 255,.int .u8 255,.int .u8 255,.int .u8 255]] w fun en w'=>en=.returned (.bool false)∧Below w.heap.size w w'):=hd0 fun w=>reserved_any 255 255 255 255 255 255 w
 have hb:=(Below.refl w.heap.size w).alloc (Nat.le_refl _) (.cells A 264)
 have gf:=GB.new 264 w A
 have c0:(w.alloc (.cells A 264)).cell? ⟨w.heap.size,0,none⟩=some (.int .u8 255):=gf.c 0 _ hA.d.1
 have c1:(w.alloc (.cells A 264)).cell? ⟨w.heap.size,1,none⟩=some (.int .u8 255):=gf.c 1 _ hA.d.2.1
 have c2:(w.alloc (.cells A 264)).cell? ⟨w.heap.size,2,none⟩=some (.int .u8 255):=gf.c 2 _ hA.d.2.2.1
 have c3:(w.alloc (.cells A 264)).cell? ⟨w.heap.size,3,none⟩=some (.int .u8 255):=gf.c 3 _ hA.d.2.2.2.1
 have c4:(w.alloc (.cells A 264)).cell? ⟨w.heap.size,4,none⟩=some (.int .u8 255):=gf.c 4 _ hA.d.2.2.2.2.1
 have c5:(w.alloc (.cells A 264)).cell? ⟨w.heap.size,5,none⟩=some (.int .u8 255):=gf.c 5 _ hA.d.2.2.2.2.2
 have IN:=hd0 IN0
 have HI:=hd0 hA.i
 clear hA IN0
 have h0:=h.later hb
 obtain⟨w0,hw0⟩:∃ z,w.alloc (.cells A 264)=z:=⟨_,rfl⟩
 rw[hw0] at hb gf c0 c1 c2 c3 c4 c5 h0
 have HB:=hd0 hb
 have HR:=hd0 h0
 have HG:=hd0 gf
 clear h hb h0 gf
 go_enter Tryz.func107,Tryz.ntmps107
 go_upto_region 1 with fail
 clear hw0
 go_upto_region 3 with(go_at_call 151;with_reducible refine(RS.out _).mono ?_;rintro e w1 ⟨rfl,hb1⟩)
 have HB1:=hd0 (HB.out.trans (hb1.mono HB.out.size))
 have HR1:=hd0 (HR.out.later hb1)
 have HG1:=hd0 (HG.out.later hb1)
 have HLT:=hd0 HG.out.lt
 clear c0 c1 c2 c3 c4 c5 hb1 HB HR HG RS
 have INK:Hid (∀ K:Later w1,Calls Tryz.prog 153 #[.pointer (some ⟨q,0,none⟩),.int .u8 p,.agg A] K.out fun en w'=>en=.returned (.tuple #[.int .u16 1,.bool true])∧Below K.out.heap.size K.out w'):=hd0 fun K=>IN.out _ (HR1.out.later K.h)
 have VLK:Hid (∀ K:Later w1,Calls Tryz.prog 152 #[.pointer (some ⟨r,0,none⟩)] K.out fun en w'=>en=.returned (.pointer (some ⟨q,0,none⟩))∧K.out=w'):=hd0 fun K=>(rvlans_any r _ v _ (HR1.out.later K.h).c0 ⟨_,rfl⟩).mono (by rintro e w' ⟨rfl,rfl⟩;exact⟨rfl,rfl⟩)
 have FLK:Hid (∀ K:Later w1,(Instr.loadAt 264 (.pointer (some ⟨w.heap.size,0,none⟩))).run Tryz.prog K.out=.ok (.agg A) K.out):=hd0 fun K=>fr_load (show FB w1 w.heap.size A from HG1.out) HI.out K
 refine wp_region_later (by kernel_rfl) (by kernel_rfl) ?_
 repeat (go_big_quiet_step (first
  |(go_at_call 152;exact Calls.later_same (VLK.out _))
  |(go_at_call 153;exact Calls.later (INK.out _))))
 refine wpQuiet_load 264 (.tmp 5) w.heap.size A rfl rfl rfl (by rintro _ ⟨k,rfl⟩;exact FLK.out k) ?_
 go_simp
 go_big_quiet_step ((go_at_call 153;exact Calls.later (INK.out _)))
 repeat (go_big_quiet_step (fail))
 refine wpQuiet_nil ?_
 go_simp
 intro K
 go_wp2
 refine bodyPost_ret (v:=.tuple #[.int .u16 1,.bool true]) (by simp[results,Tryz.results107,go_sem]) rfl ⟨rfl,HB1.out.trans (K.h.mono HB1.out.size)⟩
end
def enP (p x:Int):List Value:=[.int .u16 1,.int .u8 2,.int .u8 0,.int .u8 0,.int .u8 0,.int .u8 0,.int .u8 1,.int .u8 p,.int .i64 x]
theorem enP_len (p x:Int):(enP p x).length=9:=rfl
theorem enP_one (p x:Int):∀ u∈enP p x,u.oneCell'=true:=by
 intro u hu
 simp only[enP,List.mem_cons,List.not_mem_nil,or_false] at hu
 rcases hu with rfl|rfl|rfl|rfl|rfl|rfl|rfl|rfl|rfl <;> rfl
theorem flearnP (p:Int)(hp:p=0∨p=1)(f s:Nat)(w:World)(h:FT w f s (.slice none 0 0)):Calls Tryz.prog 250 #[.pointer (some ⟨f,0,none⟩),.int .u16 1,.agg #[.int .u8 2,.int .u8 0,.int .u8 0,.int .u8 0,.int .u8 0,.int .u8 1],.int .u8 p] w fun en w' =>
  ∃ v,en=.returned (.tuple #[])∧FT w' f s v∧Ow 9 (enP p) 299 w' w.heap.size v [0]∧Only f w w':=by
 have p8:decide (8≤p)=false:=by rcases hp with rfl|rfl <;> rfl
 have p9:decide (p<8)=true:=by rcases hp with rfl|rfl <;> rfl
 have GR:Hid (∀ w,Calls Tryz.prog 63 #[.agg #[.int .u8 2,.int .u8 0,.int .u8 0,.int .u8 0,.int .u8 0,.int .u8 1]] w fun en w'=>en=.returned (.bool false)∧Below w.heap.size w w'):=hd0 fun w=>group_any 2 0 0 0 0 1 w (by decide) (by decide)
 obtain⟨kl,hkl⟩:=Option.isSome_iff_exists.1 keyA
 have HK:=hd0 hkl
 clear hkl
 have hb0:=(Below.refl w.heap.size w).alloc (Nat.le_refl _) (.cells #[.int .u8 2,.int .u8 0,.int .u8 0,.int .u8 0,.int .u8 0,.int .u8 1] 24)
 have g0:=GB.new 24 w #[.int .u8 2,.int .u8 0,.int .u8 0,.int .u8 0,.int .u8 0,.int .u8 1]
 obtain⟨w0,hw0⟩:∃ z,w.alloc (.cells #[.int .u8 2,.int .u8 0,.int .u8 0,.int .u8 0,.int .u8 0,.int .u8 1] 24)=z:=⟨_,rfl⟩
 rw[hw0] at hb0 g0
 have hz0:w0.heap.size=w.heap.size+1:=by rw[←hw0];simp
 have HB0:=hd0 hb0
 have HF0:=hd0 (h.later hb0)
 have G0:=hd0 g0
 have c0:w0.cell? ⟨w.heap.size,0,none⟩=some (.int .u8 2):=g0.c 0 _ rfl
 have c1:w0.cell? ⟨w.heap.size,1,none⟩=some (.int .u8 0):=g0.c 1 _ rfl
 have c2:w0.cell? ⟨w.heap.size,2,none⟩=some (.int .u8 0):=g0.c 2 _ rfl
 have c3:w0.cell? ⟨w.heap.size,3,none⟩=some (.int .u8 0):=g0.c 3 _ rfl
 have c4:w0.cell? ⟨w.heap.size,4,none⟩=some (.int .u8 0):=g0.c 4 _ rfl
 have c5:w0.cell? ⟨w.heap.size,5,none⟩=some (.int .u8 1):=g0.c 5 _ rfl
 clear hb0 g0 h
 go_enter Tryz.func250,Tryz.ntmps250
 go_upto_region 1 with fail
 clear hw0
 go_upto_region 2 with(first
  |(go_at_call 63;with_reducible refine(GR.out _).mono ?_;rintro e w1 ⟨rfl,hb1⟩)
  |(go_at_call 279;refine(fmay_one _).mono ?_;rintro e w2 ⟨rfl,rfl⟩))
 have d0:=(hb1.cell (World.block_lt_of_cell? _ _ c0)).trans c0
 have d1:=(hb1.cell (World.block_lt_of_cell? _ _ c1)).trans c1
 have d2:=(hb1.cell (World.block_lt_of_cell? _ _ c2)).trans c2
 have d3:=(hb1.cell (World.block_lt_of_cell? _ _ c3)).trans c3
 have d4:=(hb1.cell (World.block_lt_of_cell? _ _ c4)).trans c4
 have d5:=(hb1.cell (World.block_lt_of_cell? _ _ c5)).trans c5
 clear c0 c1 c2 c3 c4 c5
 have hb3:=(Below.refl w2.heap.size w2).alloc (Nat.le_refl _) (.cells #[.int .u16 1,.int .u8 2,.int .u8 0,.int .u8 0,.int .u8 0,.int .u8 0,.int .u8 1] 475)
 have g3:=GB.new 475 w2 #[.int .u16 1,.int .u8 2,.int .u8 0,.int .u8 0,.int .u8 0,.int .u8 0,.int .u8 1]
 obtain⟨w3,hw3⟩:∃ z,w2.alloc (.cells #[.int .u16 1,.int .u8 2,.int .u8 0,.int .u8 0,.int .u8 0,.int .u8 0,.int .u8 1] 475)=z:=⟨_,rfl⟩
 rw[hw3] at hb3 g3
 have hz3:w3.heap.size=w2.heap.size+1:=by rw[←hw3];simp
 have HB3:=hd0 (HB0.out.trans ((hb1.trans (hb3.mono hb1.size)).mono HB0.out.size))
 have hb03:=hb1.trans (hb3.mono hb1.size)
 have HF3:=hd0 (HF0.out.later hb03)
 have HG3:=hd0 (G0.out.later hb03)
 have HP3:=hd0 g3
 have HZ3:=hd0 (And.intro hz0 (And.intro hb1.size hz3))
 clear hb1 hb3 g3 hb03
 go_upto_region 3 with fail
 clear hw3 d0 d1 d2 d3 d4 d5
 obtain⟨p3,hp3⟩:∃ z,w2.heap.size=z:=⟨_,rfl⟩
 rw[hp3] at HP3 HZ3 ⊢
 clear hp3 hz0 hz3
 have l1:∀ K:Later w3,K.out.cell? ⟨f,1,none⟩=some (.map (some s)):=fun K=>(HF3.out.later K.h).c1
 have e0:∀ K:Later w3,K.out.cell? ⟨p3,0,none⟩=some (.int .u16 1):=fun K=>(HP3.out.later K.h).c 0 _ rfl
 have e1:∀ K:Later w3,K.out.cell? ⟨p3,1,none⟩=some (.int .u8 2):=fun K=>(HP3.out.later K.h).c 1 _ rfl
 have e2:∀ K:Later w3,K.out.cell? ⟨p3,2,none⟩=some (.int .u8 0):=fun K=>(HP3.out.later K.h).c 2 _ rfl
 have e3:∀ K:Later w3,K.out.cell? ⟨p3,3,none⟩=some (.int .u8 0):=fun K=>(HP3.out.later K.h).c 3 _ rfl
 have e4:∀ K:Later w3,K.out.cell? ⟨p3,4,none⟩=some (.int .u8 0):=fun K=>(HP3.out.later K.h).c 4 _ rfl
 have e5:∀ K:Later w3,K.out.cell? ⟨p3,5,none⟩=some (.int .u8 0):=fun K=>(HP3.out.later K.h).c 5 _ rfl
 have e6:∀ K:Later w3,K.out.cell? ⟨p3,6,none⟩=some (.int .u8 1):=fun K=>(HP3.out.later K.h).c 6 _ rfl
 have LK:∀ K:Later w3,(Instr.lookup 293 (.map (some s)) (.agg #[.int .u16 1,.int .u8 2,.int .u8 0,.int .u8 0,.int .u8 0,.int .u8 0,.int .u8 1]) true).run Tryz.prog K.out=.ok (.tuple #[.int .u8 0,.bool false]) K.out:=fun K=>flook0 (HF3.out.later K.h).m HK.out
 refine wp_region_later (by kernel_rfl) (by kernel_rfl) ?_
 repeat (go_big_quiet_step (fail))
 refine wpQuiet_nil ?_
 rintro _ ⟨K,rfl⟩
 clear l1 e0 e1 e2 e3 e4 e5 e6 LK
 have FK:=HF3.out.later K.h
 have PK:=HP3.out.later K.h
 have MK:=HG3.out.later K.h
 have HBK:=hd0 (HB3.out.trans (K.h.mono HB3.out.size))
 have HZK:=hd0 K.h.size
 obtain⟨w4,hw4⟩:∃ z,K.out=z:=⟨_,rfl⟩
 rw[hw4] at FK PK MK HBK HZK ⊢
 clear hw4 K HB3 HF3 HG3 HP3
 have e0:w4.cell? ⟨p3,0,none⟩=some (.int .u16 1):=PK.c 0 _ rfl
 have e1:w4.cell? ⟨p3,1,none⟩=some (.int .u8 2):=PK.c 1 _ rfl
 have e2:w4.cell? ⟨p3,2,none⟩=some (.int .u8 0):=PK.c 2 _ rfl
 have e3:w4.cell? ⟨p3,3,none⟩=some (.int .u8 0):=PK.c 3 _ rfl
 have e4:w4.cell? ⟨p3,4,none⟩=some (.int .u8 0):=PK.c 4 _ rfl
 have e5:w4.cell? ⟨p3,5,none⟩=some (.int .u8 0):=PK.c 5 _ rfl
 have e6:w4.cell? ⟨p3,6,none⟩=some (.int .u8 1):=PK.c 6 _ rfl
 have DR:Hid (∀ fv,Calls Tryz.prog 119 #[.pointer (some ⟨f,0,none⟩),fv] w4 fun en w'=>en=.returned (.int .i64 0)∧w'=w4):=hd0 fun fv=>fdrop_nil' f s fv w4 FK
 have f0:=FK.c0
 have HFK:=hd0 FK
 have HMK:=hd0 MK
 clear FK PK MK
 go_upto_region 6 with(go_at_call 119;with_reducible refine(DR.out _).mono ?_;rintro e w5 ⟨rfl,rfl⟩)
 clear e0 e1 e2 e3 e4 e5 e6 DR
 go_upto_region 8 with fail
 have mk:=HMK.out
 have hm0:w.heap.size<w5.heap.size:=mk.lt
 have hf0:f<w5.heap.size:=HFK.out.g.lt
 have HE:Hid (Ow 9 (enP p) 299 (w5.drew.alloc (.cells #[.int .u16 1,.int .u8 2,.int .u8 0,.int .u8 0,.int .u8 0,.int .u8 0,.int .u8 1,.int .u8 p,.int .i64 0] 299)) 0 (.slice (some ⟨w5.heap.size,0,none⟩) 1 1) [0]):=hd0 (Ow.lit (E:=299) (enP_len p) w5.drew 0 (0:Int) #[.int .u16 1,.int .u8 2,.int .u8 0,.int .u8 0,.int .u8 0,.int .u8 0,.int .u8 1,.int .u8 p,.int .i64 0] rfl (Nat.zero_le _))
 have hbd:Below w5.heap.size w5 (w5.drew.alloc (.cells #[.int .u16 1,.int .u8 2,.int .u8 0,.int .u8 0,.int .u8 0,.int .u8 0,.int .u8 1,.int .u8 p,.int .i64 0] 299)):=(Below.refl _ _).drew.alloc (Nat.le_refl _) _
 have c0:w5.drew.cell? ⟨w.heap.size,0,none⟩=some (.int .u8 2):=mk.c 0 _ rfl
 have c1:w5.drew.cell? ⟨w.heap.size,1,none⟩=some (.int .u8 0):=mk.c 1 _ rfl
 have c2:w5.drew.cell? ⟨w.heap.size,2,none⟩=some (.int .u8 0):=mk.c 2 _ rfl
 have c3:w5.drew.cell? ⟨w.heap.size,3,none⟩=some (.int .u8 0):=mk.c 3 _ rfl
 have c4:w5.drew.cell? ⟨w.heap.size,4,none⟩=some (.int .u8 0):=mk.c 4 _ rfl
 have c5:w5.drew.cell? ⟨w.heap.size,5,none⟩=some (.int .u8 1):=mk.c 5 _ rfl
 have cf:w5.drew.cell? ⟨f,0,none⟩=some (.slice none 0 0):=HFK.out.c0
 have cfa:(w5.drew.alloc (.cells #[.int .u16 1,.int .u8 2,.int .u8 0,.int .u8 0,.int .u8 0,.int .u8 0,.int .u8 1,.int .u8 p,.int .i64 0] 299)).cell? ⟨f,0,none⟩=some (.slice none 0 0):=(hbd.cell (p:=⟨f,0,none⟩) hf0).trans HFK.out.c0
 have HB4:=hd0 hbd
 clear mk hbd
 go_region_law (first
  |(refine step_append_ow (enP_len p) (enP_one p) 299 294 _ 24 Tryz.underlying294 info_entry rfl (by decide) (by decide) rfl (.tmp 61) (.tmp 66) rfl w5.heap.size (.slice none 0 0) [] rfl (Ow.none _ _) _ _ rfl (HE.out.rw (enP_len p)) (by simp) (by simp) ?_;intro v1 w6 ho5 hb5;obtain⟨g1,cap1,t1,rfl,hg1,hc1,-⟩:=ho5.ne (by simp);have F5:=HFK.out.later (HB4.out.trans hb5);have cf5:=F5.c0;have ff5:=F5.g.fr 0))
 all_goals go_end0
 all_goals exact⟨_,rfl,F5.set _,(ho5.setB hf0 0 _).mono HBK.out.size,(below_only (HBK.out.trans ((HB4.out.trans hb5).mono HBK.out.size))).trans (Only.set _ _ _ _)⟩
theorem fof_noP (p:Int)(w:World):Calls Tryz.prog 280 #[.agg #[.int .u16 1,.int .u8 255,.int .u8 255,.int .u8 255,.int .u8 255,.int .u8 255,.int .u8 255],.agg #[.int .u16 1,.int .u8 2,.int .u8 0,.int .u8 0,.int .u8 0,.int .u8 0,.int .u8 1,.int .u8 p,.int .i64 0]] w fun en w'=>en=.returned (.bool false)∧Below w.heap.size w w':=by
 have EQ:∀ W:World,(binOp .eql 475 (.agg #[.int .u16 1,.int .u8 255,.int .u8 255,.int .u8 255,.int .u8 255,.int .u8 255,.int .u8 255]) (.agg #[.int .u16 1,.int .u8 2,.int .u8 0,.int .u8 0,.int .u8 0,.int .u8 0,.int .u8 1])).run Tryz.prog W=.ok (.bool false) W:=fun W=>by kernel_rfl
 go_enter Tryz.func280,Tryz.ntmps280
 go_wp2
 go_ret
 exact⟨rfl,(bAo _).alloc (by simp) _⟩
theorem fidx_oneP (p:Int)(b c:Nat)(w:World)(hw:∀ i,i<9→w.cell? ⟨b,i,none⟩=(enP p 0)[i]?):Calls Tryz.prog 236 #[.slice (some ⟨b,0,none⟩) 1 c,.func (.func 280) #[.agg #[.int .u16 1,.int .u8 255,.int .u8 255,.int .u8 255,.int .u8 255,.int .u8 255,.int .u8 255]] #[]] w fun en w'=>en=.returned (.int .i64 (-1))∧Below w.heap.size w w':=by
 have FO:=fof_noP p
 have c0:w.cell? ⟨b,0,none⟩=some (.int .u16 1):=hw 0 (by decide)
 have c1:w.cell? ⟨b,1,none⟩=some (.int .u8 2):=hw 1 (by decide)
 have c2:w.cell? ⟨b,2,none⟩=some (.int .u8 0):=hw 2 (by decide)
 have c3:w.cell? ⟨b,3,none⟩=some (.int .u8 0):=hw 3 (by decide)
 have c4:w.cell? ⟨b,4,none⟩=some (.int .u8 0):=hw 4 (by decide)
 have c5:w.cell? ⟨b,5,none⟩=some (.int .u8 0):=hw 5 (by decide)
 have c6:w.cell? ⟨b,6,none⟩=some (.int .u8 1):=hw 6 (by decide)
 have c7:w.cell? ⟨b,7,none⟩=some (.int .u8 p):=hw 7 (by decide)
 have c8:w.cell? ⟨b,8,none⟩=some (.int .i64 0):=hw 8 (by decide)
 clear hw
 go_enter Tryz.func236,Tryz.ntmps236
 go_wp2_with fail
 refine wp_loop_rounds 2 ?_
 rw[rounds_succ]
 go_wp2_with (go_at_call 280;refine(FO _).mono ?_;rintro e w1 ⟨rfl,hb1⟩)
 rw[rounds_succ]
 go_wp2_with fail
 go_ret
 exact⟨rfl,hb1⟩
theorem cellsP (p:Int){W:World}{B g cap:Nat}(h:Ow 9 (enP p) 299 W B (.slice (some ⟨g,0,none⟩) 1 cap) [0]):∀ i,i<9→W.cell? ⟨g,i,none⟩=(enP p 0)[i]?:=fun i hi=>by
 have h2:W.ownsRow B 299 9 (.slice (some ⟨g,0,none⟩) 1 cap) 1 ([0].flatMap (enP p)):=h
 have:=World.ownsRow.cellAt h2 i (by omega)
 rw[this];rfl
theorem flookP (p:Int)(f s b c:Nat)(w:World)(h:FT w f s (.slice (some ⟨b,0,none⟩) 1 c))(hw:∀ i,i<9→w.cell? ⟨b,i,none⟩=(enP p 0)[i]?) :
  Calls Tryz.prog 251 #[.pointer (some ⟨f,0,none⟩),.int .u16 1,.agg #[.int .u8 255,.int .u8 255,.int .u8 255,.int .u8 255,.int .u8 255,.int .u8 255]] w fun en w'=>en=.returned (.tuple #[.int .u8 0,.bool false])∧Below w.heap.size w w':=by
 obtain⟨kl,hkl⟩:=Option.isSome_iff_exists.1 keyB
 have HK:=hd0 hkl
 clear hkl
 have hb0:=((Below.refl w.heap.size w).alloc (Nat.le_refl _) (.cells #[.int .u8 255,.int .u8 255,.int .u8 255,.int .u8 255,.int .u8 255,.int .u8 255] 24)).alloc (by simp) (.cells #[.int .u16 1,.int .u8 255,.int .u8 255,.int .u8 255,.int .u8 255,.int .u8 255,.int .u8 255] 475)
 have g0:=GB.new 475 (w.alloc (.cells #[.int .u8 255,.int .u8 255,.int .u8 255,.int .u8 255,.int .u8 255,.int .u8 255] 24)) #[.int .u16 1,.int .u8 255,.int .u8 255,.int .u8 255,.int .u8 255,.int .u8 255,.int .u8 255]
 rw[show(w.alloc (.cells #[.int .u8 255,.int .u8 255,.int .u8 255,.int .u8 255,.int .u8 255,.int .u8 255] 24)).heap.size=w.heap.size+1 by simp] at g0
 obtain⟨w0,hw0⟩:∃ z,(w.alloc (.cells #[.int .u8 255,.int .u8 255,.int .u8 255,.int .u8 255,.int .u8 255,.int .u8 255] 24)).alloc (.cells #[.int .u16 1,.int .u8 255,.int .u8 255,.int .u8 255,.int .u8 255,.int .u8 255,.int .u8 255] 475)=z:=⟨_,rfl⟩
 rw[hw0] at hb0 g0
 have hwl:∀ i,i<9→b<w.heap.size:=fun i hi=>by have:=hw i hi;rw[List.getElem?_eq_getElem (show i<(enP p 0).length from hi)] at this;exact World.block_lt_of_cell? _ _ this
 have HW0:=hd0 fun(K:Later w0) i (hi:i<9)=>((K.h.cell (p:=⟨b,i,none⟩) (Nat.lt_of_lt_of_le (hwl i hi) hb0.size)).trans (hb0.cell (p:=⟨b,i,none⟩) (hwl i hi))).trans (hw i hi)
 have HB0:=hd0 hb0
 have HF0:=hd0 (h.later hb0)
 have HP0:=hd0 g0
 clear hw hwl h hb0 g0
 have l0:∀ K:Later w0,K.out.cell? ⟨f,0,none⟩=some (.slice (some ⟨b,0,none⟩) 1 c):=fun K=>(HF0.out.later K.h).c0
 have l1:∀ K:Later w0,K.out.cell? ⟨f,1,none⟩=some (.map (some s)):=fun K=>(HF0.out.later K.h).c1
 have e0:∀ K:Later w0,K.out.cell? ⟨w.heap.size+1,0,none⟩=some (.int .u16 1):=fun K=>(HP0.out.later K.h).c 0 _ rfl
 have e1:∀ K:Later w0,K.out.cell? ⟨w.heap.size+1,1,none⟩=some (.int .u8 255):=fun K=>(HP0.out.later K.h).c 1 _ rfl
 have e2:∀ K:Later w0,K.out.cell? ⟨w.heap.size+1,2,none⟩=some (.int .u8 255):=fun K=>(HP0.out.later K.h).c 2 _ rfl
 have e3:∀ K:Later w0,K.out.cell? ⟨w.heap.size+1,3,none⟩=some (.int .u8 255):=fun K=>(HP0.out.later K.h).c 3 _ rfl
 have e4:∀ K:Later w0,K.out.cell? ⟨w.heap.size+1,4,none⟩=some (.int .u8 255):=fun K=>(HP0.out.later K.h).c 4 _ rfl
 have e5:∀ K:Later w0,K.out.cell? ⟨w.heap.size+1,5,none⟩=some (.int .u8 255):=fun K=>(HP0.out.later K.h).c 5 _ rfl
 have e6:∀ K:Later w0,K.out.cell? ⟨w.heap.size+1,6,none⟩=some (.int .u8 255):=fun K=>(HP0.out.later K.h).c 6 _ rfl
 have LK:∀ K:Later w0,(Instr.lookup 293 (.map (some s)) (.agg #[.int .u16 1,.int .u8 255,.int .u8 255,.int .u8 255,.int .u8 255,.int .u8 255,.int .u8 255]) true).run Tryz.prog K.out=.ok (.tuple #[.int .u8 0,.bool false]) K.out:=fun K=>flook0 (HF0.out.later K.h).m HK.out
 have IX:Hid (∀ K:Later w0,Calls Tryz.prog 236 #[.slice (some ⟨b,0,none⟩) 1 c,.func (.func 280) #[.agg #[.int .u16 1,.int .u8 255,.int .u8 255,.int .u8 255,.int .u8 255,.int .u8 255,.int .u8 255]] #[]] K.out fun en w'=>en=.returned (.int .i64 (-1))∧Below K.out.heap.size K.out w'):=hd0 fun K=>fidx_oneP p b c K.out (HW0.out K)
 go_enter Tryz.func251,Tryz.ntmps251
 go_upto_region 4 with fail
 clear hw0
 refine wp_region_later (by kernel_rfl) (by kernel_rfl) ?_
 repeat (go_big_quiet_step (fail))
 refine wpQuiet_nil ?_
 rintro _ ⟨K,rfl⟩
 go_upto_region 7 with fail
 have F1:=HF0.out.later K.h
 have P1:=HP0.out.later K.h
 have IX1:Hid (∀ J:Later K.out,Calls Tryz.prog 236 #[.slice (some ⟨b,0,none⟩) 1 c,.func (.func 280) #[.agg #[.int .u16 1,.int .u8 255,.int .u8 255,.int .u8 255,.int .u8 255,.int .u8 255,.int .u8 255]] #[]] J.out fun en w'=>en=.returned (.int .i64 (-1))∧Below J.out.heap.size J.out w'):=hd0 fun J=>IX.out ⟨J.out,K.h.trans (J.h.mono K.h.size)⟩
 have HB1:=hd0 (HB0.out.trans (K.h.mono HB0.out.size))
 obtain⟨w1,hw1⟩:∃ z,K.out=z:=⟨_,rfl⟩
 rw[hw1] at F1 P1 IX1 HB1 ⊢
 clear hw1 l0 l1 e0 e1 e2 e3 e4 e5 e6 LK K HF0 HP0 HW0 IX
 have HF1:=hd0 F1
 have HP1:=hd0 P1
 clear F1 P1
 have l0:∀ K:Later w1,K.out.cell? ⟨f,0,none⟩=some (.slice (some ⟨b,0,none⟩) 1 c):=fun K=>(HF1.out.later K.h).c0
 have e0:∀ K:Later w1,K.out.cell? ⟨w.heap.size+1,0,none⟩=some (.int .u16 1):=fun K=>(HP1.out.later K.h).c 0 _ rfl
 have e1:∀ K:Later w1,K.out.cell? ⟨w.heap.size+1,1,none⟩=some (.int .u8 255):=fun K=>(HP1.out.later K.h).c 1 _ rfl
 have e2:∀ K:Later w1,K.out.cell? ⟨w.heap.size+1,2,none⟩=some (.int .u8 255):=fun K=>(HP1.out.later K.h).c 2 _ rfl
 have e3:∀ K:Later w1,K.out.cell? ⟨w.heap.size+1,3,none⟩=some (.int .u8 255):=fun K=>(HP1.out.later K.h).c 3 _ rfl
 have e4:∀ K:Later w1,K.out.cell? ⟨w.heap.size+1,4,none⟩=some (.int .u8 255):=fun K=>(HP1.out.later K.h).c 4 _ rfl
 have e5:∀ K:Later w1,K.out.cell? ⟨w.heap.size+1,5,none⟩=some (.int .u8 255):=fun K=>(HP1.out.later K.h).c 5 _ rfl
 have e6:∀ K:Later w1,K.out.cell? ⟨w.heap.size+1,6,none⟩=some (.int .u8 255):=fun K=>(HP1.out.later K.h).c 6 _ rfl
 refine wp_region_later (by kernel_rfl) (by kernel_rfl) ?_
 repeat (go_big_quiet_step (first|(go_at_call 236;exact Calls.later (IX1.out _))))
 refine wpQuiet_nil ?_
 rintro _ ⟨K,rfl⟩
 go_wp2
 refine bodyPost_ret (v:=.tuple #[.int .u8 0,.bool false]) (by simp[results,Tryz.results251,go_sem]) rfl ⟨rfl,HB1.out.trans (K.h.mono HB1.out.size)⟩
def lk (u:Bool)(h:Bp)(la:Int)(ag:Bool)(sp:Int):TP:=⟨5,u,h,la,ag,sp⟩
def ml (id:Int)(a:Bool)(x:TP)(rt co po ho ve fl:Int):TM:=⟨id,[hp a,x],rt,co,po,ho,ve,fl⟩
def mS (id:Int)(a u:Bool):TM:=ml id a (lk u bp0 0 false 0) id 0 (-1) 0 1 0
def wD (r:Int)(p:Bool):Bp:=⟨r,0,r,1,0,1,2,p,false,false,0⟩
def wR:Bp:=⟨16,5,32,1,1,2,1,false,true,true,1⟩
section
variable {W W':World} {m g cap:Nat} {t:List Value} {T:TM} {a:Bool} {x:TP} {id rt co po ho ve fl:Int}
theorem TR.l1 (h:TR W m g cap t (ml id a x rt co po ho ve fl)):W.cell? ⟨m,1,none⟩=some (.slice (some ⟨g,0,none⟩) 2 cap):=h.c1
theorem TR.h0 (h:TR W m g cap t (ml id a x rt co po ho ve fl))(i:Nat)(hi:i<16)(v:Value)(hv:(tpC (hp a))[i]?=some v):W.cell? ⟨g,i,none⟩=some v:=by
 have:=h.row.c 0 (by show 0<2;decide) i hi v hv
 simpa using this
theorem TR.x1 (h:TR W m g cap t (ml id a x rt co po ho ve fl))(i:Nat)(hi:i<16)(v:Value)(hv:(tpC x)[i]?=some v):W.cell? ⟨g,16+i,none⟩=some v:=by
 have:=h.row.c 1 (by show 1<2;decide) i hi v hv
 simpa using this
theorem TR.tmSet (h:TR W m g cap t T)(j:Nat)(v:Value)(T':TM)(hP:T'.P=T.P)(hi:T'.id=T.id)(he:∀ s,(tmA T s).setIfInBounds j v=tmA T' s):TR (W.setCell ⟨m,j,none⟩ v) m g cap t T':=by
 refine⟨?_,?_,h.ne,by rw[hP];exact h.n1,by rw[hP];exact h.cp,by rw[hi];exact h.iw⟩
 ·have:=h.tm.set j v
  rw[he] at this;rw[hP];exact this
 ·rw[hP];exact h.row.blk (by rw[Below.heap_setCell _ _ _ _ (by intro e;simp at e;exact h.ne e.symm)])
theorem TR.xSet (h:TR W m g cap t (ml id a x rt co po ho ve fl))(j:Nat)(hj:j<16)(v:Value)(y:TP)(he:tpC y=(tpC x).set j v):TR (W.setCell ⟨g,16+j,none⟩ v) m g cap t (ml id a y rt co po ho ve fl):=by
 have r:=h.row.s 1 (by show 1<2;decide) j hj v y (by show tpC y=(tpC x).set j v;exact he)
 rw[show 1*16+j=16+j by omega] at r
 exact⟨h.tm.other h.ne.symm v,r,h.ne,h.n1,h.cp,h.iw⟩
end
def cmpI (a b:Int):Int:=if a<b then -1 else if b<a then 1 else 0
theorem cmp_uint64 (a b:Int)(w:World):Calls Tryz.prog 166 #[.int .u64 a,.int .u64 b] w fun en w'=>en=.returned (.int .i64 (cmpI a b))∧w=w':=by
 have NA:∀ (x:Int) (w:World),Calls Tryz.prog 232 #[.int .u64 x] w fun en w'=>en=.returned (.bool false)∧w=w':=by
  intro x w
  go_enter Tryz.func232,Tryz.ntmps232
  go_wp2
  go_ret
  exact⟨rfl,rfl⟩
 have fin:∀ (v:Int),cmpI a b=v→(a<b∨¬ a<b∧b<a∨¬ a<b∧¬ b<a)→Calls Tryz.prog 166 #[.int .u64 a,.int .u64 b] w fun en w'=>en=.returned (.int .i64 v)∧w=w':=by
  intro v hv hc
  unfold cmpI at hv
  rcases hc with h1|⟨h1,h2⟩|⟨h1,h2⟩
  ·rw[if_pos h1] at hv
   subst hv
   have d1:decide (a<b)=true:=decide_eq_true h1
   clear h1
   go_enter Tryz.func166,Tryz.ntmps166
   go_wp2_with (go_at_call 232;refine(NA _ _).mono ?_;rintro e w' ⟨rfl,rfl⟩)
   go_ret
   exact⟨rfl,rfl⟩
  ·rw[if_neg h1,if_pos h2] at hv
   subst hv
   have d1:decide (a<b)=false:=decide_eq_false h1
   have d2:decide (b<a)=true:=decide_eq_true h2
   clear h1 h2
   go_enter Tryz.func166,Tryz.ntmps166
   go_wp2_with (go_at_call 232;refine(NA _ _).mono ?_;rintro e w' ⟨rfl,rfl⟩)
   go_ret
   exact⟨rfl,rfl⟩
  ·rw[if_neg h1,if_neg h2] at hv
   subst hv
   have d1:decide (a<b)=false:=decide_eq_false h1
   have d2:decide (b<a)=false:=decide_eq_false h2
   clear h1 h2
   go_enter Tryz.func166,Tryz.ntmps166
   go_wp2_with (go_at_call 232;refine(NA _ _).mono ?_;rintro e w' ⟨rfl,rfl⟩)
   go_ret
   exact⟨rfl,rfl⟩
 exact fin _ rfl (by omega)
theorem cmp_uint32 (a b:Int)(w:World):Calls Tryz.prog 167 #[.int .u32 a,.int .u32 b] w fun en w'=>en=.returned (.int .i64 (cmpI a b))∧w=w':=by
 have NA:∀ (x:Int) (w:World),Calls Tryz.prog 233 #[.int .u32 x] w fun en w'=>en=.returned (.bool false)∧w=w':=by
  intro x w
  go_enter Tryz.func233,Tryz.ntmps233
  go_wp2
  go_ret
  exact⟨rfl,rfl⟩
 have fin:∀ (v:Int),cmpI a b=v→(a<b∨¬ a<b∧b<a∨¬ a<b∧¬ b<a)→Calls Tryz.prog 167 #[.int .u32 a,.int .u32 b] w fun en w'=>en=.returned (.int .i64 v)∧w=w':=by
  intro v hv hc
  unfold cmpI at hv
  rcases hc with h1|⟨h1,h2⟩|⟨h1,h2⟩
  ·rw[if_pos h1] at hv
   subst hv
   have d1:decide (a<b)=true:=decide_eq_true h1
   clear h1
   go_enter Tryz.func167,Tryz.ntmps167
   go_wp2_with (go_at_call 233;refine(NA _ _).mono ?_;rintro e w' ⟨rfl,rfl⟩)
   go_ret
   exact⟨rfl,rfl⟩
  ·rw[if_neg h1,if_pos h2] at hv
   subst hv
   have d1:decide (a<b)=false:=decide_eq_false h1
   have d2:decide (b<a)=true:=decide_eq_true h2
   clear h1 h2
   go_enter Tryz.func167,Tryz.ntmps167
   go_wp2_with (go_at_call 233;refine(NA _ _).mono ?_;rintro e w' ⟨rfl,rfl⟩)
   go_ret
   exact⟨rfl,rfl⟩
  ·rw[if_neg h1,if_neg h2] at hv
   subst hv
   have d1:decide (a<b)=false:=decide_eq_false h1
   have d2:decide (b<a)=false:=decide_eq_false h2
   clear h1 h2
   go_enter Tryz.func167,Tryz.ntmps167
   go_wp2_with (go_at_call 233;refine(NA _ _).mono ?_;rintro e w' ⟨rfl,rfl⟩)
   go_ret
   exact⟨rfl,rfl⟩
 exact fin _ rfl (by omega)
theorem cmp_uint8 (a b:Int)(w:World):Calls Tryz.prog 168 #[.int .u8 a,.int .u8 b] w fun en w'=>en=.returned (.int .i64 (cmpI a b))∧w=w':=by
 have NA:∀ (x:Int) (w:World),Calls Tryz.prog 234 #[.int .u8 x] w fun en w'=>en=.returned (.bool false)∧w=w':=by
  intro x w
  go_enter Tryz.func234,Tryz.ntmps234
  go_wp2
  go_ret
  exact⟨rfl,rfl⟩
 have fin:∀ (v:Int),cmpI a b=v→(a<b∨¬ a<b∧b<a∨¬ a<b∧¬ b<a)→Calls Tryz.prog 168 #[.int .u8 a,.int .u8 b] w fun en w'=>en=.returned (.int .i64 v)∧w=w':=by
  intro v hv hc
  unfold cmpI at hv
  rcases hc with h1|⟨h1,h2⟩|⟨h1,h2⟩
  ·rw[if_pos h1] at hv
   subst hv
   have d1:decide (a<b)=true:=decide_eq_true h1
   clear h1
   go_enter Tryz.func168,Tryz.ntmps168
   go_wp2_with (go_at_call 234;refine(NA _ _).mono ?_;rintro e w' ⟨rfl,rfl⟩)
   go_ret
   exact⟨rfl,rfl⟩
  ·rw[if_neg h1,if_pos h2] at hv
   subst hv
   have d1:decide (a<b)=false:=decide_eq_false h1
   have d2:decide (b<a)=true:=decide_eq_true h2
   clear h1 h2
   go_enter Tryz.func168,Tryz.ntmps168
   go_wp2_with (go_at_call 234;refine(NA _ _).mono ?_;rintro e w' ⟨rfl,rfl⟩)
   go_ret
   exact⟨rfl,rfl⟩
  ·rw[if_neg h1,if_neg h2] at hv
   subst hv
   have d1:decide (a<b)=false:=decide_eq_false h1
   have d2:decide (b<a)=false:=decide_eq_false h2
   clear h1 h2
   go_enter Tryz.func168,Tryz.ntmps168
   go_wp2_with (go_at_call 234;refine(NA _ _).mono ?_;rintro e w' ⟨rfl,rfl⟩)
   go_ret
   exact⟨rfl,rfl⟩
 exact fin _ rfl (by omega)
end Go.Proofs.YtghaobakpdninaaGreatDoor
