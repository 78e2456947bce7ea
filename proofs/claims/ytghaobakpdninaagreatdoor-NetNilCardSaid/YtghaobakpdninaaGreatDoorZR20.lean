/- ZR20 -/
import Derived.Test.YtghaobakpdninaaGreatDoorZR17
import Derived.Test.YtghaobakpdninaaGreatDoorZR19
set_option linter.unusedVariables false
set_option linter.unusedSimpArgs false
set_option maxRecDepth 100000
set_option maxHeartbeats 16000000
namespace Go.Proofs.YtghaobakpdninaaGreatDoor
open Go.RowKit
def sdC (x:Int × List UInt8):List Value:=[.int .u8 x.1,.string (bs x.2)]
theorem sdC_len (x:Int × List UInt8):(sdC x).length=2:=rfl
theorem sdC_one (x:Int × List UInt8):∀ v∈sdC x,v.oneCell'=true:=by
 intro v hv
 simp[sdC] at hv
 rcases hv with rfl|rfl <;> rfl
def fwB (e:Int)(b:Bp):List UInt8:=(putF 1 128 194 0 0 0 0 0 0 0 0 e false 0 0 19779 (byB b)).1
theorem bmac16 (b:Nat)(w:World)(h:w.cell? ⟨b,0,none⟩=some (.int .u64 16)):Calls Tryz.prog 124 #[.pointer (some ⟨b,0,none⟩),.int .u8 1] w fun en w'=>en=.returned (.agg #[.int .u8 0,.int .u8 0,.int .u8 0,.int .u8 0,.int .u8 0,.int .u8 18])∧Below w.heap.size w w':=by
 have OF:Hid (∀ w,Calls Tryz.prog 61 #[.int .u64 18] w fun en w'=>en=.returned (.tuple #[.agg #[.int .u8 0,.int .u8 0,.int .u8 0,.int .u8 0,.int .u8 0,.int .u8 18],.bool true])∧Below w.heap.size w w'):=hd0 fun w=>of2_any 18 w (by decide) (by decide)
 have hb0:=(Below.refl w.heap.size w).alloc (Nat.le_refl _) (.cells yM 24)
 have g0:=GB.new 24 w #[.int .u8 0,.int .u8 0,.int .u8 0,.int .u8 0,.int .u8 0,.int .u8 0]
 have k0:=(hb0.cell (World.block_lt_of_cell? _ _ h)).trans h
 obtain⟨w0,hw0⟩:∃ z,w.alloc (.cells yM 24)=z:=⟨_,rfl⟩
 rw[hw0] at hb0 g0 k0
 have HI:Hid ((Tryz.prog.info? 24).map (·.size)=some (Array.size #[Value.int .u8 0,.int .u8 0,.int .u8 0,.int .u8 0,.int .u8 0,.int .u8 18])):=hd0 (by kernel_rfl)
 have HIL:Hid ((Tryz.prog.info? 24).map (·.size)=some (List.length ([.int .u8 0,.int .u8 0,.int .u8 0,.int .u8 0,.int .u8 0,.int .u8 18]:List Value))):=hd0 (by kernel_rfl)
 have HO:Hid ((#[.int .u8 0,.int .u8 0,.int .u8 0,.int .u8 0,.int .u8 0,.int .u8 18]:Array Value).all (·.oneCell')=true):=hd0 (by kernel_rfl)
 have G0:=hd0 g0
 have HB:=hd0 hb0
 clear h hb0 g0
 go_enter Tryz.func124,Tryz.ntmps124
 go_upto_region 3 with fail
 clear hw0
 go_wp2_with fail
 with_reducible refine(OF.out _).mono ?_
 rintro en w1 ⟨rfl,hb1⟩
 have b2:=hb1.trans (((Below.refl w1.heap.size w1).alloc (Nat.le_refl _) (.cells #[.int .u8 0,.int .u8 0,.int .u8 0,.int .u8 0,.int .u8 0,.int .u8 18] 24)).mono hb1.size)
 have g2:=GB.new 24 w1 #[.int .u8 0,.int .u8 0,.int .u8 0,.int .u8 0,.int .u8 0,.int .u8 18]
 have z2:=G0.out.later b2
 obtain⟨w2,hw2⟩:∃ z,w1.alloc (.cells #[.int .u8 0,.int .u8 0,.int .u8 0,.int .u8 0,.int .u8 0,.int .u8 18] 24)=z:=⟨_,rfl⟩
 rw[hw2] at b2 g2 z2
 have r2:=g2.range
 have TH:Hid (w2.there w.heap.size 0 (Array.size #[Value.int .u8 0,.int .u8 0,.int .u8 0,.int .u8 0,.int .u8 0,.int .u8 18])):=hd0 (z2.there (Nat.le_refl _))
 have Z2:=hd0 z2
 have B2:=hd0 (HB.out.trans (b2.mono HB.out.size))
 clear b2 g2 z2 hb1
 go_wp2_with (first
  |((with_reducible refine wpList_load_mid rfl 24 (.tmp 5) rfl w1.heap.size 0 ?hx [.int .u8 0,.int .u8 0,.int .u8 0,.int .u8 0,.int .u8 0,.int .u8 18] _ r2 Tryz.underlying24 ?hu HIL.out ?_);(case hx=>rfl);(case hu=>rfl))
  |((with_reducible refine wpList_store_mid rfl 24 (.tmp 4) (.tmp 26) rfl w.heap.size 0 #[Value.int .u8 0,.int .u8 0,.int .u8 0,.int .u8 0,.int .u8 0,.int .u8 18] ?hx ?hy TH.out HI.out HO.out ?_);(case hx=>rfl);(case hy=>rfl)))
 exact bodyPost_ret (v:=.agg #[.int .u8 0,.int .u8 0,.int .u8 0,.int .u8 0,.int .u8 0,.int .u8 18]) (res_one (p:=4) (d:=_) rfl rfl Tryz.underlying24 _ _ w.heap.size _ rfl (Z2.out.store rfl HO.out) (by kernel_rfl)) rfl ⟨rfl,below_cellsG (Nat.le_refl _) _ _ _ B2.out⟩
theorem bmac32 (b:Nat)(w:World)(h:w.cell? ⟨b,0,none⟩=some (.int .u64 32)):Calls Tryz.prog 124 #[.pointer (some ⟨b,0,none⟩),.int .u8 1] w fun en w'=>en=.returned (.agg #[.int .u8 0,.int .u8 0,.int .u8 0,.int .u8 0,.int .u8 0,.int .u8 34])∧Below w.heap.size w w':=by
 have OF:Hid (∀ w,Calls Tryz.prog 61 #[.int .u64 34] w fun en w'=>en=.returned (.tuple #[.agg #[.int .u8 0,.int .u8 0,.int .u8 0,.int .u8 0,.int .u8 0,.int .u8 34],.bool true])∧Below w.heap.size w w'):=hd0 fun w=>of2_any 34 w (by decide) (by decide)
 have hb0:=(Below.refl w.heap.size w).alloc (Nat.le_refl _) (.cells yM 24)
 have g0:=GB.new 24 w #[.int .u8 0,.int .u8 0,.int .u8 0,.int .u8 0,.int .u8 0,.int .u8 0]
 have k0:=(hb0.cell (World.block_lt_of_cell? _ _ h)).trans h
 obtain⟨w0,hw0⟩:∃ z,w.alloc (.cells yM 24)=z:=⟨_,rfl⟩
 rw[hw0] at hb0 g0 k0
 have HI:Hid ((Tryz.prog.info? 24).map (·.size)=some (Array.size #[Value.int .u8 0,.int .u8 0,.int .u8 0,.int .u8 0,.int .u8 0,.int .u8 34])):=hd0 (by kernel_rfl)
 have HIL:Hid ((Tryz.prog.info? 24).map (·.size)=some (List.length ([.int .u8 0,.int .u8 0,.int .u8 0,.int .u8 0,.int .u8 0,.int .u8 34]:List Value))):=hd0 (by kernel_rfl)
 have HO:Hid ((#[.int .u8 0,.int .u8 0,.int .u8 0,.int .u8 0,.int .u8 0,.int .u8 34]:Array Value).all (·.oneCell')=true):=hd0 (by kernel_rfl)
 have G0:=hd0 g0
 have HB:=hd0 hb0
 clear h hb0 g0
 go_enter Tryz.func124,Tryz.ntmps124
 go_upto_region 3 with fail
 clear hw0
 go_wp2_with fail
 with_reducible refine(OF.out _).mono ?_
 rintro en w1 ⟨rfl,hb1⟩
 have b2:=hb1.trans (((Below.refl w1.heap.size w1).alloc (Nat.le_refl _) (.cells #[.int .u8 0,.int .u8 0,.int .u8 0,.int .u8 0,.int .u8 0,.int .u8 34] 24)).mono hb1.size)
 have g2:=GB.new 24 w1 #[.int .u8 0,.int .u8 0,.int .u8 0,.int .u8 0,.int .u8 0,.int .u8 34]
 have z2:=G0.out.later b2
 obtain⟨w2,hw2⟩:∃ z,w1.alloc (.cells #[.int .u8 0,.int .u8 0,.int .u8 0,.int .u8 0,.int .u8 0,.int .u8 34] 24)=z:=⟨_,rfl⟩
 rw[hw2] at b2 g2 z2
 have r2:=g2.range
 have TH:Hid (w2.there w.heap.size 0 (Array.size #[Value.int .u8 0,.int .u8 0,.int .u8 0,.int .u8 0,.int .u8 0,.int .u8 34])):=hd0 (z2.there (Nat.le_refl _))
 have Z2:=hd0 z2
 have B2:=hd0 (HB.out.trans (b2.mono HB.out.size))
 clear b2 g2 z2 hb1
 go_wp2_with (first
  |((with_reducible refine wpList_load_mid rfl 24 (.tmp 5) rfl w1.heap.size 0 ?hx [.int .u8 0,.int .u8 0,.int .u8 0,.int .u8 0,.int .u8 0,.int .u8 34] _ r2 Tryz.underlying24 ?hu HIL.out ?_);(case hx=>rfl);(case hu=>rfl))
  |((with_reducible refine wpList_store_mid rfl 24 (.tmp 4) (.tmp 26) rfl w.heap.size 0 #[Value.int .u8 0,.int .u8 0,.int .u8 0,.int .u8 0,.int .u8 0,.int .u8 34] ?hx ?hy TH.out HI.out HO.out ?_);(case hx=>rfl);(case hy=>rfl)))
 exact bodyPost_ret (v:=.agg #[.int .u8 0,.int .u8 0,.int .u8 0,.int .u8 0,.int .u8 0,.int .u8 34]) (res_one (p:=4) (d:=_) rfl rfl Tryz.underlying24 _ _ w.heap.size _ rfl (Z2.out.store rfl HO.out) (by kernel_rfl)) rfl ⟨rfl,below_cellsG (Nat.le_refl _) _ _ _ B2.out⟩
theorem bwords0 (b:Nat)(w:World):Calls Tryz.prog 92 #[.pointer (some ⟨b,0,none⟩),.slice none 0 0] w fun en w'=>en=.returned (.slice none 0 0)∧w=w':=by
 go_enter Tryz.func92,Tryz.ntmps92
 go_wp2_with fail
 refine wp_loop_rounds 1 ?_
 rw[rounds_succ]
 go_wp2_with fail
 go_ret
 exact⟨rfl,rfl⟩
theorem info_bsent:(Tryz.prog.info? 257).map (fun i=>(i.zero,i.size,i.bytes))=some (some (.agg #[.int .u8 0,.string { data:=#[] }]),2,24):=by kernel_rfl
theorem bwords16 (b gs cs:Nat)(x:Bp)(hx:x.Ok)(hm:mayB x=true)(hp:(putF 1 128 194 0 0 0 0 0 0 0 0 18 false 0 0 19779 (byB x)).2=0)(w:World)(h:w.cell? ⟨b,0,none⟩=some (.int .u64 16))(hr:w.rangeAt gs 0 (stW x)):Calls Tryz.prog 92 #[.pointer (some ⟨b,0,none⟩),.slice (some ⟨gs,0,none⟩) 1 cs] w fun en w'=>∃ g1 c1,en=.returned (.slice (some ⟨g1,0,none⟩) 1 c1)∧w'.rangeAt g1 0 (sdC (1,fwB 18 x))∧w.heap.size≤g1∧Below w.heap.size w w':=by
 have BP:Hid (∀ w,Calls Tryz.prog 122 #[.agg #[.int .u64 x.rt,.int .u32 x.co,.int .u64 x.br,.int .u8 x.po,.int .u8 x.ho,.int .u64 x.ve,.int .u8 x.ro,.bool x.pr,.bool x.ag,.bool x.tp,.int .u64 x.ec]] w fun en w'=>en=.returned (.tuple #[.string (bs (byB x)),.int .i64 0])∧Below w.heap.size w w'):=hd0 fun w=>by
  have:=bput_any x w hx
  rw[show putB x=(byB x,0) by unfold putB;rw[if_pos hm]] at this;exact this
 have FP:Hid (∀ w,Calls Tryz.prog 123 #[.agg #[.int .u8 1,.int .u8 128,.int .u8 194,.int .u8 0,.int .u8 0,.int .u8 0,.int .u8 0,.int .u8 0,.int .u8 0,.int .u8 0,.int .u8 0,.int .u8 18,.bool false,.int .u8 0,.int .u16 0,.int .u16 19779,.string (bs (byB x))]] w fun en w'=>en=.returned (.tuple #[.string (bs (fwB 18 x)),.int .i64 0])∧Below w.heap.size w w'):=hd0 fun w=>by
  have:=fput_any 1 128 194 0 0 0 0 0 0 0 0 18 false 0 0 19779 (byB x) w (by unfold wfF wfM;decide) (by rw[byB_len];decide)
  rw[hp] at this;exact this
 have HIT:Hid ((Tryz.prog.info? 302).map (·.size)=some (List.length ([.int .u8 1,.int .u64 x.rt,.int .u32 x.co,.int .u64 x.br,.int .u8 x.po,.int .u8 x.ho,.int .u64 x.ve,.int .u8 x.ro,.bool x.pr,.bool x.ag,.bool x.tp,.int .u64 x.ec]:List Value))):=hd0 (by kernel_rfl)
 have HIB:Hid ((Tryz.prog.info? 212).map (·.size)=some (List.length ([.int .u64 x.rt,.int .u32 x.co,.int .u64 x.br,.int .u8 x.po,.int .u8 x.ho,.int .u64 x.ve,.int .u8 x.ro,.bool x.pr,.bool x.ag,.bool x.tp,.int .u64 x.ec]:List Value))):=hd0 (by kernel_rfl)
 have r0:w.rangeAt gs 0 [.int .u8 1,.int .u64 x.rt,.int .u32 x.co,.int .u64 x.br,.int .u8 x.po,.int .u8 x.ho,.int .u64 x.ve,.int .u8 x.ro,.bool x.pr,.bool x.ag,.bool x.tp,.int .u64 x.ec]:=hr
 have MA:Hid (∀ K:World,Below w.heap.size w K→Calls Tryz.prog 124 #[.pointer (some ⟨b,0,none⟩),.int .u8 1] K fun en w'=>en=.returned (.agg #[.int .u8 0,.int .u8 0,.int .u8 0,.int .u8 0,.int .u8 0,.int .u8 18])∧Below K.heap.size K w'):=hd0 fun K hK=>bmac16 b K ((hK.cell (World.block_lt_of_cell? _ _ h)).trans h)
 have OWN:=hd0 own_any
 clear hr h hx hm hp
 go_enter Tryz.func92,Tryz.ntmps92
 go_wp2_with fail
 refine wp_loop_rounds 2 ?_
 rw[rounds_succ]
 go_upto_region 5 with((with_reducible refine wpList_load_mid rfl 302 (.tmp 16) rfl gs 0 ?hx [.int .u8 1,.int .u64 x.rt,.int .u32 x.co,.int .u64 x.br,.int .u8 x.po,.int .u8 x.ho,.int .u64 x.ve,.int .u8 x.ro,.bool x.pr,.bool x.ag,.bool x.tp,.int .u64 x.ec] _ r0 Tryz.underlying302 ?hu HIT.out ?_);(case hx=>rfl);(case hu=>rfl))
 have b1:Below w.heap.size w (w.alloc (.cells #[.int .u8 1,.int .u64 x.rt,.int .u32 x.co,.int .u64 x.br,.int .u8 x.po,.int .u8 x.ho,.int .u64 x.ve,.int .u8 x.ro,.bool x.pr,.bool x.ag,.bool x.tp,.int .u64 x.ec] 302)):=bAo _
 have g1:=GB.new 302 w #[.int .u8 1,.int .u64 x.rt,.int .u32 x.co,.int .u64 x.br,.int .u8 x.po,.int .u8 x.ho,.int .u64 x.ve,.int .u8 x.ro,.bool x.pr,.bool x.ag,.bool x.tp,.int .u64 x.ec]
 obtain⟨w1,hw1⟩:∃ z,w.alloc (.cells #[.int .u8 1,.int .u64 x.rt,.int .u32 x.co,.int .u64 x.br,.int .u8 x.po,.int .u8 x.ho,.int .u64 x.ve,.int .u8 x.ro,.bool x.pr,.bool x.ag,.bool x.tp,.int .u64 x.ec] 302)=z:=⟨_,rfl⟩
 rw[hw1] at b1 g1 ⊢
 clear hw1 r0
 have rB:w1.rangeAt w.heap.size 1 [.int .u64 x.rt,.int .u32 x.co,.int .u64 x.br,.int .u8 x.po,.int .u8 x.ho,.int .u64 x.ve,.int .u8 x.ro,.bool x.pr,.bool x.ag,.bool x.tp,.int .u64 x.ec]:=fun j v hv=>g1.c (1+j) v (by
  have hj:j<11:=(List.getElem?_eq_some_iff.1 hv).1
  rw[Nat.add_comm]
  simpa using hv)
 have G1:=hd0 g1
 have B1:=hd0 b1
 clear g1 b1
 go_upto_region 6 with(first
  |((with_reducible refine wpList_load_mid rfl 212 (.tmp 19) rfl w.heap.size 1 ?hx [.int .u64 x.rt,.int .u32 x.co,.int .u64 x.br,.int .u8 x.po,.int .u8 x.ho,.int .u64 x.ve,.int .u8 x.ro,.bool x.pr,.bool x.ag,.bool x.tp,.int .u64 x.ec] _ rB Tryz.underlying212 ?hu HIB.out ?_);(case hx=>rfl);(case hu=>rfl))
  |(go_at_call 122;with_reducible refine(BP.out _).mono ?_;rintro e w2 ⟨rfl,hb2⟩))
 have G2:=hd0 (G1.out.later hb2)
 have B2:=hd0 (B1.out.trans (hb2.mono B1.out.size))
 clear hb2 rB G1 B1
 have s0:∀ K:Later w2,K.out.cell? ⟨w.heap.size,0,none⟩=some (.int .u8 1):=fun K=>(G2.out.later K.h).c 0 _ rfl
 have MAK:Hid (∀ K:Later w2,Calls Tryz.prog 124 #[.pointer (some ⟨b,0,none⟩),.int .u8 1] K.out fun en w'=>en=.returned (.agg #[.int .u8 0,.int .u8 0,.int .u8 0,.int .u8 0,.int .u8 0,.int .u8 18])∧Below K.out.heap.size K.out w'):=hd0 fun K=>MA.out K.out (B2.out.trans (K.h.mono B2.out.size))
 refine wp_region_later (by kernel_rfl) (by kernel_rfl) ?_
 repeat (go_big_quiet_step (first
  |(go_at_call 105;exact Calls.later (OWN.out _))
  |(go_at_call 124;exact Calls.later (MAK.out _))
  |(go_at_call 123;exact Calls.later (FP.out _))))
 refine wpQuiet_nil ?_
 rintro _ ⟨K,rfl⟩
 clear s0 MAK
 have G3:=hd0 (G2.out.later K.h)
 have B3:=hd0 (B2.out.trans (K.h.mono B2.out.size))
 obtain⟨w3,hw3⟩:∃ z,K.out=z:=⟨_,rfl⟩
 rw[hw3] at G3 B3 ⊢
 clear hw3 K G2 B2
 have s0:w3.cell? ⟨w.heap.size,0,none⟩=some (.int .u8 1):=G3.out.c 0 _ rfl
 have hlit:Rw 2 sdC (w3.alloc (.cells #[.int .u8 1,.string (bs (fwB 18 x))] 257)) (.slice (some ⟨w3.heap.size,0,none⟩) 1 1) [(1,fwB 18 x)]:=(Ow.lit (E:=257) sdC_len w3 0 (1,fwB 18 x) #[.int .u8 1,.string (bs (fwB 18 x))] rfl (Nat.zero_le _)).rw sdC_len
 have HL:=hd0 hlit
 have B4:Hid (Below w.heap.size w (w3.alloc (.cells #[.int .u8 1,.string (bs (fwB 18 x))] 257))):=hd0 (B3.out.alloc B3.out.size _)
 clear hlit
 go_upto_region 8 with(at_builtin;refine wpList_append_rw sdC_len sdC_one 257 190 _ 24 Tryz.underlying190 info_bsent rfl (by decide) (by decide) rfl (.tmp 35) (.tmp 40) rfl w.heap.size (.slice none 0 0) [] rfl (Ow.none _ _) _ _ rfl HL.out (by simp) B4.out.size ?_;intro v1 w6 ho1 hb6;obtain⟨g1,cap1,t1,rfl,hg1,hc1,hh1⟩:=ho1.ne (by simp))
 have hrow:w6.rangeAt g1 0 (sdC (1,fwB 18 x)):=row_range (Below.refl _ _) hh1
 have HR:=hd0 hrow
 have B6:=hd0 (B4.out.trans hb6)
 clear hrow ho1 hb6 hh1 HL B4
 go_wp2_with fail
 rw[rounds_succ]
 go_wp2_with fail
 refine bodyPost_ret (v:=.slice (some ⟨g1,0,none⟩) 1 cap1) (by simp[results,Tryz.results92,go_sem]) rfl ⟨g1,cap1,rfl,HR.out,hg1,B6.out⟩
theorem bwords32 (b gs cs:Nat)(x:Bp)(hx:x.Ok)(hm:mayB x=true)(hp:(putF 1 128 194 0 0 0 0 0 0 0 0 34 false 0 0 19779 (byB x)).2=0)(w:World)(h:w.cell? ⟨b,0,none⟩=some (.int .u64 32))(hr:w.rangeAt gs 0 (stW x)):Calls Tryz.prog 92 #[.pointer (some ⟨b,0,none⟩),.slice (some ⟨gs,0,none⟩) 1 cs] w fun en w'=>∃ g1 c1,en=.returned (.slice (some ⟨g1,0,none⟩) 1 c1)∧w'.rangeAt g1 0 (sdC (1,fwB 34 x))∧w.heap.size≤g1∧Below w.heap.size w w':=by
 have BP:Hid (∀ w,Calls Tryz.prog 122 #[.agg #[.int .u64 x.rt,.int .u32 x.co,.int .u64 x.br,.int .u8 x.po,.int .u8 x.ho,.int .u64 x.ve,.int .u8 x.ro,.bool x.pr,.bool x.ag,.bool x.tp,.int .u64 x.ec]] w fun en w'=>en=.returned (.tuple #[.string (bs (byB x)),.int .i64 0])∧Below w.heap.size w w'):=hd0 fun w=>by
  have:=bput_any x w hx
  rw[show putB x=(byB x,0) by unfold putB;rw[if_pos hm]] at this;exact this
 have FP:Hid (∀ w,Calls Tryz.prog 123 #[.agg #[.int .u8 1,.int .u8 128,.int .u8 194,.int .u8 0,.int .u8 0,.int .u8 0,.int .u8 0,.int .u8 0,.int .u8 0,.int .u8 0,.int .u8 0,.int .u8 34,.bool false,.int .u8 0,.int .u16 0,.int .u16 19779,.string (bs (byB x))]] w fun en w'=>en=.returned (.tuple #[.string (bs (fwB 34 x)),.int .i64 0])∧Below w.heap.size w w'):=hd0 fun w=>by
  have:=fput_any 1 128 194 0 0 0 0 0 0 0 0 34 false 0 0 19779 (byB x) w (by unfold wfF wfM;decide) (by rw[byB_len];decide)
  rw[hp] at this;exact this
 have HIT:Hid ((Tryz.prog.info? 302).map (·.size)=some (List.length ([.int .u8 1,.int .u64 x.rt,.int .u32 x.co,.int .u64 x.br,.int .u8 x.po,.int .u8 x.ho,.int .u64 x.ve,.int .u8 x.ro,.bool x.pr,.bool x.ag,.bool x.tp,.int .u64 x.ec]:List Value))):=hd0 (by kernel_rfl)
 have HIB:Hid ((Tryz.prog.info? 212).map (·.size)=some (List.length ([.int .u64 x.rt,.int .u32 x.co,.int .u64 x.br,.int .u8 x.po,.int .u8 x.ho,.int .u64 x.ve,.int .u8 x.ro,.bool x.pr,.bool x.ag,.bool x.tp,.int .u64 x.ec]:List Value))):=hd0 (by kernel_rfl)
 have r0:w.rangeAt gs 0 [.int .u8 1,.int .u64 x.rt,.int .u32 x.co,.int .u64 x.br,.int .u8 x.po,.int .u8 x.ho,.int .u64 x.ve,.int .u8 x.ro,.bool x.pr,.bool x.ag,.bool x.tp,.int .u64 x.ec]:=hr
 have MA:Hid (∀ K:World,Below w.heap.size w K→Calls Tryz.prog 124 #[.pointer (some ⟨b,0,none⟩),.int .u8 1] K fun en w'=>en=.returned (.agg #[.int .u8 0,.int .u8 0,.int .u8 0,.int .u8 0,.int .u8 0,.int .u8 34])∧Below K.heap.size K w'):=hd0 fun K hK=>bmac32 b K ((hK.cell (World.block_lt_of_cell? _ _ h)).trans h)
 have OWN:=hd0 own_any
 clear hr h hx hm hp
 go_enter Tryz.func92,Tryz.ntmps92
 go_wp2_with fail
 refine wp_loop_rounds 2 ?_
 rw[rounds_succ]
 go_upto_region 5 with((with_reducible refine wpList_load_mid rfl 302 (.tmp 16) rfl gs 0 ?hx [.int .u8 1,.int .u64 x.rt,.int .u32 x.co,.int .u64 x.br,.int .u8 x.po,.int .u8 x.ho,.int .u64 x.ve,.int .u8 x.ro,.bool x.pr,.bool x.ag,.bool x.tp,.int .u64 x.ec] _ r0 Tryz.underlying302 ?hu HIT.out ?_);(case hx=>rfl);(case hu=>rfl))
 have b1:Below w.heap.size w (w.alloc (.cells #[.int .u8 1,.int .u64 x.rt,.int .u32 x.co,.int .u64 x.br,.int .u8 x.po,.int .u8 x.ho,.int .u64 x.ve,.int .u8 x.ro,.bool x.pr,.bool x.ag,.bool x.tp,.int .u64 x.ec] 302)):=bAo _
 have g1:=GB.new 302 w #[.int .u8 1,.int .u64 x.rt,.int .u32 x.co,.int .u64 x.br,.int .u8 x.po,.int .u8 x.ho,.int .u64 x.ve,.int .u8 x.ro,.bool x.pr,.bool x.ag,.bool x.tp,.int .u64 x.ec]
 obtain⟨w1,hw1⟩:∃ z,w.alloc (.cells #[.int .u8 1,.int .u64 x.rt,.int .u32 x.co,.int .u64 x.br,.int .u8 x.po,.int .u8 x.ho,.int .u64 x.ve,.int .u8 x.ro,.bool x.pr,.bool x.ag,.bool x.tp,.int .u64 x.ec] 302)=z:=⟨_,rfl⟩
 rw[hw1] at b1 g1 ⊢
 clear hw1 r0
 have rB:w1.rangeAt w.heap.size 1 [.int .u64 x.rt,.int .u32 x.co,.int .u64 x.br,.int .u8 x.po,.int .u8 x.ho,.int .u64 x.ve,.int .u8 x.ro,.bool x.pr,.bool x.ag,.bool x.tp,.int .u64 x.ec]:=fun j v hv=>g1.c (1+j) v (by
  have hj:j<11:=(List.getElem?_eq_some_iff.1 hv).1
  rw[Nat.add_comm]
  simpa using hv)
 have G1:=hd0 g1
 have B1:=hd0 b1
 clear g1 b1
 go_upto_region 6 with(first
  |((with_reducible refine wpList_load_mid rfl 212 (.tmp 19) rfl w.heap.size 1 ?hx [.int .u64 x.rt,.int .u32 x.co,.int .u64 x.br,.int .u8 x.po,.int .u8 x.ho,.int .u64 x.ve,.int .u8 x.ro,.bool x.pr,.bool x.ag,.bool x.tp,.int .u64 x.ec] _ rB Tryz.underlying212 ?hu HIB.out ?_);(case hx=>rfl);(case hu=>rfl))
  |(go_at_call 122;with_reducible refine(BP.out _).mono ?_;rintro e w2 ⟨rfl,hb2⟩))
 have G2:=hd0 (G1.out.later hb2)
 have B2:=hd0 (B1.out.trans (hb2.mono B1.out.size))
 clear hb2 rB G1 B1
 have s0:∀ K:Later w2,K.out.cell? ⟨w.heap.size,0,none⟩=some (.int .u8 1):=fun K=>(G2.out.later K.h).c 0 _ rfl
 have MAK:Hid (∀ K:Later w2,Calls Tryz.prog 124 #[.pointer (some ⟨b,0,none⟩),.int .u8 1] K.out fun en w'=>en=.returned (.agg #[.int .u8 0,.int .u8 0,.int .u8 0,.int .u8 0,.int .u8 0,.int .u8 34])∧Below K.out.heap.size K.out w'):=hd0 fun K=>MA.out K.out (B2.out.trans (K.h.mono B2.out.size))
 refine wp_region_later (by kernel_rfl) (by kernel_rfl) ?_
 repeat (go_big_quiet_step (first
  |(go_at_call 105;exact Calls.later (OWN.out _))
  |(go_at_call 124;exact Calls.later (MAK.out _))
  |(go_at_call 123;exact Calls.later (FP.out _))))
 refine wpQuiet_nil ?_
 rintro _ ⟨K,rfl⟩
 clear s0 MAK
 have G3:=hd0 (G2.out.later K.h)
 have B3:=hd0 (B2.out.trans (K.h.mono B2.out.size))
 obtain⟨w3,hw3⟩:∃ z,K.out=z:=⟨_,rfl⟩
 rw[hw3] at G3 B3 ⊢
 clear hw3 K G2 B2
 have s0:w3.cell? ⟨w.heap.size,0,none⟩=some (.int .u8 1):=G3.out.c 0 _ rfl
 have hlit:Rw 2 sdC (w3.alloc (.cells #[.int .u8 1,.string (bs (fwB 34 x))] 257)) (.slice (some ⟨w3.heap.size,0,none⟩) 1 1) [(1,fwB 34 x)]:=(Ow.lit (E:=257) sdC_len w3 0 (1,fwB 34 x) #[.int .u8 1,.string (bs (fwB 34 x))] rfl (Nat.zero_le _)).rw sdC_len
 have HL:=hd0 hlit
 have B4:Hid (Below w.heap.size w (w3.alloc (.cells #[.int .u8 1,.string (bs (fwB 34 x))] 257))):=hd0 (B3.out.alloc B3.out.size _)
 clear hlit
 go_upto_region 8 with(at_builtin;refine wpList_append_rw sdC_len sdC_one 257 190 _ 24 Tryz.underlying190 info_bsent rfl (by decide) (by decide) rfl (.tmp 35) (.tmp 40) rfl w.heap.size (.slice none 0 0) [] rfl (Ow.none _ _) _ _ rfl HL.out (by simp) B4.out.size ?_;intro v1 w6 ho1 hb6;obtain⟨g1,cap1,t1,rfl,hg1,hc1,hh1⟩:=ho1.ne (by simp))
 have hrow:w6.rangeAt g1 0 (sdC (1,fwB 34 x)):=row_range (Below.refl _ _) hh1
 have HR:=hd0 hrow
 have B6:=hd0 (B4.out.trans hb6)
 clear hrow ho1 hb6 hh1 HL B4
 go_wp2_with fail
 rw[rounds_succ]
 go_wp2_with fail
 refine bodyPost_ret (v:=.slice (some ⟨g1,0,none⟩) 1 cap1) (by simp[results,Tryz.results92,go_sem]) rfl ⟨g1,cap1,rfl,HR.out,hg1,B6.out⟩
theorem range_fr {D:Nat→Prop}{W W':World}{g o:Nat}{l:List Value}(r:W.rangeAt g o l)(hf:Fr D W W')(hd:¬ D g):W'.rangeAt g o l:=fun j v hv=>by
 have h:=r j v hv
 have hlt:=World.block_lt_of_cell? _ _ h
 unfold World.cell? at h ⊢
 rw[hf.block g hlt hd];exact h
theorem range_later {W W':World}{g o:Nat}{l:List Value}(r:W.rangeAt g o l)(hb:Below W.heap.size W W'):W'.rangeAt g o l:=range_fr (D:=fun _=>False) r (Fr.of_below hb) (fun h=>h)
theorem ftick_nil (f s:Nat)(w:World)(h:FT w f s (.slice none 0 0)):Calls Tryz.prog 91 #[.pointer (some ⟨f,0,none⟩)] w fun en w'=>en=.returned (.tuple #[])∧w=w':=by
 have c0:=h.c0
 have D:Hid (∀ fv,Calls Tryz.prog 119 #[.pointer (some ⟨f,0,none⟩),fv] w fun en w'=>en=.returned (.int .i64 0)∧w=w'):=hd0 fun fv=>(fdrop_nil' f s fv _ h).mono fun e w' h=>⟨h.1,h.2.symm⟩
 clear h
 go_enter Tryz.func91,Tryz.ntmps91
 go_wp2_with fail
 refine wp_loop_rounds 1 ?_
 rw[rounds_succ]
 go_wp2_with (go_at_call 119;with_reducible refine(D.out _).mono ?_;rintro e w' ⟨rfl,rfl⟩)
 go_end0
 exact⟨rfl,rfl⟩
section
variable (lo hi:Nat) (P:BP) (T:TM) (o:List Int) (V:List Vn)
theorem bflushN (w:World)(h:BN w lo hi P T o V (.slice none 0 0)):Calls Tryz.prog 68 #[.pointer (some ⟨P.b,0,none⟩)] w fun en w'=>en=.returned (.tuple #[])∧BN w' lo hi P { T with fl:=0 } o V (.slice none 0 0)∧Fr (InR lo hi) w w':=by
 have BA:Hid (∀ W T',BN W lo hi P T' o V (.slice none 0 0)→Calls Tryz.prog 88 #[.pointer (some ⟨P.r,0,none⟩)] W fun en w'=>en=.returned (.pointer (some ⟨P.f,0,none⟩))∧W=w'):=hd0 fun W T' hW=>(rbase_any P.r _ (.slice none 0 0) _ hW.rl.c1 ⟨_,rfl⟩).mono fun e w' h=>⟨h.1,h.2.symm⟩
 have TF:Hid (∀ W,BN W lo hi P T o V (.slice none 0 0)→Calls Tryz.prog 90 #[.pointer (some ⟨P.m,0,none⟩)] W fun en w'=>en=.returned (.int .u8 T.fl)∧BN w' lo hi P { T with fl:=0 } o V (.slice none 0 0)∧Fr (InR lo hi) W w'):=hd0 fun W hW=>(tflush_any P.m P.g P.cap P.t T W hW.tr).mono fun e w' h=>by
  have hf:Fr (D2 P.m P.g) W w':=Fr.of_only h.2.2 (Or.inl rfl)
  exact⟨h.1,hW.setTR h.2.1 hf rfl,hW.d2 hf⟩
 have FF:Hid (∀ W T',BN W lo hi P T' o V (.slice none 0 0)→Calls Tryz.prog 89 #[.pointer (some ⟨P.f,0,none⟩),.int .u8 T.fl] W fun en w'=>en=.returned (.int .i64 0)∧Below W.heap.size W w'):=hd0 fun W T' hW=>fflush_nil P.f P.s T.fl W hW.rl.ft
 have h0:=h.later (Below.refl _ _).drew
 have f0:Fr (InR lo hi) w w.drew:=(Fr.refl _ _).drew
 have s0:w.drew.cell? ⟨P.b,1,none⟩=some (.pointer (some ⟨P.m,0,none⟩))∧w.drew.cell? ⟨P.b,2,none⟩=some (.pointer (some ⟨P.r,0,none⟩)):=⟨h0.c1,h0.c2⟩
 have HH0:=hd0 h0
 have HF0:=hd0 f0
 clear h h0 f0
 go_enter Tryz.func68,Tryz.ntmps68
 go_region_held3 (fun W=>W.cell? ⟨P.b,1,none⟩=some (.pointer (some ⟨P.m,0,none⟩))∧W.cell? ⟨P.b,2,none⟩=some (.pointer (some ⟨P.r,0,none⟩)))
  (first|exact s0|exact s1|exact s2)
  (first
   |(go_at_call 88;first|refine(BA.out _ _ HH1.out).mono ?_|refine(BA.out _ _ HH0.out).mono ?_;rintro en w' ⟨rfl,rfl⟩)
   |(go_at_call 90;(with_reducible refine(TF.out _ HH0.out).mono ?_);rintro en w1 ⟨rfl,hb1,hf1⟩;have HH1:=hd0 hb1;have HF1:=hd0 (HF0.out.trans hf1);have s1:w1.cell? ⟨P.b,1,none⟩=some (.pointer (some ⟨P.m,0,none⟩))∧w1.cell? ⟨P.b,2,none⟩=some (.pointer (some ⟨P.r,0,none⟩)):=⟨HH1.out.c1,HH1.out.c2⟩)
   |(go_at_call 89;(with_reducible refine(FF.out _ _ HH1.out).mono ?_);rintro en w2 ⟨rfl,hb2⟩;have HH2:=hd0 (HH1.out.later hb2);have HF2:=hd0 (HF1.out.trans (Fr.of_below hb2));have s2:w2.cell? ⟨P.b,1,none⟩=some (.pointer (some ⟨P.m,0,none⟩))∧w2.cell? ⟨P.b,2,none⟩=some (.pointer (some ⟨P.r,0,none⟩)):=⟨HH2.out.c1,HH2.out.c2⟩))
 all_goals go_wp2
 all_goals go_end0
 all_goals exact⟨rfl,HH2.out,HF2.out⟩
end
section
variable (lo hi:Nat) (P:BP) (o:List Int) (V:List Vn)
theorem bupN0 (id:Int)(w:World)(h:BN w lo hi P (mS id false false) o V (.slice none 0 0)):Calls Tryz.prog 40 #[.pointer (some ⟨P.b,0,none⟩),.int .u8 0] w fun en w'=>en=.returned (.tuple #[])∧BN w' lo hi P (mS id true false) o V (.slice none 0 0)∧Fr (InR lo hi) w w':=by
 have TU:Hid (Calls Tryz.prog 67 #[.pointer (some ⟨P.m,0,none⟩),.int .u8 0] w fun en w'=>en=.returned (.slice none 0 0)∧TR w' P.m P.g P.cap P.t (mS id true false)∧Fr (D2 P.m P.g) w w'):=hd0 (tup0 P.m P.g P.cap P.t id  w h.tr)
 have FL:=hd0 fun W hW=>bflushN lo hi P (mS id true false) o V W hW
 have c1:=h.c1
 have HH:=hd0 h
 clear h
 go_enter Tryz.func40,Tryz.ntmps40
 go_wp2_with (first
  |(go_at_call 67;with_reducible refine TU.out.mono ?_;rintro e w1 ⟨rfl,ht1,ho1⟩;have B1:=hd0 (HH.out.setTR ht1 ho1 rfl);have F1:=hd0 (HH.out.d2 ho1))
  |(go_at_call 68;with_reducible refine(FL.out _ B1.out).mono ?_;rintro e w2 ⟨rfl,hb2,hf2⟩))
 go_end0
 exact⟨rfl,hb2,F1.out.trans hf2⟩
theorem bupN1 (id:Int)(w:World)(h:BN w lo hi P (mS id true false) o V (.slice none 0 0)):Calls Tryz.prog 40 #[.pointer (some ⟨P.b,0,none⟩),.int .u8 1] w fun en w'=>en=.returned (.tuple #[])∧BN w' lo hi P (mS id true true) o V (.slice none 0 0)∧Fr (InR lo hi) w w':=by
 have TU:Hid (Calls Tryz.prog 67 #[.pointer (some ⟨P.m,0,none⟩),.int .u8 1] w fun en w'=>en=.returned (.slice none 0 0)∧TR w' P.m P.g P.cap P.t (mS id true true)∧Fr (D2 P.m P.g) w w'):=hd0 (tup1 P.m P.g P.cap P.t id true w h.tr)
 have FL:=hd0 fun W hW=>bflushN lo hi P (mS id true true) o V W hW
 have c1:=h.c1
 have HH:=hd0 h
 clear h
 go_enter Tryz.func40,Tryz.ntmps40
 go_wp2_with (first
  |(go_at_call 67;with_reducible refine TU.out.mono ?_;rintro e w1 ⟨rfl,ht1,ho1⟩;have B1:=hd0 (HH.out.setTR ht1 ho1 rfl);have F1:=hd0 (HH.out.d2 ho1))
  |(go_at_call 68;with_reducible refine(FL.out _ B1.out).mono ?_;rintro e w2 ⟨rfl,hb2,hf2⟩))
 go_end0
 exact⟨rfl,hb2,F1.out.trans hf2⟩
theorem btickN16 (hh:lo≤hi)(T T':TM)(hT:T.id=16)(hT':T'.id=16)(x:Bp)(hx:x.Ok)(hm:mayB x=true)(hp:(putF 1 128 194 0 0 0 0 0 0 0 0 18 false 0 0 19779 (byB x)).2=0)
  (TK:∀ W,TR W P.m P.g P.cap P.t T→Calls Tryz.prog 93 #[.pointer (some ⟨P.m,0,none⟩)] W fun en w'=>∃ gs cs,en=.returned (.slice (some ⟨gs,0,none⟩) 1 cs)∧w'.rangeAt gs 0 (stW x)∧W.heap.size≤gs∧TR w' P.m P.g P.cap P.t T'∧Fr (D2 P.m P.g) W w')
  (w:World) (hw:hi≤w.heap.size) (h:BN w lo hi P T o V (.slice none 0 0)):Calls Tryz.prog 69 #[.pointer (some ⟨P.b,0,none⟩)] w fun en w'=>(∃ g1 c1,en=.returned (.tuple #[.slice (some ⟨g1,0,none⟩) 1 c1,.slice none 0 0])∧w'.rangeAt g1 0 (sdC (1,fwB 18 x))∧w.heap.size≤g1)∧BN w' lo hi P { T' with fl:=0 } o V (.slice none 0 0)∧Fr (InR lo hi) w w':=by
 have BA:Hid (Calls Tryz.prog 88 #[.pointer (some ⟨P.r,0,none⟩)] w fun en w'=>en=.returned (.pointer (some ⟨P.f,0,none⟩))∧w=w'):=hd0 ((rbase_any P.r _ (.slice none 0 0) _ h.rl.c1 ⟨_,rfl⟩).mono fun e w' h=>⟨h.1,h.2.symm⟩)
 have FT0:=hd0 (ftick_nil P.f P.s w h.rl.ft)
 have TK1:=hd0 (TK w h.tr)
 have c1:=h.c1
 have c2:=h.c2
 have HH:=hd0 h
 have HW:=hd0 hw
 have WD:=hd0 fun(gs cs:Nat) (W:World) (hB:BN W lo hi P T' o V (.slice none 0 0)) (hr:W.rangeAt gs 0 (stW x))=>bwords16 P.b gs cs x hx hm hp W (by have:=hB.c0;rw[hT'] at this;exact this) hr
 have FL:=hd0 fun W hW=>bflushN lo hi P T' o V W hW
 have HTT:=hd0 (show T'.id=T.id by rw[hT,hT'])
 clear h TK hx hm hp hT hT' hw
 go_enter Tryz.func69,Tryz.ntmps69
 go_upto_region 4 with(first
  |(go_at_call 88;with_reducible refine BA.out.mono ?_;rintro e w' ⟨rfl,rfl⟩)
  |(go_at_call 91;with_reducible refine FT0.out.mono ?_;rintro e w' ⟨rfl,rfl⟩))
 go_wp2_with fail
 with_reducible refine TK1.out.mono ?_
 rintro en w1 ⟨gs,cs,rfl,hr1,hg1,ht1,hf1⟩
 have HB1:=hd0 (HH.out.setTR ht1 hf1 HTT.out)
 have HF1:=hd0 (HH.out.d2 hf1)
 have W1:=hd0 (WD.out gs cs w1 HB1.out hr1)
 clear hr1 ht1 hf1 c1 c2 TK1
 go_wp2_with fail
 with_reducible refine W1.out.mono ?_
 rintro en w2 ⟨g1,c1,rfl,hr2,hg2,hb2⟩
 have HB2:=hd0 (HB1.out.later hb2)
 have HF2:=hd0 (HF1.out.trans (Fr.of_below hb2))
 have HR2:=hd0 (And.intro hr2 (Nat.le_trans HF1.out.size hg2))
 have F2:=hd0 (FL.out w2 HB2.out)
 clear hr2 hg2 hb2 W1
 go_upto_region 6 with(go_at_call 68;with_reducible refine F2.out.mono ?_;rintro e w3 ⟨rfl,hb3,hf3⟩)
 have HB3:=hd0 hb3
 have HF3:=hd0 (HF2.out.trans hf3)
 have HR3:=hd0 (range_fr HR2.out.1 hf3 (by have:=HR2.out.2;have:=HW.out;intro h;have:=h.2;omega))
 have c4:=HB3.out.c4
 clear hb3 hf3 F2
 go_wp2_with fail
 refine wp_loop_rounds 1 ?_
 rw[rounds_succ]
 go_wp2_with fail
 refine bodyPost_ret (v:=.tuple #[.slice (some ⟨g1,0,none⟩) 1 c1,.slice none 0 0]) (by simp[results,Tryz.results69,go_sem]) rfl ⟨⟨g1,c1,rfl,HR3.out,HR2.out.2⟩,HB3.out,HF3.out⟩
theorem btickN32 (hh:lo≤hi)(T T':TM)(hT:T.id=32)(hT':T'.id=32)(x:Bp)(hx:x.Ok)(hm:mayB x=true)(hp:(putF 1 128 194 0 0 0 0 0 0 0 0 34 false 0 0 19779 (byB x)).2=0)
  (TK:∀ W,TR W P.m P.g P.cap P.t T→Calls Tryz.prog 93 #[.pointer (some ⟨P.m,0,none⟩)] W fun en w'=>∃ gs cs,en=.returned (.slice (some ⟨gs,0,none⟩) 1 cs)∧w'.rangeAt gs 0 (stW x)∧W.heap.size≤gs∧TR w' P.m P.g P.cap P.t T'∧Fr (D2 P.m P.g) W w')
  (w:World) (hw:hi≤w.heap.size) (h:BN w lo hi P T o V (.slice none 0 0)):Calls Tryz.prog 69 #[.pointer (some ⟨P.b,0,none⟩)] w fun en w'=>(∃ g1 c1,en=.returned (.tuple #[.slice (some ⟨g1,0,none⟩) 1 c1,.slice none 0 0])∧w'.rangeAt g1 0 (sdC (1,fwB 34 x))∧w.heap.size≤g1)∧BN w' lo hi P { T' with fl:=0 } o V (.slice none 0 0)∧Fr (InR lo hi) w w':=by
 have BA:Hid (Calls Tryz.prog 88 #[.pointer (some ⟨P.r,0,none⟩)] w fun en w'=>en=.returned (.pointer (some ⟨P.f,0,none⟩))∧w=w'):=hd0 ((rbase_any P.r _ (.slice none 0 0) _ h.rl.c1 ⟨_,rfl⟩).mono fun e w' h=>⟨h.1,h.2.symm⟩)
 have FT0:=hd0 (ftick_nil P.f P.s w h.rl.ft)
 have TK1:=hd0 (TK w h.tr)
 have c1:=h.c1
 have c2:=h.c2
 have HH:=hd0 h
 have HW:=hd0 hw
 have WD:=hd0 fun(gs cs:Nat) (W:World) (hB:BN W lo hi P T' o V (.slice none 0 0)) (hr:W.rangeAt gs 0 (stW x))=>bwords32 P.b gs cs x hx hm hp W (by have:=hB.c0;rw[hT'] at this;exact this) hr
 have FL:=hd0 fun W hW=>bflushN lo hi P T' o V W hW
 have HTT:=hd0 (show T'.id=T.id by rw[hT,hT'])
 clear h TK hx hm hp hT hT' hw
 go_enter Tryz.func69,Tryz.ntmps69
 go_upto_region 4 with(first
  |(go_at_call 88;with_reducible refine BA.out.mono ?_;rintro e w' ⟨rfl,rfl⟩)
  |(go_at_call 91;with_reducible refine FT0.out.mono ?_;rintro e w' ⟨rfl,rfl⟩))
 go_wp2_with fail
 with_reducible refine TK1.out.mono ?_
 rintro en w1 ⟨gs,cs,rfl,hr1,hg1,ht1,hf1⟩
 have HB1:=hd0 (HH.out.setTR ht1 hf1 HTT.out)
 have HF1:=hd0 (HH.out.d2 hf1)
 have W1:=hd0 (WD.out gs cs w1 HB1.out hr1)
 clear hr1 ht1 hf1 c1 c2 TK1
 go_wp2_with fail
 with_reducible refine W1.out.mono ?_
 rintro en w2 ⟨g1,c1,rfl,hr2,hg2,hb2⟩
 have HB2:=hd0 (HB1.out.later hb2)
 have HF2:=hd0 (HF1.out.trans (Fr.of_below hb2))
 have HR2:=hd0 (And.intro hr2 (Nat.le_trans HF1.out.size hg2))
 have F2:=hd0 (FL.out w2 HB2.out)
 clear hr2 hg2 hb2 W1
 go_upto_region 6 with(go_at_call 68;with_reducible refine F2.out.mono ?_;rintro e w3 ⟨rfl,hb3,hf3⟩)
 have HB3:=hd0 hb3
 have HF3:=hd0 (HF2.out.trans hf3)
 have HR3:=hd0 (range_fr HR2.out.1 hf3 (by have:=HR2.out.2;have:=HW.out;intro h;have:=h.2;omega))
 have c4:=HB3.out.c4
 clear hb3 hf3 F2
 go_wp2_with fail
 refine wp_loop_rounds 1 ?_
 rw[rounds_succ]
 go_wp2_with fail
 refine bodyPost_ret (v:=.tuple #[.slice (some ⟨g1,0,none⟩) 1 c1,.slice none 0 0]) (by simp[results,Tryz.results69,go_sem]) rfl ⟨⟨g1,c1,rfl,HR3.out,HR2.out.2⟩,HB3.out,HF3.out⟩
end
end Go.Proofs.YtghaobakpdninaaGreatDoor
