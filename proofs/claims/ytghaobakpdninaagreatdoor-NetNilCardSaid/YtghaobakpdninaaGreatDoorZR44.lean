/- ZR44 -/
import Derived.Test.YtghaobakpdninaaGreatDoorZR43
set_option linter.unusedVariables false
set_option linter.unusedSimpArgs false
set_option maxRecDepth 100000
set_option maxHeartbeats 16000000
namespace Go.Proofs.YtghaobakpdninaaGreatDoor
open Go.RowKit
open Go.ChangeShapes Go.WideShapes Go.ChangeAt Go.RowKit
theorem st2 {a b:Value}{l m:List Value}{j:Nat}{v:Value}(h:l[j]?=some v):(a::b::(l++m)).toArray[2+j]?=some v:=by
 have hl:j<l.length:=(List.getElem?_eq_some_iff.1 h).1
 rw[Nat.add_comm,List.getElem?_toArray]
 simp only[List.getElem?_cons_succ]
 rw[List.getElem?_append_left hl];exact h
theorem great24_any (x:St)(b:Nat)(w:World)(hr:w.rangeAt b 0 [.int .u8 x.d,.int .u8 x.k,.int .u8 x.p,.int .u8 x.e,.string x.s,.int .u8 x.c.a0,.int .u8 x.c.a1,.int .u16 x.c.a2,.int .u8 x.c.a3,.int .u8 x.c.a4,.int .u8 x.c.m0,.int .u8 x.c.m1,.int .u8 x.c.m2,.int .u8 x.c.m3,.int .u8 x.c.m4,.int .u8 x.c.m5,.int .u8 x.c.lv,.string x.c.dom,.string x.c.nam,.int .u16 x.c.avid,.int .u8 x.c.aiv,.slice x.c.mq x.c.mn x.c.mc,.int .i64 x.c.mas,.int .u16 x.c.mid,.int .u8 x.c.mpt,.bool x.c.mup,.int .u8 x.c.low,.int .u8 x.c.ip,.int .u16 x.c.iv,.int .u8 x.c.il,.string x.c.data,.int .u8 x.c.ttl]):Calls Tryz.prog 5 #[.agg #[.slice none 0 0,.slice none 0 0,.slice none 0 0],.slice (some ⟨b,0,none⟩) 1 1] w fun en w'=>IsB en∧Below w.heap.size w w':=by
 have hb:=(Below.refl w.heap.size w).alloc (Nat.le_refl _) (.cells #[.slice none 0 0,.slice none 0 0,.slice none 0 0] 41)
 have g1:=GB.new 41 w #[.slice none 0 0,.slice none 0 0,.slice none 0 0]
 obtain⟨w0,hw0⟩:∃ z,w.alloc (.cells #[.slice none 0 0,.slice none 0 0,.slice none 0 0] 41)=z:=⟨_,rfl⟩
 rw[hw0] at hb g1
 have p0:w0.cell? ⟨w.heap.size,0,none⟩=some (.slice none 0 0):=g1.c 0 _ rfl
 have p1:w0.cell? ⟨w.heap.size,1,none⟩=some (.slice none 0 0):=g1.c 1 _ rfl
 have p2:w0.cell? ⟨w.heap.size,2,none⟩=some (.slice none 0 0):=g1.c 2 _ rfl
 have r0:=range_later hr hb
 have SX:Hid (∀ W,Below w0.heap.size w0 W→W.cell? ⟨b,4,none⟩=some (.string x.s)∧W.rangeAt b 5 [.int .u8 x.c.a0,.int .u8 x.c.a1,.int .u16 x.c.a2,.int .u8 x.c.a3,.int .u8 x.c.a4,.int .u8 x.c.m0,.int .u8 x.c.m1,.int .u8 x.c.m2,.int .u8 x.c.m3,.int .u8 x.c.m4,.int .u8 x.c.m5,.int .u8 x.c.lv,.string x.c.dom,.string x.c.nam,.int .u16 x.c.avid,.int .u8 x.c.aiv,.slice x.c.mq x.c.mn x.c.mc,.int .i64 x.c.mas,.int .u16 x.c.mid,.int .u8 x.c.mpt,.bool x.c.mup,.int .u8 x.c.low,.int .u8 x.c.ip,.int .u16 x.c.iv,.int .u8 x.c.il,.string x.c.data,.int .u8 x.c.ttl]):=hd0 fun W hW=>by
  have r:=range_later r0 hW
  refine⟨by have:=r 4 _ rfl;rwa [Nat.zero_add] at this,fun j v hv=>?_⟩
  have:=r (5+j) v (by rw[Nat.add_comm];exact hv)
  rwa [Nat.zero_add] at this
 have HB:=hd0 hb
 have IC:Hid ((Tryz.prog.info? 33).map (·.size)=some ([.int .u8 x.c.a0,.int .u8 x.c.a1,.int .u16 x.c.a2,.int .u8 x.c.a3,.int .u8 x.c.a4,.int .u8 x.c.m0,.int .u8 x.c.m1,.int .u8 x.c.m2,.int .u8 x.c.m3,.int .u8 x.c.m4,.int .u8 x.c.m5,.int .u8 x.c.lv,.string x.c.dom,.string x.c.nam,.int .u16 x.c.avid,.int .u8 x.c.aiv,.slice x.c.mq x.c.mn x.c.mc,.int .i64 x.c.mas,.int .u16 x.c.mid,.int .u8 x.c.mpt,.bool x.c.mup,.int .u8 x.c.low,.int .u8 x.c.ip,.int .u16 x.c.iv,.int .u8 x.c.il,.string x.c.data,.int .u8 x.c.ttl]:List Value).length):=hd0 (show _=some 27 by kernel_rfl)
 have GR:Hid (∀ W (k:Nat),GB 82 W k #[.int .u8 0,.int .u8 0,.int .u8 x.c.a0,.int .u8 x.c.a1,.int .u16 x.c.a2,.int .u8 x.c.a3,.int .u8 x.c.a4,.int .u8 x.c.m0,.int .u8 x.c.m1,.int .u8 x.c.m2,.int .u8 x.c.m3,.int .u8 x.c.m4,.int .u8 x.c.m5,.int .u8 x.c.lv,.string x.c.dom,.string x.c.nam,.int .u16 x.c.avid,.int .u8 x.c.aiv,.slice x.c.mq x.c.mn x.c.mc,.int .i64 x.c.mas,.int .u16 x.c.mid,.int .u8 x.c.mpt,.bool x.c.mup,.int .u8 x.c.low,.int .u8 x.c.ip,.int .u16 x.c.iv,.int .u8 x.c.il,.string x.c.data,.int .u8 x.c.ttl,.string x.s]→Calls Tryz.prog 19 #[.slice (some ⟨k,0,none⟩) 1 1] W fun en w'=>IsB en∧Below W.heap.size W w'):=hd0 fun W k h=>great_any x.c x.s W k (fun j v hv=>h.c (2+j) v (st2 (l:=[.int .u8 x.c.a0,.int .u8 x.c.a1,.int .u16 x.c.a2,.int .u8 x.c.a3,.int .u8 x.c.a4,.int .u8 x.c.m0,.int .u8 x.c.m1,.int .u8 x.c.m2,.int .u8 x.c.m3,.int .u8 x.c.m4,.int .u8 x.c.m5,.int .u8 x.c.lv,.string x.c.dom,.string x.c.nam,.int .u16 x.c.avid,.int .u8 x.c.aiv,.slice x.c.mq x.c.mn x.c.mc,.int .i64 x.c.mas,.int .u16 x.c.mid,.int .u8 x.c.mpt,.bool x.c.mup,.int .u8 x.c.low,.int .u8 x.c.ip,.int .u16 x.c.iv,.int .u8 x.c.il,.string x.c.data,.int .u8 x.c.ttl]) (m:=[.string x.s]) hv)) (h.c 29 _ rfl)
 have G1:Hid (∀ X,GB 82 (w0.alloc (.cells X 82)).drew w0.heap.size X):=hd0 fun X=>(GB.new 82 w0 X).drew
 have B1:Hid (∀ X,Below w0.heap.size w0 (w0.alloc (.cells X 82)).drew):=hd0 fun X=>(bAo _).drew
 clear hb g1 r0 hr
 go_enter Tryz.func5,Tryz.ntmps5
 go_wp2_with fail
 refine wp_loop_rounds 2 ?_
 rw[rounds_succ]
 clear hw0
 go_upto_region 6 with fail
 refine wp_region_held_drew (S:=fun W=>W.cell? ⟨b,4,none⟩=some (.string x.s)∧W.rangeAt b 5 [.int .u8 x.c.a0,.int .u8 x.c.a1,.int .u16 x.c.a2,.int .u8 x.c.a3,.int .u8 x.c.a4,.int .u8 x.c.m0,.int .u8 x.c.m1,.int .u8 x.c.m2,.int .u8 x.c.m3,.int .u8 x.c.m4,.int .u8 x.c.m5,.int .u8 x.c.lv,.string x.c.dom,.string x.c.nam,.int .u16 x.c.avid,.int .u8 x.c.aiv,.slice x.c.mq x.c.mn x.c.mc,.int .i64 x.c.mas,.int .u16 x.c.mid,.int .u8 x.c.mpt,.bool x.c.mup,.int .u8 x.c.low,.int .u8 x.c.ip,.int .u16 x.c.iv,.int .u8 x.c.il,.string x.c.data,.int .u8 x.c.ttl]) (by kernel_rfl) (SX.out _ (Below.refl _ _).drew) (fun hHeld=>?_)
 refine tkH 0 ?_ ?h ?_
 case h=>(intro w hSw;go_simp;try with_reducible rfl)
 try simp only[Act.put,zz]
 refine tkH 1 ?_ ?h ?_
 case h=>(intro w hSw;go_simp;try with_reducible rfl)
 try simp only[Act.put,zz]
 refine tkH 2 ?_ ?h ?_
 case h=>(intro w hSw;go_simp;try with_reducible rfl)
 try simp only[Act.put,zz]
 refine tkH 3 ?_ ?h ?_
 case h=>(intro w hSw;go_simp;try with_reducible rfl)
 try simp only[Act.put,zz]
 refine tkH 4 ?_ ?h ?_
 case h=>(intro w hSw;go_simp;try with_reducible rfl)
 try simp only[Act.put,zz]
 refine tkH 5 ?_ ?h ?_
 case h=>(intro w hSw;go_simp;try with_reducible rfl)
 try simp only[Act.put,zz]
 refine tkH 6 ?_ ?h ?_
 case h=>(intro w hSw;go_simp;try with_reducible rfl)
 try simp only[Act.put,zz]
 refine tkH 7 ?_ ?h ?_
 case h=>(intro w hSw;go_simp;try with_reducible rfl)
 try simp only[Act.put,zz]
 refine tkH 8 ?_ ?h ?_
 case h=>(intro w hSw;go_simp;try with_reducible rfl)
 try simp only[Act.put,zz]
 refine wpAnyH_take (i:=9) (v:=.agg #[.int .u8 x.c.a0,.int .u8 x.c.a1,.int .u16 x.c.a2,.int .u8 x.c.a3,.int .u8 x.c.a4,.int .u8 x.c.m0,.int .u8 x.c.m1,.int .u8 x.c.m2,.int .u8 x.c.m3,.int .u8 x.c.m4,.int .u8 x.c.m5,.int .u8 x.c.lv,.string x.c.dom,.string x.c.nam,.int .u16 x.c.avid,.int .u8 x.c.aiv,.slice x.c.mq x.c.mn x.c.mc,.int .i64 x.c.mas,.int .u16 x.c.mid,.int .u8 x.c.mpt,.bool x.c.mup,.int .u8 x.c.low,.int .u8 x.c.ip,.int .u16 x.c.iv,.int .u8 x.c.il,.string x.c.data,.int .u8 x.c.ttl]) rfl (by kernel_rfl) (by kernel_rfl) (by kernel_rfl) (fun _ _ _ h=>h) (yieldsIf_load_mid (by rfl) 33 (.tmp 41) rfl b 5 rfl [.int .u8 x.c.a0,.int .u8 x.c.a1,.int .u16 x.c.a2,.int .u8 x.c.a3,.int .u8 x.c.a4,.int .u8 x.c.m0,.int .u8 x.c.m1,.int .u8 x.c.m2,.int .u8 x.c.m3,.int .u8 x.c.m4,.int .u8 x.c.m5,.int .u8 x.c.lv,.string x.c.dom,.string x.c.nam,.int .u16 x.c.avid,.int .u8 x.c.aiv,.slice x.c.mq x.c.mn x.c.mc,.int .i64 x.c.mas,.int .u16 x.c.mid,.int .u8 x.c.mpt,.bool x.c.mup,.int .u8 x.c.low,.int .u8 x.c.ip,.int .u16 x.c.iv,.int .u8 x.c.il,.string x.c.data,.int .u8 x.c.ttl] _ (fun w h=>h.2) Tryz.underlying33 rfl IC.out) (by assumption) ?_
 try simp only[Act.put,zz]
 refine tkH 10 ?_ ?h ?_
 case h=>(intro w hSw;go_simp;try with_reducible rfl)
 try simp only[Act.put,zz]
 refine rdH 11 fun K hK=>?_
 (go_simp;refine hK.out _ _ (SX.out _ (B1.out _)) (fun hHeld=>?_);clear hK K;try simp only[Act.put,zz])
 refine rdH 12 fun K hK=>?_
 (go_simp;go_at_call 19;(with_reducible refine(GR.out _ _ (G1.out _)).mono ?_);rintro en' w1 ⟨⟨q,rfl⟩,hb1⟩;have H1:=hd0 ((B1.out #[.int .u8 0,.int .u8 0,.int .u8 x.c.a0,.int .u8 x.c.a1,.int .u16 x.c.a2,.int .u8 x.c.a3,.int .u8 x.c.a4,.int .u8 x.c.m0,.int .u8 x.c.m1,.int .u8 x.c.m2,.int .u8 x.c.m3,.int .u8 x.c.m4,.int .u8 x.c.m5,.int .u8 x.c.lv,.string x.c.dom,.string x.c.nam,.int .u16 x.c.avid,.int .u8 x.c.aiv,.slice x.c.mq x.c.mn x.c.mc,.int .i64 x.c.mas,.int .u16 x.c.mid,.int .u8 x.c.mpt,.bool x.c.mup,.int .u8 x.c.low,.int .u8 x.c.ip,.int .u16 x.c.iv,.int .u8 x.c.il,.string x.c.data,.int .u8 x.c.ttl,.string x.s]).trans (hb1.mono (B1.out #[.int .u8 0,.int .u8 0,.int .u8 x.c.a0,.int .u8 x.c.a1,.int .u16 x.c.a2,.int .u8 x.c.a3,.int .u8 x.c.a4,.int .u8 x.c.m0,.int .u8 x.c.m1,.int .u8 x.c.m2,.int .u8 x.c.m3,.int .u8 x.c.m4,.int .u8 x.c.m5,.int .u8 x.c.lv,.string x.c.dom,.string x.c.nam,.int .u16 x.c.avid,.int .u8 x.c.aiv,.slice x.c.mq x.c.mn x.c.mc,.int .i64 x.c.mas,.int .u16 x.c.mid,.int .u8 x.c.mpt,.bool x.c.mup,.int .u8 x.c.low,.int .u8 x.c.ip,.int .u16 x.c.iv,.int .u8 x.c.il,.string x.c.data,.int .u8 x.c.ttl,.string x.s]).size));refine hK.out _ _ (SX.out _ H1.out) (fun hHeld=>?_);clear hK K hb1;try simp only[Act.put,zz])
 refine wpAnyH_done (by kernel_rfl) ?_ _
 cases q
 case true =>
  go_wp2_with fail
  go_ret
  exact⟨⟨_,rfl⟩,HB.out.trans (H1.out.mono HB.out.size)⟩
 go_wp2_with fail
 rw[rounds_succ]
 go_wp2_with fail
 go_ret
 exact⟨⟨_,rfl⟩,HB.out.trans (H1.out.mono HB.out.size)⟩
theorem NetNil_walk (x:St)(i k:Int)(w:World):Calls Tryz.prog 3 #[.agg x.a,.int .i64 i,.int .i64 k] w fun en w'=>en=.returned (.bool true)∧Below w.heap.size w w':=by
 show Calls Tryz.prog 3 #[.agg #[.int .u8 x.d,.int .u8 x.k,.int .u8 x.p,.int .u8 x.e,.string x.s,.int .u8 x.c.a0,.int .u8 x.c.a1,.int .u16 x.c.a2,.int .u8 x.c.a3,.int .u8 x.c.a4,.int .u8 x.c.m0,.int .u8 x.c.m1,.int .u8 x.c.m2,.int .u8 x.c.m3,.int .u8 x.c.m4,.int .u8 x.c.m5,.int .u8 x.c.lv,.string x.c.dom,.string x.c.nam,.int .u16 x.c.avid,.int .u8 x.c.aiv,.slice x.c.mq x.c.mn x.c.mc,.int .i64 x.c.mas,.int .u16 x.c.mid,.int .u8 x.c.mpt,.bool x.c.mup,.int .u8 x.c.low,.int .u8 x.c.ip,.int .u16 x.c.iv,.int .u8 x.c.il,.string x.c.data,.int .u8 x.c.ttl],.int .i64 i,.int .i64 k] w _
 have hb:=(Below.refl w.heap.size w).alloc (Nat.le_refl _) (.cells #[.int .u8 x.d,.int .u8 x.k,.int .u8 x.p,.int .u8 x.e,.string x.s,.int .u8 x.c.a0,.int .u8 x.c.a1,.int .u16 x.c.a2,.int .u8 x.c.a3,.int .u8 x.c.a4,.int .u8 x.c.m0,.int .u8 x.c.m1,.int .u8 x.c.m2,.int .u8 x.c.m3,.int .u8 x.c.m4,.int .u8 x.c.m5,.int .u8 x.c.lv,.string x.c.dom,.string x.c.nam,.int .u16 x.c.avid,.int .u8 x.c.aiv,.slice x.c.mq x.c.mn x.c.mc,.int .i64 x.c.mas,.int .u16 x.c.mid,.int .u8 x.c.mpt,.bool x.c.mup,.int .u8 x.c.low,.int .u8 x.c.ip,.int .u16 x.c.iv,.int .u8 x.c.il,.string x.c.data,.int .u8 x.c.ttl] 35)
 have g1:=GB.new 35 w #[.int .u8 x.d,.int .u8 x.k,.int .u8 x.p,.int .u8 x.e,.string x.s,.int .u8 x.c.a0,.int .u8 x.c.a1,.int .u16 x.c.a2,.int .u8 x.c.a3,.int .u8 x.c.a4,.int .u8 x.c.m0,.int .u8 x.c.m1,.int .u8 x.c.m2,.int .u8 x.c.m3,.int .u8 x.c.m4,.int .u8 x.c.m5,.int .u8 x.c.lv,.string x.c.dom,.string x.c.nam,.int .u16 x.c.avid,.int .u8 x.c.aiv,.slice x.c.mq x.c.mn x.c.mc,.int .i64 x.c.mas,.int .u16 x.c.mid,.int .u8 x.c.mpt,.bool x.c.mup,.int .u8 x.c.low,.int .u8 x.c.ip,.int .u16 x.c.iv,.int .u8 x.c.il,.string x.c.data,.int .u8 x.c.ttl]
 have hz:(w.alloc (.cells #[.int .u8 x.d,.int .u8 x.k,.int .u8 x.p,.int .u8 x.e,.string x.s,.int .u8 x.c.a0,.int .u8 x.c.a1,.int .u16 x.c.a2,.int .u8 x.c.a3,.int .u8 x.c.a4,.int .u8 x.c.m0,.int .u8 x.c.m1,.int .u8 x.c.m2,.int .u8 x.c.m3,.int .u8 x.c.m4,.int .u8 x.c.m5,.int .u8 x.c.lv,.string x.c.dom,.string x.c.nam,.int .u16 x.c.avid,.int .u8 x.c.aiv,.slice x.c.mq x.c.mn x.c.mc,.int .i64 x.c.mas,.int .u16 x.c.mid,.int .u8 x.c.mpt,.bool x.c.mup,.int .u8 x.c.low,.int .u8 x.c.ip,.int .u16 x.c.iv,.int .u8 x.c.il,.string x.c.data,.int .u8 x.c.ttl] 35)).heap.size=w.heap.size+1:=by simp
 obtain⟨w0,hw0⟩:∃ z,w.alloc (.cells #[.int .u8 x.d,.int .u8 x.k,.int .u8 x.p,.int .u8 x.e,.string x.s,.int .u8 x.c.a0,.int .u8 x.c.a1,.int .u16 x.c.a2,.int .u8 x.c.a3,.int .u8 x.c.a4,.int .u8 x.c.m0,.int .u8 x.c.m1,.int .u8 x.c.m2,.int .u8 x.c.m3,.int .u8 x.c.m4,.int .u8 x.c.m5,.int .u8 x.c.lv,.string x.c.dom,.string x.c.nam,.int .u16 x.c.avid,.int .u8 x.c.aiv,.slice x.c.mq x.c.mn x.c.mc,.int .i64 x.c.mas,.int .u16 x.c.mid,.int .u8 x.c.mpt,.bool x.c.mup,.int .u8 x.c.low,.int .u8 x.c.ip,.int .u16 x.c.iv,.int .u8 x.c.il,.string x.c.data,.int .u8 x.c.ttl] 35)=z:=⟨_,rfl⟩
 rw[hw0] at hb g1 hz
 have IC:Hid ((Tryz.prog.info? 35).map (·.size)=some ([.int .u8 x.d,.int .u8 x.k,.int .u8 x.p,.int .u8 x.e,.string x.s,.int .u8 x.c.a0,.int .u8 x.c.a1,.int .u16 x.c.a2,.int .u8 x.c.a3,.int .u8 x.c.a4,.int .u8 x.c.m0,.int .u8 x.c.m1,.int .u8 x.c.m2,.int .u8 x.c.m3,.int .u8 x.c.m4,.int .u8 x.c.m5,.int .u8 x.c.lv,.string x.c.dom,.string x.c.nam,.int .u16 x.c.avid,.int .u8 x.c.aiv,.slice x.c.mq x.c.mn x.c.mc,.int .i64 x.c.mas,.int .u16 x.c.mid,.int .u8 x.c.mpt,.bool x.c.mup,.int .u8 x.c.low,.int .u8 x.c.ip,.int .u16 x.c.iv,.int .u8 x.c.il,.string x.c.data,.int .u8 x.c.ttl]:List Value).length):=hd0 (show _=some 32 by kernel_rfl)
 have r0:w0.rangeAt w.heap.size 0 [.int .u8 x.d,.int .u8 x.k,.int .u8 x.p,.int .u8 x.e,.string x.s,.int .u8 x.c.a0,.int .u8 x.c.a1,.int .u16 x.c.a2,.int .u8 x.c.a3,.int .u8 x.c.a4,.int .u8 x.c.m0,.int .u8 x.c.m1,.int .u8 x.c.m2,.int .u8 x.c.m3,.int .u8 x.c.m4,.int .u8 x.c.m5,.int .u8 x.c.lv,.string x.c.dom,.string x.c.nam,.int .u16 x.c.avid,.int .u8 x.c.aiv,.slice x.c.mq x.c.mn x.c.mc,.int .i64 x.c.mas,.int .u16 x.c.mid,.int .u8 x.c.mpt,.bool x.c.mup,.int .u8 x.c.low,.int .u8 x.c.ip,.int .u16 x.c.iv,.int .u8 x.c.il,.string x.c.data,.int .u8 x.c.ttl]:=g1.range
 have HB:=hd0 hb
 have HG:=hd0 g1
 have HZ:=hd0 hz
 have b1:Below w0.heap.size w0 (w0.alloc (.cells #[.int .u8 x.d,.int .u8 x.k,.int .u8 x.p,.int .u8 x.e,.string x.s,.int .u8 x.c.a0,.int .u8 x.c.a1,.int .u16 x.c.a2,.int .u8 x.c.a3,.int .u8 x.c.a4,.int .u8 x.c.m0,.int .u8 x.c.m1,.int .u8 x.c.m2,.int .u8 x.c.m3,.int .u8 x.c.m4,.int .u8 x.c.m5,.int .u8 x.c.lv,.string x.c.dom,.string x.c.nam,.int .u16 x.c.avid,.int .u8 x.c.aiv,.slice x.c.mq x.c.mn x.c.mc,.int .i64 x.c.mas,.int .u16 x.c.mid,.int .u8 x.c.mpt,.bool x.c.mup,.int .u8 x.c.low,.int .u8 x.c.ip,.int .u16 x.c.iv,.int .u8 x.c.il,.string x.c.data,.int .u8 x.c.ttl] 35)):=bAo _
 have GR:=hd0 (great24_any x w0.heap.size (w0.alloc (.cells #[.int .u8 x.d,.int .u8 x.k,.int .u8 x.p,.int .u8 x.e,.string x.s,.int .u8 x.c.a0,.int .u8 x.c.a1,.int .u16 x.c.a2,.int .u8 x.c.a3,.int .u8 x.c.a4,.int .u8 x.c.m0,.int .u8 x.c.m1,.int .u8 x.c.m2,.int .u8 x.c.m3,.int .u8 x.c.m4,.int .u8 x.c.m5,.int .u8 x.c.lv,.string x.c.dom,.string x.c.nam,.int .u16 x.c.avid,.int .u8 x.c.aiv,.slice x.c.mq x.c.mn x.c.mc,.int .i64 x.c.mas,.int .u16 x.c.mid,.int .u8 x.c.mpt,.bool x.c.mup,.int .u8 x.c.low,.int .u8 x.c.ip,.int .u16 x.c.iv,.int .u8 x.c.il,.string x.c.data,.int .u8 x.c.ttl] 35)) (GB.new 35 w0 #[.int .u8 x.d,.int .u8 x.k,.int .u8 x.p,.int .u8 x.e,.string x.s,.int .u8 x.c.a0,.int .u8 x.c.a1,.int .u16 x.c.a2,.int .u8 x.c.a3,.int .u8 x.c.a4,.int .u8 x.c.m0,.int .u8 x.c.m1,.int .u8 x.c.m2,.int .u8 x.c.m3,.int .u8 x.c.m4,.int .u8 x.c.m5,.int .u8 x.c.lv,.string x.c.dom,.string x.c.nam,.int .u16 x.c.avid,.int .u8 x.c.aiv,.slice x.c.mq x.c.mn x.c.mc,.int .i64 x.c.mas,.int .u16 x.c.mid,.int .u8 x.c.mpt,.bool x.c.mup,.int .u8 x.c.low,.int .u8 x.c.ip,.int .u16 x.c.iv,.int .u8 x.c.il,.string x.c.data,.int .u8 x.c.ttl]).range)
 have HB1:=hd0 (hb.trans (b1.mono hb.size))
 have HG1:=hd0 (g1.later b1)
 clear hb g1 hz b1
 go_enter Tryz.func3,Tryz.ntmps3
 go_upto_region 1 with fail
 clear hw0
 go_wp2_with ((with_reducible refine wpList_load_mid rfl 35 (.tmp 3) rfl w.heap.size 0 ?hx [.int .u8 x.d,.int .u8 x.k,.int .u8 x.p,.int .u8 x.e,.string x.s,.int .u8 x.c.a0,.int .u8 x.c.a1,.int .u16 x.c.a2,.int .u8 x.c.a3,.int .u8 x.c.a4,.int .u8 x.c.m0,.int .u8 x.c.m1,.int .u8 x.c.m2,.int .u8 x.c.m3,.int .u8 x.c.m4,.int .u8 x.c.m5,.int .u8 x.c.lv,.string x.c.dom,.string x.c.nam,.int .u16 x.c.avid,.int .u8 x.c.aiv,.slice x.c.mq x.c.mn x.c.mc,.int .i64 x.c.mas,.int .u16 x.c.mid,.int .u8 x.c.mpt,.bool x.c.mup,.int .u8 x.c.low,.int .u8 x.c.ip,.int .u16 x.c.iv,.int .u8 x.c.il,.string x.c.data,.int .u8 x.c.ttl] _ r0 Tryz.underlying35 ?hu IC.out ?_);(case hx=>rfl);(case hu=>rfl))
 with_reducible refine GR.out.mono ?_
 rintro en w2 ⟨⟨q,rfl⟩,hb2⟩
 have HB2:=hd0 (HB1.out.trans (hb2.mono HB1.out.size))
 have r2:w2.rangeAt w.heap.size 0 [.int .u8 x.d,.int .u8 x.k,.int .u8 x.p,.int .u8 x.e,.string x.s,.int .u8 x.c.a0,.int .u8 x.c.a1,.int .u16 x.c.a2,.int .u8 x.c.a3,.int .u8 x.c.a4,.int .u8 x.c.m0,.int .u8 x.c.m1,.int .u8 x.c.m2,.int .u8 x.c.m3,.int .u8 x.c.m4,.int .u8 x.c.m5,.int .u8 x.c.lv,.string x.c.dom,.string x.c.nam,.int .u16 x.c.avid,.int .u8 x.c.aiv,.slice x.c.mq x.c.mn x.c.mc,.int .i64 x.c.mas,.int .u16 x.c.mid,.int .u8 x.c.mpt,.bool x.c.mup,.int .u8 x.c.low,.int .u8 x.c.ip,.int .u16 x.c.iv,.int .u8 x.c.il,.string x.c.data,.int .u8 x.c.ttl]:=(HG1.out.later hb2).range
 have WK:=wakes24_any
 clear hb2 r0 GR HG HB
 cases q
 case true =>
  go_wp2_with (go_at_call 6;refine(WK _).mono ?_;rintro e w3 ⟨rfl,hb3⟩)
  go_ret
  exact⟨rfl,HB2.out.trans (hb3.mono HB2.out.size)⟩
 have SA:=hd0 (step_any x)
 go_wp2_with (first
  |((with_reducible refine wpList_load_mid rfl 35 (.tmp 3) rfl w.heap.size 0 ?hx [.int .u8 x.d,.int .u8 x.k,.int .u8 x.p,.int .u8 x.e,.string x.s,.int .u8 x.c.a0,.int .u8 x.c.a1,.int .u16 x.c.a2,.int .u8 x.c.a3,.int .u8 x.c.a4,.int .u8 x.c.m0,.int .u8 x.c.m1,.int .u8 x.c.m2,.int .u8 x.c.m3,.int .u8 x.c.m4,.int .u8 x.c.m5,.int .u8 x.c.lv,.string x.c.dom,.string x.c.nam,.int .u16 x.c.avid,.int .u8 x.c.aiv,.slice x.c.mq x.c.mn x.c.mc,.int .i64 x.c.mas,.int .u16 x.c.mid,.int .u8 x.c.mpt,.bool x.c.mup,.int .u8 x.c.low,.int .u8 x.c.ip,.int .u16 x.c.iv,.int .u8 x.c.il,.string x.c.data,.int .u8 x.c.ttl] _ r2 Tryz.underlying35 ?hu IC.out ?_);(case hx=>rfl);(case hu=>rfl))
  |(go_at_call 8;with_reducible refine(SA.out _).mono ?_;rintro e w3 ⟨rfl,hb3⟩)
  |(go_at_call 7;refine(ndo_nil _ _).mono ?_;rintro e w4 ⟨rfl,hb4⟩)
  |(go_at_call 9;refine(net_Net_Bridge_nil _ _).mono ?_;rintro e wx ⟨rfl,rfl⟩)
  |(go_at_call 10;refine(net_Net_IsUp_nil _ 0 _).mono ?_;rintro e wx ⟨rfl,rfl⟩)
  |(go_at_call 11;refine(net_Net_Len_nil _ _ _).mono ?_;rintro e wx ⟨rfl,rfl⟩)
  |(go_at_call 12;refine(net_Net_Edge_nil _ 0 _).mono ?_;rintro e wx ⟨rfl,rfl⟩)
  |(go_at_call 13;refine(net_Net_Lost_nil 0 _).mono ?_;rintro e wx ⟨rfl,rfl⟩)
  |(go_at_call 6;refine(WK _).mono ?_;rintro e w5 ⟨rfl,hb5⟩))
 go_ret
 have b3:=HB2.out.trans (hb3.mono HB2.out.size)
 have b4:=b3.trans (hb4.mono b3.size)
 exact⟨rfl,(b4.alloc b4.size _).trans (hb5.mono (b4.alloc b4.size _).size)⟩
end Go.Proofs.YtghaobakpdninaaGreatDoor
