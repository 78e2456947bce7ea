/- ZR12 -/
import Derived.Test.YtghaobakpdninaaGreatDoorZR11
set_option linter.unusedVariables false
set_option linter.unusedSimpArgs false
set_option maxRecDepth 100000
set_option maxHeartbeats 16000000
namespace Go.Proofs.YtghaobakpdninaaGreatDoor
open Go.RowKit
def pvC (r:Int):List Value:=[.int .u64 r,.int .u32 5,.int .u64 r,.int .u8 1,.int .u8 1]
theorem pvC_len (r:Int):(pvC r).length=5:=rfl
theorem pvC_one (r:Int):∀ v∈pvC r,v.oneCell'=true:=by
 intro v hv
 simp[pvC] at hv
 rcases hv with rfl|rfl|rfl|rfl <;> rfl
theorem info_path:(Tryz.prog.info? 281).map (fun i=>(i.zero,i.size,i.bytes))=some (some (.agg #[.int .u64 0,.int .u32 0,.int .u64 0,.int .u8 0,.int .u8 0]),5,40):=by kernel_rfl
theorem row_range {w W:World}{g:Nat}{l t:List Value}{E:TypeId}{fz:Nat × Nat}(hb:Below w.heap.size w W)(h:w.heap[g]?=some (.cells (l++t).toArray E fz)):W.rangeAt g 0 l:=fun j v hv=>by
 have hj:j<l.length:=(List.getElem?_eq_some_iff.1 hv).1
 rw[Nat.zero_add]
 unfold World.cell?
 rw[hb.block g (Array.getElem?_eq_some_iff.1 h).1,h]
 simp[List.getElem?_append_left hj,hv]
theorem tchooseN (m g cap:Nat)(t:List Value)(id:Int)(a u:Bool)(x:Bp)(la:Int)(ag:Bool)(sp ve fl:Int)(hc:u=false∨la=0∨la≠0∧x.ro≠2)(RO:ag=true→∀ W,TR W m g cap t (ml id a (lk u x la ag sp) id 0 (-1) 0 ve fl)→Calls Tryz.prog 78 #[.pointer (some ⟨m,0,none⟩),.int .u8 1] W fun en w'=>en=.returned (.int .u8 2)∧Below W.heap.size W w')(w:World)(h:TR w m g cap t (ml id a (lk u x la ag sp) id 0 (-1) 0 ve fl)):Calls Tryz.prog 118 #[.pointer (some ⟨m,0,none⟩)] w fun en w'=>en=.returned (.tuple #[])∧Below w.heap.size w w':=by
 have c1:=h.l1
 have HT:=hd0 fun W (hW:Below w.heap.size w W)=>h.later hW
 have P0:=hd0 fun W (hW:Below w.heap.size w W)=>tpath0 m g cap t id a (lk u x la ag sp) id 0 (-1) 0 ve fl W (h.later hW)
 have P1:=hd0 fun W (hW:Below w.heap.size w W)=>tpathN m g cap t id a u x la ag sp id 0 (-1) 0 ve fl hc W (h.later hW)
 have HRO:=hd0 RO
 clear h hc RO
 go_enter Tryz.func118,Tryz.ntmps118
 go_wp2_with fail
 refine wp_loop_rounds 3 ?_
 rw[rounds_succ]
 go_wp2_with fail
 with_reducible refine(P0.out _ (Below.refl _ _)).mono ?_
 rintro en w1 ⟨rfl,hb1⟩
 have b1:Below w.heap.size w (w1.alloc (.cells #[.int .u64 0,.int .u32 0,.int .u64 0,.int .u8 0,.int .u8 0] 281)):=hb1.alloc hb1.size _
 go_upto_region 7 with fail
 obtain⟨wa,hwa⟩:∃ z,w1.alloc (.cells #[.int .u64 0,.int .u32 0,.int .u64 0,.int .u8 0,.int .u8 0] 281)=z:=⟨_,rfl⟩
 rw[hwa] at b1 ⊢
 have k1:=(HT.out _ b1).l1
 clear hb1 c1 hwa
 go_wp2_with fail
 rw[rounds_succ]
 go_wp2_with fail
 with_reducible refine(P1.out _ b1).mono ?_
 rintro en w2 ⟨rfl,hb2⟩
 have b2:Below w.heap.size w (w2.alloc (.cells #[.int .u64 0,.int .u32 0,.int .u64 0,.int .u8 0,.int .u8 0] 281)):=(b1.trans (hb2.mono b1.size)).alloc (b1.trans (hb2.mono b1.size)).size _
 go_upto_region 7 with fail
 obtain⟨wr,hwr⟩:∃ z,w2.alloc (.cells #[.int .u64 0,.int .u32 0,.int .u64 0,.int .u8 0,.int .u8 0] 281)=z:=⟨_,rfl⟩
 rw[hwr] at b2 ⊢
 clear hb2 k1 b1 hwr
 go_wp2_with fail
 rw[rounds_succ]
 have TRr:=HT.out wr b2
 have c0:wr.cell? ⟨m,0,none⟩=some (.int .u64 id):=TRr.c0
 have c2:wr.cell? ⟨m,2,none⟩=some (.int .u64 id):=TRr.c2
 have c3:wr.cell? ⟨m,3,none⟩=some (.int .u32 0):=TRr.c3
 have c4:wr.cell? ⟨m,4,none⟩=some (.int .i64 (-1)):=TRr.c4
 have hbw:=(Below.refl wr.heap.size wr).alloc (Nat.le_refl _) (.cells #[.int .u64 id,.int .u32 0,.int .i64 (-1)] 217)
 have gw:=GB.new 217 wr #[.int .u64 id,.int .u32 0,.int .i64 (-1)]
 obtain⟨wc,hwc⟩:∃ z,wr.alloc (.cells #[.int .u64 id,.int .u32 0,.int .i64 (-1)] 217)=z:=⟨_,rfl⟩
 rw[hwc] at hbw gw
 have HB:=hd0 (b2.trans (hbw.mono b2.size))
 have TR1:=TRr.later hbw
 clear TRr hbw b2
 go_upto_region 9 with fail
 clear hwc c0 c2 c3 c4
 have c0:wc.cell? ⟨m,0,none⟩=some (.int .u64 id):=TR1.c0
 have c2:wc.cell? ⟨m,2,none⟩=some (.int .u64 id):=TR1.c2
 have c3:wc.cell? ⟨m,3,none⟩=some (.int .u32 0):=TR1.c3
 have c4:wc.cell? ⟨m,4,none⟩=some (.int .i64 (-1)):=TR1.c4
 have c5:wc.cell? ⟨m,5,none⟩=some (.int .u8 0):=TR1.c5
 have f2:=TR1.tm.fr 2
 have f3:=TR1.tm.fr 3
 have f4:=TR1.tm.fr 4
 have f5:=TR1.tm.fr 5
 have HTR:=hd0 TR1
 have HG:=hd0 gw
 clear TR1 gw
 have s2:=setCell_id c2
 have s3:=setCell_id c3
 have s4:=setCell_id c4
 have s5:=setCell_id c5
 go_upto_region 10 with fail
 clear s2 s3 s4 s5
 go_upto_region 11 with(go_at_call 115;refine(vleast_nil _).mono ?_;rintro e w3 ⟨rfl,hb3⟩)
 have hb4:Below wc.heap.size wc (w3.alloc (.cells #[.int .u64 0,.int .u32 0,.int .u64 0,.int .u8 0,.int .u8 0] 281)):=hb3.alloc hb3.size _
 have gx:=GB.new 281 w3 #[.int .u64 0,.int .u32 0,.int .u64 0,.int .u8 0,.int .u8 0]
 obtain⟨w4,hw4⟩:∃ z,w3.alloc (.cells #[.int .u64 0,.int .u32 0,.int .u64 0,.int .u8 0,.int .u8 0] 281)=z:=⟨_,rfl⟩
 rw[hw4] at hb4 gx ⊢
 have HB4:=hd0 hb4
 have HGX:=hd0 gx
 clear hb3 hb4 gx c0 c2 c3 c4 c5 f2 f3 f4 f5 hw4
 refine wp_region_later (by kernel_rfl) (by kernel_rfl) ?_
 repeat (go_big_quiet_step (fail))
 refine wpQuiet_nil ?_
 rintro _ ⟨K,rfl⟩
 go_upto_region 14 with fail
 have hbK:Below wc.heap.size wc K.out:=HB4.out.trans (K.h.mono HB4.out.size)
 have TRK:=HTR.out.later hbK
 have GK:=HG.out.later hbK
 have a2:K.out.cell? ⟨m,2,none⟩=some (.int .u64 id):=TRK.c2
 have a3:K.out.cell? ⟨m,3,none⟩=some (.int .u32 0):=TRK.c3
 have a4:K.out.cell? ⟨m,4,none⟩=some (.int .i64 (-1)):=TRK.c4
 have b0:K.out.cell? ⟨wr.heap.size,0,none⟩=some (.int .u64 id):=GK.c 0 _ rfl
 have b1:K.out.cell? ⟨wr.heap.size,1,none⟩=some (.int .u32 0):=GK.c 1 _ rfl
 have b2:K.out.cell? ⟨wr.heap.size,2,none⟩=some (.int .i64 (-1)):=GK.c 2 _ rfl
 have HTK:=hd0 TRK
 have HBK:=hd0 (HB.out.trans (hbK.mono HB.out.size))
 obtain⟨w5,hw5⟩:∃ z,K.out=z:=⟨_,rfl⟩
 rw[hw5] at a2 a3 a4 b0 b1 b2 HTK HBK ⊢
 clear TRK GK hbK hw5
 have l2:=Later.cell a2
 have l3:=Later.cell a3
 have l4:=Later.cell a4
 have m0:=Later.cell b0
 have m1:=Later.cell b1
 have m2:=Later.cell b2
 clear a2 a3 a4 b0 b1 b2
 refine wp_region_later (by kernel_rfl) (by kernel_rfl) ?_
 repeat (go_big_quiet_step (fail))
 refine wpQuiet_nil ?_
 rintro _ ⟨K2,rfl⟩
 clear l2 l3 l4 m0 m1 m2
 have HT6:=hd0 (HTK.out.later K2.h)
 have HB6:=hd0 (HBK.out.trans (K2.h.mono HBK.out.size))
 obtain⟨w6,hw6⟩:∃ z,K2.out=z:=⟨_,rfl⟩
 rw[hw6] at HT6 HB6 ⊢
 clear hw6 K2 HTK HBK
 have c1:=HT6.out.l1
 go_wp2_with fail
 clear c1
 refine wp_loop_rounds 3 ?_
 rw[rounds_succ]
 have c1:w6.drew.cell? ⟨m,1,none⟩=some (.slice (some ⟨g,0,none⟩) 2 cap):=HT6.out.l1
 have a1:w6.drew.cell? ⟨g,14,none⟩=some (.bool false):=HT6.out.h0 14 (by decide) _ rfl
 have fa:w6.drew.frozen? ⟨g,14,none⟩=false:=HT6.out.row.fr 14
 have sa:=setCell_id a1
 go_upto_region 19 with fail
 refine wp_region_held_drew (S:=fun W=>W.cell? ⟨m,1,none⟩=some (.slice (some ⟨g,0,none⟩) 2 cap)∧W.cell? ⟨g,14,none⟩=some (.bool false)) (by kernel_rfl) ⟨c1,a1⟩ (fun hHeld=>?_)
 refine tkH 0 ?_ ?h ?_
 case h=>(intro w hSw;go_simp;try with_reducible rfl)
 try simp only[Act.put,zz]
 refine tkH 1 ?_ ?h ?_
 case h=>(intro w hSw;go_simp;try with_reducible rfl)
 try simp only[Act.put,zz]
 refine tkH 2 ?_ ?h ?_
 case h=>(intro w hSw;go_simp;try with_reducible rfl)
 try simp only[Act.put,zz]
 refine tkH 3 ?_ ?h ?_
 case h=>(intro w hSw;go_simp;try with_reducible rfl)
 try simp only[Act.put,zz]
 refine tkH 4 ?_ ?h ?_
 case h=>(intro w hSw;go_simp;try with_reducible rfl)
 try simp only[Act.put,zz]
 refine tkH 5 ?_ ?h ?_
 case h=>(intro w hSw;go_simp;try with_reducible rfl)
 try simp only[Act.put,zz]
 refine tkH 6 ?_ ?h ?_
 case h=>(intro w hSw;go_simp;try with_reducible rfl)
 try simp only[Act.put,zz]
 refine tkH 7 ?_ ?h ?_
 case h=>(intro w hSw;go_simp;try with_reducible rfl)
 try simp only[Act.put,zz]
 refine tkH 8 ?_ ?h ?_
 case h=>(intro w hSw;go_simp;try with_reducible rfl)
 try simp only[Act.put,zz]
 refine tkH 9 ?_ ?h ?_
 case h=>(intro w hSw;go_simp;try with_reducible rfl)
 try simp only[Act.put,zz]
 refine tkH 10 ?_ ?h ?_
 case h=>(intro w hSw;go_simp;try with_reducible rfl)
 try simp only[Act.put,zz]
 refine tkH 11 ?_ ?h ?_
 case h=>(intro w hSw;go_simp;try with_reducible rfl)
 try simp only[Act.put,zz]
 refine tkH 12 ?_ ?h ?_
 case h=>(intro w hSw;go_simp;try with_reducible rfl)
 try simp only[Act.put,zz]
 refine tkH 13 ?_ ?h ?_
 case h=>(intro w hSw;go_simp;try with_reducible rfl)
 try simp only[Act.put,zz]
 refine wpAnyH_take (i:=14) (v:=undef) rfl (by kernel_rfl) (by kernel_rfl) (by kernel_rfl) (fun _ _ _ h=>h) (Or.inr ⟨by rfl,rfl⟩) (by assumption) ?_
 try simp only[Act.put,zz]
 refine wpAnyH_take (i:=15) (v:=undef) rfl (by kernel_rfl) (by kernel_rfl) (by kernel_rfl) (fun _ _ _ h=>h) (Or.inr ⟨by rfl,rfl⟩) (by assumption) ?_
 try simp only[Act.put,zz]
 refine wpAnyH_take (i:=16) (v:=undef) rfl (by kernel_rfl) (by kernel_rfl) (by kernel_rfl) (fun _ _ _ h=>h) (Or.inr ⟨by rfl,rfl⟩) (by assumption) ?_
 try simp only[Act.put,zz]
 refine wpAnyH_take (i:=17) (v:=undef) rfl (by kernel_rfl) (by kernel_rfl) (by kernel_rfl) (fun _ _ _ h=>h) (Or.inr ⟨by rfl,rfl⟩) (by assumption) ?_
 try simp only[Act.put,zz]
 refine wpAnyH_take (i:=18) (v:=undef) rfl (by kernel_rfl) (by kernel_rfl) (by kernel_rfl) (fun _ _ _ h=>h) (Or.inr ⟨by rfl,rfl⟩) (by assumption) ?_
 try simp only[Act.put,zz]
 refine tkH 19 ?_ ?h ?_
 case h=>(intro w hSw;go_simp;try with_reducible rfl)
 try simp only[Act.put,zz]
 refine tkH 20 ?_ ?h ?_
 case h=>(intro w hSw;go_simp;try with_reducible rfl)
 try simp only[Act.put,zz]
 refine tkH 21 ?_ ?h ?_
 case h=>(intro w hSw;go_simp;try with_reducible rfl)
 try simp only[Act.put,zz]
 refine rdH 22 fun K hK=>?_
 (go_simp;refine hK.out _ _ ⟨c1,a1⟩ (fun hHeld=>?_);clear hK K;try simp only[Act.put,zz])
 refine wpAnyH_done (by kernel_rfl) ?_ _
 clear a1 fa sa c1
 have HT7:=hd0 (HT6.out.later (Below.refl _ _).drew)
 have HB7:=hd0 ((HB6.out.trans ((Below.refl _ _).drew.mono HB6.out.size)))
 obtain⟨w7,hw7⟩:∃ z,w6.drew=z:=⟨_,rfl⟩
 rw[hw7] at HT7 HB7 ⊢
 clear hw7
 go_wp2_with fail
 rw[rounds_succ]
 cases ag
 ·
  have c1:w7.drew.cell? ⟨m,1,none⟩=some (.slice (some ⟨g,0,none⟩) 2 cap):=HT7.out.l1
  have a1:w7.drew.cell? ⟨g,30,none⟩=some (.bool false):=HT7.out.x1 14 (by decide) _ rfl
  have fa:w7.drew.frozen? ⟨g,30,none⟩=false:=HT7.out.row.fr 30
  have sa:=setCell_id a1
  go_upto_region 19 with fail
  refine wp_region_held_drew (S:=fun W=>W.cell? ⟨m,1,none⟩=some (.slice (some ⟨g,0,none⟩) 2 cap)∧W.cell? ⟨g,30,none⟩=some (.bool false)) (by kernel_rfl) ⟨c1,a1⟩ (fun hHeld=>?_)
  refine tkH 0 ?_ ?h ?_
  case h=>(intro w hSw;go_simp;try with_reducible rfl)
  try simp only[Act.put,zz]
  refine tkH 1 ?_ ?h ?_
  case h=>(intro w hSw;go_simp;try with_reducible rfl)
  try simp only[Act.put,zz]
  refine tkH 2 ?_ ?h ?_
  case h=>(intro w hSw;go_simp;try with_reducible rfl)
  try simp only[Act.put,zz]
  refine tkH 3 ?_ ?h ?_
  case h=>(intro w hSw;go_simp;try with_reducible rfl)
  try simp only[Act.put,zz]
  refine tkH 4 ?_ ?h ?_
  case h=>(intro w hSw;go_simp;try with_reducible rfl)
  try simp only[Act.put,zz]
  refine tkH 5 ?_ ?h ?_
  case h=>(intro w hSw;go_simp;try with_reducible rfl)
  try simp only[Act.put,zz]
  refine tkH 6 ?_ ?h ?_
  case h=>(intro w hSw;go_simp;try with_reducible rfl)
  try simp only[Act.put,zz]
  refine tkH 7 ?_ ?h ?_
  case h=>(intro w hSw;go_simp;try with_reducible rfl)
  try simp only[Act.put,zz]
  refine tkH 8 ?_ ?h ?_
  case h=>(intro w hSw;go_simp;try with_reducible rfl)
  try simp only[Act.put,zz]
  refine tkH 9 ?_ ?h ?_
  case h=>(intro w hSw;go_simp;try with_reducible rfl)
  try simp only[Act.put,zz]
  refine tkH 10 ?_ ?h ?_
  case h=>(intro w hSw;go_simp;try with_reducible rfl)
  try simp only[Act.put,zz]
  refine tkH 11 ?_ ?h ?_
  case h=>(intro w hSw;go_simp;try with_reducible rfl)
  try simp only[Act.put,zz]
  refine tkH 12 ?_ ?h ?_
  case h=>(intro w hSw;go_simp;try with_reducible rfl)
  try simp only[Act.put,zz]
  refine tkH 13 ?_ ?h ?_
  case h=>(intro w hSw;go_simp;try with_reducible rfl)
  try simp only[Act.put,zz]
  refine wpAnyH_take (i:=14) (v:=undef) rfl (by kernel_rfl) (by kernel_rfl) (by kernel_rfl) (fun _ _ _ h=>h) (Or.inr ⟨by rfl,rfl⟩) (by assumption) ?_
  try simp only[Act.put,zz]
  refine wpAnyH_take (i:=15) (v:=undef) rfl (by kernel_rfl) (by kernel_rfl) (by kernel_rfl) (fun _ _ _ h=>h) (Or.inr ⟨by rfl,rfl⟩) (by assumption) ?_
  try simp only[Act.put,zz]
  refine wpAnyH_take (i:=16) (v:=undef) rfl (by kernel_rfl) (by kernel_rfl) (by kernel_rfl) (fun _ _ _ h=>h) (Or.inr ⟨by rfl,rfl⟩) (by assumption) ?_
  try simp only[Act.put,zz]
  refine wpAnyH_take (i:=17) (v:=undef) rfl (by kernel_rfl) (by kernel_rfl) (by kernel_rfl) (fun _ _ _ h=>h) (Or.inr ⟨by rfl,rfl⟩) (by assumption) ?_
  try simp only[Act.put,zz]
  refine wpAnyH_take (i:=18) (v:=undef) rfl (by kernel_rfl) (by kernel_rfl) (by kernel_rfl) (fun _ _ _ h=>h) (Or.inr ⟨by rfl,rfl⟩) (by assumption) ?_
  try simp only[Act.put,zz]
  refine tkH 19 ?_ ?h ?_
  case h=>(intro w hSw;go_simp;try with_reducible rfl)
  try simp only[Act.put,zz]
  refine tkH 20 ?_ ?h ?_
  case h=>(intro w hSw;go_simp;try with_reducible rfl)
  try simp only[Act.put,zz]
  refine tkH 21 ?_ ?h ?_
  case h=>(intro w hSw;go_simp;try with_reducible rfl)
  try simp only[Act.put,zz]
  refine rdH 22 fun K hK=>?_
  (go_simp;refine hK.out _ _ ⟨c1,a1⟩ (fun hHeld=>?_);clear hK K;try simp only[Act.put,zz])
  refine wpAnyH_done (by kernel_rfl) ?_ _
  clear a1 fa sa c1
  have HT8:=hd0 (HT7.out.later (Below.refl _ _).drew)
  have HB8:=hd0 ((HB7.out.trans ((Below.refl _ _).drew.mono HB7.out.size)))
  obtain⟨w8,hw8⟩:∃ z,w7.drew=z:=⟨_,rfl⟩
  rw[hw8] at HT8 HB8 ⊢
  clear hw8
  go_wp2_with fail
  rw[rounds_succ]
  go_wp2_with fail
  go_end0
  exact⟨rfl,HB8.out⟩
 ·
  have c1:w7.drew.cell? ⟨m,1,none⟩=some (.slice (some ⟨g,0,none⟩) 2 cap):=HT7.out.l1
  have a1:w7.drew.cell? ⟨g,30,none⟩=some (.bool true):=HT7.out.x1 14 (by decide) _ rfl
  have HD:=hd0 (HT7.out.later (Below.refl _ _).drew)
  have RW:=hd0 (HRO.out rfl _ HD.out)
  go_upto_region 19 with fail
  refine wp_region_held_drew (S:=fun W=>W.cell? ⟨m,1,none⟩=some (.slice (some ⟨g,0,none⟩) 2 cap)∧W.cell? ⟨g,30,none⟩=some (.bool true)) (by kernel_rfl) ⟨c1,a1⟩ (fun hHeld=>?_)
  refine tkH 0 ?_ ?h ?_
  case h=>(intro w hSw;go_simp;try with_reducible rfl)
  try simp only[Act.put,zz]
  refine tkH 1 ?_ ?h ?_
  case h=>(intro w hSw;go_simp;try with_reducible rfl)
  try simp only[Act.put,zz]
  refine tkH 2 ?_ ?h ?_
  case h=>(intro w hSw;go_simp;try with_reducible rfl)
  try simp only[Act.put,zz]
  refine tkH 3 ?_ ?h ?_
  case h=>(intro w hSw;go_simp;try with_reducible rfl)
  try simp only[Act.put,zz]
  refine tkH 4 ?_ ?h ?_
  case h=>(intro w hSw;go_simp;try with_reducible rfl)
  try simp only[Act.put,zz]
  refine tkH 5 ?_ ?h ?_
  case h=>(intro w hSw;go_simp;try with_reducible rfl)
  try simp only[Act.put,zz]
  refine tkH 6 ?_ ?h ?_
  case h=>(intro w hSw;go_simp;try with_reducible rfl)
  try simp only[Act.put,zz]
  refine tkH 7 ?_ ?h ?_
  case h=>(intro w hSw;go_simp;try with_reducible rfl)
  try simp only[Act.put,zz]
  refine tkH 8 ?_ ?h ?_
  case h=>(intro w hSw;go_simp;try with_reducible rfl)
  try simp only[Act.put,zz]
  refine tkH 9 ?_ ?h ?_
  case h=>(intro w hSw;go_simp;try with_reducible rfl)
  try simp only[Act.put,zz]
  refine tkH 10 ?_ ?h ?_
  case h=>(intro w hSw;go_simp;try with_reducible rfl)
  try simp only[Act.put,zz]
  refine tkH 11 ?_ ?h ?_
  case h=>(intro w hSw;go_simp;try with_reducible rfl)
  try simp only[Act.put,zz]
  refine tkH 12 ?_ ?h ?_
  case h=>(intro w hSw;go_simp;try with_reducible rfl)
  try simp only[Act.put,zz]
  refine tkH 13 ?_ ?h ?_
  case h=>(intro w hSw;go_simp;try with_reducible rfl)
  try simp only[Act.put,zz]
  refine tkH 14 ?_ ?h ?_
  case h=>(intro w hSw;go_simp;try with_reducible rfl)
  try simp only[Act.put,zz]
  refine tkH 15 ?_ ?h ?_
  case h=>(intro w hSw;go_simp;try with_reducible rfl)
  try simp only[Act.put,zz]
  refine tkH 16 ?_ ?h ?_
  case h=>(intro w hSw;go_simp;try with_reducible rfl)
  try simp only[Act.put,zz]
  refine rdH 17 fun K hK=>?_
  (go_simp;go_at_call 78;(refine RW.out.mono ?_);rintro en w8 ⟨rfl,hb8⟩;have HT8:=hd0 (HD.out.later hb8);have HB8:=hd0 (HB7.out.trans (((Below.refl _ _).drew.trans hb8).mono HB7.out.size));have c2:w8.cell? ⟨m,1,none⟩=some (.slice (some ⟨g,0,none⟩) 2 cap):=HT8.out.l1;have a2:w8.cell? ⟨g,30,none⟩=some (.bool true):=HT8.out.x1 14 (by decide) _ rfl;refine hK.out _ _ ⟨c2,a2⟩ (fun hHeld=>?_);clear hK K;try simp only[Act.put,zz])
  clear a1 c1 hb8
  have fa:w8.frozen? ⟨g,30,none⟩=false:=HT8.out.row.fr 30
  have sa:=setCell_id a2
  refine tkH 18 ?_ ?h ?_
  case h=>(intro w hSw;go_simp;try with_reducible rfl)
  try simp only[Act.put,zz]
  refine tkH 19 ?_ ?h ?_
  case h=>(intro w hSw;go_simp;try with_reducible rfl)
  try simp only[Act.put,zz]
  refine tkH 20 ?_ ?h ?_
  case h=>(intro w hSw;go_simp;try with_reducible rfl)
  try simp only[Act.put,zz]
  refine tkH 21 ?_ ?h ?_
  case h=>(intro w hSw;go_simp;try with_reducible rfl)
  try simp only[Act.put,zz]
  refine rdH 22 fun K hK=>?_
  (go_simp;refine hK.out _ _ ⟨c2,a2⟩ (fun hHeld=>?_);clear hK K;try simp only[Act.put,zz])
  refine wpAnyH_done (by kernel_rfl) ?_ _
  clear a2 fa sa c2
  go_wp2_with fail
  rw[rounds_succ]
  go_wp2_with fail
  go_end0
  exact⟨rfl,HB8.out⟩
theorem tchooseW (m g cap:Nat)(t:List Value)(id:Int)(a:Bool)(r:Int)(p:Bool)(la:Int)(sp ve fl:Int)(hl:la≠0)(hr:id<r)(w:World)(h:TR w m g cap t (ml id a (lk true (wD r p) la false sp) id 0 (-1) 0 ve fl)):Calls Tryz.prog 118 #[.pointer (some ⟨m,0,none⟩)] w fun en w'=>en=.returned (.tuple #[])∧Below w.heap.size w w':=by
 have c1:=h.l1
 have HT:=hd0 fun W (hW:Below w.heap.size w W)=>h.later hW
 have P0:=hd0 fun W (hW:Below w.heap.size w W)=>tpath0 m g cap t id a (lk true (wD r p) la false sp) id 0 (-1) 0 ve fl W (h.later hW)
 have P1:=hd0 fun W (hW:Below w.heap.size w W)=>tpathY m g cap t id a r p la false sp id 0 (-1) 0 ve fl hl (by omega) W (h.later hW)
 have HI0:Hid ((Tryz.prog.info? 281).map (·.size)=some (List.length ([.int .u64 r,.int .u32 5,.int .u64 r,.int .u8 1,.int .u8 1]:List Value))):=hd0 (by kernel_rfl)
 have dr:decide (r<id)=false:=decide_eq_false (by omega)
 clear h hl hr
 go_enter Tryz.func118,Tryz.ntmps118
 go_wp2_with fail
 refine wp_loop_rounds 3 ?_
 rw[rounds_succ]
 go_wp2_with fail
 with_reducible refine(P0.out _ (Below.refl _ _)).mono ?_
 rintro en w1 ⟨rfl,hb1⟩
 have b1:Below w.heap.size w (w1.alloc (.cells #[.int .u64 0,.int .u32 0,.int .u64 0,.int .u8 0,.int .u8 0] 281)):=hb1.alloc hb1.size _
 go_upto_region 7 with fail
 obtain⟨wa,hwa⟩:∃ z,w1.alloc (.cells #[.int .u64 0,.int .u32 0,.int .u64 0,.int .u8 0,.int .u8 0] 281)=z:=⟨_,rfl⟩
 rw[hwa] at b1 ⊢
 have k1:=(HT.out _ b1).l1
 clear hb1 c1 hwa
 go_wp2_with fail
 rw[rounds_succ]
 go_wp2_with fail
 with_reducible refine(P1.out _ b1).mono ?_
 rintro en w2 ⟨rfl,hb2⟩
 have b2:Below w.heap.size w (w2.alloc (.cells #[.int .u64 r,.int .u32 5,.int .u64 r,.int .u8 1,.int .u8 1] 281)):=(b1.trans (hb2.mono b1.size)).alloc (b1.trans (hb2.mono b1.size)).size _
 obtain⟨wb,hwb⟩:∃ z,w2.alloc (.cells #[.int .u64 r,.int .u32 5,.int .u64 r,.int .u8 1,.int .u8 1] 281)=z:=⟨_,rfl⟩
 have g2:=GB.new 281 w2 #[.int .u64 r,.int .u32 5,.int .u64 r,.int .u8 1,.int .u8 1]
 rw[hwb] at b2 g2
 have r2:=g2.range
 have hlit:Rw 5 pvC (wb.alloc (.cells #[.int .u64 r,.int .u32 5,.int .u64 r,.int .u8 1,.int .u8 1] 281)) (.slice (some ⟨wb.heap.size,0,none⟩) 1 1) [r]:=(Ow.lit (E:=281) pvC_len wb 0 r #[.int .u64 r,.int .u32 5,.int .u64 r,.int .u8 1,.int .u8 1] rfl (Nat.zero_le _)).rw pvC_len
 have HL:=hd0 hlit
 have b2l:Below w.heap.size w (wb.alloc (.cells #[.int .u64 r,.int .u32 5,.int .u64 r,.int .u8 1,.int .u8 1] 281)):=b2.alloc b2.size _
 have HBL:=hd0 b2l
 clear hb2 k1 b1 hlit g2 b2l
 go_upto_region 6 with fail
 clear hwb
 go_upto_region 7 with(first
  |((with_reducible refine wpList_load_mid rfl 281 (.tmp 4) rfl w2.heap.size 0 ?hx [.int .u64 r,.int .u32 5,.int .u64 r,.int .u8 1,.int .u8 1] _ r2 Tryz.underlying281 ?hu HI0.out ?_);(case hx=>rfl);(case hu=>rfl))
  |(at_builtin;refine wpList_append_rw pvC_len pvC_one 281 286 _ 40 Tryz.underlying286 info_path rfl (by decide) (by decide) rfl (.tmp 25) (.tmp 27) rfl w.heap.size (.slice none 0 0) [] rfl (Ow.none _ _) _ _ rfl HL.out (by simp) HBL.out.size ?_;intro v1 wr ho1 hb3;obtain⟨g1,cap1,t1,rfl,hg1,hc1,hh1⟩:=ho1.ne (by simp)))
 have b2:=HBL.out.trans hb3
 have HG1:=hd0 hh1
 clear ho1 hb3 hh1 r2 HL HBL
 go_wp2_with fail
 rw[rounds_succ]
 have TRr:=HT.out wr b2
 have c0:wr.cell? ⟨m,0,none⟩=some (.int .u64 id):=TRr.c0
 have c2:wr.cell? ⟨m,2,none⟩=some (.int .u64 id):=TRr.c2
 have c3:wr.cell? ⟨m,3,none⟩=some (.int .u32 0):=TRr.c3
 have c4:wr.cell? ⟨m,4,none⟩=some (.int .i64 (-1)):=TRr.c4
 have hbw:=(Below.refl wr.heap.size wr).alloc (Nat.le_refl _) (.cells #[.int .u64 id,.int .u32 0,.int .i64 (-1)] 217)
 have gw:=GB.new 217 wr #[.int .u64 id,.int .u32 0,.int .i64 (-1)]
 obtain⟨wc,hwc⟩:∃ z,wr.alloc (.cells #[.int .u64 id,.int .u32 0,.int .i64 (-1)] 217)=z:=⟨_,rfl⟩
 rw[hwc] at hbw gw
 have HB:=hd0 (b2.trans (hbw.mono b2.size))
 have TR1:=TRr.later hbw
 have hR1:Hid (∀ W,Below wc.heap.size wc W→W.rangeAt g1 0 [.int .u64 r,.int .u32 5,.int .u64 r,.int .u8 1,.int .u8 1]):=hd0 fun W hW=>row_range (hbw.trans (hW.mono hbw.size)) HG1.out
 clear TRr hbw b2
 go_upto_region 9 with fail
 clear hwc c0 c2 c3 c4
 have c0:wc.cell? ⟨m,0,none⟩=some (.int .u64 id):=TR1.c0
 have c2:wc.cell? ⟨m,2,none⟩=some (.int .u64 id):=TR1.c2
 have c3:wc.cell? ⟨m,3,none⟩=some (.int .u32 0):=TR1.c3
 have c4:wc.cell? ⟨m,4,none⟩=some (.int .i64 (-1)):=TR1.c4
 have c5:wc.cell? ⟨m,5,none⟩=some (.int .u8 0):=TR1.c5
 have f2:=TR1.tm.fr 2
 have f3:=TR1.tm.fr 3
 have f4:=TR1.tm.fr 4
 have f5:=TR1.tm.fr 5
 have HTR:=hd0 TR1
 have HG:=hd0 gw
 clear TR1 gw
 have s2:=setCell_id c2
 have s3:=setCell_id c3
 have s4:=setCell_id c4
 have s5:=setCell_id c5
 go_upto_region 10 with fail
 clear s2 s3 s4 s5
 have LE:=hd0 (vleast1 g1 cap1 r wc (hR1.out _ (Below.refl _ _)))
 go_upto_region 11 with(go_at_call 115;with_reducible refine LE.out.mono ?_;rintro e w3 ⟨rfl,hb3⟩)
 have hb4:Below wc.heap.size wc (w3.alloc (.cells #[.int .u64 r,.int .u32 5,.int .u64 r,.int .u8 1,.int .u8 1] 281)):=hb3.alloc hb3.size _
 have gx:=GB.new 281 w3 #[.int .u64 r,.int .u32 5,.int .u64 r,.int .u8 1,.int .u8 1]
 obtain⟨w4,hw4⟩:∃ z,w3.alloc (.cells #[.int .u64 r,.int .u32 5,.int .u64 r,.int .u8 1,.int .u8 1] 281)=z:=⟨_,rfl⟩
 rw[hw4] at hb4 gx ⊢
 have HB4:=hd0 hb4
 have HGX:=hd0 gx
 clear hb3 hb4 gx c0 c2 c3 c4 c5 f2 f3 f4 f5 hw4
 have x0:∀ K:Later w4,K.out.cell? ⟨w3.heap.size,0,none⟩=some (.int .u64 r):=fun K=>(HGX.out.later K.h).c 0 _ rfl
 have m0:∀ K:Later w4,K.out.cell? ⟨m,0,none⟩=some (.int .u64 id):=fun K=>((HTR.out.later HB4.out).later K.h).c0
 refine wp_region_later (by kernel_rfl) (by kernel_rfl) ?_
 repeat (go_big_quiet_step (fail))
 refine wpQuiet_nil ?_
 rintro _ ⟨K,rfl⟩
 clear x0 m0
 go_upto_region 14 with fail
 have hbK:Below wc.heap.size wc K.out:=HB4.out.trans (K.h.mono HB4.out.size)
 have TRK:=HTR.out.later hbK
 have GK:=HG.out.later hbK
 have a2:K.out.cell? ⟨m,2,none⟩=some (.int .u64 id):=TRK.c2
 have a3:K.out.cell? ⟨m,3,none⟩=some (.int .u32 0):=TRK.c3
 have a4:K.out.cell? ⟨m,4,none⟩=some (.int .i64 (-1)):=TRK.c4
 have b0:K.out.cell? ⟨wr.heap.size,0,none⟩=some (.int .u64 id):=GK.c 0 _ rfl
 have b1:K.out.cell? ⟨wr.heap.size,1,none⟩=some (.int .u32 0):=GK.c 1 _ rfl
 have b2:K.out.cell? ⟨wr.heap.size,2,none⟩=some (.int .i64 (-1)):=GK.c 2 _ rfl
 have HTK:=hd0 TRK
 have HBK:=hd0 (HB.out.trans (hbK.mono HB.out.size))
 obtain⟨w5,hw5⟩:∃ z,K.out=z:=⟨_,rfl⟩
 rw[hw5] at a2 a3 a4 b0 b1 b2 HTK HBK ⊢
 clear TRK GK hbK hw5
 have l2:=Later.cell a2
 have l3:=Later.cell a3
 have l4:=Later.cell a4
 have m0:=Later.cell b0
 have m1:=Later.cell b1
 have m2:=Later.cell b2
 clear a2 a3 a4 b0 b1 b2
 refine wp_region_later (by kernel_rfl) (by kernel_rfl) ?_
 repeat (go_big_quiet_step (fail))
 refine wpQuiet_nil ?_
 rintro _ ⟨K2,rfl⟩
 clear l2 l3 l4 m0 m1 m2
 have HT6:=hd0 (HTK.out.later K2.h)
 have HB6:=hd0 (HBK.out.trans (K2.h.mono HBK.out.size))
 obtain⟨w6,hw6⟩:∃ z,K2.out=z:=⟨_,rfl⟩
 rw[hw6] at HT6 HB6 ⊢
 clear hw6 K2 HTK HBK
 have c1:=HT6.out.l1
 go_wp2_with fail
 clear c1
 refine wp_loop_rounds 3 ?_
 rw[rounds_succ]
 have c1:w6.drew.cell? ⟨m,1,none⟩=some (.slice (some ⟨g,0,none⟩) 2 cap):=HT6.out.l1
 have a1:w6.drew.cell? ⟨g,14,none⟩=some (.bool false):=HT6.out.h0 14 (by decide) _ rfl
 have fa:w6.drew.frozen? ⟨g,14,none⟩=false:=HT6.out.row.fr 14
 have sa:=setCell_id a1
 go_upto_region 19 with fail
 refine wp_region_held_drew (S:=fun W=>W.cell? ⟨m,1,none⟩=some (.slice (some ⟨g,0,none⟩) 2 cap)∧W.cell? ⟨g,14,none⟩=some (.bool false)) (by kernel_rfl) ⟨c1,a1⟩ (fun hHeld=>?_)
 refine tkH 0 ?_ ?h ?_
 case h=>(intro w hSw;go_simp;try with_reducible rfl)
 try simp only[Act.put,zz]
 refine tkH 1 ?_ ?h ?_
 case h=>(intro w hSw;go_simp;try with_reducible rfl)
 try simp only[Act.put,zz]
 refine tkH 2 ?_ ?h ?_
 case h=>(intro w hSw;go_simp;try with_reducible rfl)
 try simp only[Act.put,zz]
 refine tkH 3 ?_ ?h ?_
 case h=>(intro w hSw;go_simp;try with_reducible rfl)
 try simp only[Act.put,zz]
 refine tkH 4 ?_ ?h ?_
 case h=>(intro w hSw;go_simp;try with_reducible rfl)
 try simp only[Act.put,zz]
 refine tkH 5 ?_ ?h ?_
 case h=>(intro w hSw;go_simp;try with_reducible rfl)
 try simp only[Act.put,zz]
 refine tkH 6 ?_ ?h ?_
 case h=>(intro w hSw;go_simp;try with_reducible rfl)
 try simp only[Act.put,zz]
 refine tkH 7 ?_ ?h ?_
 case h=>(intro w hSw;go_simp;try with_reducible rfl)
 try simp only[Act.put,zz]
 refine tkH 8 ?_ ?h ?_
 case h=>(intro w hSw;go_simp;try with_reducible rfl)
 try simp only[Act.put,zz]
 refine tkH 9 ?_ ?h ?_
 case h=>(intro w hSw;go_simp;try with_reducible rfl)
 try simp only[Act.put,zz]
 refine tkH 10 ?_ ?h ?_
 case h=>(intro w hSw;go_simp;try with_reducible rfl)
 try simp only[Act.put,zz]
 refine tkH 11 ?_ ?h ?_
 case h=>(intro w hSw;go_simp;try with_reducible rfl)
 try simp only[Act.put,zz]
 refine tkH 12 ?_ ?h ?_
 case h=>(intro w hSw;go_simp;try with_reducible rfl)
 try simp only[Act.put,zz]
 refine tkH 13 ?_ ?h ?_
 case h=>(intro w hSw;go_simp;try with_reducible rfl)
 try simp only[Act.put,zz]
 refine wpAnyH_take (i:=14) (v:=undef) rfl (by kernel_rfl) (by kernel_rfl) (by kernel_rfl) (fun _ _ _ h=>h) (Or.inr ⟨by rfl,rfl⟩) (by assumption) ?_
 try simp only[Act.put,zz]
 refine wpAnyH_take (i:=15) (v:=undef) rfl (by kernel_rfl) (by kernel_rfl) (by kernel_rfl) (fun _ _ _ h=>h) (Or.inr ⟨by rfl,rfl⟩) (by assumption) ?_
 try simp only[Act.put,zz]
 refine wpAnyH_take (i:=16) (v:=undef) rfl (by kernel_rfl) (by kernel_rfl) (by kernel_rfl) (fun _ _ _ h=>h) (Or.inr ⟨by rfl,rfl⟩) (by assumption) ?_
 try simp only[Act.put,zz]
 refine wpAnyH_take (i:=17) (v:=undef) rfl (by kernel_rfl) (by kernel_rfl) (by kernel_rfl) (fun _ _ _ h=>h) (Or.inr ⟨by rfl,rfl⟩) (by assumption) ?_
 try simp only[Act.put,zz]
 refine wpAnyH_take (i:=18) (v:=undef) rfl (by kernel_rfl) (by kernel_rfl) (by kernel_rfl) (fun _ _ _ h=>h) (Or.inr ⟨by rfl,rfl⟩) (by assumption) ?_
 try simp only[Act.put,zz]
 refine tkH 19 ?_ ?h ?_
 case h=>(intro w hSw;go_simp;try with_reducible rfl)
 try simp only[Act.put,zz]
 refine tkH 20 ?_ ?h ?_
 case h=>(intro w hSw;go_simp;try with_reducible rfl)
 try simp only[Act.put,zz]
 refine tkH 21 ?_ ?h ?_
 case h=>(intro w hSw;go_simp;try with_reducible rfl)
 try simp only[Act.put,zz]
 refine rdH 22 fun K hK=>?_
 (go_simp;refine hK.out _ _ ⟨c1,a1⟩ (fun hHeld=>?_);clear hK K;try simp only[Act.put,zz])
 refine wpAnyH_done (by kernel_rfl) ?_ _
 clear a1 fa sa c1
 have HT7:=hd0 (HT6.out.later (Below.refl _ _).drew)
 have HB7:=hd0 ((HB6.out.trans ((Below.refl _ _).drew.mono HB6.out.size)))
 obtain⟨w7,hw7⟩:∃ z,w6.drew=z:=⟨_,rfl⟩
 rw[hw7] at HT7 HB7 ⊢
 clear hw7
 go_wp2_with fail
 rw[rounds_succ]
 have c1:w7.drew.cell? ⟨m,1,none⟩=some (.slice (some ⟨g,0,none⟩) 2 cap):=HT7.out.l1
 have a1:w7.drew.cell? ⟨g,30,none⟩=some (.bool false):=HT7.out.x1 14 (by decide) _ rfl
 have fa:w7.drew.frozen? ⟨g,30,none⟩=false:=HT7.out.row.fr 30
 have sa:=setCell_id a1
 go_upto_region 19 with fail
 refine wp_region_held_drew (S:=fun W=>W.cell? ⟨m,1,none⟩=some (.slice (some ⟨g,0,none⟩) 2 cap)∧W.cell? ⟨g,30,none⟩=some (.bool false)) (by kernel_rfl) ⟨c1,a1⟩ (fun hHeld=>?_)
 refine tkH 0 ?_ ?h ?_
 case h=>(intro w hSw;go_simp;try with_reducible rfl)
 try simp only[Act.put,zz]
 refine tkH 1 ?_ ?h ?_
 case h=>(intro w hSw;go_simp;try with_reducible rfl)
 try simp only[Act.put,zz]
 refine tkH 2 ?_ ?h ?_
 case h=>(intro w hSw;go_simp;try with_reducible rfl)
 try simp only[Act.put,zz]
 refine tkH 3 ?_ ?h ?_
 case h=>(intro w hSw;go_simp;try with_reducible rfl)
 try simp only[Act.put,zz]
 refine tkH 4 ?_ ?h ?_
 case h=>(intro w hSw;go_simp;try with_reducible rfl)
 try simp only[Act.put,zz]
 refine tkH 5 ?_ ?h ?_
 case h=>(intro w hSw;go_simp;try with_reducible rfl)
 try simp only[Act.put,zz]
 refine tkH 6 ?_ ?h ?_
 case h=>(intro w hSw;go_simp;try with_reducible rfl)
 try simp only[Act.put,zz]
 refine tkH 7 ?_ ?h ?_
 case h=>(intro w hSw;go_simp;try with_reducible rfl)
 try simp only[Act.put,zz]
 refine tkH 8 ?_ ?h ?_
 case h=>(intro w hSw;go_simp;try with_reducible rfl)
 try simp only[Act.put,zz]
 refine tkH 9 ?_ ?h ?_
 case h=>(intro w hSw;go_simp;try with_reducible rfl)
 try simp only[Act.put,zz]
 refine tkH 10 ?_ ?h ?_
 case h=>(intro w hSw;go_simp;try with_reducible rfl)
 try simp only[Act.put,zz]
 refine tkH 11 ?_ ?h ?_
 case h=>(intro w hSw;go_simp;try with_reducible rfl)
 try simp only[Act.put,zz]
 refine tkH 12 ?_ ?h ?_
 case h=>(intro w hSw;go_simp;try with_reducible rfl)
 try simp only[Act.put,zz]
 refine tkH 13 ?_ ?h ?_
 case h=>(intro w hSw;go_simp;try with_reducible rfl)
 try simp only[Act.put,zz]
 refine wpAnyH_take (i:=14) (v:=undef) rfl (by kernel_rfl) (by kernel_rfl) (by kernel_rfl) (fun _ _ _ h=>h) (Or.inr ⟨by rfl,rfl⟩) (by assumption) ?_
 try simp only[Act.put,zz]
 refine wpAnyH_take (i:=15) (v:=undef) rfl (by kernel_rfl) (by kernel_rfl) (by kernel_rfl) (fun _ _ _ h=>h) (Or.inr ⟨by rfl,rfl⟩) (by assumption) ?_
 try simp only[Act.put,zz]
 refine wpAnyH_take (i:=16) (v:=undef) rfl (by kernel_rfl) (by kernel_rfl) (by kernel_rfl) (fun _ _ _ h=>h) (Or.inr ⟨by rfl,rfl⟩) (by assumption) ?_
 try simp only[Act.put,zz]
 refine wpAnyH_take (i:=17) (v:=undef) rfl (by kernel_rfl) (by kernel_rfl) (by kernel_rfl) (fun _ _ _ h=>h) (Or.inr ⟨by rfl,rfl⟩) (by assumption) ?_
 try simp only[Act.put,zz]
 refine wpAnyH_take (i:=18) (v:=undef) rfl (by kernel_rfl) (by kernel_rfl) (by kernel_rfl) (fun _ _ _ h=>h) (Or.inr ⟨by rfl,rfl⟩) (by assumption) ?_
 try simp only[Act.put,zz]
 refine tkH 19 ?_ ?h ?_
 case h=>(intro w hSw;go_simp;try with_reducible rfl)
 try simp only[Act.put,zz]
 refine tkH 20 ?_ ?h ?_
 case h=>(intro w hSw;go_simp;try with_reducible rfl)
 try simp only[Act.put,zz]
 refine tkH 21 ?_ ?h ?_
 case h=>(intro w hSw;go_simp;try with_reducible rfl)
 try simp only[Act.put,zz]
 refine rdH 22 fun K hK=>?_
 (go_simp;refine hK.out _ _ ⟨c1,a1⟩ (fun hHeld=>?_);clear hK K;try simp only[Act.put,zz])
 refine wpAnyH_done (by kernel_rfl) ?_ _
 clear a1 fa sa c1
 have HT8:=hd0 (HT7.out.later (Below.refl _ _).drew)
 have HB8:=hd0 ((HB7.out.trans ((Below.refl _ _).drew.mono HB7.out.size)))
 obtain⟨w8,hw8⟩:∃ z,w7.drew=z:=⟨_,rfl⟩
 rw[hw8] at HT8 HB8 ⊢
 clear hw8
 go_wp2_with fail
 rw[rounds_succ]
 go_wp2_with fail
 go_end0
 exact⟨rfl,HB8.out⟩
def D2 (a b:Nat)(k:Nat):Prop:=k=a∨k=b
end Go.Proofs.YtghaobakpdninaaGreatDoor
