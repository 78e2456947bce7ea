/- ZR35 -/
import Derived.Test.YtghaobakpdninaaGreatDoorZR31
set_option linter.unusedVariables false
set_option linter.unusedSimpArgs false
set_option maxRecDepth 100000
set_option maxHeartbeats 16000000
namespace Go.Proofs.YtghaobakpdninaaGreatDoor
open Go.RowKit
def lnC (_:Unit):List Value:=[.int .i64 0,.int .u8 1,.int .u32 5,.int .i64 1,.int .u8 1,.int .u32 5]
theorem lnC_len (x:Unit):(lnC x).length=6:=rfl
theorem lnC_one (x:Unit):∀ u∈lnC x,u.oneCell'=true:=by
 intro u hu
 simp[lnC] at hu
 rcases hu with rfl|rfl|rfl|rfl|rfl|rfl <;> rfl
theorem info_ends:(Tryz.prog.info? 104).map (fun i=>(i.zero,i.size,i.bytes))=some (some (.agg #[.int .i64 0,.int .u8 0,.int .u32 0,.int .i64 0,.int .u8 0,.int .u32 0]),6,32):=by kernel_rfl
def PK (W:World)(v:Value):Prop:=∃ gi gp gl ci cp cl:Nat,v=.agg #[.slice (some ⟨gi,0,none⟩) 2 ci,.slice (some ⟨gp,0,none⟩) 2 cp,.slice (some ⟨gl,0,none⟩) 1 cl]∧W.rangeAt gi 0 [.int .u64 16,.int .u64 32]∧W.rangeAt gp 0 [.int .i64 2,.int .i64 2]∧W.rangeAt gl 0 (lnC ())
theorem range_of {T:TypeId}{W:World}{b:Nat}{l:List Value}(h:GB T W b l.toArray):W.rangeAt b 0 l:=by
 have:=h.range;simpa using this
theorem known_any (w:World):Calls Tryz.prog 21 #[] w fun en w'=>∃ v,en=.returned v∧PK w' v∧Below w.heap.size w w':=by
 go_enter Tryz.func21,Tryz.ntmps21
 go_wp2_with fail
 have hz:∀ (W:World) (c:Array Value) (t:TypeId),(W.alloc (.cells c t)).heap.size=W.heap.size+1:=fun W c t=>by simp
 have bl:∀ (W:World) (c:Array Value) (t:TypeId),Below W.heap.size W (W.alloc (.cells c t)):=fun W c t=>bAo _
 have a0:=GB.new 41 w #[.slice (some ⟨w.heap.size+1,0,none⟩) 2 2,.slice (some ⟨w.heap.size+1+1,0,none⟩) 2 2,.slice (some ⟨w.heap.size+1+1+1,0,none⟩) 1 1]
 have b0:=bl w #[.slice (some ⟨w.heap.size+1,0,none⟩) 2 2,.slice (some ⟨w.heap.size+1+1,0,none⟩) 2 2,.slice (some ⟨w.heap.size+1+1+1,0,none⟩) 1 1] 41
 have z0:=hz w #[.slice (some ⟨w.heap.size+1,0,none⟩) 2 2,.slice (some ⟨w.heap.size+1+1,0,none⟩) 2 2,.slice (some ⟨w.heap.size+1+1+1,0,none⟩) 1 1] 41
 obtain⟨W1,e1⟩:∃ z,w.alloc (.cells #[.slice (some ⟨w.heap.size+1,0,none⟩) 2 2,.slice (some ⟨w.heap.size+1+1,0,none⟩) 2 2,.slice (some ⟨w.heap.size+1+1+1,0,none⟩) 1 1] 41)=z:=⟨_,rfl⟩
 rw[e1] at a0 b0 z0 ⊢
 have a1:=GB.new 63 W1 #[.int .u64 16,.int .u64 32]
 have b1:=bl W1 #[.int .u64 16,.int .u64 32] 63
 have z1:=hz W1 #[.int .u64 16,.int .u64 32] 63
 obtain⟨W2,e2⟩:∃ z,W1.alloc (.cells #[.int .u64 16,.int .u64 32] 63)=z:=⟨_,rfl⟩
 rw[e2] at a1 b1 z1 ⊢
 have a2:=GB.new 3 W2 #[.int .i64 2,.int .i64 2]
 have b2:=bl W2 #[.int .i64 2,.int .i64 2] 3
 have z2:=hz W2 #[.int .i64 2,.int .i64 2] 3
 obtain⟨W3,e3⟩:∃ z,W2.alloc (.cells #[.int .i64 2,.int .i64 2] 3)=z:=⟨_,rfl⟩
 rw[e3] at a2 b2 z2 ⊢
 have a3:=GB.new 111 W3 #[.int .i64 0,.int .u8 1,.int .u32 5,.int .i64 1,.int .u8 1,.int .u32 5]
 have b3:=bl W3 #[.int .i64 0,.int .u8 1,.int .u32 5,.int .i64 1,.int .u8 1,.int .u32 5] 111
 obtain⟨W4,e4⟩:∃ z,W3.alloc (.cells #[.int .i64 0,.int .u8 1,.int .u32 5,.int .i64 1,.int .u8 1,.int .u32 5] 111)=z:=⟨_,rfl⟩
 rw[e4] at a3 b3 ⊢
 have c23:=b2.trans (b3.mono b2.size)
 have c13:=b1.trans (c23.mono b1.size)
 rw[z0] at a1
 rw[z1,z0] at a2
 rw[z2,z1,z0] at a3
 refine bodyPost_ret (v:=.agg _) (res_one (p:=0) (d:=_) rfl rfl Tryz.underlying41 _ _ w.heap.size _ rfl (a0.later c13) (by kernel_rfl)) rfl ?_
 exact⟨_,rfl,⟨_,_,_,_,_,_,rfl,range_of (a1.later c23),range_of (a2.later b3),range_of a3⟩,b0.trans (c13.mono b0.size)⟩
theorem pof_any (v0:Value)(w:World)(h:PK w v0):Calls Tryz.prog 14 #[v0] w fun en w'=>∃ v,en=.returned v∧PK w' v∧Below w.heap.size w w':=by
 obtain⟨gi,gp,gl,ci,cp,cl,rfl,h1,h2,h3⟩:=h
 have hz:∀ (W:World) (c:Array Value) (t:TypeId),(W.alloc (.cells c t)).heap.size=W.heap.size+1:=fun W c t=>by simp
 have bl:∀ (W:World) (c:Array Value) (t:TypeId),Below W.heap.size W (W.alloc (.cells c t)):=fun W c t=>bAo _
 have a0:=GB.new 41 w #[.slice (some ⟨gi,0,none⟩) 2 ci,.slice (some ⟨gp,0,none⟩) 2 cp,.slice (some ⟨gl,0,none⟩) 1 cl]
 have b0:=bl w #[.slice (some ⟨gi,0,none⟩) 2 ci,.slice (some ⟨gp,0,none⟩) 2 cp,.slice (some ⟨gl,0,none⟩) 1 cl] 41
 have z0:=hz w #[.slice (some ⟨gi,0,none⟩) 2 ci,.slice (some ⟨gp,0,none⟩) 2 cp,.slice (some ⟨gl,0,none⟩) 1 cl] 41
 obtain⟨W1,e1⟩:∃ z,w.alloc (.cells #[.slice (some ⟨gi,0,none⟩) 2 ci,.slice (some ⟨gp,0,none⟩) 2 cp,.slice (some ⟨gl,0,none⟩) 1 cl] 41)=z:=⟨_,rfl⟩
 rw[e1] at a0 b0 z0
 have a1:=GB.new 70 W1 #[.slice none 0 0,.slice none 0 0,.slice none 0 0]
 have b1:=bl W1 #[.slice none 0 0,.slice none 0 0,.slice none 0 0] 70
 have z1:=hz W1 #[.slice none 0 0,.slice none 0 0,.slice none 0 0] 70
 obtain⟨W2,e2⟩:∃ z,W1.alloc (.cells #[.slice none 0 0,.slice none 0 0,.slice none 0 0] 70)=z:=⟨_,rfl⟩
 rw[e2] at a1 b1 z1
 have a0':=a0.later b1
 have d0:W2.cell? ⟨w.heap.size,0,none⟩=some (.slice (some ⟨gi,0,none⟩) 2 ci):=a0'.c 0 _ rfl
 have d1:W2.cell? ⟨w.heap.size,1,none⟩=some (.slice (some ⟨gp,0,none⟩) 2 cp):=a0'.c 1 _ rfl
 have d2:W2.cell? ⟨w.heap.size,2,none⟩=some (.slice (some ⟨gl,0,none⟩) 1 cl):=a0'.c 2 _ rfl
 go_enter Tryz.func14,Tryz.ntmps14
 go_wp2_with fail
 refine wp_loop_rounds 2 ?_
 rw[rounds_succ]
 go_upto_region 5 with fail
 have a2:=GB.new 70 W2 #[.slice (some ⟨gi,0,none⟩) 2 ci,.slice (some ⟨gp,0,none⟩) 2 cp,.slice none 0 0]
 have b2:=bl W2 #[.slice (some ⟨gi,0,none⟩) 2 ci,.slice (some ⟨gp,0,none⟩) 2 cp,.slice none 0 0] 70
 have z2:=hz W2 #[.slice (some ⟨gi,0,none⟩) 2 ci,.slice (some ⟨gp,0,none⟩) 2 cp,.slice none 0 0] 70
 obtain⟨W3,e3⟩:∃ z,W2.alloc (.cells #[.slice (some ⟨gi,0,none⟩) 2 ci,.slice (some ⟨gp,0,none⟩) 2 cp,.slice none 0 0] 70)=z:=⟨_,rfl⟩
 rw[e3] at a2 b2 z2 ⊢
 rw[z1,z0] at a2
 rw[z0] at a1
 have b13:=b1.trans (b2.mono b1.size)
 have b03:=b0.trans (b13.mono b0.size)
 have k0:=a0.later b13
 have r3:=range_later h3 b03
 have G1:=hd0 (a1.later b2)
 have HR:=hd0 (And.intro (range_later h1 b03) (range_later h2 b03))
 have HB:=hd0 b03
 have H12:=hd0 (And.intro h1 h2)
 have HZ:=hd0 (show W3.heap.size=w.heap.size+3 by omega)
 have G2:=hd0 a2
 have SX:Hid (∀ W,Below (w.heap.size+3) W3 W→W.cell? ⟨w.heap.size,2,none⟩=some (.slice (some ⟨gl,0,none⟩) 1 cl)∧W.rangeAt gl 0 [.int .i64 0,.int .u8 1,.int .u32 5]∧W.rangeAt gl 3 [.int .i64 1,.int .u8 1,.int .u32 5]):=hd0 fun W hW=>by
  have hz3:w.heap.size+3=W3.heap.size:=by omega
  rw[hz3] at hW
  have r:=range_later r3 hW
  refine⟨(k0.later hW).c 2 _ rfl,fun j v hv=>?_,fun j v hv=>?_⟩
  all_goals
   have hj:j<3:=by have:=(List.getElem?_eq_some_iff.1 hv).1;simpa using this
  ·have:=r j v (by rcases(show j=0∨j=1∨j=2 by omega) with rfl|rfl|rfl <;> exact hv)
   exact this
  ·have:=r (j+3) v (by rcases(show j=0∨j=1∨j=2 by omega) with rfl|rfl|rfl <;> exact hv)
   rwa [Nat.zero_add,Nat.add_comm] at this
 have BD:Below (w.heap.size+3) W3 W3.drew:=(Below.refl _ _).drew
 have IE:Hid ((Tryz.prog.info? 110).map (·.size)=some 3):=hd0 (by kernel_rfl)
 have HL3:=hd0 (show(w.heap.size+3)≤W3.heap.size by omega)
 have hs3:W3.heap.size=w.heap.size+3:=by omega
 have B1:Hid (∀ X,Below (w.heap.size+3) W3 (W3.alloc (.cells X 110)).drew):=hd0 fun X=>((Below.refl _ _).alloc HL3.out _).drew
 have B2:Hid (∀ X Y,Below (w.heap.size+3) W3 ((W3.alloc (.cells X 110)).alloc (.cells Y 110)).drew):=hd0 fun X Y=>(((Below.refl _ _).alloc HL3.out _).alloc (by simp;omega) _).drew
 have GA:Hid (∀ X Y,GB 110 ((W3.alloc (.cells X 110)).alloc (.cells Y 110)).drew W3.heap.size X):=hd0 fun X Y=>((GB.new 110 W3 X).later (bAo _)).drew
 have GC:Hid (∀ X Y,GB 110 ((W3.alloc (.cells X 110)).alloc (.cells Y 110)).drew (W3.heap.size+1) Y):=hd0 fun X Y=>by
  have:=(GB.new 110 (W3.alloc (.cells X 110)) Y).drew
  rwa [show(W3.alloc (.cells X 110)).heap.size=W3.heap.size+1 by simp] at this
 clear hs3 a0 b0 z0 e1 a1 b1 z1 e2 a2 b2 z2 e3 a0' d0 d1 d2 b13 b03 k0 r3 h1 h2 h3 hz bl
 go_cut [5,6] (fun s5 s6 wx=>∃ x y:Nat,s5=.pointer (some ⟨x,0,none⟩)∧s6=.pointer (some ⟨y,0,none⟩)∧Hid (GB 110 wx x #[.int .i64 0,.int .u8 1,.int .u32 5]∧GB 110 wx y #[.int .i64 1,.int .u8 1,.int .u32 5]∧Below (w.heap.size+3) W3 wx))
 case first =>
  refine wp_region_held_drew (S:=fun W=>W.cell? ⟨w.heap.size,2,none⟩=some (.slice (some ⟨gl,0,none⟩) 1 cl)∧W.rangeAt gl 0 [.int .i64 0,.int .u8 1,.int .u32 5]∧W.rangeAt gl 3 [.int .i64 1,.int .u8 1,.int .u32 5]) (by kernel_rfl) (SX.out _ BD) (fun hHeld=>?_)
  refine tkH 0 ?_ ?h ?_
  case h=>(intro w hSw;go_simp;try with_reducible rfl)
  try simp only[Act.put,zz]
  refine tkH 1 ?_ ?h ?_
  case h=>(intro w hSw;go_simp;try with_reducible rfl)
  try simp only[Act.put,zz]
  refine tkH 2 ?_ ?h ?_
  case h=>(intro w hSw;go_simp;try with_reducible rfl)
  try simp only[Act.put,zz]
  refine tkH 3 ?_ ?h ?_
  case h=>(intro w hSw;go_simp;try with_reducible rfl)
  try simp only[Act.put,zz]
  refine tkH 4 ?_ ?h ?_
  case h=>(intro w hSw;go_simp;try with_reducible rfl)
  try simp only[Act.put,zz]
  refine wpAnyH_take (i:=5) (v:=.agg #[.int .i64 0,.int .u8 1,.int .u32 5]) rfl (by kernel_rfl) (by kernel_rfl) (by kernel_rfl) (fun _ _ _ h=>h) (yieldsIf_load_mid (by rfl) 110 (.tmp 23) rfl gl 0 rfl [.int .i64 0,.int .u8 1,.int .u32 5] _ (fun w h=>h.2.1) Tryz.underlying110 rfl IE.out) (by assumption) ?_
  try simp only[Act.put,zz]
  refine tkH 6 ?_ ?h ?_
  case h=>(intro w hSw;go_simp;try with_reducible rfl)
  try simp only[Act.put,zz]
  refine tkH 7 ?_ ?h ?_
  case h=>(intro w hSw;go_simp;try with_reducible rfl)
  try simp only[Act.put,zz]
  refine tkH 8 ?_ ?h ?_
  case h=>(intro w hSw;go_simp;try with_reducible rfl)
  try simp only[Act.put,zz]
  refine tkH 9 ?_ ?h ?_
  case h=>(intro w hSw;go_simp;try with_reducible rfl)
  try simp only[Act.put,zz]
  refine tkH 10 ?_ ?h ?_
  case h=>(intro w hSw;go_simp;try with_reducible rfl)
  try simp only[Act.put,zz]
  refine wpAnyH_take (i:=11) (v:=.agg #[.int .i64 1,.int .u8 1,.int .u32 5]) rfl (by kernel_rfl) (by kernel_rfl) (by kernel_rfl) (fun _ _ _ h=>h) (yieldsIf_load_mid (by rfl) 110 (.tmp 29) rfl gl 3 rfl [.int .i64 1,.int .u8 1,.int .u32 5] _ (fun w h=>h.2.2) Tryz.underlying110 rfl IE.out) (by assumption) ?_
  try simp only[Act.put,zz]
  refine wpAnyH_ready (rs:=[12,13]) (by kernel_rfl) (by simp) (AllReadyH.cons rfl (fun K hK=>?_) (AllReadyH.cons rfl (fun K hK=>?_) AllReadyH.nil))
  ·(go_simp;refine hK.out _ _ (SX.out _ (B1.out _)) (fun hHeld=>?_);clear hK K;try simp only[Act.put,zz])
   refine rdH 13 fun K hK=>?_
   (go_simp;refine hK.out _ _ (SX.out _ (B2.out _ _)) (fun hHeld=>?_);clear hK K;try simp only[Act.put,zz])
   refine rdH 14 fun K hK=>?_
   (go_simp;refine hK.out _ _ (SX.out _ (B2.out _ _)) (fun hHeld=>?_);clear hK K;try simp only[Act.put,zz])
   refine rdH 15 fun K hK=>?_
   (go_simp;refine hK.out _ _ (SX.out _ (B2.out _ _)) (fun hHeld=>?_);clear hK K;try simp only[Act.put,zz])
   refine wpAnyH_done (by kernel_rfl) ?_ _
   go_wp2_with fail
   go_meet
   exact⟨_,_,rfl,rfl,hd0 ⟨GA.out _ _,GC.out _ _,B2.out _ _⟩⟩
  ·(go_simp;refine hK.out _ _ (SX.out _ (B1.out _)) (fun hHeld=>?_);clear hK K;try simp only[Act.put,zz])
   refine rdH 12 fun K hK=>?_
   (go_simp;refine hK.out _ _ (SX.out _ (B2.out _ _)) (fun hHeld=>?_);clear hK K;try simp only[Act.put,zz])
   refine rdH 14 fun K hK=>?_
   (go_simp;refine hK.out _ _ (SX.out _ (B2.out _ _)) (fun hHeld=>?_);clear hK K;try simp only[Act.put,zz])
   refine rdH 15 fun K hK=>?_
   (go_simp;refine hK.out _ _ (SX.out _ (B2.out _ _)) (fun hHeld=>?_);clear hK K;try simp only[Act.put,zz])
   refine wpAnyH_done (by kernel_rfl) ?_ _
   go_wp2_with fail
   go_meet
   exact⟨_,_,rfl,rfl,hd0 ⟨GC.out _ _,GA.out _ _,B2.out _ _⟩⟩
 case rest =>
  obtain⟨x,y,rfl,rfl,hcut⟩:=hcut
  have gp2:=G2.out.below (B:=w.heap.size+3) (by omega) hcut.out.2.2
  have p2:=gp2.c 2 _ rfl
  have x0:wc.cell? ⟨x,0,none⟩=some (.int .i64 0):=hcut.out.1.c 0 _ rfl
  have y0:wc.cell? ⟨y,0,none⟩=some (.int .i64 1):=hcut.out.2.1.c 0 _ rfl
  have x1:wc.cell? ⟨x,1,none⟩=some (.int .u8 1):=hcut.out.1.c 1 _ rfl
  have y1:wc.cell? ⟨y,1,none⟩=some (.int .u8 1):=hcut.out.2.1.c 1 _ rfl
  have x2:wc.cell? ⟨x,2,none⟩=some (.int .u32 5):=hcut.out.1.c 2 _ rfl
  have y2:wc.cell? ⟨y,2,none⟩=some (.int .u32 5):=hcut.out.2.1.c 2 _ rfl
  have HE:Hid (Ow 6 lnC 104 (wc.alloc (.cells #[.int .i64 0,.int .u8 1,.int .u32 5,.int .i64 1,.int .u8 1,.int .u32 5] 104)) 0 (.slice (some ⟨wc.heap.size,0,none⟩) 1 1) [()]):=hd0 (Ow.lit (E:=104) lnC_len wc 0 () #[.int .i64 0,.int .u8 1,.int .u32 5,.int .i64 1,.int .u8 1,.int .u32 5] rfl (Nat.zero_le _))
  have hba:Below wc.heap.size wc (wc.alloc (.cells #[.int .i64 0,.int .u8 1,.int .u32 5,.int .i64 1,.int .u8 1,.int .u32 5] 104)):=bAo _
  have GP2:=hd0 gp2
  have HBA:=hd0 hba
  have EC:=hd0 (SX.out _ hcut.out.2.2).1
  clear gp2 hba
  go_upto_region 7 with(at_builtin;refine wpList_append_rw lnC_len lnC_one 104 68 _ 32 Tryz.underlying68 info_ends rfl (by decide) (by decide) rfl (.tmp 32) (.tmp 48) rfl wc.heap.size (.slice none 0 0) [] rfl (Ow.none _ _) _ [()] rfl (HE.out.rw lnC_len) (by simp) (by simp) ?_;intro v1 w1 ho1 hb1;obtain⟨g1,cap1,t1,rfl,hg1,hc1,-⟩:=ho1.ne (by simp);have gq:=GP2.out.later (HBA.out.trans hb1);have q2:=gq.c 2 _ rfl;have qf:=gq.fr 2;have ec:=((HBA.out.trans hb1).cell (World.block_lt_of_cell? _ _ EC.out)).trans EC.out)
  have gf:=gq.set 2 (.slice (some ⟨g1,0,none⟩) 1 cap1)
  have hbf:Below (w.heap.size+2) w1 (w1.setCell ⟨w.heap.size+1+1,2,none⟩ (.slice (some ⟨g1,0,none⟩) 1 cap1)):=below_set (Below.refl _ _) (Nat.le_refl _) _
  have hb1':=HBA.out.trans hb1
  have hz3:w.heap.size+3≤wc.heap.size:=by have:=hcut.out.2.2.size;have:=HL3.out;omega
  have rl1:w1.rangeAt g1 0 (lnC ()):=fun j v hv=>by
   have hj:j<6:=by have:=(List.getElem?_eq_some_iff.1 hv).1;simpa [lnC] using this
   have h2:w1.ownsRow wc.heap.size 104 6 (.slice (some ⟨g1,0,none⟩) 1 cap1) 1 ([()].flatMap lnC):=ho1
   have:=World.ownsRow.cellAt h2 j (by omega)
   rw[Nat.zero_add,this];exact hv
  have rlf:(w1.setCell ⟨w.heap.size+1+1,2,none⟩ (.slice (some ⟨g1,0,none⟩) 1 cap1)).rangeAt g1 0 (lnC ()):=range_fr (D:=fun k=>k=w.heap.size+1+1) rl1 (Fr.of_only (Only.set _ _ _ _) rfl) (by omega)
  have bf:=HB.out.trans ((hcut.out.2.2.mono (by omega)).trans ((hb1'.mono (by omega)).trans (hbf.mono (by omega))))
  have ef:(w1.setCell ⟨w.heap.size+1+1,2,none⟩ (.slice (some ⟨g1,0,none⟩) 1 cap1)).cell? ⟨w.heap.size,2,none⟩=some (.slice (some ⟨gl,0,none⟩) 1 cl):=(hbf.cell (p:=⟨w.heap.size,2,none⟩) (by show w.heap.size<w.heap.size+2;omega)).trans ec
  have h1f:=((G1.out.below (B:=w.heap.size+3) (by omega) hcut.out.2.2).later hb1').below (B:=w.heap.size+2) (by omega) hbf
  obtain⟨wf,hwf⟩:∃ z,w1.setCell ⟨w.heap.size+1+1,2,none⟩ (.slice (some ⟨g1,0,none⟩) 1 cap1)=z:=⟨_,rfl⟩
  rw[hwf] at gf rlf bf ef h1f ⊢
  have rp:wf.rangeAt (w.heap.size+1+1) 0 [.slice (some ⟨gi,0,none⟩) 2 ci,.slice (some ⟨gp,0,none⟩) 2 cp,.slice (some ⟨g1,0,none⟩) 1 cap1]:=gf.range
  have TH:Hid (wf.there (w.heap.size+1) 0 (#[.slice (some ⟨gi,0,none⟩) 2 ci,.slice (some ⟨gp,0,none⟩) 2 cp,.slice (some ⟨g1,0,none⟩) 1 cap1]:Array Value).size):=hd0 (h1f.there (n:=3) (Nat.le_refl _))
  have IP:Hid ((Tryz.prog.info? 70).map (·.size)=some (#[.slice (some ⟨gi,0,none⟩) 2 ci,.slice (some ⟨gp,0,none⟩) 2 cp,.slice (some ⟨g1,0,none⟩) 1 cap1]:Array Value).size):=hd0 (show _=some 3 by kernel_rfl)
  have IQ:Hid ((Tryz.prog.info? 70).map (·.size)=some [Value.slice (some ⟨gi,0,none⟩) 2 ci,.slice (some ⟨gp,0,none⟩) 2 cp,.slice (some ⟨g1,0,none⟩) 1 cap1].length):=hd0 (show _=some 3 by kernel_rfl)
  have OP:Hid ((#[.slice (some ⟨gi,0,none⟩) 2 ci,.slice (some ⟨gp,0,none⟩) 2 cp,.slice (some ⟨g1,0,none⟩) 1 cap1]:Array Value).all (·.oneCell')=true):=hd0 (by simp[Value.oneCell'])
  have GS:=hd0 (h1f.store (A:=#[.slice (some ⟨gi,0,none⟩) 2 ci,.slice (some ⟨gp,0,none⟩) 2 cp,.slice (some ⟨g1,0,none⟩) 1 cap1]) rfl OP.out)
  have bz:=hd0 (below_cells (b:=w.heap.size+1) (Nat.le_succ _) [.slice (some ⟨gi,0,none⟩) 2 ci,.slice (some ⟨gp,0,none⟩) 2 cp,.slice (some ⟨g1,0,none⟩) 1 cap1] 0 _ bf)
  have RF:=hd0 (range_fr (D:=fun k=>k=w.heap.size+1) rlf (Fr.of_only (only_cells (w.heap.size+1) [.slice (some ⟨gi,0,none⟩) 2 ci,.slice (some ⟨gp,0,none⟩) 2 cp,.slice (some ⟨g1,0,none⟩) 1 cap1] 0 wf) rfl) (by omega))
  rw[rounds_succ]
  go_wp2_with (first
   |((with_reducible refine wpList_load_mid rfl 70 (.tmp 3) rfl (w.heap.size+1+1) 0 ?hx _ _ rp Tryz.underlying70 ?hu IQ.out ?_);(case hx=>rfl);(case hu=>rfl))
   |((with_reducible refine wpList_store_mid rfl 70 (.tmp 2) (.tmp 51) rfl (w.heap.size+1) 0 #[.slice (some ⟨gi,0,none⟩) 2 ci,.slice (some ⟨gp,0,none⟩) 2 cp,.slice (some ⟨g1,0,none⟩) 1 cap1] ?hx ?hy TH.out IP.out OP.out ?_);(case hx=>rfl);(case hy=>rfl)))
  refine bodyPost_ret (v:=.agg #[.slice (some ⟨gi,0,none⟩) 2 ci,.slice (some ⟨gp,0,none⟩) 2 cp,.slice (some ⟨g1,0,none⟩) 1 cap1]) (res_one (p:=2) (d:=_) rfl rfl Tryz.underlying70 _ _ (w.heap.size+1) _ rfl GS.out (show _=some 3 by kernel_rfl)) rfl ?_
  exact⟨_,rfl,⟨gi,gp,g1,ci,cp,cap1,rfl,range_later H12.out.1 bz.out,range_later H12.out.2 bz.out,RF.out⟩,bz.out⟩
end Go.Proofs.YtghaobakpdninaaGreatDoor
