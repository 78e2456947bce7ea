/- ZR28 -/
import Derived.Test.YtghaobakpdninaaGreatDoorZR27
set_option linter.unusedVariables false
set_option linter.unusedSimpArgs false
set_option maxRecDepth 100000
set_option maxHeartbeats 16000000
namespace Go.Proofs.YtghaobakpdninaaGreatDoor
open Go.RowKit
open Go.RowKit Go.Conc
section
variable (l q0 c0 q1 c1:Nat) (B0 B1:List Value)
theorem lsend_c0 (sb lb:Nat)(d:List UInt8)(hd:d.length≤1522)(hB:B0.length<64)(w:World)(h:LK w l q0 c0 q1 c1 true B0 B1)(hs:w.cell? ⟨sb,0,none⟩=some (.string (bs d)))(hl:w.cell? ⟨lb,0,none⟩=some (.pointer (some ⟨l,0,none⟩))):Calls Tryz.prog 139 #[.pointer (some ⟨l,1,none⟩),.pointer (some ⟨sb,0,none⟩),.pointer (some ⟨lb,0,none⟩)] w fun en w'=>∃ v,en=.returned v∧(v=.int .i64 0∧LK w' l q0 c0 q1 c1 true (B0++[.string (bs d)]) B1∧Fr (fun k=>k=c0) w w'):=by
 have dl:decide ((1522:Int)<((bs d).size:Int))=false:=decide_eq_false (by rw[bs_size];omega)
 have u0:w.cell? ⟨l,0,none⟩=some (.bool true):=h.gl.c 0 _ rfl
 obtain⟨s,r,hc⟩:=h.h0
 obtain⟨s,r,hc⟩:=h.h0
 have PU:Hid (Calls Tryz.prog 140 #[.pointer (some ⟨q0,0,none⟩),.string (bs d)] w.drew fun en w'=>en=.returned (.int .i64 0)∧LK w' l q0 c0 q1 c1 true (B0++[.string (bs d)]) B1∧Fr (fun k=>k=c0) w w'):=hd0 ((qpush_room q0 c0 B0.toArray s r (.string (bs d)) w.drew (h.g0.c 0 _ rfl) hc (by simpa using hB)).mono (by
  rintro en w' ⟨rfl,rfl⟩
  rw[show B0.toArray.push (Value.string (bs d))=(B0++[Value.string (bs d)]).toArray by simp]
  exact⟨rfl,(h.later (Below.refl _ _).drew).set0 _ _ _,(Fr.refl _ _).drew.trans (fr_setChan (D:=fun k=>k=c0) _ _ rfl _ _ _ _ _ _)⟩))
 have s0:w.drew.cell? ⟨l,1,none⟩=some (.pointer (some ⟨q0,0,none⟩))∧w.drew.cell? ⟨sb,0,none⟩=some (.string (bs d)):=⟨h.gl.c 1 _ rfl,hs⟩
 clear h hc hd hB
 go_enter Tryz.func139,Tryz.ntmps139
 go_upto_region 5 with fail
 refine wp_region_held_drew (S:=fun W=>True) (by kernel_rfl) trivial (fun hHeld=>?_)
 refine tkH 0 ?_ ?h ?_
 case h=>(intro w hSw;go_simp;try with_reducible rfl)
 try simp only[Act.put,zz]
 refine tkH 1 ?_ ?h ?_
 case h=>(intro w hSw;go_simp;try with_reducible rfl)
 try simp only[Act.put,zz]
 refine tkH 2 ?_ ?h ?_
 case h=>(intro w hSw;go_simp;try with_reducible rfl)
 try simp only[Act.put,zz]
 obtain⟨s1,s2⟩:=s0
 refine wpAnyH_ready (rs:=[3,4]) (by kernel_rfl) (by simp) (AllReadyH.cons rfl (fun K hK=>?_) (AllReadyH.cons rfl (fun K hK=>?_) AllReadyH.nil))
 ·(go_simp;refine hK.out _ _ trivial (fun hHeld=>?_);clear hK K;try simp only[Act.put,zz])
  refine rdH 4 fun K hK=>?_
  (go_simp;refine hK.out _ _ trivial (fun hHeld=>?_);clear hK K;try simp only[Act.put,zz])
  refine rdH 5 fun K hK=>?_
  (go_simp;go_at_call 140;(with_reducible refine PU.out.mono ?_);rintro en w1 ⟨rfl,hk,hf⟩;refine hK.out _ _ trivial (fun hHeld=>?_);clear hK K;try simp only[Act.put,zz])
  refine tkH 6 ?_ ?h ?_
  case h=>(intro w hSw;go_simp;try with_reducible rfl)
  try simp only[Act.put,zz]
  refine wpAnyH_done (by kernel_rfl) ?_ _
  go_wp2_with fail
  go_ret
  exact⟨_,rfl,rfl,hk,hf⟩
 ·(go_simp;refine hK.out _ _ trivial (fun hHeld=>?_);clear hK K;try simp only[Act.put,zz])
  refine rdH 3 fun K hK=>?_
  (go_simp;refine hK.out _ _ trivial (fun hHeld=>?_);clear hK K;try simp only[Act.put,zz])
  refine rdH 5 fun K hK=>?_
  (go_simp;go_at_call 140;(with_reducible refine PU.out.mono ?_);rintro en w1 ⟨rfl,hk,hf⟩;refine hK.out _ _ trivial (fun hHeld=>?_);clear hK K;try simp only[Act.put,zz])
  refine tkH 6 ?_ ?h ?_
  case h=>(intro w hSw;go_simp;try with_reducible rfl)
  try simp only[Act.put,zz]
  refine wpAnyH_done (by kernel_rfl) ?_ _
  go_wp2_with fail
  go_ret
  exact⟨_,rfl,rfl,hk,hf⟩
theorem lsend0 (d:List UInt8)(hd:d.length≤1522)(hB:B0.length<64)(w:World)(h:LK w l q0 c0 q1 c1 true B0 B1):Calls Tryz.prog 97 #[.pointer (some ⟨l,0,none⟩),.int .i64 0,.string (bs d)] w fun en w'=>en=.returned (.int .i64 0)∧LK w' l q0 c0 q1 c1 true (B0++[.string (bs d)]) B1∧Fr (fun k=>k=c0) w w':=by
 have b1:=(Below.refl w.heap.size w).alloc (Nat.le_refl _) (.cells #[.pointer (some ⟨l,0,none⟩)] 100)
 have g1:=GB.new 100 w #[.pointer (some ⟨l,0,none⟩)]
 obtain⟨wa,hwa⟩:∃ z,w.alloc (.cells #[.pointer (some ⟨l,0,none⟩)] 100)=z:=⟨_,rfl⟩
 rw[hwa] at b1 g1
 have b2:=b1.alloc b1.size (.cells #[.string (bs d)] 9)
 have g2:=g1.later (bAo (.cells #[.string (bs d)] 9))
 have g3:=GB.new 9 wa #[.string (bs d)]
 obtain⟨wb,hwb⟩:∃ z,wa.alloc (.cells #[.string (bs d)] 9)=z:=⟨_,rfl⟩
 rw[hwb] at b2 g2 g3
 have l0:wb.cell? ⟨w.heap.size,0,none⟩=some (.pointer (some ⟨l,0,none⟩)):=g2.c 0 _ rfl
 have WI:=hd0 (lwith_Send_10 l (.pointer (some ⟨wa.heap.size,0,none⟩)) (.pointer (some ⟨w.heap.size,0,none⟩)) _ wb (lsend_c0 l q0 c0 q1 c1 B0 B1 wa.heap.size w.heap.size d hd hB wb (h.later b2) (g3.c 0 _ rfl) l0))
 have HF:Hid (Fr (fun k=>k=c0) w wb):=hd0 (Fr.of_below b2)
 clear h b1 g1 b2 g2 g3 hd hB
 go_enter Tryz.func97,Tryz.ntmps97
 go_wp2_with fail
 with_reducible refine WI.out.mono ?_
 rintro en w1 ⟨v,rfl,rfl,hk,hf⟩
 go_wp2_with fail
 go_ret
 exact⟨rfl,hk,HF.out.trans hf⟩
theorem lsend_c1 (sb lb:Nat)(d:List UInt8)(hd:d.length≤1522)(hB:B1.length<64)(w:World)(h:LK w l q0 c0 q1 c1 true B0 B1)(hs:w.cell? ⟨sb,0,none⟩=some (.string (bs d)))(hl:w.cell? ⟨lb,0,none⟩=some (.pointer (some ⟨l,0,none⟩))):Calls Tryz.prog 139 #[.pointer (some ⟨l,4,none⟩),.pointer (some ⟨sb,0,none⟩),.pointer (some ⟨lb,0,none⟩)] w fun en w'=>∃ v,en=.returned v∧(v=.int .i64 0∧LK w' l q0 c0 q1 c1 true B0 (B1++[.string (bs d)])∧Fr (fun k=>k=c1) w w'):=by
 have dl:decide ((1522:Int)<((bs d).size:Int))=false:=decide_eq_false (by rw[bs_size];omega)
 have u0:w.cell? ⟨l,0,none⟩=some (.bool true):=h.gl.c 0 _ rfl
 obtain⟨s,r,hc⟩:=h.h0
 obtain⟨s,r,hc⟩:=h.h1
 have PU:Hid (Calls Tryz.prog 140 #[.pointer (some ⟨q1,0,none⟩),.string (bs d)] w.drew fun en w'=>en=.returned (.int .i64 0)∧LK w' l q0 c0 q1 c1 true B0 (B1++[.string (bs d)])∧Fr (fun k=>k=c1) w w'):=hd0 ((qpush_room q1 c1 B1.toArray s r (.string (bs d)) w.drew (h.g1.c 0 _ rfl) hc (by simpa using hB)).mono (by
  rintro en w' ⟨rfl,rfl⟩
  rw[show B1.toArray.push (Value.string (bs d))=(B1++[Value.string (bs d)]).toArray by simp]
  exact⟨rfl,(h.later (Below.refl _ _).drew).set1 _ _ _,(Fr.refl _ _).drew.trans (fr_setChan (D:=fun k=>k=c1) _ _ rfl _ _ _ _ _ _)⟩))
 have s0:w.drew.cell? ⟨l,4,none⟩=some (.pointer (some ⟨q1,0,none⟩))∧w.drew.cell? ⟨sb,0,none⟩=some (.string (bs d)):=⟨h.gl.c 4 _ rfl,hs⟩
 clear h hc hd hB
 go_enter Tryz.func139,Tryz.ntmps139
 go_upto_region 5 with fail
 refine wp_region_held_drew (S:=fun W=>True) (by kernel_rfl) trivial (fun hHeld=>?_)
 refine tkH 0 ?_ ?h ?_
 case h=>(intro w hSw;go_simp;try with_reducible rfl)
 try simp only[Act.put,zz]
 refine tkH 1 ?_ ?h ?_
 case h=>(intro w hSw;go_simp;try with_reducible rfl)
 try simp only[Act.put,zz]
 refine tkH 2 ?_ ?h ?_
 case h=>(intro w hSw;go_simp;try with_reducible rfl)
 try simp only[Act.put,zz]
 obtain⟨s1,s2⟩:=s0
 refine wpAnyH_ready (rs:=[3,4]) (by kernel_rfl) (by simp) (AllReadyH.cons rfl (fun K hK=>?_) (AllReadyH.cons rfl (fun K hK=>?_) AllReadyH.nil))
 ·(go_simp;refine hK.out _ _ trivial (fun hHeld=>?_);clear hK K;try simp only[Act.put,zz])
  refine rdH 4 fun K hK=>?_
  (go_simp;refine hK.out _ _ trivial (fun hHeld=>?_);clear hK K;try simp only[Act.put,zz])
  refine rdH 5 fun K hK=>?_
  (go_simp;go_at_call 140;(with_reducible refine PU.out.mono ?_);rintro en w1 ⟨rfl,hk,hf⟩;refine hK.out _ _ trivial (fun hHeld=>?_);clear hK K;try simp only[Act.put,zz])
  refine tkH 6 ?_ ?h ?_
  case h=>(intro w hSw;go_simp;try with_reducible rfl)
  try simp only[Act.put,zz]
  refine wpAnyH_done (by kernel_rfl) ?_ _
  go_wp2_with fail
  go_ret
  exact⟨_,rfl,rfl,hk,hf⟩
 ·(go_simp;refine hK.out _ _ trivial (fun hHeld=>?_);clear hK K;try simp only[Act.put,zz])
  refine rdH 3 fun K hK=>?_
  (go_simp;refine hK.out _ _ trivial (fun hHeld=>?_);clear hK K;try simp only[Act.put,zz])
  refine rdH 5 fun K hK=>?_
  (go_simp;go_at_call 140;(with_reducible refine PU.out.mono ?_);rintro en w1 ⟨rfl,hk,hf⟩;refine hK.out _ _ trivial (fun hHeld=>?_);clear hK K;try simp only[Act.put,zz])
  refine tkH 6 ?_ ?h ?_
  case h=>(intro w hSw;go_simp;try with_reducible rfl)
  try simp only[Act.put,zz]
  refine wpAnyH_done (by kernel_rfl) ?_ _
  go_wp2_with fail
  go_ret
  exact⟨_,rfl,rfl,hk,hf⟩
theorem lsend1 (d:List UInt8)(hd:d.length≤1522)(hB:B1.length<64)(w:World)(h:LK w l q0 c0 q1 c1 true B0 B1):Calls Tryz.prog 97 #[.pointer (some ⟨l,0,none⟩),.int .i64 1,.string (bs d)] w fun en w'=>en=.returned (.int .i64 0)∧LK w' l q0 c0 q1 c1 true B0 (B1++[.string (bs d)])∧Fr (fun k=>k=c1) w w':=by
 have b1:=(Below.refl w.heap.size w).alloc (Nat.le_refl _) (.cells #[.pointer (some ⟨l,0,none⟩)] 100)
 have g1:=GB.new 100 w #[.pointer (some ⟨l,0,none⟩)]
 obtain⟨wa,hwa⟩:∃ z,w.alloc (.cells #[.pointer (some ⟨l,0,none⟩)] 100)=z:=⟨_,rfl⟩
 rw[hwa] at b1 g1
 have b2:=b1.alloc b1.size (.cells #[.string (bs d)] 9)
 have g2:=g1.later (bAo (.cells #[.string (bs d)] 9))
 have g3:=GB.new 9 wa #[.string (bs d)]
 obtain⟨wb,hwb⟩:∃ z,wa.alloc (.cells #[.string (bs d)] 9)=z:=⟨_,rfl⟩
 rw[hwb] at b2 g2 g3
 have l0:wb.cell? ⟨w.heap.size,0,none⟩=some (.pointer (some ⟨l,0,none⟩)):=g2.c 0 _ rfl
 have WI:=hd0 (lwith_Send_11 l (.pointer (some ⟨wa.heap.size,0,none⟩)) (.pointer (some ⟨w.heap.size,0,none⟩)) _ wb (lsend_c1 l q0 c0 q1 c1 B0 B1 wa.heap.size w.heap.size d hd hB wb (h.later b2) (g3.c 0 _ rfl) l0))
 have HF:Hid (Fr (fun k=>k=c1) w wb):=hd0 (Fr.of_below b2)
 clear h b1 g1 b2 g2 g3 hd hB
 go_enter Tryz.func97,Tryz.ntmps97
 go_wp2_with fail
 with_reducible refine WI.out.mono ?_
 rintro en w1 ⟨v,rfl,rfl,hk,hf⟩
 go_wp2_with fail
 go_ret
 exact⟨rfl,hk,HF.out.trans hf⟩
theorem lcome_c0 (a:Nat)(x y:Value)(hx:∃ d,x=.string d)(w:World)(h:LK w l q0 c0 q1 c1 true (x::B0) B1)(ha:GB 9 w a #[y])(hn:a≠l∧a≠q0∧a≠q1):Calls Tryz.prog 141 #[.pointer (some ⟨l,1,none⟩),.pointer (some ⟨a,0,none⟩)] w fun en w'=>∃ v,en=.returned v∧(v=.int .i64 0∧LK w' l q0 c0 q1 c1 true B0 B1∧GB 9 w' a #[x]∧Fr (fun k=>k=c0∨k=a) w w'):=by
 obtain⟨d,rfl⟩:=hx
 obtain⟨s0,r0,hc0⟩:=h.h0
 obtain⟨s1,r1,hc1⟩:=h.h1
 have ne0:=chan_ne ha hc0
 have ne1:=chan_ne ha hc1
 obtain⟨s,r,hc⟩:=h.h0
 have PO:Hid (Calls Tryz.prog 100 #[.pointer (some ⟨q0,0,none⟩)] w fun en w'=>en=.returned (.tuple #[.string d,.int .i64 0])∧LK w' l q0 c0 q1 c1 true B0 B1∧GB 9 w' a #[y]∧Fr (fun k=>k=c0∨k=a) w w'):=hd0 ((qpop_some q0 c0 (.string d) _ s r w (h.g0.c 0 _ rfl) hc).mono (by
  rintro en w' ⟨rfl,rfl⟩
  exact⟨rfl,h.set0 _ _ _,(setChan_ne _ _ _ _ _ _ _ _ _ (chan_ne ha hc).symm).trans ha,fr_setChan _ _ (Or.inl rfl) _ _ _ _ _ _⟩))
 have s1:w.cell? ⟨l,1,none⟩=some (.pointer (some ⟨q0,0,none⟩)):=h.gl.c 1 _ rfl
 have HN:=hd0 (And.intro hn (And.intro ne0 ne1))
 clear h hc hc0 hc1 hn ne0 ne1 ha
 go_enter Tryz.func141,Tryz.ntmps141
 go_wp2_with fail
 with_reducible refine PO.out.mono ?_
 rintro en w1 ⟨rfl,hk,hg,hf⟩
 have k0:w1.cell? ⟨a,0,none⟩=some y:=hg.c 0 _ rfl
 have f0:=hg.fr 0
 go_wp2_with fail
 go_ret
 refine⟨_,rfl,rfl,hk.blk fun k hk2 hkk=>?_,hg.set 0 _,hf.trans (Fr.of_only (Only.set _ _ _ _) (Or.inr rfl))⟩
 rw[Below.heap_setCell _ _ _ _ (by intro e;simp at e;have:=HN.out;rcases hkk with rfl|rfl|rfl|rfl|rfl <;> omega)]
theorem lcome0 (x:Value)(hx:∃ d,x=.string d)(w:World)(h:LK w l q0 c0 q1 c1 true (x::B0) B1):Calls Tryz.prog 98 #[.pointer (some ⟨l,0,none⟩),.int .i64 0] w fun en w'=>en=.returned (.tuple #[x,.int .i64 0])∧LK w' l q0 c0 q1 c1 true B0 B1∧Fr (fun k=>k=c0) w w':=by
 have b1:=(Below.refl w.heap.size w).alloc (Nat.le_refl _) (.cells #[.string { data:=#[] }] 9)
 have g1:=GB.new 9 w #[.string { data:=#[] }]
 obtain⟨wa,hwa⟩:∃ z,w.alloc (.cells #[.string { data:=#[] }] 9)=z:=⟨_,rfl⟩
 rw[hwa] at b1 g1
 have hn:w.heap.size≠l∧w.heap.size≠q0∧w.heap.size≠q1:=by have:=h.gl.lt;have:=h.g0.lt;have:=h.g1.lt;omega
 have WI:=hd0 (lwith_Come_10 l (.pointer (some ⟨w.heap.size,0,none⟩)) _ wa (lcome_c0 l q0 c0 q1 c1 B0 B1 w.heap.size x _ hx wa (h.later b1) g1 hn))
 have HF:Hid (Fr (fun k=>k=c0) w wa):=hd0 (Fr.of_below b1)
 obtain⟨d,rfl⟩:=hx
 clear h b1 g1 hn
 go_enter Tryz.func98,Tryz.ntmps98
 go_wp2_with fail
 with_reducible refine WI.out.mono ?_
 rintro en w1 ⟨v,rfl,rfl,hk,hg,hf⟩
 have k0:w1.cell? ⟨w.heap.size,0,none⟩=some (.string d):=hg.c 0 _ rfl
 have f0:=hg.fr 0
 have s0:=setCell_id k0
 have hff:Fr (fun k=>k=c0) w w1:=⟨hf.os.trans HF.out.os,hf.tape.trans HF.out.tape,hf.output.trans HF.out.output,Nat.le_trans HF.out.size hf.size,fun k hk1 hk2=>(hf.block k (Nat.lt_of_lt_of_le hk1 HF.out.size) (by rintro (h|h);exact hk2 h;omega)).trans (HF.out.block k hk1 hk2)⟩
 go_wp2_with fail
 exact bodyPost_ret (v:=.tuple #[.string d,.int .i64 0]) (by simp[results,Tryz.results98,Tryz.f98,go_sem,k0,asAddr]) rfl ⟨rfl,hk,hff⟩
theorem lcome_c1 (a:Nat)(x y:Value)(hx:∃ d,x=.string d)(w:World)(h:LK w l q0 c0 q1 c1 true B0 (x::B1))(ha:GB 9 w a #[y])(hn:a≠l∧a≠q0∧a≠q1):Calls Tryz.prog 141 #[.pointer (some ⟨l,4,none⟩),.pointer (some ⟨a,0,none⟩)] w fun en w'=>∃ v,en=.returned v∧(v=.int .i64 0∧LK w' l q0 c0 q1 c1 true B0 B1∧GB 9 w' a #[x]∧Fr (fun k=>k=c1∨k=a) w w'):=by
 obtain⟨d,rfl⟩:=hx
 obtain⟨s0,r0,hc0⟩:=h.h0
 obtain⟨s1,r1,hc1⟩:=h.h1
 have ne0:=chan_ne ha hc0
 have ne1:=chan_ne ha hc1
 obtain⟨s,r,hc⟩:=h.h1
 have PO:Hid (Calls Tryz.prog 100 #[.pointer (some ⟨q1,0,none⟩)] w fun en w'=>en=.returned (.tuple #[.string d,.int .i64 0])∧LK w' l q0 c0 q1 c1 true B0 B1∧GB 9 w' a #[y]∧Fr (fun k=>k=c1∨k=a) w w'):=hd0 ((qpop_some q1 c1 (.string d) _ s r w (h.g1.c 0 _ rfl) hc).mono (by
  rintro en w' ⟨rfl,rfl⟩
  exact⟨rfl,h.set1 _ _ _,(setChan_ne _ _ _ _ _ _ _ _ _ (chan_ne ha hc).symm).trans ha,fr_setChan _ _ (Or.inl rfl) _ _ _ _ _ _⟩))
 have s1:w.cell? ⟨l,4,none⟩=some (.pointer (some ⟨q1,0,none⟩)):=h.gl.c 4 _ rfl
 have HN:=hd0 (And.intro hn (And.intro ne0 ne1))
 clear h hc hc0 hc1 hn ne0 ne1 ha
 go_enter Tryz.func141,Tryz.ntmps141
 go_wp2_with fail
 with_reducible refine PO.out.mono ?_
 rintro en w1 ⟨rfl,hk,hg,hf⟩
 have k0:w1.cell? ⟨a,0,none⟩=some y:=hg.c 0 _ rfl
 have f0:=hg.fr 0
 go_wp2_with fail
 go_ret
 refine⟨_,rfl,rfl,hk.blk fun k hk2 hkk=>?_,hg.set 0 _,hf.trans (Fr.of_only (Only.set _ _ _ _) (Or.inr rfl))⟩
 rw[Below.heap_setCell _ _ _ _ (by intro e;simp at e;have:=HN.out;rcases hkk with rfl|rfl|rfl|rfl|rfl <;> omega)]
theorem lcome1 (x:Value)(hx:∃ d,x=.string d)(w:World)(h:LK w l q0 c0 q1 c1 true B0 (x::B1)):Calls Tryz.prog 98 #[.pointer (some ⟨l,0,none⟩),.int .i64 1] w fun en w'=>en=.returned (.tuple #[x,.int .i64 0])∧LK w' l q0 c0 q1 c1 true B0 B1∧Fr (fun k=>k=c1) w w':=by
 have b1:=(Below.refl w.heap.size w).alloc (Nat.le_refl _) (.cells #[.string { data:=#[] }] 9)
 have g1:=GB.new 9 w #[.string { data:=#[] }]
 obtain⟨wa,hwa⟩:∃ z,w.alloc (.cells #[.string { data:=#[] }] 9)=z:=⟨_,rfl⟩
 rw[hwa] at b1 g1
 have hn:w.heap.size≠l∧w.heap.size≠q0∧w.heap.size≠q1:=by have:=h.gl.lt;have:=h.g0.lt;have:=h.g1.lt;omega
 have WI:=hd0 (lwith_Come_11 l (.pointer (some ⟨w.heap.size,0,none⟩)) _ wa (lcome_c1 l q0 c0 q1 c1 B0 B1 w.heap.size x _ hx wa (h.later b1) g1 hn))
 have HF:Hid (Fr (fun k=>k=c1) w wa):=hd0 (Fr.of_below b1)
 obtain⟨d,rfl⟩:=hx
 clear h b1 g1 hn
 go_enter Tryz.func98,Tryz.ntmps98
 go_wp2_with fail
 with_reducible refine WI.out.mono ?_
 rintro en w1 ⟨v,rfl,rfl,hk,hg,hf⟩
 have k0:w1.cell? ⟨w.heap.size,0,none⟩=some (.string d):=hg.c 0 _ rfl
 have f0:=hg.fr 0
 have s0:=setCell_id k0
 have hff:Fr (fun k=>k=c1) w w1:=⟨hf.os.trans HF.out.os,hf.tape.trans HF.out.tape,hf.output.trans HF.out.output,Nat.le_trans HF.out.size hf.size,fun k hk1 hk2=>(hf.block k (Nat.lt_of_lt_of_le hk1 HF.out.size) (by rintro (h|h);exact hk2 h;omega)).trans (HF.out.block k hk1 hk2)⟩
 go_wp2_with fail
 exact bodyPost_ret (v:=.tuple #[.string d,.int .i64 0]) (by simp[results,Tryz.results98,Tryz.f98,go_sem,k0,asAddr]) rfl ⟨rfl,hk,hff⟩
theorem llen0 (u:Bool)(w:World)(h:LK w l q0 c0 q1 c1 u B0 B1):Calls Tryz.prog 26 #[.pointer (some ⟨l,0,none⟩),.int .i64 0] w fun en w'=>en=.returned (.int .i64 (B0.length:Nat))∧Below w.heap.size w w':=by
 have b1:=(Below.refl w.heap.size w).alloc (Nat.le_refl _) (.cells #[.int .i64 0] 3)
 have g1:=GB.new 3 w #[.int .i64 0]
 obtain⟨wa,hwa⟩:∃ z,w.alloc (.cells #[.int .i64 0] 3)=z:=⟨_,rfl⟩
 rw[hwa] at b1 g1
 have hk:=h.later b1
 obtain⟨s,r,hc⟩:=hk.h0
 have QL:=hd0 (qlen_any q0 c0 B0.toArray s r wa (hk.g0.c 0 _ rfl) hc)
 have s1:wa.cell? ⟨l,1,none⟩=some (.pointer (some ⟨q0,0,none⟩)):=hk.gl.c 1 _ rfl
 have k0:wa.cell? ⟨w.heap.size,0,none⟩=some (.int .i64 0):=g1.c 0 _ rfl
 have f0:=g1.fr 0
 have g2:=g1.set 0 (.int .i64 (B0.length:Nat))
 have HB:=hd0 (below_set b1 (Nat.le_refl w.heap.size) (o:=0) (.int .i64 (B0.length:Nat)))
 have L1:Hid (Calls Tryz.prog 50 #[.pointer (some ⟨l,1,none⟩),.pointer (some ⟨w.heap.size,0,none⟩)] wa fun en w'=>∃ v,en=.returned v∧(v=.int .i64 0∧w'=wa.setCell ⟨w.heap.size,0,none⟩ (.int .i64 (B0.length:Nat)))):=hd0 (by
  clear g2 HB hc hk h b1 g1
  go_enter Tryz.func50,Tryz.ntmps50
  go_wp2_with (go_at_call 51;with_reducible refine QL.out.mono ?_;rintro en w' ⟨rfl,rfl⟩)
  go_ret
  exact⟨_,rfl,rfl,by simp⟩)
 have WI:=hd0 (lwith_Len_10 l (.pointer (some ⟨w.heap.size,0,none⟩)) _ wa L1.out)
 obtain⟨n,hn⟩:∃ n:Nat,B0.length=n:=⟨_,rfl⟩
 rw[hn] at WI g2 HB ⊢
 have k2:(wa.setCell ⟨w.heap.size,0,none⟩ (.int .i64 n)).cell? ⟨w.heap.size,0,none⟩=some (.int .i64 n):=g2.c 0 _ rfl
 have f2:=g2.fr 0
 have sc:=setCell_id k2
 clear h hk hc QL L1 s1 k0 f0 g1 b1
 go_enter Tryz.func26,Tryz.ntmps26
 go_wp2_with fail
 with_reducible refine WI.out.mono ?_
 rintro en w1 ⟨v,rfl,rfl,rfl⟩
 go_wp2_with fail
 exact bodyPost_ret (v:=.int .i64 n) (by simp[results,Tryz.results26,Tryz.f26,go_sem,k2,asAddr]) rfl ⟨rfl,HB.out⟩
theorem llen1 (u:Bool)(w:World)(h:LK w l q0 c0 q1 c1 u B0 B1):Calls Tryz.prog 26 #[.pointer (some ⟨l,0,none⟩),.int .i64 1] w fun en w'=>en=.returned (.int .i64 (B1.length:Nat))∧Below w.heap.size w w':=by
 have b1:=(Below.refl w.heap.size w).alloc (Nat.le_refl _) (.cells #[.int .i64 0] 3)
 have g1:=GB.new 3 w #[.int .i64 0]
 obtain⟨wa,hwa⟩:∃ z,w.alloc (.cells #[.int .i64 0] 3)=z:=⟨_,rfl⟩
 rw[hwa] at b1 g1
 have hk:=h.later b1
 obtain⟨s,r,hc⟩:=hk.h1
 have QL:=hd0 (qlen_any q1 c1 B1.toArray s r wa (hk.g1.c 0 _ rfl) hc)
 have s1:wa.cell? ⟨l,4,none⟩=some (.pointer (some ⟨q1,0,none⟩)):=hk.gl.c 4 _ rfl
 have k0:wa.cell? ⟨w.heap.size,0,none⟩=some (.int .i64 0):=g1.c 0 _ rfl
 have f0:=g1.fr 0
 have g2:=g1.set 0 (.int .i64 (B1.length:Nat))
 have HB:=hd0 (below_set b1 (Nat.le_refl w.heap.size) (o:=0) (.int .i64 (B1.length:Nat)))
 have L1:Hid (Calls Tryz.prog 50 #[.pointer (some ⟨l,4,none⟩),.pointer (some ⟨w.heap.size,0,none⟩)] wa fun en w'=>∃ v,en=.returned v∧(v=.int .i64 0∧w'=wa.setCell ⟨w.heap.size,0,none⟩ (.int .i64 (B1.length:Nat)))):=hd0 (by
  clear g2 HB hc hk h b1 g1
  go_enter Tryz.func50,Tryz.ntmps50
  go_wp2_with (go_at_call 51;with_reducible refine QL.out.mono ?_;rintro en w' ⟨rfl,rfl⟩)
  go_ret
  exact⟨_,rfl,rfl,by simp⟩)
 have WI:=hd0 (lwith_Len_11 l (.pointer (some ⟨w.heap.size,0,none⟩)) _ wa L1.out)
 obtain⟨n,hn⟩:∃ n:Nat,B1.length=n:=⟨_,rfl⟩
 rw[hn] at WI g2 HB ⊢
 have k2:(wa.setCell ⟨w.heap.size,0,none⟩ (.int .i64 n)).cell? ⟨w.heap.size,0,none⟩=some (.int .i64 n):=g2.c 0 _ rfl
 have f2:=g2.fr 0
 have sc:=setCell_id k2
 clear h hk hc QL L1 s1 k0 f0 g1 b1
 go_enter Tryz.func26,Tryz.ntmps26
 go_wp2_with fail
 with_reducible refine WI.out.mono ?_
 rintro en w1 ⟨v,rfl,rfl,rfl⟩
 go_wp2_with fail
 exact bodyPost_ret (v:=.int .i64 n) (by simp[results,Tryz.results26,Tryz.f26,go_sem,k2,asAddr]) rfl ⟨rfl,HB.out⟩
theorem lup (w:World)(h:LK w l q0 c0 q1 c1 false B0 B1):Calls Tryz.prog 39 #[.pointer (some ⟨l,0,none⟩)] w fun en w'=>en=.returned (.tuple #[])∧LK w' l q0 c0 q1 c1 true B0 B1∧Only l w w':=by
 have k0:w.cell? ⟨l,0,none⟩=some (.bool false):=h.gl.c 0 _ rfl
 have f0:=h.gl.fr 0
 obtain⟨s0,r0,hc0⟩:=h.h0
 obtain⟨s1,r1,hc1⟩:=h.h1
 have n0:=chan_ne h.gl hc0
 have n1:=chan_ne h.gl hc1
 go_enter Tryz.func39,Tryz.ntmps39
 go_wp2
 go_end0
 have e:∀ k,k≠l→(w.setCell ⟨l,0,none⟩ (.bool true)).heap[k]?=w.heap[k]?:=fun k hk=>by rw[Below.heap_setCell _ _ _ _ (by intro e;simp at e;exact hk e)]
 have nq0:l≠q0:=by
  rintro rfl
  have:=h.gl.symm.trans h.g0
  simp at this
 have nq1:l≠q1:=by
  rintro rfl
  have:=h.gl.symm.trans h.g1
  simp at this
 exact⟨rfl,⟨h.gl.set 0 _,(e _ nq0.symm).trans h.g0,(e _ nq1.symm).trans h.g1,⟨s0,r0,(e _ n0.symm).trans hc0⟩,⟨s1,r1,(e _ n1.symm).trans hc1⟩,h.ne⟩,Only.set _ _ _ _⟩
theorem lisup (u:Bool)(w:World)(h:LK w l q0 c0 q1 c1 u B0 B1):Calls Tryz.prog 25 #[.pointer (some ⟨l,0,none⟩)] w fun en w'=>en=.returned (.bool u)∧w=w':=by
 have k0:w.cell? ⟨l,0,none⟩=some (.bool u):=h.gl.c 0 _ rfl
 clear h
 go_enter Tryz.func25,Tryz.ntmps25
 go_wp2
 go_ret
 exact⟨rfl,rfl⟩
end
theorem lnew (w:World):Calls Tryz.prog 38 #[] w fun en w'=>∃ l q0 c0 q1 c1:Nat,en=.returned (.pointer (some ⟨l,0,none⟩))∧LK w' l q0 c0 q1 c1 false [] []∧(w.heap.size≤l∧w.heap.size≤q0∧w.heap.size≤c0∧w.heap.size≤q1∧w.heap.size≤c1)∧Below w.heap.size w w':=by
 have b0:=(Below.refl w.heap.size w).alloc (Nat.le_refl _) (.cells #[.bool false,.pointer none,.int .u64 0,.int .u64 0,.pointer none,.int .u64 0,.int .u64 0] 150)
 have g0:=GB.new 150 w #[.bool false,.pointer none,.int .u64 0,.int .u64 0,.pointer none,.int .u64 0,.int .u64 0]
 obtain⟨wa,hwa⟩:∃ z,w.alloc (.cells #[.bool false,.pointer none,.int .u64 0,.int .u64 0,.pointer none,.int .u64 0,.int .u64 0] 150)=z:=⟨_,rfl⟩
 rw[hwa] at b0 g0
 have G0:=hd0 g0
 have B0:=hd0 b0
 have QN:=hd0 qnew_any
 clear g0 b0
 go_enter Tryz.func38,Tryz.ntmps38
 go_wp2_with fail
 refine wp_loop_rounds 3 ?_
 clear hwa
 rw[rounds_succ]
 go_upto_region 5 with fail
 refine wp_region_held_drew (S:=fun W=>True) (by kernel_rfl) trivial (fun hHeld=>?_)
 refine tkH 0 ?_ ?h ?_
 case h=>(intro w hSw;go_simp;try with_reducible rfl)
 try simp only[Act.put,zz]
 refine tkH 1 ?_ ?h ?_
 case h=>(intro w hSw;go_simp;try with_reducible rfl)
 try simp only[Act.put,zz]
 refine tkH 6 ?_ ?h ?_
 case h=>(intro w hSw;go_simp;try with_reducible rfl)
 try simp only[Act.put,zz]
 refine tkH 7 ?_ ?h ?_
 case h=>(intro w hSw;go_simp;try with_reducible rfl)
 try simp only[Act.put,zz]
 refine rdH 2 fun K hK=>?_
 (go_simp;go_at_call 66;(with_reducible refine(QN.out _).mono ?_);rintro en x0 ⟨q0,c0,rfl,hg0,hc0,hq0,hz0,hb0⟩;refine hK.out _ _ trivial (fun hHeld=>?_);clear hK K;try simp only[Act.put,zz])
 refine tkH 3 ?_ ?h ?_
 case h=>(intro w hSw;go_simp;try with_reducible rfl)
 try simp only[Act.put,zz]
 refine tkH 4 ?_ ?h ?_
 case h=>(intro w hSw;go_simp;try with_reducible rfl)
 try simp only[Act.put,zz]
 refine tkH 5 ?_ ?h ?_
 case h=>(intro w hSw;go_simp;try with_reducible rfl)
 try simp only[Act.put,zz]
 refine tkH 8 ?_ ?h ?_
 case h=>(intro w hSw;go_simp;try with_reducible rfl)
 try simp only[Act.put,zz]
 refine tkH 9 ?_ ?h ?_
 case h=>(intro w hSw;go_simp;try with_reducible rfl)
 try simp only[Act.put,zz]
 have gx0:=G0.out.later ((Below.refl _ _).drew.trans hb0)
 have k01:x0.cell? ⟨w.heap.size,1,none⟩=some (.pointer none):=gx0.c 1 _ rfl
 have f01:=gx0.fr 1
 have G1:Hid (GB 150 (x0.setCell ⟨w.heap.size,1,none⟩ (.pointer (some ⟨q0,0,none⟩))) w.heap.size #[.bool false,.pointer (some ⟨q0,0,none⟩),.int .u64 0,.int .u64 0,.pointer none,.int .u64 0,.int .u64 0]):=hd0 (gx0.set 1 _)
 have hl0:w.heap.size<wa.heap.size:=G0.out.lt
 have E0:∀ j,j≠w.heap.size→(x0.setCell ⟨w.heap.size,1,none⟩ (.pointer (some ⟨q0,0,none⟩))).heap[j]?=x0.heap[j]?:=fun j hj=>by rw[Below.heap_setCell _ _ _ _ (by intro e;simp at e;exact hj e)]
 have hq0':wa.heap.size≤q0:=hq0
 have hz0':wa.heap.size≤c0:=hz0
 have N0:=hd0 (And.intro hl0 (And.intro hq0' hz0'))
 have P0:Hid (GB 208 (x0.setCell ⟨w.heap.size,1,none⟩ (.pointer (some ⟨q0,0,none⟩))) q0 #[.chan (some c0)]∧(x0.setCell ⟨w.heap.size,1,none⟩ (.pointer (some ⟨q0,0,none⟩))).heap[c0]?=some (.chan 64 #[] false 0 0 false)):=hd0 ⟨(E0 _ (by omega)).trans hg0,(E0 _ (by omega)).trans hc0⟩
 have B1:=hd0 (below_set (B0.out.trans (((Below.refl _ _).drew.trans hb0).mono B0.out.size)) (Nat.le_refl w.heap.size) (o:=1) (.pointer (some ⟨q0,0,none⟩)))
 refine rdH 10 fun K hK=>?_
 (go_simp;refine hK.out _ _ trivial (fun hHeld=>?_);clear hK K;try simp only[Act.put,zz])
 refine wpAnyH_done (by kernel_rfl) ?_ _
 obtain⟨wz,hw0⟩:∃ z,x0.setCell ⟨w.heap.size,1,none⟩ (.pointer (some ⟨q0,0,none⟩))=z:=⟨_,rfl⟩
 rw[hw0] at G1 P0 B1 ⊢
 clear hw0 gx0 k01 f01 E0 hg0 hc0 hq0 hz0 hb0 hl0 hq0' hz0' G0
 go_wp2_with fail
 rw[rounds_succ]
 go_upto_region 5 with fail
 refine wp_region_held_drew (S:=fun W=>True) (by kernel_rfl) trivial (fun hHeld=>?_)
 refine tkH 0 ?_ ?h ?_
 case h=>(intro w hSw;go_simp;try with_reducible rfl)
 try simp only[Act.put,zz]
 refine tkH 1 ?_ ?h ?_
 case h=>(intro w hSw;go_simp;try with_reducible rfl)
 try simp only[Act.put,zz]
 refine tkH 6 ?_ ?h ?_
 case h=>(intro w hSw;go_simp;try with_reducible rfl)
 try simp only[Act.put,zz]
 refine tkH 7 ?_ ?h ?_
 case h=>(intro w hSw;go_simp;try with_reducible rfl)
 try simp only[Act.put,zz]
 refine rdH 2 fun K hK=>?_
 (go_simp;go_at_call 66;(with_reducible refine(QN.out _).mono ?_);rintro en x1 ⟨q1,c1,rfl,hg1,hc1,hq1,hz1,hb1⟩;refine hK.out _ _ trivial (fun hHeld=>?_);clear hK K;try simp only[Act.put,zz])
 refine tkH 3 ?_ ?h ?_
 case h=>(intro w hSw;go_simp;try with_reducible rfl)
 try simp only[Act.put,zz]
 refine tkH 4 ?_ ?h ?_
 case h=>(intro w hSw;go_simp;try with_reducible rfl)
 try simp only[Act.put,zz]
 refine tkH 5 ?_ ?h ?_
 case h=>(intro w hSw;go_simp;try with_reducible rfl)
 try simp only[Act.put,zz]
 refine tkH 8 ?_ ?h ?_
 case h=>(intro w hSw;go_simp;try with_reducible rfl)
 try simp only[Act.put,zz]
 refine tkH 9 ?_ ?h ?_
 case h=>(intro w hSw;go_simp;try with_reducible rfl)
 try simp only[Act.put,zz]
 have gx1:=G1.out.later ((Below.refl _ _).drew.trans hb1)
 have k11:x1.cell? ⟨w.heap.size,4,none⟩=some (.pointer none):=gx1.c 4 _ rfl
 have f11:=gx1.fr 4
 have G2:Hid (GB 150 (x1.setCell ⟨w.heap.size,4,none⟩ (.pointer (some ⟨q1,0,none⟩))) w.heap.size #[.bool false,.pointer (some ⟨q0,0,none⟩),.int .u64 0,.int .u64 0,.pointer (some ⟨q1,0,none⟩),.int .u64 0,.int .u64 0]):=hd0 (gx1.set 4 _)
 have hl1:w.heap.size<wz.heap.size:=G1.out.lt
 have E1:∀ j,j≠w.heap.size→(x1.setCell ⟨w.heap.size,4,none⟩ (.pointer (some ⟨q1,0,none⟩))).heap[j]?=x1.heap[j]?:=fun j hj=>by rw[Below.heap_setCell _ _ _ _ (by intro e;simp at e;exact hj e)]
 have hq1':wz.heap.size≤q1:=hq1
 have hz1':wz.heap.size≤c1:=hz1
 have N1:=hd0 (And.intro hl1 (And.intro hq1' hz1'))
 have P1:Hid (GB 208 (x1.setCell ⟨w.heap.size,4,none⟩ (.pointer (some ⟨q1,0,none⟩))) q1 #[.chan (some c1)]∧(x1.setCell ⟨w.heap.size,4,none⟩ (.pointer (some ⟨q1,0,none⟩))).heap[c1]?=some (.chan 64 #[] false 0 0 false)):=hd0 ⟨(E1 _ (by omega)).trans hg1,(E1 _ (by omega)).trans hc1⟩
 have hb01:Below wz.heap.size wz x1:=(Below.refl _ _).drew.trans hb1
 have R0:Hid (GB 208 (x1.setCell ⟨w.heap.size,4,none⟩ (.pointer (some ⟨q1,0,none⟩))) q0 #[.chan (some c0)]∧(x1.setCell ⟨w.heap.size,4,none⟩ (.pointer (some ⟨q1,0,none⟩))).heap[c0]?=some (.chan 64 #[] false 0 0 false)):=hd0 ⟨(E1 _ (by have:=N0.out;omega)).trans (P0.out.1.later hb01),(E1 _ (by have:=N0.out;omega)).trans ((hb01.block _ (Array.getElem?_eq_some_iff.1 P0.out.2).1).trans P0.out.2)⟩
 have NC:=hd0 (show c0≠c1 by have:=(Array.getElem?_eq_some_iff.1 P0.out.2).1;omega)
 have B2:=hd0 (below_set (B1.out.trans (((Below.refl _ _).drew.trans hb1).mono B1.out.size)) (Nat.le_refl w.heap.size) (o:=4) (.pointer (some ⟨q1,0,none⟩)))
 refine rdH 10 fun K hK=>?_
 (go_simp;refine hK.out _ _ trivial (fun hHeld=>?_);clear hK K;try simp only[Act.put,zz])
 refine wpAnyH_done (by kernel_rfl) ?_ _
 obtain⟨wy,hw1⟩:∃ z,x1.setCell ⟨w.heap.size,4,none⟩ (.pointer (some ⟨q1,0,none⟩))=z:=⟨_,rfl⟩
 rw[hw1] at G2 P1 R0 B2 ⊢
 clear hw1 gx1 k11 f11 E1 hg1 hc1 hq1 hz1 hb1 hl1 hq1' hz1' hb01 G1
 go_wp2_with fail
 rw[rounds_succ]
 go_wp2_with fail
 have M1:=N0.out
 have M2:=N1.out
 have M3:=B1.out.size
 have M4:=B0.out.size
 refine bodyPost_ret (v:=.pointer (some ⟨w.heap.size,0,none⟩)) (by simp[results,Tryz.results38,go_sem]) rfl ⟨_,_,_,_,_,rfl,⟨G2.out,R0.out.1,P1.out.1,⟨_,_,R0.out.2⟩,⟨_,_,P1.out.2⟩,NC.out⟩,by omega,B2.out⟩
open Go.Maps (Keyed int_keyed keyOf_int_mk)
theorem nplace_keyed:Keyed Tryz.prog 142:=Keyed.of_law (deep_law_laid (m:=2) (by kernel_rfl) (by decide) (by decide +kernel) (by kernel_rfl) (by kernel_rfl))
def sEl (v:Value):Option (DataW Unit × List MemPlace) :=
 match v with
 | .agg A=>match A.toList with
  |[.int .i64 a,.int .i64 b]=>if 0≤b∧b<256 then some (.lit (.int .i64 (a*256+b)),[]) else none
  | _=>none
 | _=>none
def npK (b p:UInt8):Lit:=.string [0,0,0,0,0,0,0,b,p]
theorem npK01:keyOf Tryz.prog 142 (.agg #[.int .i64 0,.int .u8 1])=some (npK 0 1):=by kernel_rfl
theorem npK11:keyOf Tryz.prog 142 (.agg #[.int .i64 1,.int .u8 1])=some (npK 1 1):=by kernel_rfl
theorem npK00:keyOf Tryz.prog 142 (.agg #[.int .i64 0,.int .u8 0])=some (npK 0 0):=by kernel_rfl
theorem npK10:keyOf Tryz.prog 142 (.agg #[.int .i64 1,.int .u8 0])=some (npK 1 0):=by kernel_rfl
def sD:DataW Unit:=((DataW.map []).put (npK 0 1) (.lit (.int .i64 0))).put (npK 1 1) (.lit (.int .i64 1))
theorem sD01 (z:DataW Unit):sD.atKey (npK 0 1) z=.lit (.int .i64 0):=by kernel_rfl
theorem sD11 (z:DataW Unit):sD.atKey (npK 1 1) z=.lit (.int .i64 1):=by kernel_rfl
theorem sD00 (z:DataW Unit):sD.atKey (npK 0 0) z=z:=by kernel_rfl
theorem sD10 (z:DataW Unit):sD.atKey (npK 1 0) z=z:=by kernel_rfl
theorem sEl_mk (a b:Int)(h:0≤b∧b<256):sEl (.agg #[.int .i64 a,.int .i64 b])=some (.lit (.int .i64 (a*256+b)),[]):=by simp[sEl,h]
theorem sEl_inv {v:Value}{a b:Int}{ps:List MemPlace}(hb:0≤b∧b<256)(h:sEl v=some (.lit (.int .i64 (a*256+b)),ps)):v=.agg #[.int .i64 a,.int .i64 b]:=by
 unfold sEl at h
 split at h
 ·rename_i cs
  split at h
  ·rename_i a' b' hcs
   split at h
   ·rename_i hb'
    injection h with h;injection h with h _;injection h with h;injection h with _ h
    have e1:a'=a:=by omega
    have e2:b'=b:=by omega
    subst e1 e2
    rw[show cs=cs.toList.toArray from rfl,hcs]
   ·cases h
  ·cases h
 ·cases h
def SM (W:World)(m:Nat):Prop:=W.ownsMap Tryz.prog 142 sEl m 2 sD
theorem SM.lt {W:World}{m:Nat}(h:SM W m):m<W.heap.size:=World.ownsMap.lt h
theorem SM.blk {W W':World}{m:Nat}(h:SM W m)(e:W'.heap[m]?=W.heap[m]?):SM W' m:=by
 obtain⟨es,clock,hb,F,hs,hD⟩:=h
 exact⟨es,clock,e.trans hb,F,hs,hD⟩
theorem zeroSide (W:World):(zeroValue 140).run Tryz.prog W=.ok (.agg #[.int .i64 0,.int .i64 0]) W:=by kernel_rfl
theorem SM.l01 {W:World}{m:Nat}(h:SM W m):(Instr.lookup 95 (.map (some m)) (.agg #[.int .i64 0,.int .u8 1]) true).run Tryz.prog W=.ok (.tuple #[.agg #[.int .i64 0,.int .i64 0],.bool true]) W:=by
 obtain⟨v,ps,hrun,hv⟩:=World.ownsMap.look_ok h nplace_keyed Tryz.underlying95 (zeroSide W) (sEl_mk 0 0 (by decide)) npK01
 rw[sD01] at hv
 rw[hrun,sEl_inv (a:=0) (b:=0) (by decide) hv]
 rfl
theorem SM.l11 {W:World}{m:Nat}(h:SM W m):(Instr.lookup 95 (.map (some m)) (.agg #[.int .i64 1,.int .u8 1]) true).run Tryz.prog W=.ok (.tuple #[.agg #[.int .i64 0,.int .i64 1],.bool true]) W:=by
 obtain⟨v,ps,hrun,hv⟩:=World.ownsMap.look_ok h nplace_keyed Tryz.underlying95 (zeroSide W) (sEl_mk 0 0 (by decide)) npK11
 rw[sD11] at hv
 rw[hrun,sEl_inv (a:=0) (b:=1) (by decide) hv]
 rfl
theorem SM.l00 {W:World}{m:Nat}(h:SM W m):(Instr.lookup 95 (.map (some m)) (.agg #[.int .i64 0,.int .u8 0]) true).run Tryz.prog W=.ok (.tuple #[.agg #[.int .i64 0,.int .i64 0],.bool false]) W:=by
 obtain⟨v,ps,hrun,hv⟩:=World.ownsMap.look_ok h nplace_keyed Tryz.underlying95 (zeroSide W) (sEl_mk 0 0 (by decide)) npK00
 rw[sD00] at hv
 rw[hrun,sEl_inv (a:=0) (b:=0) (by decide) hv]
 rfl
theorem SM.l10 {W:World}{m:Nat}(h:SM W m):(Instr.lookup 95 (.map (some m)) (.agg #[.int .i64 1,.int .u8 0]) true).run Tryz.prog W=.ok (.tuple #[.agg #[.int .i64 0,.int .i64 0],.bool false]) W:=by
 obtain⟨v,ps,hrun,hv⟩:=World.ownsMap.look_ok h nplace_keyed Tryz.underlying95 (zeroSide W) (sEl_mk 0 0 (by decide)) npK10
 rw[sD10] at hv
 rw[hrun,sEl_inv (a:=0) (b:=0) (by decide) hv]
 rfl
end Go.Proofs.YtghaobakpdninaaGreatDoor
