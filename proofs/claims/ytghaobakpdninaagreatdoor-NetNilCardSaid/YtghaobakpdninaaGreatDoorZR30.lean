/- ZR30 -/
import Derived.Test.YtghaobakpdninaaGreatDoorZR29
set_option linter.unusedVariables false
set_option linter.unusedSimpArgs false
set_option maxRecDepth 100000
set_option maxHeartbeats 16000000
namespace Go.Proofs.YtghaobakpdninaaGreatDoor
open Go.RowKit
theorem range_lt {W:World}{g o:Nat}{l:List Value}(hl:0<l.length)(h:W.rangeAt g o l):g<W.heap.size:=World.block_lt_of_cell? _ _ (h 0 l[0] (by simp[hl]))
theorem NS.below {W W' W0:World}{N:NPos}{TA TB TA' TB':TM}{oA oB oA' oB':List Int}{VA VB VA' VB':List Vn}{vA vB vA' vB':Value}{B0 B1 B0' B1':List Value}{B:Nat}(h:NS W N TA TB oA oB VA VB vA vB B0 B1)(h0:NS W0 N TA' TB' oA' oB' VA' VB' vA' vB' B0' B1')(hB:W0.heap.size≤B)(hb:Below B W W'):NS W' N TA TB oA oB VA VB vA vB B0 B1:=by
 have e:∀ k,k<W0.heap.size→W'.heap[k]?=W.heap[k]?:=fun k hk=>hb.block k (Nat.lt_of_lt_of_le hk hB)
 refine⟨(e _ h0.gn.lt).trans h.gn,range_blk h.rb fun _=>e _ (range_lt (by simp) h0.rb),range_blk h.rl fun _=>e _ (range_lt (by simp) h0.rl),h.sm.blk (e _ h0.sm.lt),h.lk.blk fun k _ hh=>?_,h.A.blk fun k _ hi=>e k (Nat.lt_of_lt_of_le hi.2 h0.tops.1),h.B.blk fun k _ hi=>e k (Nat.lt_of_lt_of_le hi.2 h0.tops.2),h.ab,h.sep,⟨Nat.le_trans h.tops.1 hb.size,Nat.le_trans h.tops.2 hb.size⟩⟩
 rcases hh with rfl|rfl|rfl|rfl|rfl
 ·exact e _ h0.lk.gl.lt
 ·exact e _ h0.lk.g0.lt
 ·exact e _ h0.lk.g1.lt
 ·exact e _ h0.lk.lt0
 ·exact e _ h0.lk.lt1
theorem cell_keep {W W':World}{b o c:Nat}{v:Value}{B:Array Value}{s r cap:Nat}(h:W.cell? ⟨b,o,none⟩=some v)(k:W.heap[c]?=some (.chan cap B false s r false))(hf:Fr (fun j=>j=c) W W'):W'.cell? ⟨b,o,none⟩=some v:=by
 have hlt:=World.block_lt_of_cell? _ _ h
 have hne:b≠c:=by
  rintro rfl
  unfold World.cell? at h
  rw[k] at h;cases h
 unfold World.cell? at h ⊢
 rw[hf.block b hlt hne];exact h
def outC (x:Int × Int × List UInt8):List Value:=[.int .i64 x.1,.int .u8 x.2.1,.string (bs x.2.2)]
theorem outC_len (x:Int × Int × List UInt8):(outC x).length=3:=rfl
theorem outC_one (x:Int × Int × List UInt8):∀ v∈outC x,v.oneCell'=true:=by
 intro v hv
 simp[outC] at hv
 rcases hv with rfl|rfl|rfl <;> rfl
theorem info_out:(Tryz.prog.info? 87).map (fun i=>(i.zero,i.size,i.bytes))=some (some (.agg #[.int .i64 0,.int .u8 0,.string { data:=#[] }]),3,32):=by kernel_rfl
theorem ngoes1_00 (N:NPos)(TA TB TA' TB':TM)(oA oB oA' oB':List Int)(VA VB VA' VB':List Vn)(vA vB vA' vB':Value)(B0 B1 B0' B1':List Value)(W0:World)(h0:NS W0 N TA' TB' oA' oB' VA' VB' vA' vB' B0' B1')(ob ib nb:Nat)(d:List UInt8)(hd:d.length≤1522)(w:World)(h:NS w N TA TB oA oB VA VB vA vB B0 B1)(hob:W0.heap.size≤ob)
  (go:GB 46 w ob #[.slice none 0 0]) (gi:GB 3 w ib #[.int .i64 0]) (gn:GB 44 w nb #[.pointer (some ⟨N.n,0,none⟩)]) (hne:ob≠ib∧ob≠nb) (hB:B0.length<64∧B1.length<64) :
  Calls Tryz.prog 96 #[.agg #[.int .u8 0,.string (bs d)],.pointer (some ⟨ob,0,none⟩),.pointer (some ⟨ib,0,none⟩),.pointer (some ⟨nb,0,none⟩)] w fun en w'=>en=.returned (.tuple #[])∧(∃ g1 cap1,w'.cell? ⟨ob,0,none⟩=some (.slice (some ⟨g1,0,none⟩) 1 cap1)∧w'.rangeAt g1 0 (outC (0,0,d))∧w.heap.size≤g1)∧NS w' N TA TB oA oB VA VB vA vB B0 B1∧Fr (fun k=>k=ob∨k=N.c0∨k=N.c1) w w':=by
 have b1:=(Below.refl w.heap.size w).alloc (Nat.le_refl _) (.cells #[.int .u8 0,.string (bs d)] 257)
 have gs:=GB.new 257 w #[.int .u8 0,.string (bs d)]
 obtain⟨w1,hw1⟩:∃ z,w.alloc (.cells #[.int .u8 0,.string (bs d)] 257)=z:=⟨_,rfl⟩
 rw[hw1] at b1 gs
 have k0:w1.cell? ⟨ob,0,none⟩=some (.slice none 0 0):=(go.later b1).c 0 _ rfl
 have k1:w1.cell? ⟨ib,0,none⟩=some (.int .i64 0):=(gi.later b1).c 0 _ rfl
 have s0:w1.cell? ⟨w.heap.size,0,none⟩=some (.int .u8 0):=gs.c 0 _ rfl
 have s1:w1.cell? ⟨w.heap.size,1,none⟩=some (.string (bs d)):=gs.c 1 _ rfl
 have hlit:Rw 3 outC (w1.alloc (.cells #[.int .i64 0,.int .u8 0,.string (bs d)] 87)) (.slice (some ⟨w1.heap.size,0,none⟩) 1 1) [(0,0,d)]:=(Ow.lit (E:=87) outC_len w1 0 (0,0,d) #[.int .i64 0,.int .u8 0,.string (bs d)] rfl (Nat.zero_le _)).rw outC_len
 have HL:=hd0 hlit
 have hba:Below w1.heap.size w1 (w1.alloc (.cells #[.int .i64 0,.int .u8 0,.string (bs d)] 87)):=bAo _
 have HB1:=hd0 b1
 have HBA:=hd0 hba
 have HLO:=hd0 (And.intro go.lt (And.intro gi.lt gn.lt))
 have HGO:=hd0 go
 have HGI:=hd0 gi
 have HGN:=hd0 gn
 have HGS:=hd0 gs
 have HNS:=hd0 h
 clear hlit hba go gi gn gs h
 go_enter Tryz.func96,Tryz.ntmps96
 go_upto_region 1 with fail
 clear hw1
 go_upto_region 2 with(at_builtin;refine wpList_append_rw outC_len outC_one 87 46 _ 32 Tryz.underlying46 info_out rfl (by decide) (by decide) rfl (.tmp 7) (.tmp 14) rfl w1.heap.size (.slice none 0 0) [] rfl (Ow.none _ _) _ _ rfl HL.out (by simp) HBA.out.size ?_;intro v1 w2 ho1 hb2;obtain⟨g1,cap1,t1,rfl,hg1,hc1,hh1⟩:=ho1.ne (by simp);have hb12:=HBA.out.trans hb2;have hb02:=HB1.out.trans (hb12.mono HB1.out.size);have k2:=(HGO.out.later hb02).c 0 _ rfl;have f2:=(HGO.out.later hb02).fr 0)
 have hne':=hne
 have gn3:=(HGN.out.later hb02).other (o:=0) hne.2 (.slice (some ⟨g1,0,none⟩) 1 cap1)
 have gi3:=(HGI.out.later hb02).other (o:=0) hne.1 (.slice (some ⟨g1,0,none⟩) 1 cap1)
 have gs3:=(HGS.out.later hb12).other (o:=0) (show ob≠w.heap.size by have:=HLO.out.1;omega) (.slice (some ⟨g1,0,none⟩) 1 cap1)
 have go3:=(HGO.out.later hb02).set 0 (.slice (some ⟨g1,0,none⟩) 1 cap1)
 have bob:Below ob w (w2.setCell ⟨ob,0,none⟩ (.slice (some ⟨g1,0,none⟩) 1 cap1)):=below_set (hb02.mono (Nat.le_of_lt HLO.out.1)) (Nat.le_refl _) _
 have hn3:=HNS.out.below h0 hob bob
 have hg1':w.heap.size<g1:=by have:=HGS.out.lt;omega
 have hr3:(w2.setCell ⟨ob,0,none⟩ (.slice (some ⟨g1,0,none⟩) 1 cap1)).rangeAt g1 0 (outC (0,0,d)):=range_blk (row_range (Below.refl _ _) hh1) fun _=>by rw[Below.heap_setCell _ _ _ _ (by intro e;simp at e;have:=HLO.out.1;omega)]
 have F3:Fr (fun k=>k=ob) w (w2.setCell ⟨ob,0,none⟩ (.slice (some ⟨g1,0,none⟩) 1 cap1)):=(Fr.of_below hb02).trans (Fr.of_only (Only.set _ _ _ _) rfl)
 obtain⟨w3,hw3⟩:∃ z,w2.setCell ⟨ob,0,none⟩ (.slice (some ⟨g1,0,none⟩) 1 cap1)=z:=⟨_,rfl⟩
 rw[hw3] at gn3 gi3 gs3 go3 hn3 hr3 F3 ⊢
 have SX:Hid (∀ W,Below w3.heap.size w3 W→(W.cell? ⟨nb,0,none⟩=some (.pointer (some ⟨N.n,0,none⟩))∧W.cell? ⟨N.n,2,none⟩=some (.map (some N.sm))∧W.cell? ⟨ib,0,none⟩=some (.int .i64 0)∧W.cell? ⟨w.heap.size,0,none⟩=some (.int .u8 0))∧(Instr.lookup 95 (.map (some N.sm)) (.agg #[.int .i64 0,.int .u8 0]) true).run Tryz.prog W=.ok (.tuple #[.agg #[.int .i64 0,.int .i64 0],.bool false]) W):=hd0 fun W hW=>⟨⟨(gn3.later hW).c 0 _ rfl,(hn3.gn.later hW).c 2 _ rfl,(gi3.later hW).c 0 _ rfl,(gs3.later hW).c 0 _ rfl⟩,SM.l00 (hn3.sm.blk (hW.block _ hn3.sm.lt))⟩
 have HN3:=hd0 hn3
 have HS3:=hd0 (And.intro gs3 go3)
 have HR3:=hd0 hr3
 have HF3:=hd0 F3
 have HX3:=hd0 (And.intro hg1' gn3)
 have D3:Below w3.heap.size w3 w3.drew:=(Below.refl _ _).drew
 have HI:Hid ((Tryz.prog.info? 140).map (·.size)=some (Array.size #[Value.int .i64 0,.int .i64 0])):=hd0 (by kernel_rfl)
 have HO:Hid ((#[.int .i64 0,.int .i64 0]:Array Value).all (·.oneCell')=true):=hd0 (by kernel_rfl)
 have Z4:GB 140 (w3.drew.alloc (.cells #[.int .i64 0,.int .i64 0] 140)) w3.heap.size #[.int .i64 0,.int .i64 0]:=GB.new 140 w3.drew _
 have B4:=hd0 (D3.alloc (Nat.le_refl _) (.cells #[.int .i64 0,.int .i64 0] 140))
 clear gn3 gi3 gs3 go3 hn3 hr3 F3 bob hg1' ho1 hb2 hh1 hb12 hb02 k0 k1 s0 s1 k2 f2 hw3 b1
 refine wp_region_held_drew (S:=fun W=>(W.cell? ⟨nb,0,none⟩=some (.pointer (some ⟨N.n,0,none⟩))∧W.cell? ⟨N.n,2,none⟩=some (.map (some N.sm))∧W.cell? ⟨ib,0,none⟩=some (.int .i64 0)∧W.cell? ⟨w.heap.size,0,none⟩=some (.int .u8 0))∧(Instr.lookup 95 (.map (some N.sm)) (.agg #[.int .i64 0,.int .u8 0]) true).run Tryz.prog W=.ok (.tuple #[.agg #[.int .i64 0,.int .i64 0],.bool false]) W) (by kernel_rfl) (SX.out _ D3) (fun hHeld=>?_)
 refine tkH 0 ?_ ?h ?_
 case h=>(intro w hSw;go_simp;try with_reducible rfl)
 try simp only[Act.put,zz]
 refine tkH 1 ?_ ?h ?_
 case h=>(intro w hSw;go_simp;try with_reducible rfl)
 try simp only[Act.put,zz]
 refine tkH 2 ?_ ?h ?_
 case h=>(intro w hSw;go_simp;try with_reducible rfl)
 try simp only[Act.put,zz]
 refine tkH 3 ?_ ?h ?_
 case h=>(intro w hSw;go_simp;try with_reducible rfl)
 try simp only[Act.put,zz]
 refine tkH 4 ?_ ?h ?_
 case h=>(intro w hSw;go_simp;try with_reducible rfl)
 try simp only[Act.put,zz]
 refine tkH 5 ?_ ?h ?_
 case h=>(intro w hSw;go_simp;try with_reducible rfl)
 try simp only[Act.put,zz]
 refine tkH 6 ?_ ?h ?_
 case h=>(intro w hSw;go_simp;try with_reducible rfl)
 try simp only[Act.put,zz]
 refine tkH 7 ?_ ?h ?_
 case h=>(intro w hSw;go_simp;try with_reducible rfl)
 try simp only[Act.put,zz]
 refine tkH 8 ?_ ?h ?_
 case h=>(intro w hSw;go_simp;try with_reducible rfl)
 try simp only[Act.put,zz]
 refine tkH 9 ?_ ?h ?_
 case h=>(intro w hSw;go_simp;try with_reducible rfl)
 try simp only[Act.put,zz]
 refine tkH 10 ?_ ?h ?_
 case h=>(intro w hSw;go_simp;try with_reducible rfl)
 try simp only[Act.put,zz]
 refine tkH 11 ?_ ?h ?_
 case h=>(intro w hSw;go_simp;try with_reducible rfl)
 try simp only[Act.put,zz]
 refine rdH 12 fun K hK=>?_
 (go_simp;refine hK.out _ _ (SX.out _ B4.out) (fun hHeld=>?_);clear hK K;try simp only[Act.put,zz])
 refine rdH 13 fun K hK=>?_
 (rw[if_pos (by rfl)];refine wp_store_mid 140 (.tmp 5) (.tmp 26) rfl _ 0 #[.int .i64 0,.int .i64 0] rfl (by rfl) (Z4.there (Nat.le_refl _)) HI.out HO.out ?_;refine hK.out _ _ (SX.out _ (below_cellsG (Nat.le_refl _) _ _ _ B4.out)) (fun hHeld=>?_);clear hK K;try simp only[Act.put,zz])
 refine tkH 14 ?_ ?h ?_
 case h=>(intro w hSw;go_simp;try with_reducible rfl)
 try simp only[Act.put,zz]
 refine wpAnyH_done (by kernel_rfl) ?_ _
 have b34:Below w3.heap.size w3 ((w3.drew.alloc (.cells #[.int .i64 0,.int .i64 0] 140)).setCells w3.heap.size 0 [.int .i64 0,.int .i64 0]):=below_cellsG (Nat.le_refl _) _ _ _ B4.out
 have zs:GB 140 ((w3.drew.alloc (.cells #[.int .i64 0,.int .i64 0] 140)).setCells w3.heap.size 0 [.int .i64 0,.int .i64 0]) w3.heap.size #[.int .i64 0,.int .i64 0]:=Z4.store rfl HO.out
 rw[show(w3.alloc (.cells #[.int .i64 0,.int .i64 0] 140)).drew.setCells w3.heap.size 0 [.int .i64 0,.int .i64 0]=(w3.drew.alloc (.cells #[.int .i64 0,.int .i64 0] 140)).setCells w3.heap.size 0 [.int .i64 0,.int .i64 0] from rfl]
 obtain⟨w4,hw4⟩:∃ z,(w3.drew.alloc (.cells #[.int .i64 0,.int .i64 0] 140)).setCells w3.heap.size 0 [.int .i64 0,.int .i64 0]=z:=⟨_,rfl⟩
 rw[hw4] at b34 zs ⊢
 have HN4:=hd0 (HN3.out.later b34)
 have HO4:Hid (w4.cell? ⟨ob,0,none⟩=some (.slice (some ⟨g1,0,none⟩) 1 cap1)):=hd0 ((HS3.out.2.later b34).c 0 _ rfl)
 have HR4:=hd0 (range_later HR3.out b34)
 have HF4:Hid (Fr (fun k=>k=ob∨k=N.c0∨k=N.c1) w w4):=hd0 ((HF3.out.mono fun k _ hk=>Or.inl hk).trans (Fr.of_below b34))
 clear hw4 b34 zs
 go_wp2_with fail
 refine bodyPost_ret (results_none rfl _ _ _) rfl ?_
 exact⟨rfl,⟨g1,⟨cap1,HO4.out⟩,HR4.out,Nat.le_of_lt HX3.out.1⟩,HN4.out,HF4.out⟩
theorem ngoes1_10 (N:NPos)(TA TB TA' TB':TM)(oA oB oA' oB':List Int)(VA VB VA' VB':List Vn)(vA vB vA' vB':Value)(B0 B1 B0' B1':List Value)(W0:World)(h0:NS W0 N TA' TB' oA' oB' VA' VB' vA' vB' B0' B1')(ob ib nb:Nat)(d:List UInt8)(hd:d.length≤1522)(w:World)(h:NS w N TA TB oA oB VA VB vA vB B0 B1)(hob:W0.heap.size≤ob)
  (go:GB 46 w ob #[.slice none 0 0]) (gi:GB 3 w ib #[.int .i64 1]) (gn:GB 44 w nb #[.pointer (some ⟨N.n,0,none⟩)]) (hne:ob≠ib∧ob≠nb) (hB:B0.length<64∧B1.length<64) :
  Calls Tryz.prog 96 #[.agg #[.int .u8 0,.string (bs d)],.pointer (some ⟨ob,0,none⟩),.pointer (some ⟨ib,0,none⟩),.pointer (some ⟨nb,0,none⟩)] w fun en w'=>en=.returned (.tuple #[])∧(∃ g1 cap1,w'.cell? ⟨ob,0,none⟩=some (.slice (some ⟨g1,0,none⟩) 1 cap1)∧w'.rangeAt g1 0 (outC (1,0,d))∧w.heap.size≤g1)∧NS w' N TA TB oA oB VA VB vA vB B0 B1∧Fr (fun k=>k=ob∨k=N.c0∨k=N.c1) w w':=by
 have b1:=(Below.refl w.heap.size w).alloc (Nat.le_refl _) (.cells #[.int .u8 0,.string (bs d)] 257)
 have gs:=GB.new 257 w #[.int .u8 0,.string (bs d)]
 obtain⟨w1,hw1⟩:∃ z,w.alloc (.cells #[.int .u8 0,.string (bs d)] 257)=z:=⟨_,rfl⟩
 rw[hw1] at b1 gs
 have k0:w1.cell? ⟨ob,0,none⟩=some (.slice none 0 0):=(go.later b1).c 0 _ rfl
 have k1:w1.cell? ⟨ib,0,none⟩=some (.int .i64 1):=(gi.later b1).c 0 _ rfl
 have s0:w1.cell? ⟨w.heap.size,0,none⟩=some (.int .u8 0):=gs.c 0 _ rfl
 have s1:w1.cell? ⟨w.heap.size,1,none⟩=some (.string (bs d)):=gs.c 1 _ rfl
 have hlit:Rw 3 outC (w1.alloc (.cells #[.int .i64 1,.int .u8 0,.string (bs d)] 87)) (.slice (some ⟨w1.heap.size,0,none⟩) 1 1) [(1,0,d)]:=(Ow.lit (E:=87) outC_len w1 0 (1,0,d) #[.int .i64 1,.int .u8 0,.string (bs d)] rfl (Nat.zero_le _)).rw outC_len
 have HL:=hd0 hlit
 have hba:Below w1.heap.size w1 (w1.alloc (.cells #[.int .i64 1,.int .u8 0,.string (bs d)] 87)):=bAo _
 have HB1:=hd0 b1
 have HBA:=hd0 hba
 have HLO:=hd0 (And.intro go.lt (And.intro gi.lt gn.lt))
 have HGO:=hd0 go
 have HGI:=hd0 gi
 have HGN:=hd0 gn
 have HGS:=hd0 gs
 have HNS:=hd0 h
 clear hlit hba go gi gn gs h
 go_enter Tryz.func96,Tryz.ntmps96
 go_upto_region 1 with fail
 clear hw1
 go_upto_region 2 with(at_builtin;refine wpList_append_rw outC_len outC_one 87 46 _ 32 Tryz.underlying46 info_out rfl (by decide) (by decide) rfl (.tmp 7) (.tmp 14) rfl w1.heap.size (.slice none 0 0) [] rfl (Ow.none _ _) _ _ rfl HL.out (by simp) HBA.out.size ?_;intro v1 w2 ho1 hb2;obtain⟨g1,cap1,t1,rfl,hg1,hc1,hh1⟩:=ho1.ne (by simp);have hb12:=HBA.out.trans hb2;have hb02:=HB1.out.trans (hb12.mono HB1.out.size);have k2:=(HGO.out.later hb02).c 0 _ rfl;have f2:=(HGO.out.later hb02).fr 0)
 have hne':=hne
 have gn3:=(HGN.out.later hb02).other (o:=0) hne.2 (.slice (some ⟨g1,0,none⟩) 1 cap1)
 have gi3:=(HGI.out.later hb02).other (o:=0) hne.1 (.slice (some ⟨g1,0,none⟩) 1 cap1)
 have gs3:=(HGS.out.later hb12).other (o:=0) (show ob≠w.heap.size by have:=HLO.out.1;omega) (.slice (some ⟨g1,0,none⟩) 1 cap1)
 have go3:=(HGO.out.later hb02).set 0 (.slice (some ⟨g1,0,none⟩) 1 cap1)
 have bob:Below ob w (w2.setCell ⟨ob,0,none⟩ (.slice (some ⟨g1,0,none⟩) 1 cap1)):=below_set (hb02.mono (Nat.le_of_lt HLO.out.1)) (Nat.le_refl _) _
 have hn3:=HNS.out.below h0 hob bob
 have hg1':w.heap.size<g1:=by have:=HGS.out.lt;omega
 have hr3:(w2.setCell ⟨ob,0,none⟩ (.slice (some ⟨g1,0,none⟩) 1 cap1)).rangeAt g1 0 (outC (1,0,d)):=range_blk (row_range (Below.refl _ _) hh1) fun _=>by rw[Below.heap_setCell _ _ _ _ (by intro e;simp at e;have:=HLO.out.1;omega)]
 have F3:Fr (fun k=>k=ob) w (w2.setCell ⟨ob,0,none⟩ (.slice (some ⟨g1,0,none⟩) 1 cap1)):=(Fr.of_below hb02).trans (Fr.of_only (Only.set _ _ _ _) rfl)
 obtain⟨w3,hw3⟩:∃ z,w2.setCell ⟨ob,0,none⟩ (.slice (some ⟨g1,0,none⟩) 1 cap1)=z:=⟨_,rfl⟩
 rw[hw3] at gn3 gi3 gs3 go3 hn3 hr3 F3 ⊢
 have SX:Hid (∀ W,Below w3.heap.size w3 W→(W.cell? ⟨nb,0,none⟩=some (.pointer (some ⟨N.n,0,none⟩))∧W.cell? ⟨N.n,2,none⟩=some (.map (some N.sm))∧W.cell? ⟨ib,0,none⟩=some (.int .i64 1)∧W.cell? ⟨w.heap.size,0,none⟩=some (.int .u8 0))∧(Instr.lookup 95 (.map (some N.sm)) (.agg #[.int .i64 1,.int .u8 0]) true).run Tryz.prog W=.ok (.tuple #[.agg #[.int .i64 0,.int .i64 0],.bool false]) W):=hd0 fun W hW=>⟨⟨(gn3.later hW).c 0 _ rfl,(hn3.gn.later hW).c 2 _ rfl,(gi3.later hW).c 0 _ rfl,(gs3.later hW).c 0 _ rfl⟩,SM.l10 (hn3.sm.blk (hW.block _ hn3.sm.lt))⟩
 have HN3:=hd0 hn3
 have HS3:=hd0 (And.intro gs3 go3)
 have HR3:=hd0 hr3
 have HF3:=hd0 F3
 have HX3:=hd0 (And.intro hg1' gn3)
 have D3:Below w3.heap.size w3 w3.drew:=(Below.refl _ _).drew
 have HI:Hid ((Tryz.prog.info? 140).map (·.size)=some (Array.size #[Value.int .i64 0,.int .i64 0])):=hd0 (by kernel_rfl)
 have HO:Hid ((#[.int .i64 0,.int .i64 0]:Array Value).all (·.oneCell')=true):=hd0 (by kernel_rfl)
 have Z4:GB 140 (w3.drew.alloc (.cells #[.int .i64 0,.int .i64 0] 140)) w3.heap.size #[.int .i64 0,.int .i64 0]:=GB.new 140 w3.drew _
 have B4:=hd0 (D3.alloc (Nat.le_refl _) (.cells #[.int .i64 0,.int .i64 0] 140))
 clear gn3 gi3 gs3 go3 hn3 hr3 F3 bob hg1' ho1 hb2 hh1 hb12 hb02 k0 k1 s0 s1 k2 f2 hw3 b1
 refine wp_region_held_drew (S:=fun W=>(W.cell? ⟨nb,0,none⟩=some (.pointer (some ⟨N.n,0,none⟩))∧W.cell? ⟨N.n,2,none⟩=some (.map (some N.sm))∧W.cell? ⟨ib,0,none⟩=some (.int .i64 1)∧W.cell? ⟨w.heap.size,0,none⟩=some (.int .u8 0))∧(Instr.lookup 95 (.map (some N.sm)) (.agg #[.int .i64 1,.int .u8 0]) true).run Tryz.prog W=.ok (.tuple #[.agg #[.int .i64 0,.int .i64 0],.bool false]) W) (by kernel_rfl) (SX.out _ D3) (fun hHeld=>?_)
 refine tkH 0 ?_ ?h ?_
 case h=>(intro w hSw;go_simp;try with_reducible rfl)
 try simp only[Act.put,zz]
 refine tkH 1 ?_ ?h ?_
 case h=>(intro w hSw;go_simp;try with_reducible rfl)
 try simp only[Act.put,zz]
 refine tkH 2 ?_ ?h ?_
 case h=>(intro w hSw;go_simp;try with_reducible rfl)
 try simp only[Act.put,zz]
 refine tkH 3 ?_ ?h ?_
 case h=>(intro w hSw;go_simp;try with_reducible rfl)
 try simp only[Act.put,zz]
 refine tkH 4 ?_ ?h ?_
 case h=>(intro w hSw;go_simp;try with_reducible rfl)
 try simp only[Act.put,zz]
 refine tkH 5 ?_ ?h ?_
 case h=>(intro w hSw;go_simp;try with_reducible rfl)
 try simp only[Act.put,zz]
 refine tkH 6 ?_ ?h ?_
 case h=>(intro w hSw;go_simp;try with_reducible rfl)
 try simp only[Act.put,zz]
 refine tkH 7 ?_ ?h ?_
 case h=>(intro w hSw;go_simp;try with_reducible rfl)
 try simp only[Act.put,zz]
 refine tkH 8 ?_ ?h ?_
 case h=>(intro w hSw;go_simp;try with_reducible rfl)
 try simp only[Act.put,zz]
 refine tkH 9 ?_ ?h ?_
 case h=>(intro w hSw;go_simp;try with_reducible rfl)
 try simp only[Act.put,zz]
 refine tkH 10 ?_ ?h ?_
 case h=>(intro w hSw;go_simp;try with_reducible rfl)
 try simp only[Act.put,zz]
 refine tkH 11 ?_ ?h ?_
 case h=>(intro w hSw;go_simp;try with_reducible rfl)
 try simp only[Act.put,zz]
 refine rdH 12 fun K hK=>?_
 (go_simp;refine hK.out _ _ (SX.out _ B4.out) (fun hHeld=>?_);clear hK K;try simp only[Act.put,zz])
 refine rdH 13 fun K hK=>?_
 (rw[if_pos (by rfl)];refine wp_store_mid 140 (.tmp 5) (.tmp 26) rfl _ 0 #[.int .i64 0,.int .i64 0] rfl (by rfl) (Z4.there (Nat.le_refl _)) HI.out HO.out ?_;refine hK.out _ _ (SX.out _ (below_cellsG (Nat.le_refl _) _ _ _ B4.out)) (fun hHeld=>?_);clear hK K;try simp only[Act.put,zz])
 refine tkH 14 ?_ ?h ?_
 case h=>(intro w hSw;go_simp;try with_reducible rfl)
 try simp only[Act.put,zz]
 refine wpAnyH_done (by kernel_rfl) ?_ _
 have b34:Below w3.heap.size w3 ((w3.drew.alloc (.cells #[.int .i64 0,.int .i64 0] 140)).setCells w3.heap.size 0 [.int .i64 0,.int .i64 0]):=below_cellsG (Nat.le_refl _) _ _ _ B4.out
 have zs:GB 140 ((w3.drew.alloc (.cells #[.int .i64 0,.int .i64 0] 140)).setCells w3.heap.size 0 [.int .i64 0,.int .i64 0]) w3.heap.size #[.int .i64 0,.int .i64 0]:=Z4.store rfl HO.out
 rw[show(w3.alloc (.cells #[.int .i64 0,.int .i64 0] 140)).drew.setCells w3.heap.size 0 [.int .i64 0,.int .i64 0]=(w3.drew.alloc (.cells #[.int .i64 0,.int .i64 0] 140)).setCells w3.heap.size 0 [.int .i64 0,.int .i64 0] from rfl]
 obtain⟨w4,hw4⟩:∃ z,(w3.drew.alloc (.cells #[.int .i64 0,.int .i64 0] 140)).setCells w3.heap.size 0 [.int .i64 0,.int .i64 0]=z:=⟨_,rfl⟩
 rw[hw4] at b34 zs ⊢
 have HN4:=hd0 (HN3.out.later b34)
 have HO4:Hid (w4.cell? ⟨ob,0,none⟩=some (.slice (some ⟨g1,0,none⟩) 1 cap1)):=hd0 ((HS3.out.2.later b34).c 0 _ rfl)
 have HR4:=hd0 (range_later HR3.out b34)
 have HF4:Hid (Fr (fun k=>k=ob∨k=N.c0∨k=N.c1) w w4):=hd0 ((HF3.out.mono fun k _ hk=>Or.inl hk).trans (Fr.of_below b34))
 clear hw4 b34 zs
 go_wp2_with fail
 refine bodyPost_ret (results_none rfl _ _ _) rfl ?_
 exact⟨rfl,⟨g1,⟨cap1,HO4.out⟩,HR4.out,Nat.le_of_lt HX3.out.1⟩,HN4.out,HF4.out⟩
theorem ngoes1_01 (N:NPos)(TA TB TA' TB':TM)(oA oB oA' oB':List Int)(VA VB VA' VB':List Vn)(vA vB vA' vB':Value)(B0 B1 B0' B1':List Value)(W0:World)(h0:NS W0 N TA' TB' oA' oB' VA' VB' vA' vB' B0' B1')(ob ib nb:Nat)(d:List UInt8)(hd:d.length≤1522)(w:World)(h:NS w N TA TB oA oB VA VB vA vB B0 B1)(hob:W0.heap.size≤ob)
  (go:GB 46 w ob #[.slice none 0 0]) (gi:GB 3 w ib #[.int .i64 0]) (gn:GB 44 w nb #[.pointer (some ⟨N.n,0,none⟩)]) (hne:ob≠ib∧ob≠nb) (hB:B0.length<64∧B1.length<64) :
  Calls Tryz.prog 96 #[.agg #[.int .u8 1,.string (bs d)],.pointer (some ⟨ob,0,none⟩),.pointer (some ⟨ib,0,none⟩),.pointer (some ⟨nb,0,none⟩)] w fun en w'=>en=.returned (.tuple #[])∧(∃ g1 cap1,w'.cell? ⟨ob,0,none⟩=some (.slice (some ⟨g1,0,none⟩) 1 cap1)∧w'.rangeAt g1 0 (outC (0,1,d))∧w.heap.size≤g1)∧NS w' N TA TB oA oB VA VB vA vB (B0++[.string (bs d)]) B1∧Fr (fun k=>k=ob∨k=N.c0∨k=N.c1) w w':=by
 have b1:=(Below.refl w.heap.size w).alloc (Nat.le_refl _) (.cells #[.int .u8 1,.string (bs d)] 257)
 have gs:=GB.new 257 w #[.int .u8 1,.string (bs d)]
 obtain⟨w1,hw1⟩:∃ z,w.alloc (.cells #[.int .u8 1,.string (bs d)] 257)=z:=⟨_,rfl⟩
 rw[hw1] at b1 gs
 have k0:w1.cell? ⟨ob,0,none⟩=some (.slice none 0 0):=(go.later b1).c 0 _ rfl
 have k1:w1.cell? ⟨ib,0,none⟩=some (.int .i64 0):=(gi.later b1).c 0 _ rfl
 have s0:w1.cell? ⟨w.heap.size,0,none⟩=some (.int .u8 1):=gs.c 0 _ rfl
 have s1:w1.cell? ⟨w.heap.size,1,none⟩=some (.string (bs d)):=gs.c 1 _ rfl
 have hlit:Rw 3 outC (w1.alloc (.cells #[.int .i64 0,.int .u8 1,.string (bs d)] 87)) (.slice (some ⟨w1.heap.size,0,none⟩) 1 1) [(0,1,d)]:=(Ow.lit (E:=87) outC_len w1 0 (0,1,d) #[.int .i64 0,.int .u8 1,.string (bs d)] rfl (Nat.zero_le _)).rw outC_len
 have HL:=hd0 hlit
 have hba:Below w1.heap.size w1 (w1.alloc (.cells #[.int .i64 0,.int .u8 1,.string (bs d)] 87)):=bAo _
 have HB1:=hd0 b1
 have HBA:=hd0 hba
 have HLO:=hd0 (And.intro go.lt (And.intro gi.lt gn.lt))
 have HGO:=hd0 go
 have HGI:=hd0 gi
 have HGN:=hd0 gn
 have HGS:=hd0 gs
 have HNS:=hd0 h
 clear hlit hba go gi gn gs h
 go_enter Tryz.func96,Tryz.ntmps96
 go_upto_region 1 with fail
 clear hw1
 go_upto_region 2 with(at_builtin;refine wpList_append_rw outC_len outC_one 87 46 _ 32 Tryz.underlying46 info_out rfl (by decide) (by decide) rfl (.tmp 7) (.tmp 14) rfl w1.heap.size (.slice none 0 0) [] rfl (Ow.none _ _) _ _ rfl HL.out (by simp) HBA.out.size ?_;intro v1 w2 ho1 hb2;obtain⟨g1,cap1,t1,rfl,hg1,hc1,hh1⟩:=ho1.ne (by simp);have hb12:=HBA.out.trans hb2;have hb02:=HB1.out.trans (hb12.mono HB1.out.size);have k2:=(HGO.out.later hb02).c 0 _ rfl;have f2:=(HGO.out.later hb02).fr 0)
 have hne':=hne
 have gn3:=(HGN.out.later hb02).other (o:=0) hne.2 (.slice (some ⟨g1,0,none⟩) 1 cap1)
 have gi3:=(HGI.out.later hb02).other (o:=0) hne.1 (.slice (some ⟨g1,0,none⟩) 1 cap1)
 have gs3:=(HGS.out.later hb12).other (o:=0) (show ob≠w.heap.size by have:=HLO.out.1;omega) (.slice (some ⟨g1,0,none⟩) 1 cap1)
 have go3:=(HGO.out.later hb02).set 0 (.slice (some ⟨g1,0,none⟩) 1 cap1)
 have bob:Below ob w (w2.setCell ⟨ob,0,none⟩ (.slice (some ⟨g1,0,none⟩) 1 cap1)):=below_set (hb02.mono (Nat.le_of_lt HLO.out.1)) (Nat.le_refl _) _
 have hn3:=HNS.out.below h0 hob bob
 have hg1':w.heap.size<g1:=by have:=HGS.out.lt;omega
 have hr3:(w2.setCell ⟨ob,0,none⟩ (.slice (some ⟨g1,0,none⟩) 1 cap1)).rangeAt g1 0 (outC (0,1,d)):=range_blk (row_range (Below.refl _ _) hh1) fun _=>by rw[Below.heap_setCell _ _ _ _ (by intro e;simp at e;have:=HLO.out.1;omega)]
 have F3:Fr (fun k=>k=ob) w (w2.setCell ⟨ob,0,none⟩ (.slice (some ⟨g1,0,none⟩) 1 cap1)):=(Fr.of_below hb02).trans (Fr.of_only (Only.set _ _ _ _) rfl)
 obtain⟨w3,hw3⟩:∃ z,w2.setCell ⟨ob,0,none⟩ (.slice (some ⟨g1,0,none⟩) 1 cap1)=z:=⟨_,rfl⟩
 rw[hw3] at gn3 gi3 gs3 go3 hn3 hr3 F3 ⊢
 have SX:Hid (∀ W,Below w3.heap.size w3 W→(W.cell? ⟨nb,0,none⟩=some (.pointer (some ⟨N.n,0,none⟩))∧W.cell? ⟨N.n,2,none⟩=some (.map (some N.sm))∧W.cell? ⟨ib,0,none⟩=some (.int .i64 0)∧W.cell? ⟨w.heap.size,0,none⟩=some (.int .u8 1))∧(Instr.lookup 95 (.map (some N.sm)) (.agg #[.int .i64 0,.int .u8 1]) true).run Tryz.prog W=.ok (.tuple #[.agg #[.int .i64 0,.int .i64 0],.bool true]) W):=hd0 fun W hW=>⟨⟨(gn3.later hW).c 0 _ rfl,(hn3.gn.later hW).c 2 _ rfl,(gi3.later hW).c 0 _ rfl,(gs3.later hW).c 0 _ rfl⟩,SM.l01 (hn3.sm.blk (hW.block _ hn3.sm.lt))⟩
 have HN3:=hd0 hn3
 have HS3:=hd0 (And.intro gs3 go3)
 have HR3:=hd0 hr3
 have HF3:=hd0 F3
 have HX3:=hd0 (And.intro hg1' gn3)
 have D3:Below w3.heap.size w3 w3.drew:=(Below.refl _ _).drew
 have HI:Hid ((Tryz.prog.info? 140).map (·.size)=some (Array.size #[Value.int .i64 0,.int .i64 0])):=hd0 (by kernel_rfl)
 have HO:Hid ((#[.int .i64 0,.int .i64 0]:Array Value).all (·.oneCell')=true):=hd0 (by kernel_rfl)
 have Z4:GB 140 (w3.drew.alloc (.cells #[.int .i64 0,.int .i64 0] 140)) w3.heap.size #[.int .i64 0,.int .i64 0]:=GB.new 140 w3.drew _
 have B4:=hd0 (D3.alloc (Nat.le_refl _) (.cells #[.int .i64 0,.int .i64 0] 140))
 clear gn3 gi3 gs3 go3 hn3 hr3 F3 bob hg1' ho1 hb2 hh1 hb12 hb02 k0 k1 s0 s1 k2 f2 hw3 b1
 refine wp_region_held_drew (S:=fun W=>(W.cell? ⟨nb,0,none⟩=some (.pointer (some ⟨N.n,0,none⟩))∧W.cell? ⟨N.n,2,none⟩=some (.map (some N.sm))∧W.cell? ⟨ib,0,none⟩=some (.int .i64 0)∧W.cell? ⟨w.heap.size,0,none⟩=some (.int .u8 1))∧(Instr.lookup 95 (.map (some N.sm)) (.agg #[.int .i64 0,.int .u8 1]) true).run Tryz.prog W=.ok (.tuple #[.agg #[.int .i64 0,.int .i64 0],.bool true]) W) (by kernel_rfl) (SX.out _ D3) (fun hHeld=>?_)
 refine tkH 0 ?_ ?h ?_
 case h=>(intro w hSw;go_simp;try with_reducible rfl)
 try simp only[Act.put,zz]
 refine tkH 1 ?_ ?h ?_
 case h=>(intro w hSw;go_simp;try with_reducible rfl)
 try simp only[Act.put,zz]
 refine tkH 2 ?_ ?h ?_
 case h=>(intro w hSw;go_simp;try with_reducible rfl)
 try simp only[Act.put,zz]
 refine tkH 3 ?_ ?h ?_
 case h=>(intro w hSw;go_simp;try with_reducible rfl)
 try simp only[Act.put,zz]
 refine tkH 4 ?_ ?h ?_
 case h=>(intro w hSw;go_simp;try with_reducible rfl)
 try simp only[Act.put,zz]
 refine tkH 5 ?_ ?h ?_
 case h=>(intro w hSw;go_simp;try with_reducible rfl)
 try simp only[Act.put,zz]
 refine tkH 6 ?_ ?h ?_
 case h=>(intro w hSw;go_simp;try with_reducible rfl)
 try simp only[Act.put,zz]
 refine tkH 7 ?_ ?h ?_
 case h=>(intro w hSw;go_simp;try with_reducible rfl)
 try simp only[Act.put,zz]
 refine tkH 8 ?_ ?h ?_
 case h=>(intro w hSw;go_simp;try with_reducible rfl)
 try simp only[Act.put,zz]
 refine tkH 9 ?_ ?h ?_
 case h=>(intro w hSw;go_simp;try with_reducible rfl)
 try simp only[Act.put,zz]
 refine tkH 10 ?_ ?h ?_
 case h=>(intro w hSw;go_simp;try with_reducible rfl)
 try simp only[Act.put,zz]
 refine tkH 11 ?_ ?h ?_
 case h=>(intro w hSw;go_simp;try with_reducible rfl)
 try simp only[Act.put,zz]
 refine rdH 12 fun K hK=>?_
 (go_simp;refine hK.out _ _ (SX.out _ B4.out) (fun hHeld=>?_);clear hK K;try simp only[Act.put,zz])
 refine rdH 13 fun K hK=>?_
 (rw[if_pos (by rfl)];refine wp_store_mid 140 (.tmp 5) (.tmp 26) rfl _ 0 #[.int .i64 0,.int .i64 0] rfl (by rfl) (Z4.there (Nat.le_refl _)) HI.out HO.out ?_;refine hK.out _ _ (SX.out _ (below_cellsG (Nat.le_refl _) _ _ _ B4.out)) (fun hHeld=>?_);clear hK K;try simp only[Act.put,zz])
 refine tkH 14 ?_ ?h ?_
 case h=>(intro w hSw;go_simp;try with_reducible rfl)
 try simp only[Act.put,zz]
 refine wpAnyH_done (by kernel_rfl) ?_ _
 have b34:Below w3.heap.size w3 ((w3.drew.alloc (.cells #[.int .i64 0,.int .i64 0] 140)).setCells w3.heap.size 0 [.int .i64 0,.int .i64 0]):=below_cellsG (Nat.le_refl _) _ _ _ B4.out
 have zs:GB 140 ((w3.drew.alloc (.cells #[.int .i64 0,.int .i64 0] 140)).setCells w3.heap.size 0 [.int .i64 0,.int .i64 0]) w3.heap.size #[.int .i64 0,.int .i64 0]:=Z4.store rfl HO.out
 rw[show(w3.alloc (.cells #[.int .i64 0,.int .i64 0] 140)).drew.setCells w3.heap.size 0 [.int .i64 0,.int .i64 0]=(w3.drew.alloc (.cells #[.int .i64 0,.int .i64 0] 140)).setCells w3.heap.size 0 [.int .i64 0,.int .i64 0] from rfl]
 obtain⟨w4,hw4⟩:∃ z,(w3.drew.alloc (.cells #[.int .i64 0,.int .i64 0] 140)).setCells w3.heap.size 0 [.int .i64 0,.int .i64 0]=z:=⟨_,rfl⟩
 rw[hw4] at b34 zs ⊢
 have HN4:=hd0 (HN3.out.later b34)
 have HO4:Hid (w4.cell? ⟨ob,0,none⟩=some (.slice (some ⟨g1,0,none⟩) 1 cap1)):=hd0 ((HS3.out.2.later b34).c 0 _ rfl)
 have HR4:=hd0 (range_later HR3.out b34)
 have HF4:Hid (Fr (fun k=>k=ob∨k=N.c0∨k=N.c1) w w4):=hd0 ((HF3.out.mono fun k _ hk=>Or.inl hk).trans (Fr.of_below b34))
 have gn4:=HX3.out.2.later b34
 have gs4:=HS3.out.1.later b34
 have g54:=HS3.out.2.later b34
 have e1:w4.drew.cell? ⟨nb,0,none⟩=some (.pointer (some ⟨N.n,0,none⟩)):=gn4.c 0 _ rfl
 have e2:w4.drew.cell? ⟨N.n,1,none⟩=some (.slice (some ⟨N.ls,0,none⟩) 1 N.lc):=HN4.out.gn.c 1 _ rfl
 have e3:w4.drew.cell? ⟨w3.heap.size,0,none⟩=some (.int .i64 0):=zs.c 0 _ rfl
 have e4:w4.drew.cell? ⟨N.ls,0,none⟩=some (.pointer (some ⟨N.l,0,none⟩)):=HN4.out.rl 0 _ rfl
 have e5:w4.drew.cell? ⟨w3.heap.size,1,none⟩=some (.int .i64 0):=zs.c 1 _ rfl
 have e6:w4.drew.cell? ⟨w.heap.size,1,none⟩=some (.string (bs d)):=gs4.c 1 _ rfl
 have HND:=hd0 (HN4.out.later (Below.refl _ _).drew)
 have SE:=hd0 (lsend0 N.l N.q0 N.c0 N.q1 N.c1 B0 B1 d hd hB.1 w4.drew HND.out.lk)
 have HF5:=hd0 HF4.out.drew
 obtain⟨k,hk⟩:∃ z,N.c0=z:=⟨_,rfl⟩
 have hoc:ob≠N.c0:=by
  obtain⟨s,r,kk⟩:=HND.out.lk.h0
  exact chan_ne ((g54.drew)) kk
 have hgc:g1≠N.c0:=by
  obtain⟨s,r,kk⟩:=HND.out.lk.h0
  exact range_chan (by simp[outC]) (range_later HR4.out (Below.refl _ _).drew) kk
 have HOC:=hd0 (And.intro hoc hgc)
 have HG5:=hd0 (g54.drew)
 obtain⟨cs,cr,kk⟩:=HND.out.lk.h0
 have KK:=hd0 kk
 have s5:=And.intro e1 (And.intro e2 (And.intro e3 (And.intro e4 (And.intro e5 e6))))
 clear hw4 b34 zs gn4 gs4 g54 hd hB hk k hoc hgc kk e1 e2 e3 e4 e5 e6
 go_upto_region 4 with fail
 refine wp_region_held_drew (S:=fun W=>W.cell? ⟨nb,0,none⟩=some (.pointer (some ⟨N.n,0,none⟩))∧W.cell? ⟨N.n,1,none⟩=some (.slice (some ⟨N.ls,0,none⟩) 1 N.lc)∧W.cell? ⟨w3.heap.size,0,none⟩=some (.int .i64 0)∧W.cell? ⟨N.ls,0,none⟩=some (.pointer (some ⟨N.l,0,none⟩))∧W.cell? ⟨w3.heap.size,1,none⟩=some (.int .i64 0)∧W.cell? ⟨w.heap.size,1,none⟩=some (.string (bs d))) (by kernel_rfl) s5 (fun hHeld=>?_)
 refine tkH 0 ?_ ?h ?_
 case h=>(intro w hSw;go_simp;try with_reducible rfl)
 try simp only[Act.put,zz]
 refine tkH 1 ?_ ?h ?_
 case h=>(intro w hSw;go_simp;try with_reducible rfl)
 try simp only[Act.put,zz]
 refine tkH 2 ?_ ?h ?_
 case h=>(intro w hSw;go_simp;try with_reducible rfl)
 try simp only[Act.put,zz]
 refine tkH 3 ?_ ?h ?_
 case h=>(intro w hSw;go_simp;try with_reducible rfl)
 try simp only[Act.put,zz]
 refine tkH 4 ?_ ?h ?_
 case h=>(intro w hSw;go_simp;try with_reducible rfl)
 try simp only[Act.put,zz]
 refine tkH 5 ?_ ?h ?_
 case h=>(intro w hSw;go_simp;try with_reducible rfl)
 try simp only[Act.put,zz]
 refine tkH 6 ?_ ?h ?_
 case h=>(intro w hSw;go_simp;try with_reducible rfl)
 try simp only[Act.put,zz]
 refine tkH 7 ?_ ?h ?_
 case h=>(intro w hSw;go_simp;try with_reducible rfl)
 try simp only[Act.put,zz]
 refine tkH 8 ?_ ?h ?_
 case h=>(intro w hSw;go_simp;try with_reducible rfl)
 try simp only[Act.put,zz]
 refine tkH 9 ?_ ?h ?_
 case h=>(intro w hSw;go_simp;try with_reducible rfl)
 try simp only[Act.put,zz]
 refine tkH 10 ?_ ?h ?_
 case h=>(intro w hSw;go_simp;try with_reducible rfl)
 try simp only[Act.put,zz]
 refine tkH 11 ?_ ?h ?_
 case h=>(intro w hSw;go_simp;try with_reducible rfl)
 try simp only[Act.put,zz]
 refine tkH 12 ?_ ?h ?_
 case h=>(intro w hSw;go_simp;try with_reducible rfl)
 try simp only[Act.put,zz]
 refine rdH 13 fun K hK=>?_
 (go_simp;go_at_call 97;(with_reducible refine SE.out.mono ?_);rintro en w5 ⟨rfl,hlk,hfc⟩;have HL5:=hd0 hlk;have HC5:=hd0 hfc;refine hK.out _ _ ⟨cell_keep s5.1 KK.out hfc,cell_keep s5.2.1 KK.out hfc,cell_keep s5.2.2.1 KK.out hfc,cell_keep s5.2.2.2.1 KK.out hfc,cell_keep s5.2.2.2.2.1 KK.out hfc,cell_keep s5.2.2.2.2.2 KK.out hfc⟩ (fun hHeld=>?_);clear hK K;try simp only[Act.put,zz])
 refine tkH 14 ?_ ?h ?_
 case h=>(intro w hSw;go_simp;try with_reducible rfl)
 try simp only[Act.put,zz]
 refine wpAnyH_done (by kernel_rfl) ?_ _
 clear hlk hfc s5
 go_wp2_with fail
 go_end0
 exact⟨rfl,⟨g1,⟨cap1,cell_keep (show w4.drew.cell? ⟨ob,0,none⟩=some (.slice (some ⟨g1,0,none⟩) 1 cap1) from HO4.out) KK.out HC5.out⟩,range_fr (range_later HR4.out (Below.refl _ _).drew) HC5.out HOC.out.2,Nat.le_of_lt HX3.out.1⟩,HND.out.setL HL5.out HC5.out (by simp),HF5.out.trans (HC5.out.mono fun k _ hk=>by subst hk;simp)⟩
theorem ngoes1_11 (N:NPos)(TA TB TA' TB':TM)(oA oB oA' oB':List Int)(VA VB VA' VB':List Vn)(vA vB vA' vB':Value)(B0 B1 B0' B1':List Value)(W0:World)(h0:NS W0 N TA' TB' oA' oB' VA' VB' vA' vB' B0' B1')(ob ib nb:Nat)(d:List UInt8)(hd:d.length≤1522)(w:World)(h:NS w N TA TB oA oB VA VB vA vB B0 B1)(hob:W0.heap.size≤ob)
  (go:GB 46 w ob #[.slice none 0 0]) (gi:GB 3 w ib #[.int .i64 1]) (gn:GB 44 w nb #[.pointer (some ⟨N.n,0,none⟩)]) (hne:ob≠ib∧ob≠nb) (hB:B0.length<64∧B1.length<64) :
  Calls Tryz.prog 96 #[.agg #[.int .u8 1,.string (bs d)],.pointer (some ⟨ob,0,none⟩),.pointer (some ⟨ib,0,none⟩),.pointer (some ⟨nb,0,none⟩)] w fun en w'=>en=.returned (.tuple #[])∧(∃ g1 cap1,w'.cell? ⟨ob,0,none⟩=some (.slice (some ⟨g1,0,none⟩) 1 cap1)∧w'.rangeAt g1 0 (outC (1,1,d))∧w.heap.size≤g1)∧NS w' N TA TB oA oB VA VB vA vB B0 (B1++[.string (bs d)])∧Fr (fun k=>k=ob∨k=N.c0∨k=N.c1) w w':=by
 have b1:=(Below.refl w.heap.size w).alloc (Nat.le_refl _) (.cells #[.int .u8 1,.string (bs d)] 257)
 have gs:=GB.new 257 w #[.int .u8 1,.string (bs d)]
 obtain⟨w1,hw1⟩:∃ z,w.alloc (.cells #[.int .u8 1,.string (bs d)] 257)=z:=⟨_,rfl⟩
 rw[hw1] at b1 gs
 have k0:w1.cell? ⟨ob,0,none⟩=some (.slice none 0 0):=(go.later b1).c 0 _ rfl
 have k1:w1.cell? ⟨ib,0,none⟩=some (.int .i64 1):=(gi.later b1).c 0 _ rfl
 have s0:w1.cell? ⟨w.heap.size,0,none⟩=some (.int .u8 1):=gs.c 0 _ rfl
 have s1:w1.cell? ⟨w.heap.size,1,none⟩=some (.string (bs d)):=gs.c 1 _ rfl
 have hlit:Rw 3 outC (w1.alloc (.cells #[.int .i64 1,.int .u8 1,.string (bs d)] 87)) (.slice (some ⟨w1.heap.size,0,none⟩) 1 1) [(1,1,d)]:=(Ow.lit (E:=87) outC_len w1 0 (1,1,d) #[.int .i64 1,.int .u8 1,.string (bs d)] rfl (Nat.zero_le _)).rw outC_len
 have HL:=hd0 hlit
 have hba:Below w1.heap.size w1 (w1.alloc (.cells #[.int .i64 1,.int .u8 1,.string (bs d)] 87)):=bAo _
 have HB1:=hd0 b1
 have HBA:=hd0 hba
 have HLO:=hd0 (And.intro go.lt (And.intro gi.lt gn.lt))
 have HGO:=hd0 go
 have HGI:=hd0 gi
 have HGN:=hd0 gn
 have HGS:=hd0 gs
 have HNS:=hd0 h
 clear hlit hba go gi gn gs h
 go_enter Tryz.func96,Tryz.ntmps96
 go_upto_region 1 with fail
 clear hw1
 go_upto_region 2 with(at_builtin;refine wpList_append_rw outC_len outC_one 87 46 _ 32 Tryz.underlying46 info_out rfl (by decide) (by decide) rfl (.tmp 7) (.tmp 14) rfl w1.heap.size (.slice none 0 0) [] rfl (Ow.none _ _) _ _ rfl HL.out (by simp) HBA.out.size ?_;intro v1 w2 ho1 hb2;obtain⟨g1,cap1,t1,rfl,hg1,hc1,hh1⟩:=ho1.ne (by simp);have hb12:=HBA.out.trans hb2;have hb02:=HB1.out.trans (hb12.mono HB1.out.size);have k2:=(HGO.out.later hb02).c 0 _ rfl;have f2:=(HGO.out.later hb02).fr 0)
 have hne':=hne
 have gn3:=(HGN.out.later hb02).other (o:=0) hne.2 (.slice (some ⟨g1,0,none⟩) 1 cap1)
 have gi3:=(HGI.out.later hb02).other (o:=0) hne.1 (.slice (some ⟨g1,0,none⟩) 1 cap1)
 have gs3:=(HGS.out.later hb12).other (o:=0) (show ob≠w.heap.size by have:=HLO.out.1;omega) (.slice (some ⟨g1,0,none⟩) 1 cap1)
 have go3:=(HGO.out.later hb02).set 0 (.slice (some ⟨g1,0,none⟩) 1 cap1)
 have bob:Below ob w (w2.setCell ⟨ob,0,none⟩ (.slice (some ⟨g1,0,none⟩) 1 cap1)):=below_set (hb02.mono (Nat.le_of_lt HLO.out.1)) (Nat.le_refl _) _
 have hn3:=HNS.out.below h0 hob bob
 have hg1':w.heap.size<g1:=by have:=HGS.out.lt;omega
 have hr3:(w2.setCell ⟨ob,0,none⟩ (.slice (some ⟨g1,0,none⟩) 1 cap1)).rangeAt g1 0 (outC (1,1,d)):=range_blk (row_range (Below.refl _ _) hh1) fun _=>by rw[Below.heap_setCell _ _ _ _ (by intro e;simp at e;have:=HLO.out.1;omega)]
 have F3:Fr (fun k=>k=ob) w (w2.setCell ⟨ob,0,none⟩ (.slice (some ⟨g1,0,none⟩) 1 cap1)):=(Fr.of_below hb02).trans (Fr.of_only (Only.set _ _ _ _) rfl)
 obtain⟨w3,hw3⟩:∃ z,w2.setCell ⟨ob,0,none⟩ (.slice (some ⟨g1,0,none⟩) 1 cap1)=z:=⟨_,rfl⟩
 rw[hw3] at gn3 gi3 gs3 go3 hn3 hr3 F3 ⊢
 have SX:Hid (∀ W,Below w3.heap.size w3 W→(W.cell? ⟨nb,0,none⟩=some (.pointer (some ⟨N.n,0,none⟩))∧W.cell? ⟨N.n,2,none⟩=some (.map (some N.sm))∧W.cell? ⟨ib,0,none⟩=some (.int .i64 1)∧W.cell? ⟨w.heap.size,0,none⟩=some (.int .u8 1))∧(Instr.lookup 95 (.map (some N.sm)) (.agg #[.int .i64 1,.int .u8 1]) true).run Tryz.prog W=.ok (.tuple #[.agg #[.int .i64 0,.int .i64 1],.bool true]) W):=hd0 fun W hW=>⟨⟨(gn3.later hW).c 0 _ rfl,(hn3.gn.later hW).c 2 _ rfl,(gi3.later hW).c 0 _ rfl,(gs3.later hW).c 0 _ rfl⟩,SM.l11 (hn3.sm.blk (hW.block _ hn3.sm.lt))⟩
 have HN3:=hd0 hn3
 have HS3:=hd0 (And.intro gs3 go3)
 have HR3:=hd0 hr3
 have HF3:=hd0 F3
 have HX3:=hd0 (And.intro hg1' gn3)
 have D3:Below w3.heap.size w3 w3.drew:=(Below.refl _ _).drew
 have HI:Hid ((Tryz.prog.info? 140).map (·.size)=some (Array.size #[Value.int .i64 0,.int .i64 1])):=hd0 (by kernel_rfl)
 have HO:Hid ((#[.int .i64 0,.int .i64 1]:Array Value).all (·.oneCell')=true):=hd0 (by kernel_rfl)
 have Z4:GB 140 (w3.drew.alloc (.cells #[.int .i64 0,.int .i64 0] 140)) w3.heap.size #[.int .i64 0,.int .i64 0]:=GB.new 140 w3.drew _
 have B4:=hd0 (D3.alloc (Nat.le_refl _) (.cells #[.int .i64 0,.int .i64 0] 140))
 clear gn3 gi3 gs3 go3 hn3 hr3 F3 bob hg1' ho1 hb2 hh1 hb12 hb02 k0 k1 s0 s1 k2 f2 hw3 b1
 refine wp_region_held_drew (S:=fun W=>(W.cell? ⟨nb,0,none⟩=some (.pointer (some ⟨N.n,0,none⟩))∧W.cell? ⟨N.n,2,none⟩=some (.map (some N.sm))∧W.cell? ⟨ib,0,none⟩=some (.int .i64 1)∧W.cell? ⟨w.heap.size,0,none⟩=some (.int .u8 1))∧(Instr.lookup 95 (.map (some N.sm)) (.agg #[.int .i64 1,.int .u8 1]) true).run Tryz.prog W=.ok (.tuple #[.agg #[.int .i64 0,.int .i64 1],.bool true]) W) (by kernel_rfl) (SX.out _ D3) (fun hHeld=>?_)
 refine tkH 0 ?_ ?h ?_
 case h=>(intro w hSw;go_simp;try with_reducible rfl)
 try simp only[Act.put,zz]
 refine tkH 1 ?_ ?h ?_
 case h=>(intro w hSw;go_simp;try with_reducible rfl)
 try simp only[Act.put,zz]
 refine tkH 2 ?_ ?h ?_
 case h=>(intro w hSw;go_simp;try with_reducible rfl)
 try simp only[Act.put,zz]
 refine tkH 3 ?_ ?h ?_
 case h=>(intro w hSw;go_simp;try with_reducible rfl)
 try simp only[Act.put,zz]
 refine tkH 4 ?_ ?h ?_
 case h=>(intro w hSw;go_simp;try with_reducible rfl)
 try simp only[Act.put,zz]
 refine tkH 5 ?_ ?h ?_
 case h=>(intro w hSw;go_simp;try with_reducible rfl)
 try simp only[Act.put,zz]
 refine tkH 6 ?_ ?h ?_
 case h=>(intro w hSw;go_simp;try with_reducible rfl)
 try simp only[Act.put,zz]
 refine tkH 7 ?_ ?h ?_
 case h=>(intro w hSw;go_simp;try with_reducible rfl)
 try simp only[Act.put,zz]
 refine tkH 8 ?_ ?h ?_
 case h=>(intro w hSw;go_simp;try with_reducible rfl)
 try simp only[Act.put,zz]
 refine tkH 9 ?_ ?h ?_
 case h=>(intro w hSw;go_simp;try with_reducible rfl)
 try simp only[Act.put,zz]
 refine tkH 10 ?_ ?h ?_
 case h=>(intro w hSw;go_simp;try with_reducible rfl)
 try simp only[Act.put,zz]
 refine tkH 11 ?_ ?h ?_
 case h=>(intro w hSw;go_simp;try with_reducible rfl)
 try simp only[Act.put,zz]
 refine rdH 12 fun K hK=>?_
 (go_simp;refine hK.out _ _ (SX.out _ B4.out) (fun hHeld=>?_);clear hK K;try simp only[Act.put,zz])
 refine rdH 13 fun K hK=>?_
 (rw[if_pos (by rfl)];refine wp_store_mid 140 (.tmp 5) (.tmp 26) rfl _ 0 #[.int .i64 0,.int .i64 1] rfl (by rfl) (Z4.there (Nat.le_refl _)) HI.out HO.out ?_;refine hK.out _ _ (SX.out _ (below_cellsG (Nat.le_refl _) _ _ _ B4.out)) (fun hHeld=>?_);clear hK K;try simp only[Act.put,zz])
 refine tkH 14 ?_ ?h ?_
 case h=>(intro w hSw;go_simp;try with_reducible rfl)
 try simp only[Act.put,zz]
 refine wpAnyH_done (by kernel_rfl) ?_ _
 have b34:Below w3.heap.size w3 ((w3.drew.alloc (.cells #[.int .i64 0,.int .i64 0] 140)).setCells w3.heap.size 0 [.int .i64 0,.int .i64 1]):=below_cellsG (Nat.le_refl _) _ _ _ B4.out
 have zs:GB 140 ((w3.drew.alloc (.cells #[.int .i64 0,.int .i64 0] 140)).setCells w3.heap.size 0 [.int .i64 0,.int .i64 1]) w3.heap.size #[.int .i64 0,.int .i64 1]:=Z4.store rfl HO.out
 rw[show(w3.alloc (.cells #[.int .i64 0,.int .i64 0] 140)).drew.setCells w3.heap.size 0 [.int .i64 0,.int .i64 1]=(w3.drew.alloc (.cells #[.int .i64 0,.int .i64 0] 140)).setCells w3.heap.size 0 [.int .i64 0,.int .i64 1] from rfl]
 obtain⟨w4,hw4⟩:∃ z,(w3.drew.alloc (.cells #[.int .i64 0,.int .i64 0] 140)).setCells w3.heap.size 0 [.int .i64 0,.int .i64 1]=z:=⟨_,rfl⟩
 rw[hw4] at b34 zs ⊢
 have HN4:=hd0 (HN3.out.later b34)
 have HO4:Hid (w4.cell? ⟨ob,0,none⟩=some (.slice (some ⟨g1,0,none⟩) 1 cap1)):=hd0 ((HS3.out.2.later b34).c 0 _ rfl)
 have HR4:=hd0 (range_later HR3.out b34)
 have HF4:Hid (Fr (fun k=>k=ob∨k=N.c0∨k=N.c1) w w4):=hd0 ((HF3.out.mono fun k _ hk=>Or.inl hk).trans (Fr.of_below b34))
 have gn4:=HX3.out.2.later b34
 have gs4:=HS3.out.1.later b34
 have g54:=HS3.out.2.later b34
 have e1:w4.drew.cell? ⟨nb,0,none⟩=some (.pointer (some ⟨N.n,0,none⟩)):=gn4.c 0 _ rfl
 have e2:w4.drew.cell? ⟨N.n,1,none⟩=some (.slice (some ⟨N.ls,0,none⟩) 1 N.lc):=HN4.out.gn.c 1 _ rfl
 have e3:w4.drew.cell? ⟨w3.heap.size,0,none⟩=some (.int .i64 0):=zs.c 0 _ rfl
 have e4:w4.drew.cell? ⟨N.ls,0,none⟩=some (.pointer (some ⟨N.l,0,none⟩)):=HN4.out.rl 0 _ rfl
 have e5:w4.drew.cell? ⟨w3.heap.size,1,none⟩=some (.int .i64 1):=zs.c 1 _ rfl
 have e6:w4.drew.cell? ⟨w.heap.size,1,none⟩=some (.string (bs d)):=gs4.c 1 _ rfl
 have HND:=hd0 (HN4.out.later (Below.refl _ _).drew)
 have SE:=hd0 (lsend1 N.l N.q0 N.c0 N.q1 N.c1 B0 B1 d hd hB.2 w4.drew HND.out.lk)
 have HF5:=hd0 HF4.out.drew
 obtain⟨k,hk⟩:∃ z,N.c1=z:=⟨_,rfl⟩
 have hoc:ob≠N.c1:=by
  obtain⟨s,r,kk⟩:=HND.out.lk.h1
  exact chan_ne ((g54.drew)) kk
 have hgc:g1≠N.c1:=by
  obtain⟨s,r,kk⟩:=HND.out.lk.h1
  exact range_chan (by simp[outC]) (range_later HR4.out (Below.refl _ _).drew) kk
 have HOC:=hd0 (And.intro hoc hgc)
 have HG5:=hd0 (g54.drew)
 obtain⟨cs,cr,kk⟩:=HND.out.lk.h1
 have KK:=hd0 kk
 have s5:=And.intro e1 (And.intro e2 (And.intro e3 (And.intro e4 (And.intro e5 e6))))
 clear hw4 b34 zs gn4 gs4 g54 hd hB hk k hoc hgc kk e1 e2 e3 e4 e5 e6
 go_upto_region 4 with fail
 refine wp_region_held_drew (S:=fun W=>W.cell? ⟨nb,0,none⟩=some (.pointer (some ⟨N.n,0,none⟩))∧W.cell? ⟨N.n,1,none⟩=some (.slice (some ⟨N.ls,0,none⟩) 1 N.lc)∧W.cell? ⟨w3.heap.size,0,none⟩=some (.int .i64 0)∧W.cell? ⟨N.ls,0,none⟩=some (.pointer (some ⟨N.l,0,none⟩))∧W.cell? ⟨w3.heap.size,1,none⟩=some (.int .i64 1)∧W.cell? ⟨w.heap.size,1,none⟩=some (.string (bs d))) (by kernel_rfl) s5 (fun hHeld=>?_)
 refine tkH 0 ?_ ?h ?_
 case h=>(intro w hSw;go_simp;try with_reducible rfl)
 try simp only[Act.put,zz]
 refine tkH 1 ?_ ?h ?_
 case h=>(intro w hSw;go_simp;try with_reducible rfl)
 try simp only[Act.put,zz]
 refine tkH 2 ?_ ?h ?_
 case h=>(intro w hSw;go_simp;try with_reducible rfl)
 try simp only[Act.put,zz]
 refine tkH 3 ?_ ?h ?_
 case h=>(intro w hSw;go_simp;try with_reducible rfl)
 try simp only[Act.put,zz]
 refine tkH 4 ?_ ?h ?_
 case h=>(intro w hSw;go_simp;try with_reducible rfl)
 try simp only[Act.put,zz]
 refine tkH 5 ?_ ?h ?_
 case h=>(intro w hSw;go_simp;try with_reducible rfl)
 try simp only[Act.put,zz]
 refine tkH 6 ?_ ?h ?_
 case h=>(intro w hSw;go_simp;try with_reducible rfl)
 try simp only[Act.put,zz]
 refine tkH 7 ?_ ?h ?_
 case h=>(intro w hSw;go_simp;try with_reducible rfl)
 try simp only[Act.put,zz]
 refine tkH 8 ?_ ?h ?_
 case h=>(intro w hSw;go_simp;try with_reducible rfl)
 try simp only[Act.put,zz]
 refine tkH 9 ?_ ?h ?_
 case h=>(intro w hSw;go_simp;try with_reducible rfl)
 try simp only[Act.put,zz]
 refine tkH 10 ?_ ?h ?_
 case h=>(intro w hSw;go_simp;try with_reducible rfl)
 try simp only[Act.put,zz]
 refine tkH 11 ?_ ?h ?_
 case h=>(intro w hSw;go_simp;try with_reducible rfl)
 try simp only[Act.put,zz]
 refine tkH 12 ?_ ?h ?_
 case h=>(intro w hSw;go_simp;try with_reducible rfl)
 try simp only[Act.put,zz]
 refine rdH 13 fun K hK=>?_
 (go_simp;go_at_call 97;(with_reducible refine SE.out.mono ?_);rintro en w5 ⟨rfl,hlk,hfc⟩;have HL5:=hd0 hlk;have HC5:=hd0 hfc;refine hK.out _ _ ⟨cell_keep s5.1 KK.out hfc,cell_keep s5.2.1 KK.out hfc,cell_keep s5.2.2.1 KK.out hfc,cell_keep s5.2.2.2.1 KK.out hfc,cell_keep s5.2.2.2.2.1 KK.out hfc,cell_keep s5.2.2.2.2.2 KK.out hfc⟩ (fun hHeld=>?_);clear hK K;try simp only[Act.put,zz])
 refine tkH 14 ?_ ?h ?_
 case h=>(intro w hSw;go_simp;try with_reducible rfl)
 try simp only[Act.put,zz]
 refine wpAnyH_done (by kernel_rfl) ?_ _
 clear hlk hfc s5
 go_wp2_with fail
 go_end0
 exact⟨rfl,⟨g1,⟨cap1,cell_keep (show w4.drew.cell? ⟨ob,0,none⟩=some (.slice (some ⟨g1,0,none⟩) 1 cap1) from HO4.out) KK.out HC5.out⟩,range_fr (range_later HR4.out (Below.refl _ _).drew) HC5.out HOC.out.2,Nat.le_of_lt HX3.out.1⟩,HND.out.setL HL5.out HC5.out (by simp),HF5.out.trans (HC5.out.mono fun k _ hk=>by subst hk;simp)⟩
end Go.Proofs.YtghaobakpdninaaGreatDoor
