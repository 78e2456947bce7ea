/- ZR32 -/
import Derived.Test.YtghaobakpdninaaGreatDoorZR31
set_option linter.unusedVariables false
set_option linter.unusedSimpArgs false
set_option maxRecDepth 100000
set_option maxHeartbeats 16000000
namespace Go.Proofs.YtghaobakpdninaaGreatDoor
open Go.RowKit
def NPos.br (N:NPos):Nat→Nat|0=>N.A.b|_=>N.B.b
def LL (ll:Nat→List (Int × Int × List UInt8)):Nat→List (Int × Int × List UInt8)|0=>[]|k+1=>LL ll k++ll k
theorem LL_len (ll:Nat→List (Int × Int × List UInt8))(hl:∀ j,(ll j).length<1000):∀ k,(LL ll k).length≤1000*k
 | 0=>by simp[LL]
 | k+1=>by
  have:=LL_len ll hl k
  have:=hl k
  simp only[LL,List.length_append];omega
theorem Ow.shape {α:Type}{k:Nat}{f:α→List Value}{E:TypeId}{B:Nat}{w:World}{v:Value}{l:List α}(h:Ow k f E w B v l):∃ a n c,v=.slice a n c:=by
 rcases h.2 with⟨rfl,_⟩|⟨g,cap,cur,rfl,_⟩
 ·exact⟨_,_,_,rfl⟩
 ·exact⟨_,_,_,rfl⟩
theorem NZ.ck {W:World}{N:NPos}{s:NSt}(h:NZ W N s)(k:Nat)(hk:k<2):W.cell? ⟨N.bs,k,none⟩=some (.pointer (some ⟨N.br k,0,none⟩)):=by
 rcases(show k=0∨k=1 by omega) with rfl|rfl
 ·exact NZ.rb h 0 _ rfl
 ·exact NZ.rb h 1 _ rfl
theorem OV.shape {W:World}{lo:Nat}{v:Value}{l:List (Int × Int × List UInt8)}(h:OV W lo v l):∃ a n c,v=.slice a n c:=by
 rcases h.1 with⟨rfl,_⟩|⟨ad,c,rfl,_⟩
 ·exact⟨_,_,_,rfl⟩
 ·exact⟨_,_,_,rfl⟩
theorem told_il:(Tryz.prog.info? 49).map (·.size)=some 4:=by kernel_rfl
theorem OV.set {W:World}{lo b:Nat}{v:Value}{l:List (Int × Int × List UInt8)}(h:OV W lo v l)(hb:b<lo)(vs:List Value):OV (W.setCells b 0 vs) lo v l:=by
 obtain⟨h1,h2⟩:=h
 refine⟨?_,h2⟩
 rcases h1 with h1|⟨ad,c,rfl,h1⟩
 ·exact .inl h1
 ·refine .inr ⟨ad,c,rfl,?_⟩
  rcases h1 with h1|⟨g,o,rfl,h1⟩
  ·exact .inl h1
  ·refine .inr ⟨g,o,rfl,fun j hj i hi=>?_⟩
   have:=h2 g rfl
   have e:=h1 j hj i hi
   have hf:(W.setCells b 0 vs).heap[g]?=W.heap[g]?:=(only_cells b vs 0 W).block g (World.block_lt_of_cell? _ _ (show W.cell? ⟨g,o+j*3+i,none⟩=some ((outC l[j])[i]'(by rw[outC_len];exact hi)) by rw[e,List.getElem?_eq_getElem])) (by intro e;injection e with e;omega)
   unfold World.cell? at e ⊢
   rw[hf];exact e
theorem told_o (a:Option Addr)(n m:Nat):(#[.int .i64 0,.int .i64 0,.slice a n m,.slice none 0 0]:Array Value).all (·.oneCell')=true:=by simp[Value.oneCell']
theorem OV.mono {W:World}{lo lo':Nat}{v:Value}{l:List (Int × Int × List UInt8)}(h:OV W lo v l)(hl:lo'≤lo):OV W lo' v l:=⟨h.1,fun g hg=>Nat.le_trans hl (h.2 g hg)⟩
theorem Ow.ov {W:World}{E:TypeId}{lo:Nat}{v:Value}{l:List (Int × Int × List UInt8)}(h:Ow 3 outC E W lo v l):OV W lo v l:=⟨h.rw outC_len,fun g hg=>by
 rcases h.2 with⟨rfl,_⟩|⟨g',cap,cur,rfl,hg',_⟩
 ·cases hg
 ·cases hg;exact hg'⟩
theorem TD.fin {w W W0:World}{N:NPos}{s s0:NSt}{rb tb M:Nat}{v:Value}{l:List (Int × Int × List UInt8)}(h:TD w W N s rb tb M v l)(h0:NZ W0 N s0)(e:W0.heap.size=w.heap.size):GB 49 (W.setCells rb 0 [.int .i64 0,.int .i64 0,v,.slice none 0 0]) rb #[.int .i64 0,.int .i64 0,v,.slice none 0 0]∧OV (W.setCells rb 0 [.int .i64 0,.int .i64 0,v,.slice none 0 0]) w.heap.size v l∧NZ (W.setCells rb 0 [.int .i64 0,.int .i64 0,v,.slice none 0 0]) N s∧Fr (NK N) w (W.setCells rb 0 [.int .i64 0,.int .i64 0,v,.slice none 0 0]):=by
 obtain⟨h1,h2,h3,h4,h5⟩:=h.lt
 obtain⟨a,n,m,rfl⟩:=h.ow.shape
 have hb':Below rb W (W.setCells rb 0 [.int .i64 0,.int .i64 0,.slice a n m,.slice none 0 0]):=below_cells (Nat.le_refl _) _ _ _ (Below.refl _ _)
 exact⟨h.gr.store (A:=#[.int .i64 0,.int .i64 0,.slice a n m,.slice none 0 0]) rfl (told_o a n m),(h.ow.ov.set (by omega) _).mono (by omega),h.nz.below h0 (by omega) hb',⟨hb'.os.trans h.fr.os,hb'.tape.trans h.fr.tape,hb'.output.trans h.fr.output,Nat.le_trans h.fr.size hb'.size,fun k hk hn=>(hb'.block k (by omega)).trans (h.fr.block k hk hn)⟩⟩
theorem told_fin {w W:World}{N:NPos}{s s0:NSt}{b lo:Nat}{a:Option Addr}{n m:Nat}{A:Array Value}{l:List (Int × Int × List UInt8)}(h:GB 49 W b A)(hA:A.size=4)(hb:w.heap.size≤b)(hl:b<lo)(ho:OV W lo (.slice a n m) l)(hn:NZ W N s)(h0:NZ w N s0)(hf:Fr (NK N) w W) :
  GB 49 (W.setCells b 0 [.int .i64 0,.int .i64 0,.slice a n m,.slice none 0 0]) b #[.int .i64 0,.int .i64 0,.slice a n m,.slice none 0 0]∧OV (W.setCells b 0 [.int .i64 0,.int .i64 0,.slice a n m,.slice none 0 0]) w.heap.size (.slice a n m) l∧NZ (W.setCells b 0 [.int .i64 0,.int .i64 0,.slice a n m,.slice none 0 0]) N s∧Fr (NK N) w (W.setCells b 0 [.int .i64 0,.int .i64 0,.slice a n m,.slice none 0 0]):=by
 have hb':Below b W (W.setCells b 0 [.int .i64 0,.int .i64 0,.slice a n m,.slice none 0 0]):=below_cells (Nat.le_refl _) _ _ _ (Below.refl _ _)
 exact⟨h.store (A:=#[.int .i64 0,.int .i64 0,.slice a n m,.slice none 0 0]) hA (told_o a n m),(ho.set hl _).mono (by omega),hn.below h0 hb hb',⟨hb'.os.trans hf.os,hb'.tape.trans hf.tape,hb'.output.trans hf.output,Nat.le_trans hf.size hb'.size,fun k hk hnk=>(hb'.block k (by omega)).trans (hf.block k hk hnk)⟩⟩
theorem ntick (N:NPos)(st md:Nat→NSt)(oo:Nat→Option (Int × List UInt8))(ll:Nat→List (Int × Int × List UInt8))(hl:∀ j,(ll j).length<1000)
  (TK0:∀ k,k<2→∀ W,NZ W N (st k)→Calls Tryz.prog 69 #[.pointer (some ⟨N.br k,0,none⟩)] W fun en w'=>∃ v,en=.returned (.tuple #[v,.slice none 0 0])∧SQ w' N (md k) v (oo k)∧Fr (NK N) W w')
  (GO0:∀ k,k<2→∀ v W,SQ W N (md k) v (oo k)→Calls Tryz.prog 70 #[.pointer (some ⟨N.n,0,none⟩),.int .i64 (k:Nat),v] W fun en w'=>∃ v',en=.returned v'∧OV w' W.heap.size v' (ll k)∧NZ w' N (st (k+1))∧Fr (NK N) W w')
  (A:Array Value) (w:World) (h:NZ w N (st 0)):Calls Tryz.prog 41 #[.pointer (some ⟨N.n,0,none⟩),.agg A] w fun en w'=>∃ v,en=.returned (.agg #[.int .i64 0,.int .i64 0,v,.slice none 0 0])∧OV w' w.heap.size v (LL ll 2)∧NZ w' N (st 2)∧Fr (NK N) w w':=by
 have b1:=(Below.refl w.heap.size w).alloc (Nat.le_refl _) (.cells A 57)
 have z1:(w.alloc (.cells A 57)).heap.size=w.heap.size+1:=by simp
 obtain⟨wa,hwa⟩:∃ z,w.alloc (.cells A 57)=z:=⟨_,rfl⟩
 rw[hwa] at b1 z1
 have b2:=(Below.refl wa.heap.size wa).alloc (Nat.le_refl _) (.cells #[.int .i64 0,.int .i64 0,.slice none 0 0,.slice none 0 0] 49)
 have g2:=GB.new 49 wa #[.int .i64 0,.int .i64 0,.slice none 0 0,.slice none 0 0]
 have z2:(wa.alloc (.cells #[.int .i64 0,.int .i64 0,.slice none 0 0,.slice none 0 0] 49)).heap.size=wa.heap.size+1:=by simp
 obtain⟨wb,hwb⟩:∃ z,wa.alloc (.cells #[.int .i64 0,.int .i64 0,.slice none 0 0,.slice none 0 0] 49)=z:=⟨_,rfl⟩
 rw[hwb] at b2 g2 z2
 have b3:=(Below.refl wb.heap.size wb).alloc (Nat.le_refl _) (.cells #[.int .i64 0,.int .i64 0,.slice none 0 0,.slice none 0 0] 49)
 have g3:=GB.new 49 wb #[.int .i64 0,.int .i64 0,.slice none 0 0,.slice none 0 0]
 have z3:(wb.alloc (.cells #[.int .i64 0,.int .i64 0,.slice none 0 0,.slice none 0 0] 49)).heap.size=wb.heap.size+1:=by simp
 obtain⟨wc,hwc⟩:∃ z,wb.alloc (.cells #[.int .i64 0,.int .i64 0,.slice none 0 0,.slice none 0 0] 49)=z:=⟨_,rfl⟩
 rw[hwc] at b3 g3 z3
 have b13:=b1.trans ((b2.trans (b3.mono b2.size)).mono b1.size)
 have hn:=h.later b13
 have D0:Hid (TD w wc N (st 0) wa.heap.size wb.heap.size wc.heap.size (.slice none 0 0) []):=hd0 ⟨g2.later b3,g3,Ow.none _ _,hn,Fr.of_below b13,by omega,by omega,by omega,Nat.le_refl _,fun k hk=>h.nk hk⟩
 have TK:=hd0 TK0
 have GO:=hd0 GO0
 have HL:=hd0 (LL_len ll hl)
 have HL1:=hd0 hl
 have H0:=hd0 h
 have c0:wc.cell? ⟨N.n,0,none⟩=some (.slice (some ⟨N.bs,0,none⟩) 2 N.bc):=hn.gn.c 0 _ rfl
 clear b1 z1 b2 g2 z2 b3 g3 z3 b13 hn h hl TK0 GO0
 go_enter Tryz.func41,Tryz.ntmps41
 go_wp2_with fail
 go_loopw [17] (fun i wr=>∃ k:Nat,k≤2∧i=.int .i64 k∧∃ v,Hid (TD w wr N (st k) wa.heap.size wb.heap.size wc.heap.size v (LL ll k))) (fun i _=>2-(intOf i).toNat)
 case atStart=>exact⟨0,by omega,rfl,_,D0⟩
 case round =>
  obtain⟨k,hk,rfl,v,hD⟩:=hrel
  clear D0 c0 hwa hwb hwc
  by_cases hlt:k<2
  ·have dk:decide ((k:Int)<2)=true:=decide_eq_true (by omega)
   have TK1:=hd0 (TK.out k hlt wr hD.out.nz)
   have ck:=hD.out.nz.ck k hlt
   clear TK
   go_upto_region 5 with fail
   go_upto_region 6 with(go_at_call 69;with_reducible refine TK1.out.mono ?_;rintro en w1 ⟨v1,rfl,hq1,hf1⟩)
   have D1:Hid (TD w w1 N (md k) wa.heap.size wb.heap.size wc.heap.size v (LL ll k)∧SQ w1 N (md k) v1 (oo k)):=hd0 ⟨hD.out.turn (SQ.nz hq1) hf1,hq1⟩
   clear hq1 hf1 hD TK1 ck
   go_cut [] (fun wx=>∃ v,Hid (TD w wx N (st (k+1)) wa.heap.size wb.heap.size wc.heap.size v (LL ll (k+1))))
   case first =>
    refine wp_region_held_drew (S:=fun _=>True) (by kernel_rfl) trivial (fun hHeld=>?_)
    have ct:w1.drew.cell? ⟨wb.heap.size,2,none⟩=some v:=D1.out.1.gt.c 2 _ rfl
    refine tkH 0 ?_ ?h ?_
    case h=>(intro w hSw;go_simp;try with_reducible rfl)
    try simp only[Act.put,zz]
    refine tkH 2 ?_ ?h ?_
    case h=>(intro w hSw;go_simp;try with_reducible rfl)
    try simp only[Act.put,zz]
    refine tkH 3 ?_ ?h ?_
    case h=>(intro w hSw;go_simp;try with_reducible rfl)
    try simp only[Act.put,zz]
    refine tkH 4 ?_ ?h ?_
    case h=>(intro w hSw;go_simp;try with_reducible rfl)
    try simp only[Act.put,zz]
    refine wpAnyH_ready (rs:=[1,5]) (by kernel_rfl) (by simp) (AllReadyH.cons rfl (fun K hK=>?_) (AllReadyH.cons rfl (fun K hK=>?_) AllReadyH.nil))
    ·(go_simp;refine hK.out _ _ trivial (fun hHeld=>?_);clear hK K;try simp only[Act.put,zz])
     refine rdH 5 fun K hK=>?_
     (go_simp;go_at_call 70;(with_reducible refine(GO.out k hlt v1 _ (D1.out.2.later (Below.refl _ _).drew)).mono ?_);rintro en' w2 ⟨v2,rfl,ho2,hn2,hf2⟩;have T2:=hd0 ((D1.out.1.later (Below.refl _ _).drew).turn hn2 hf2);have O2:=hd0 ho2.1;clear ho2 hn2 hf2;refine hK.out _ _ trivial (fun hHeld=>?_);clear hK K;try simp only[Act.put,zz])
     have hlen:(LL ll k).length+(ll k).length≤100000000000:=by have:=HL.out k;have:=HL1.out k;omega
     refine rdH 6 fun K hK=>?_
     (rw[if_pos (by rfl)];refine wp_append_rw outC_len outC_one 87 46 _ 32 Tryz.underlying46 info_out rfl (by decide) (by decide) (.tmp 28) (.tmp 32) rfl wc.heap.size v (LL ll k) rfl T2.out.ow v2 (ll k) rfl O2.out hlen T2.out.lt.2.2.2.1 ?_;intro v3 w3 ho3 hb3;refine hK.out _ _ trivial (fun hHeld=>?_);clear hK K;try simp only[Act.put,zz])
     obtain⟨a3,n3,m3,rfl⟩:=ho3.shape
     have g3:=T2.out.gt.below T2.out.lt.2.2.1 hb3
     have c3:=g3.c 2 _ rfl
     have f3:=g3.fr 2
     refine tkH 7 ?_ ?h ?_
     case h=>(intro w hSw;go_simp;try with_reducible rfl)
     try simp only[Act.put,zz]
     refine rdH 8 fun K hK=>?_
     (go_simp;refine hK.out _ _ trivial (fun hHeld=>?_);clear hK K;try simp only[Act.put,zz])
     refine wpAnyH_done (by kernel_rfl) ?_ _
     go_wp2_with fail
     go_meet
     exact⟨_,hd0 (T2.out.put H0.out rfl ho3 hb3)⟩
    ·(go_simp;go_at_call 70;(with_reducible refine(GO.out k hlt v1 _ (D1.out.2.later (Below.refl _ _).drew)).mono ?_);rintro en' w2 ⟨v2,rfl,ho2,hn2,hf2⟩;have T2:=hd0 ((D1.out.1.later (Below.refl _ _).drew).turn hn2 hf2);have O2:=hd0 ho2.1;clear ho2 hn2 hf2;refine hK.out _ _ trivial (fun hHeld=>?_);clear hK K;try simp only[Act.put,zz])
     have ct2:=T2.out.gt.c 2 _ rfl
     refine rdH 1 fun K hK=>?_
     (go_simp;refine hK.out _ _ trivial (fun hHeld=>?_);clear hK K;try simp only[Act.put,zz])
     have hlen:(LL ll k).length+(ll k).length≤100000000000:=by have:=HL.out k;have:=HL1.out k;omega
     refine rdH 6 fun K hK=>?_
     (rw[if_pos (by rfl)];refine wp_append_rw outC_len outC_one 87 46 _ 32 Tryz.underlying46 info_out rfl (by decide) (by decide) (.tmp 28) (.tmp 32) rfl wc.heap.size v (LL ll k) rfl T2.out.ow v2 (ll k) rfl O2.out hlen T2.out.lt.2.2.2.1 ?_;intro v3 w3 ho3 hb3;refine hK.out _ _ trivial (fun hHeld=>?_);clear hK K;try simp only[Act.put,zz])
     obtain⟨a3,n3,m3,rfl⟩:=ho3.shape
     have g3:=T2.out.gt.below T2.out.lt.2.2.1 hb3
     have c3:=g3.c 2 _ rfl
     have f3:=g3.fr 2
     refine tkH 7 ?_ ?h ?_
     case h=>(intro w hSw;go_simp;try with_reducible rfl)
     try simp only[Act.put,zz]
     refine rdH 8 fun K hK=>?_
     (go_simp;refine hK.out _ _ trivial (fun hHeld=>?_);clear hK K;try simp only[Act.put,zz])
     refine wpAnyH_done (by kernel_rfl) ?_ _
     go_wp2_with fail
     go_meet
     exact⟨_,hd0 (T2.out.put H0.out rfl ho3 hb3)⟩
   case rest =>
    obtain⟨v3,D3⟩:=hcut
    go_wp2_with fail
    refine wp_loop_rounds 1 ?_
    rw[rounds_succ]
    go_wp2_with fail
    go_roundw
    case rel=>exact⟨k+1,by omega,by go_num,_,D3⟩
    case measure=>simp[intOf];omega
  ·obtain rfl:k=2:=by omega
   have dk:decide (((2:Nat):Int)<2)=false:=rfl
   obtain⟨a4,n4,m4,rfl⟩:=hD.out.ow.shape
   have F4:=hd0 (hD.out.fin H0.out rfl)
   have r4:wr.rangeAt wb.heap.size 0 [.int .i64 0,.int .i64 0,.slice a4 n4 m4,.slice none 0 0]:=hD.out.gt.range
   have IL:Hid ((Tryz.prog.info? 49).map (·.size)=some [Value.int .i64 0,Value.int .i64 0,Value.slice a4 n4 m4,Value.slice none 0 0].length):=hd0 told_il
   have TH:Hid (wr.there wa.heap.size 0 (#[.int .i64 0,.int .i64 0,.slice a4 n4 m4,.slice none 0 0]:Array Value).size):=hd0 (hD.out.gr.there (n:=4) (Nat.le_refl _))
   have IT:Hid ((Tryz.prog.info? 49).map (·.size)=some (#[.int .i64 0,.int .i64 0,.slice a4 n4 m4,.slice none 0 0]:Array Value).size):=hd0 told_il
   have O4:=hd0 (told_o a4 n4 m4)
   clear hD
   go_wp2_with (first
    |((with_reducible refine wpList_load_mid rfl 49 (.tmp 5) rfl wb.heap.size 0 ?hx _ _ r4 Tryz.underlying49 ?hu IL.out ?_);(case hx=>rfl);(case hu=>rfl))
    |((with_reducible refine wpList_store_mid rfl 49 (.tmp 4) (.tmp 51) rfl wa.heap.size 0 #[.int .i64 0,.int .i64 0,.slice a4 n4 m4,.slice none 0 0] ?hx ?hy TH.out IT.out O4.out ?_);(case hx=>rfl);(case hy=>rfl)))
   refine bodyPost_ret (v:=.agg #[.int .i64 0,.int .i64 0,.slice a4 n4 m4,.slice none 0 0]) (res_one (p:=4) (d:=_) rfl rfl Tryz.underlying49 _ _ wa.heap.size _ rfl F4.out.1 told_il) rfl ?_
   exact⟨_,rfl,F4.out.2⟩
theorem ncomes0 (N:NPos)(s s1 s2 s3:NSt)(x:Value)(o:Option (Int × List UInt8))(l:List (Int × Int × List UInt8))
  (CO0:∀ W,NZ W N s→Calls Tryz.prog 98 #[.pointer (some ⟨N.l,0,none⟩),.int .i64 0] W fun en w'=>en=.returned (.tuple #[x,.int .i64 0])∧NZ w' N s1∧Fr (NK N) W w')
  (RV0:∀ W,NZ W N s1→Calls Tryz.prog 76 #[.pointer (some ⟨N.B.b,0,none⟩),.int .u8 1,x] W fun en w'=>∃ v,en=.returned v∧SQ w' N s2 v o∧Fr (NK N) W w')
  (GO0:∀ v W,SQ W N s2 v o→Calls Tryz.prog 70 #[.pointer (some ⟨N.n,0,none⟩),.int .i64 1,v] W fun en w'=>∃ v',en=.returned v'∧OV w' W.heap.size v' l∧NZ w' N s3∧Fr (NK N) W w')
  (w:World) (h:NZ w N s):Calls Tryz.prog 72 #[.pointer (some ⟨N.n,0,none⟩),.pointer (some ⟨N.ls,0,none⟩),.int .i64 0] w fun en w'=>∃ v,en=.returned (.agg #[.int .i64 0,.int .i64 0,v,.slice none 0 0])∧OV w' w.heap.size v l∧NZ w' N s3∧Fr (NK N) w w':=by
 have hb:=(Below.refl w.heap.size w).alloc (Nat.le_refl _) (.cells #[.int .i64 0,.int .i64 0,.slice none 0 0,.slice none 0 0] 49)
 have g1:=GB.new 49 w #[.int .i64 0,.int .i64 0,.slice none 0 0,.slice none 0 0]
 have z1:(w.alloc (.cells #[.int .i64 0,.int .i64 0,.slice none 0 0,.slice none 0 0] 49)).heap.size=w.heap.size+1:=by simp
 obtain⟨w0,hw0⟩:∃ z,w.alloc (.cells #[.int .i64 0,.int .i64 0,.slice none 0 0,.slice none 0 0] 49)=z:=⟨_,rfl⟩
 rw[hw0] at hb g1 z1
 have H0:=hd0 (h.later hb)
 have CO:=hd0 (CO0 w0 H0.out)
 have RV:=hd0 RV0
 have GO:=hd0 GO0
 have c0:w0.cell? ⟨N.ls,0,none⟩=some (.pointer (some ⟨N.l,0,none⟩)):=NZ.rl H0.out 0 _ rfl
 have HK:=hd0 fun k (hk:NK N k)=>h.nk hk
 have HN:=hd0 h
 have HO:=hd0 h.out
 have HB:=hd0 hb
 have HG:=hd0 g1
 have HZ:=hd0 z1
 clear h CO0 RV0 GO0 hb g1 z1
 go_enter Tryz.func72,Tryz.ntmps72
 go_upto_region 1 with fail
 clear hw0
 go_upto_region 2 with(go_at_call 98;with_reducible refine CO.out.mono ?_;rintro en w1 ⟨rfl,hz1,hf1⟩)
 have G1:=hd0 (HG.out.fr' hf1 fun hk=>by have:=HK.out _ hk;omega)
 have F1:=hd0 ((Fr.of_below (D:=NK N) HB.out).trans hf1)
 have r1:w1.rangeAt N.ls 4 [.int .i64 1,.int .u8 1,.int .u32 5]:=fun j v hv=>by
  have hj:j<3:=by have:=(List.getElem?_eq_some_iff.1 hv).1;simpa using this
  have:=NZ.rl hz1 (j+4) v (by rcases(show j=0∨j=1∨j=2 by omega) with rfl|rfl|rfl <;> exact hv)
  rwa [Nat.zero_add,Nat.add_comm] at this
 have H1:=hd0 hz1
 have HS1:=hd0 hf1.size
 have IE:Hid ((Tryz.prog.info? 103).map (·.size)=some [Value.int .i64 1,Value.int .u8 1,Value.int .u32 5].length):=hd0 (by kernel_rfl)
 clear hz1 hf1 c0 CO
 go_upto_region 5 with((with_reducible refine wpList_load_mid rfl 103 (.tmp 28) rfl N.ls 4 ?hx _ _ r1 Tryz.underlying103 ?hu IE.out ?_);(case hx=>rfl);(case hu=>rfl))
 have hb2:=(Below.refl w1.heap.size w1).alloc (Nat.le_refl _) (.cells #[.int .i64 1,.int .u8 1,.int .u32 5] 103)
 have g2:=GB.new 103 w1 #[.int .i64 1,.int .u8 1,.int .u32 5]
 have h2:=H1.out.later hb2
 have G2:=hd0 (G1.out.later hb2)
 have F2:=hd0 (F1.out.trans (Fr.of_below hb2))
 obtain⟨z,hz⟩:∃ z,w1.heap.size=z:=⟨_,rfl⟩
 have hzw:w.heap.size<z:=by have:=HS1.out;have:=HZ.out;omega
 rw[hz] at g2 ⊢
 obtain⟨w2,hw2⟩:∃ z,w1.alloc (.cells #[.int .i64 1,.int .u8 1,.int .u32 5] 103)=z:=⟨_,rfl⟩
 have hzz:z<w2.heap.size:=by rw[←hw2,← hz];simp
 rw[hw2] at g2 h2 G2 F2 ⊢
 have SX:Hid (∀ W,Fr (fun k=>NK N k∨k=w.heap.size) w2 W→W.cell? ⟨z,0,none⟩=some (.int .i64 1)∧W.cell? ⟨z,1,none⟩=some (.int .u8 1)∧W.cell? ⟨N.n,0,none⟩=some (.slice (some ⟨N.bs,0,none⟩) 2 N.bc)∧W.cell? ⟨N.bs,1,none⟩=some (.pointer (some ⟨N.B.b,0,none⟩))):=hd0 fun W hf=>by
  have gz:=g2.fr' hf fun hk=>hk.elim (fun hk=>by have:=HK.out _ hk;omega) (fun hk=>by omega)
  have o1:N.n≠w.heap.size:=by have:=(NZ.gn HN.out).lt;omega
  have o2:N.bs≠w.heap.size:=by have:=range_lt (by simp) (NZ.rb HN.out);omega
  have r:=range_fr (NZ.rb h2) hf (fun hk=>hk.elim HO.out.2.1 o2) 1 _ rfl
  exact⟨gz.c 0 _ rfl,gz.c 1 _ rfl,((NZ.gn h2).fr' hf (fun hk=>hk.elim HO.out.1 o1)).c 0 _ rfl,by simpa using r⟩
 have BD:Fr (NK N) w2 w2.drew:=Fr.of_below (Below.refl _ _).drew
 have H2:=hd0 (h2.later (Below.refl _ _).drew)
 have W2:=hd0 fun W (hf:Fr (NK N) w2 W)=>hf.mono (E:=fun k=>NK N k∨k=w.heap.size) fun k _ hk=>Or.inl hk
 clear hb2 g2 h2 hz hw2 r1
 refine wp_region_held_drew (S:=fun W=>W.cell? ⟨z,0,none⟩=some (.int .i64 1)∧W.cell? ⟨z,1,none⟩=some (.int .u8 1)∧W.cell? ⟨N.n,0,none⟩=some (.slice (some ⟨N.bs,0,none⟩) 2 N.bc)∧W.cell? ⟨N.bs,1,none⟩=some (.pointer (some ⟨N.B.b,0,none⟩))) (by kernel_rfl) (SX.out _ (W2.out _ BD)) (fun hHeld=>?_)
 refine tkH 0 ?_ ?h ?_
 case h=>(intro w hSw;go_simp;try with_reducible rfl)
 try simp only[Act.put,zz]
 refine tkH 1 ?_ ?h ?_
 case h=>(intro w hSw;go_simp;try with_reducible rfl)
 try simp only[Act.put,zz]
 refine tkH 2 ?_ ?h ?_
 case h=>(intro w hSw;go_simp;try with_reducible rfl)
 try simp only[Act.put,zz]
 refine tkH 3 ?_ ?h ?_
 case h=>(intro w hSw;go_simp;try with_reducible rfl)
 try simp only[Act.put,zz]
 refine tkH 4 ?_ ?h ?_
 case h=>(intro w hSw;go_simp;try with_reducible rfl)
 try simp only[Act.put,zz]
 refine tkH 5 ?_ ?h ?_
 case h=>(intro w hSw;go_simp;try with_reducible rfl)
 try simp only[Act.put,zz]
 refine tkH 6 ?_ ?h ?_
 case h=>(intro w hSw;go_simp;try with_reducible rfl)
 try simp only[Act.put,zz]
 refine tkH 7 ?_ ?h ?_
 case h=>(intro w hSw;go_simp;try with_reducible rfl)
 try simp only[Act.put,zz]
 refine tkH 8 ?_ ?h ?_
 case h=>(intro w hSw;go_simp;try with_reducible rfl)
 try simp only[Act.put,zz]
 refine tkH 9 ?_ ?h ?_
 case h=>(intro w hSw;go_simp;try with_reducible rfl)
 try simp only[Act.put,zz]
 refine tkH 10 ?_ ?h ?_
 case h=>(intro w hSw;go_simp;try with_reducible rfl)
 try simp only[Act.put,zz]
 refine tkH 11 ?_ ?h ?_
 case h=>(intro w hSw;go_simp;try with_reducible rfl)
 try simp only[Act.put,zz]
 refine tkH 12 ?_ ?h ?_
 case h=>(intro w hSw;go_simp;try with_reducible rfl)
 try simp only[Act.put,zz]
 refine tkH 13 ?_ ?h ?_
 case h=>(intro w hSw;go_simp;try with_reducible rfl)
 try simp only[Act.put,zz]
 refine rdH 14 fun K hK=>?_
 (go_simp;go_at_call 76;(with_reducible refine(RV.out _ H2.out).mono ?_);rintro en' w3 ⟨v3,rfl,hq3,hf3⟩;have F3:=hd0 (BD.trans hf3);have Q3:=hd0 hq3;refine hK.out _ _ (SX.out _ (W2.out _ F3.out)) (fun hHeld=>?_);clear hK K hq3 hf3;try simp only[Act.put,zz])
 refine rdH 15 fun K hK=>?_
 (go_simp;go_at_call 70;(with_reducible refine(GO.out v3 _ Q3.out).mono ?_);rintro en' w4 ⟨v4,rfl,ho4,hn4,hf4⟩;obtain⟨a4,n4,m4,rfl⟩:=ho4.shape;have F4:=hd0 (F3.out.trans hf4);have O4:=hd0 (And.intro ho4 hn4);refine hK.out _ _ (SX.out _ (W2.out _ F4.out)) (fun hHeld=>?_);clear hK K ho4 hn4 hf4;try simp only[Act.put,zz])
 have G4:=hd0 (G2.out.fr' F4.out fun hk=>by have:=HK.out _ hk;omega)
 have F5:=hd0 (told_fin G4.out rfl (Nat.le_refl _) (by have:=F3.out.size;omega) O4.out.1 O4.out.2 HN.out (F2.out.trans F4.out))
 have TH:Hid (w4.there w.heap.size 0 (#[.int .i64 0,.int .i64 0,.slice a4 n4 m4,.slice none 0 0]:Array Value).size):=hd0 (G4.out.there (n:=4) (Nat.le_refl _))
 have IT:Hid ((Tryz.prog.info? 49).map (·.size)=some (#[.int .i64 0,.int .i64 0,.slice a4 n4 m4,.slice none 0 0]:Array Value).size):=hd0 told_il
 have OC:=hd0 (told_o a4 n4 m4)
 have F6:Hid (Fr (fun k=>NK N k∨k=w.heap.size) w2 (w4.setCells w.heap.size 0 [.int .i64 0,.int .i64 0,.slice a4 n4 m4,.slice none 0 0])):=hd0 ((W2.out _ F4.out).trans (Fr.of_only (only_cells _ _ _ _) (Or.inr rfl)))
 refine tkH 16 ?_ ?h ?_
 case h=>(intro w hSw;go_simp;try with_reducible rfl)
 try simp only[Act.put,zz]
 refine rdH 17 fun K hK=>?_
 (rw[if_pos (by rfl)];refine wp_store_mid 49 (.tmp 6) (.tmp 46) rfl _ 0 #[.int .i64 0,.int .i64 0,.slice a4 n4 m4,.slice none 0 0] rfl (by rfl) TH.out IT.out OC.out ?_;refine hK.out _ _ (SX.out _ F6.out) (fun hHeld=>?_);clear hK K;try simp only[Act.put,zz])
 refine wpAnyH_done (by kernel_rfl) ?_ _
 go_wp2_with fail
 refine bodyPost_ret (v:=.agg #[.int .i64 0,.int .i64 0,.slice a4 n4 m4,.slice none 0 0]) (res_one (p:=6) (d:=_) rfl rfl Tryz.underlying49 _ _ w.heap.size _ rfl F5.out.1 told_il) rfl ?_
 exact⟨_,rfl,F5.out.2⟩
theorem ncomes1 (N:NPos)(s s1 s2 s3:NSt)(x:Value)(o:Option (Int × List UInt8))(l:List (Int × Int × List UInt8))
  (CO0:∀ W,NZ W N s→Calls Tryz.prog 98 #[.pointer (some ⟨N.l,0,none⟩),.int .i64 1] W fun en w'=>en=.returned (.tuple #[x,.int .i64 0])∧NZ w' N s1∧Fr (NK N) W w')
  (RV0:∀ W,NZ W N s1→Calls Tryz.prog 76 #[.pointer (some ⟨N.A.b,0,none⟩),.int .u8 1,x] W fun en w'=>∃ v,en=.returned v∧SQ w' N s2 v o∧Fr (NK N) W w')
  (GO0:∀ v W,SQ W N s2 v o→Calls Tryz.prog 70 #[.pointer (some ⟨N.n,0,none⟩),.int .i64 0,v] W fun en w'=>∃ v',en=.returned v'∧OV w' W.heap.size v' l∧NZ w' N s3∧Fr (NK N) W w')
  (w:World) (h:NZ w N s):Calls Tryz.prog 72 #[.pointer (some ⟨N.n,0,none⟩),.pointer (some ⟨N.ls,0,none⟩),.int .i64 1] w fun en w'=>∃ v,en=.returned (.agg #[.int .i64 0,.int .i64 0,v,.slice none 0 0])∧OV w' w.heap.size v l∧NZ w' N s3∧Fr (NK N) w w':=by
 have hb:=(Below.refl w.heap.size w).alloc (Nat.le_refl _) (.cells #[.int .i64 0,.int .i64 0,.slice none 0 0,.slice none 0 0] 49)
 have g1:=GB.new 49 w #[.int .i64 0,.int .i64 0,.slice none 0 0,.slice none 0 0]
 have z1:(w.alloc (.cells #[.int .i64 0,.int .i64 0,.slice none 0 0,.slice none 0 0] 49)).heap.size=w.heap.size+1:=by simp
 obtain⟨w0,hw0⟩:∃ z,w.alloc (.cells #[.int .i64 0,.int .i64 0,.slice none 0 0,.slice none 0 0] 49)=z:=⟨_,rfl⟩
 rw[hw0] at hb g1 z1
 have H0:=hd0 (h.later hb)
 have CO:=hd0 (CO0 w0 H0.out)
 have RV:=hd0 RV0
 have GO:=hd0 GO0
 have c0:w0.cell? ⟨N.ls,0,none⟩=some (.pointer (some ⟨N.l,0,none⟩)):=NZ.rl H0.out 0 _ rfl
 have HK:=hd0 fun k (hk:NK N k)=>h.nk hk
 have HN:=hd0 h
 have HO:=hd0 h.out
 have HB:=hd0 hb
 have HG:=hd0 g1
 have HZ:=hd0 z1
 clear h CO0 RV0 GO0 hb g1 z1
 go_enter Tryz.func72,Tryz.ntmps72
 go_upto_region 1 with fail
 clear hw0
 go_upto_region 2 with(go_at_call 98;with_reducible refine CO.out.mono ?_;rintro en w1 ⟨rfl,hz1,hf1⟩)
 have G1:=hd0 (HG.out.fr' hf1 fun hk=>by have:=HK.out _ hk;omega)
 have F1:=hd0 ((Fr.of_below (D:=NK N) HB.out).trans hf1)
 have r1:w1.rangeAt N.ls 1 [.int .i64 0,.int .u8 1,.int .u32 5]:=fun j v hv=>by
  have hj:j<3:=by have:=(List.getElem?_eq_some_iff.1 hv).1;simpa using this
  have:=NZ.rl hz1 (j+1) v (by rcases(show j=0∨j=1∨j=2 by omega) with rfl|rfl|rfl <;> exact hv)
  rwa [Nat.zero_add,Nat.add_comm] at this
 have H1:=hd0 hz1
 have HS1:=hd0 hf1.size
 have IE:Hid ((Tryz.prog.info? 103).map (·.size)=some [Value.int .i64 0,Value.int .u8 1,Value.int .u32 5].length):=hd0 (by kernel_rfl)
 clear hz1 hf1 c0 CO
 go_upto_region 5 with((with_reducible refine wpList_load_mid rfl 103 (.tmp 28) rfl N.ls 1 ?hx _ _ r1 Tryz.underlying103 ?hu IE.out ?_);(case hx=>rfl);(case hu=>rfl))
 have hb2:=(Below.refl w1.heap.size w1).alloc (Nat.le_refl _) (.cells #[.int .i64 0,.int .u8 1,.int .u32 5] 103)
 have g2:=GB.new 103 w1 #[.int .i64 0,.int .u8 1,.int .u32 5]
 have h2:=H1.out.later hb2
 have G2:=hd0 (G1.out.later hb2)
 have F2:=hd0 (F1.out.trans (Fr.of_below hb2))
 obtain⟨z,hz⟩:∃ z,w1.heap.size=z:=⟨_,rfl⟩
 have hzw:w.heap.size<z:=by have:=HS1.out;have:=HZ.out;omega
 rw[hz] at g2 ⊢
 obtain⟨w2,hw2⟩:∃ z,w1.alloc (.cells #[.int .i64 0,.int .u8 1,.int .u32 5] 103)=z:=⟨_,rfl⟩
 have hzz:z<w2.heap.size:=by rw[←hw2,← hz];simp
 rw[hw2] at g2 h2 G2 F2 ⊢
 have SX:Hid (∀ W,Fr (fun k=>NK N k∨k=w.heap.size) w2 W→W.cell? ⟨z,0,none⟩=some (.int .i64 0)∧W.cell? ⟨z,1,none⟩=some (.int .u8 1)∧W.cell? ⟨N.n,0,none⟩=some (.slice (some ⟨N.bs,0,none⟩) 2 N.bc)∧W.cell? ⟨N.bs,0,none⟩=some (.pointer (some ⟨N.A.b,0,none⟩))):=hd0 fun W hf=>by
  have gz:=g2.fr' hf fun hk=>hk.elim (fun hk=>by have:=HK.out _ hk;omega) (fun hk=>by omega)
  have o1:N.n≠w.heap.size:=by have:=(NZ.gn HN.out).lt;omega
  have o2:N.bs≠w.heap.size:=by have:=range_lt (by simp) (NZ.rb HN.out);omega
  have r:=range_fr (NZ.rb h2) hf (fun hk=>hk.elim HO.out.2.1 o2) 0 _ rfl
  exact⟨gz.c 0 _ rfl,gz.c 1 _ rfl,((NZ.gn h2).fr' hf (fun hk=>hk.elim HO.out.1 o1)).c 0 _ rfl,by simpa using r⟩
 have BD:Fr (NK N) w2 w2.drew:=Fr.of_below (Below.refl _ _).drew
 have H2:=hd0 (h2.later (Below.refl _ _).drew)
 have W2:=hd0 fun W (hf:Fr (NK N) w2 W)=>hf.mono (E:=fun k=>NK N k∨k=w.heap.size) fun k _ hk=>Or.inl hk
 clear hb2 g2 h2 hz hw2 r1
 refine wp_region_held_drew (S:=fun W=>W.cell? ⟨z,0,none⟩=some (.int .i64 0)∧W.cell? ⟨z,1,none⟩=some (.int .u8 1)∧W.cell? ⟨N.n,0,none⟩=some (.slice (some ⟨N.bs,0,none⟩) 2 N.bc)∧W.cell? ⟨N.bs,0,none⟩=some (.pointer (some ⟨N.A.b,0,none⟩))) (by kernel_rfl) (SX.out _ (W2.out _ BD)) (fun hHeld=>?_)
 refine tkH 0 ?_ ?h ?_
 case h=>(intro w hSw;go_simp;try with_reducible rfl)
 try simp only[Act.put,zz]
 refine tkH 1 ?_ ?h ?_
 case h=>(intro w hSw;go_simp;try with_reducible rfl)
 try simp only[Act.put,zz]
 refine tkH 2 ?_ ?h ?_
 case h=>(intro w hSw;go_simp;try with_reducible rfl)
 try simp only[Act.put,zz]
 refine tkH 3 ?_ ?h ?_
 case h=>(intro w hSw;go_simp;try with_reducible rfl)
 try simp only[Act.put,zz]
 refine tkH 4 ?_ ?h ?_
 case h=>(intro w hSw;go_simp;try with_reducible rfl)
 try simp only[Act.put,zz]
 refine tkH 5 ?_ ?h ?_
 case h=>(intro w hSw;go_simp;try with_reducible rfl)
 try simp only[Act.put,zz]
 refine tkH 6 ?_ ?h ?_
 case h=>(intro w hSw;go_simp;try with_reducible rfl)
 try simp only[Act.put,zz]
 refine tkH 7 ?_ ?h ?_
 case h=>(intro w hSw;go_simp;try with_reducible rfl)
 try simp only[Act.put,zz]
 refine tkH 8 ?_ ?h ?_
 case h=>(intro w hSw;go_simp;try with_reducible rfl)
 try simp only[Act.put,zz]
 refine tkH 9 ?_ ?h ?_
 case h=>(intro w hSw;go_simp;try with_reducible rfl)
 try simp only[Act.put,zz]
 refine tkH 10 ?_ ?h ?_
 case h=>(intro w hSw;go_simp;try with_reducible rfl)
 try simp only[Act.put,zz]
 refine tkH 11 ?_ ?h ?_
 case h=>(intro w hSw;go_simp;try with_reducible rfl)
 try simp only[Act.put,zz]
 refine tkH 12 ?_ ?h ?_
 case h=>(intro w hSw;go_simp;try with_reducible rfl)
 try simp only[Act.put,zz]
 refine tkH 13 ?_ ?h ?_
 case h=>(intro w hSw;go_simp;try with_reducible rfl)
 try simp only[Act.put,zz]
 refine rdH 14 fun K hK=>?_
 (go_simp;go_at_call 76;(with_reducible refine(RV.out _ H2.out).mono ?_);rintro en' w3 ⟨v3,rfl,hq3,hf3⟩;have F3:=hd0 (BD.trans hf3);have Q3:=hd0 hq3;refine hK.out _ _ (SX.out _ (W2.out _ F3.out)) (fun hHeld=>?_);clear hK K hq3 hf3;try simp only[Act.put,zz])
 refine rdH 15 fun K hK=>?_
 (go_simp;go_at_call 70;(with_reducible refine(GO.out v3 _ Q3.out).mono ?_);rintro en' w4 ⟨v4,rfl,ho4,hn4,hf4⟩;obtain⟨a4,n4,m4,rfl⟩:=ho4.shape;have F4:=hd0 (F3.out.trans hf4);have O4:=hd0 (And.intro ho4 hn4);refine hK.out _ _ (SX.out _ (W2.out _ F4.out)) (fun hHeld=>?_);clear hK K ho4 hn4 hf4;try simp only[Act.put,zz])
 have G4:=hd0 (G2.out.fr' F4.out fun hk=>by have:=HK.out _ hk;omega)
 have F5:=hd0 (told_fin G4.out rfl (Nat.le_refl _) (by have:=F3.out.size;omega) O4.out.1 O4.out.2 HN.out (F2.out.trans F4.out))
 have TH:Hid (w4.there w.heap.size 0 (#[.int .i64 0,.int .i64 0,.slice a4 n4 m4,.slice none 0 0]:Array Value).size):=hd0 (G4.out.there (n:=4) (Nat.le_refl _))
 have IT:Hid ((Tryz.prog.info? 49).map (·.size)=some (#[.int .i64 0,.int .i64 0,.slice a4 n4 m4,.slice none 0 0]:Array Value).size):=hd0 told_il
 have OC:=hd0 (told_o a4 n4 m4)
 have F6:Hid (Fr (fun k=>NK N k∨k=w.heap.size) w2 (w4.setCells w.heap.size 0 [.int .i64 0,.int .i64 0,.slice a4 n4 m4,.slice none 0 0])):=hd0 ((W2.out _ F4.out).trans (Fr.of_only (only_cells _ _ _ _) (Or.inr rfl)))
 refine tkH 16 ?_ ?h ?_
 case h=>(intro w hSw;go_simp;try with_reducible rfl)
 try simp only[Act.put,zz]
 refine rdH 17 fun K hK=>?_
 (rw[if_pos (by rfl)];refine wp_store_mid 49 (.tmp 6) (.tmp 46) rfl _ 0 #[.int .i64 0,.int .i64 0,.slice a4 n4 m4,.slice none 0 0] rfl (by rfl) TH.out IT.out OC.out ?_;refine hK.out _ _ (SX.out _ F6.out) (fun hHeld=>?_);clear hK K;try simp only[Act.put,zz])
 refine wpAnyH_done (by kernel_rfl) ?_ _
 go_wp2_with fail
 refine bodyPost_ret (v:=.agg #[.int .i64 0,.int .i64 0,.slice a4 n4 m4,.slice none 0 0]) (res_one (p:=6) (d:=_) rfl rfl Tryz.underlying49 _ _ w.heap.size _ rfl F5.out.1 told_il) rfl ?_
 exact⟨_,rfl,F5.out.2⟩
end Go.Proofs.YtghaobakpdninaaGreatDoor
