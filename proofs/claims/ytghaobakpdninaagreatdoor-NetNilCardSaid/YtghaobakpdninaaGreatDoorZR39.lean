/- ZR39 -/
import Derived.Test.YtghaobakpdninaaGreatDoorZR32
set_option linter.unusedVariables false
set_option linter.unusedSimpArgs false
set_option maxRecDepth 100000
set_option maxHeartbeats 16000000
namespace Go.Proofs.YtghaobakpdninaaGreatDoor
open Go.RowKit
theorem ncmd0 (N:NPos)(s s':NSt)(C A:Array Value)(hC:C.size=27)(hA1:A[1]?=some (.int .u8 0))(hAC:∀ j v,C[j]?=some v→A[5+j]?=some v)
  (DO0:∀ W,NZ W N s→Calls Tryz.prog 77 #[.pointer (some ⟨N.A.b,0,none⟩),.agg C] W fun en w'=>en=.returned (.tuple #[.slice none 0 0,.int .i64 0,.int .i64 0])∧NZ w' N s'∧Fr (NK N) W w')
  (w:World) (h:NZ w N s):Calls Tryz.prog 46 #[.pointer (some ⟨N.n,0,none⟩),.agg A] w fun en w'=>∃ v,en=.returned (.agg #[.int .i64 0,.int .i64 0,v,.slice none 0 0])∧OV w' w.heap.size v []∧NZ w' N s'∧Fr (NK N) w w':=by
 have hb:=((Below.refl w.heap.size w).alloc (Nat.le_refl _) (.cells A 57)).alloc (by simp) (.cells #[.int .i64 0,.int .i64 0,.slice none 0 0,.slice none 0 0] 49)
 have g1:=(GB.new 57 w A).later (bAo (.cells #[.int .i64 0,.int .i64 0,.slice none 0 0,.slice none 0 0] 49))
 have g2:=GB.new 49 (w.alloc (.cells A 57)) #[.int .i64 0,.int .i64 0,.slice none 0 0,.slice none 0 0]
 rw[show(w.alloc (.cells A 57)).heap.size=w.heap.size+1 by simp] at g2
 have hz:((w.alloc (.cells A 57)).alloc (.cells #[.int .i64 0,.int .i64 0,.slice none 0 0,.slice none 0 0] 49)).heap.size=w.heap.size+2:=by simp
 obtain⟨w0,hw0⟩:∃ z,(w.alloc (.cells A 57)).alloc (.cells #[.int .i64 0,.int .i64 0,.slice none 0 0,.slice none 0 0] 49)=z:=⟨_,rfl⟩
 rw[hw0] at hb g1 g2 hz
 have HN:=hd0 h
 have HK:=hd0 fun k (hk:NK N k)=>h.nk hk
 have HO:=hd0 h.out
 have HB:=hd0 hb
 have HZ:=hd0 hz
 have DO:=hd0 DO0
 have SX:Hid (∀ W,Fr (NK N) w0 W→GB 57 W w.heap.size A∧GB 49 W (w.heap.size+1) #[.int .i64 0,.int .i64 0,.slice none 0 0,.slice none 0 0]∧W.cell? ⟨N.n,0,none⟩=some (.slice (some ⟨N.bs,0,none⟩) 2 N.bc)∧W.cell? ⟨N.bs,0,none⟩=some (.pointer (some ⟨N.A.b,0,none⟩))):=hd0 fun W hf=>by
  have r:=range_fr (NZ.rb (h.later hb)) hf HO.out.2.1 0 _ rfl
  exact⟨g1.fr' hf fun hk=>by have:=HK.out _ hk;omega,g2.fr' hf fun hk=>by have:=HK.out _ hk;omega,((NZ.gn (h.later hb)).fr' hf HO.out.1).c 0 _ rfl,by simpa using r⟩
 have RC:Hid (∀ W,Fr (NK N) w0 W→W.rangeAt w.heap.size 5 C.toList):=hd0 fun W hf j v hv=>(SX.out W hf).1.c (5+j) v (hAC j v (by simpa using hv))
 have HIL:Hid ((Tryz.prog.info? 55).map (·.size)=some C.toList.length):=hd0 (by rw[Array.length_toList,hC];kernel_rfl)
 have l1:∀ K:Later w0,K.out.cell? ⟨w.heap.size,1,none⟩=some (.int .u8 0):=fun K=>(SX.out _ (Fr.of_below K.h)).1.c 1 _ hA1
 have l2:∀ K:Later w0,K.out.cell? ⟨N.n,0,none⟩=some (.slice (some ⟨N.bs,0,none⟩) 2 N.bc):=fun K=>(SX.out _ (Fr.of_below K.h)).2.2.1
 have NL:=hd0 fun(W:World) (hW:Below w0.heap.size w0 W)=>(h.later hb).later hW
 clear h hb g1 g2 hz DO0 hAC hA1
 go_enter Tryz.func46,Tryz.ntmps46
 go_upto_region 1 with fail
 clear hw0
 refine wp_region_later (by kernel_rfl) (by kernel_rfl) ?_
 repeat (go_big_quiet_step (fail))
 refine wpQuiet_nil ?_
 rintro _ ⟨K,rfl⟩
 clear l1 l2
 go_upto_region 2 with fail
 have BD:Below w0.heap.size w0 K.out.drew:=K.h.drew
 obtain⟨w1,hw1⟩:∃ z,K.out=z:=⟨_,rfl⟩
 rw[hw1] at BD ⊢
 clear hw1 K
 have S0:=SX.out _ (Fr.of_below BD)
 have N1:=hd0 (NL.out _ BD)
 refine wp_region_held_drew (S:=fun W=>W.cell? ⟨N.n,0,none⟩=some (.slice (some ⟨N.bs,0,none⟩) 2 N.bc)∧W.cell? ⟨N.bs,0,none⟩=some (.pointer (some ⟨N.A.b,0,none⟩))∧W.rangeAt w.heap.size 5 C.toList) (by kernel_rfl) ⟨S0.2.2.1,S0.2.2.2,RC.out _ (Fr.of_below BD)⟩ (fun hHeld=>?_)
 clear S0
 refine tkH 0 ?_ ?h ?_
 case h=>(intro w hSw;go_simp;try with_reducible rfl)
 try simp only[Act.put,zz]
 refine tkH 1 ?_ ?h ?_
 case h=>(intro w hSw;go_simp;try with_reducible rfl)
 try simp only[Act.put,zz]
 refine tkH 2 ?_ ?h ?_
 case h=>(intro w hSw;go_simp;try with_reducible rfl)
 try simp only[Act.put,zz]
 refine tkH 3 ?_ ?h ?_
 case h=>(intro w hSw;go_simp;try with_reducible rfl)
 try simp only[Act.put,zz]
 refine tkH 4 ?_ ?h ?_
 case h=>(intro w hSw;go_simp;try with_reducible rfl)
 try simp only[Act.put,zz]
 refine tkH 5 ?_ ?h ?_
 case h=>(intro w hSw;go_simp;try with_reducible rfl)
 try simp only[Act.put,zz]
 refine tkH 6 ?_ ?h ?_
 case h=>(intro w hSw;go_simp;try with_reducible rfl)
 try simp only[Act.put,zz]
 refine tkH 7 ?_ ?h ?_
 case h=>(intro w hSw;go_simp;try with_reducible rfl)
 try simp only[Act.put,zz]
 refine wpAnyH_take (i:=8) (v:=.agg C.toList.toArray) rfl (by kernel_rfl) (by kernel_rfl) (by kernel_rfl) (fun _ _ _ h=>h) (yieldsIf_load_mid (by rfl) 55 (.tmp 26) rfl w.heap.size 5 rfl C.toList _ (fun w h=>h.2.2) Tryz.underlying55 rfl HIL.out) (by assumption) ?_
 try simp only[Act.put,zz]
 refine rdH 9 fun K hK=>?_
 (go_simp;go_at_call 77;(with_reducible refine(DO.out _ N1.out).mono ?_);rintro en' w2 ⟨rfl,hn2,hf2⟩;have F2:=hd0 ((Fr.of_below BD).trans hf2);have N2:=hd0 hn2;have S2:=SX.out _ F2.out;refine hK.out _ _ ⟨S2.2.2.1,S2.2.2.2,RC.out _ F2.out⟩ (fun hHeld=>?_);clear hK K S2 hn2 hf2;try simp only[Act.put,zz])
 refine tkH 10 ?_ ?h ?_
 case h=>(intro w hSw;go_simp;try with_reducible rfl)
 try simp only[Act.put,zz]
 refine tkH 11 ?_ ?h ?_
 case h=>(intro w hSw;go_simp;try with_reducible rfl)
 try simp only[Act.put,zz]
 refine tkH 12 ?_ ?h ?_
 case h=>(intro w hSw;go_simp;try with_reducible rfl)
 try simp only[Act.put,zz]
 refine tkH 13 ?_ ?h ?_
 case h=>(intro w hSw;go_simp;try with_reducible rfl)
 try simp only[Act.put,zz]
 refine tkH 14 ?_ ?h ?_
 case h=>(intro w hSw;go_simp;try with_reducible rfl)
 try simp only[Act.put,zz]
 refine tkH 15 ?_ ?h ?_
 case h=>(intro w hSw;go_simp;try with_reducible rfl)
 try simp only[Act.put,zz]
 refine tkH 16 ?_ ?h ?_
 case h=>(intro w hSw;go_simp;try with_reducible rfl)
 try simp only[Act.put,zz]
 refine wpAnyH_done (by kernel_rfl) ?_ _
 have go1:=ngN N 0 s' (.slice none 0 0) w2 ⟨rfl,N2.out⟩
 rw[show((0:Nat):Int)=0 from rfl] at go1
 have GO:=hd0 go1
 clear go1
 go_wp2_with fail
 with_reducible refine GO.out.mono ?_
 rintro en' w3 ⟨v3,rfl,ho3,hn3,hf3⟩
 obtain⟨a4,n4,m4,rfl⟩:=ho3.shape
 have F3:=hd0 (F2.out.trans hf3)
 have G3:=hd0 (SX.out _ F3.out).2.1
 have F5:=hd0 (told_fin G3.out rfl (by omega) (by have:=F2.out.size;have:=HZ.out;omega) ho3 hn3 HN.out ((Fr.of_below HB.out).trans F3.out))
 have TH:Hid (w3.there (w.heap.size+1) 0 (#[.int .i64 0,.int .i64 0,.slice a4 n4 m4,.slice none 0 0]:Array Value).size):=hd0 (G3.out.there (n:=4) (Nat.le_refl _))
 have IT:Hid ((Tryz.prog.info? 49).map (·.size)=some (#[.int .i64 0,.int .i64 0,.slice a4 n4 m4,.slice none 0 0]:Array Value).size):=hd0 told_il
 have OC:=hd0 (told_o a4 n4 m4)
 clear ho3 hn3 hf3
 go_wp2_with ((with_reducible refine wpList_store_mid rfl 49 (.tmp 4) (.tmp 38) rfl (w.heap.size+1) 0 #[.int .i64 0,.int .i64 0,.slice a4 n4 m4,.slice none 0 0] ?hx ?hy TH.out IT.out OC.out ?_);(case hx=>rfl);(case hy=>rfl))
 refine bodyPost_ret (v:=.agg #[.int .i64 0,.int .i64 0,.slice a4 n4 m4,.slice none 0 0]) (res_one (p:=4) (d:=_) rfl rfl Tryz.underlying49 _ _ (w.heap.size+1) _ rfl F5.out.1 told_il) rfl ?_
 exact⟨_,rfl,F5.out.2⟩
theorem ncmd1 (N:NPos)(s s':NSt)(C A:Array Value)(hC:C.size=27)(hA1:A[1]?=some (.int .u8 1))(hAC:∀ j v,C[j]?=some v→A[5+j]?=some v)
  (DO0:∀ W,NZ W N s→Calls Tryz.prog 77 #[.pointer (some ⟨N.B.b,0,none⟩),.agg C] W fun en w'=>en=.returned (.tuple #[.slice none 0 0,.int .i64 0,.int .i64 0])∧NZ w' N s'∧Fr (NK N) W w')
  (w:World) (h:NZ w N s):Calls Tryz.prog 46 #[.pointer (some ⟨N.n,0,none⟩),.agg A] w fun en w'=>∃ v,en=.returned (.agg #[.int .i64 0,.int .i64 0,v,.slice none 0 0])∧OV w' w.heap.size v []∧NZ w' N s'∧Fr (NK N) w w':=by
 have hb:=((Below.refl w.heap.size w).alloc (Nat.le_refl _) (.cells A 57)).alloc (by simp) (.cells #[.int .i64 0,.int .i64 0,.slice none 0 0,.slice none 0 0] 49)
 have g1:=(GB.new 57 w A).later (bAo (.cells #[.int .i64 0,.int .i64 0,.slice none 0 0,.slice none 0 0] 49))
 have g2:=GB.new 49 (w.alloc (.cells A 57)) #[.int .i64 0,.int .i64 0,.slice none 0 0,.slice none 0 0]
 rw[show(w.alloc (.cells A 57)).heap.size=w.heap.size+1 by simp] at g2
 have hz:((w.alloc (.cells A 57)).alloc (.cells #[.int .i64 0,.int .i64 0,.slice none 0 0,.slice none 0 0] 49)).heap.size=w.heap.size+2:=by simp
 obtain⟨w0,hw0⟩:∃ z,(w.alloc (.cells A 57)).alloc (.cells #[.int .i64 0,.int .i64 0,.slice none 0 0,.slice none 0 0] 49)=z:=⟨_,rfl⟩
 rw[hw0] at hb g1 g2 hz
 have HN:=hd0 h
 have HK:=hd0 fun k (hk:NK N k)=>h.nk hk
 have HO:=hd0 h.out
 have HB:=hd0 hb
 have HZ:=hd0 hz
 have DO:=hd0 DO0
 have SX:Hid (∀ W,Fr (NK N) w0 W→GB 57 W w.heap.size A∧GB 49 W (w.heap.size+1) #[.int .i64 0,.int .i64 0,.slice none 0 0,.slice none 0 0]∧W.cell? ⟨N.n,0,none⟩=some (.slice (some ⟨N.bs,0,none⟩) 2 N.bc)∧W.cell? ⟨N.bs,1,none⟩=some (.pointer (some ⟨N.B.b,0,none⟩))):=hd0 fun W hf=>by
  have r:=range_fr (NZ.rb (h.later hb)) hf HO.out.2.1 1 _ rfl
  exact⟨g1.fr' hf fun hk=>by have:=HK.out _ hk;omega,g2.fr' hf fun hk=>by have:=HK.out _ hk;omega,((NZ.gn (h.later hb)).fr' hf HO.out.1).c 0 _ rfl,by simpa using r⟩
 have RC:Hid (∀ W,Fr (NK N) w0 W→W.rangeAt w.heap.size 5 C.toList):=hd0 fun W hf j v hv=>(SX.out W hf).1.c (5+j) v (hAC j v (by simpa using hv))
 have HIL:Hid ((Tryz.prog.info? 55).map (·.size)=some C.toList.length):=hd0 (by rw[Array.length_toList,hC];kernel_rfl)
 have l1:∀ K:Later w0,K.out.cell? ⟨w.heap.size,1,none⟩=some (.int .u8 1):=fun K=>(SX.out _ (Fr.of_below K.h)).1.c 1 _ hA1
 have l2:∀ K:Later w0,K.out.cell? ⟨N.n,0,none⟩=some (.slice (some ⟨N.bs,0,none⟩) 2 N.bc):=fun K=>(SX.out _ (Fr.of_below K.h)).2.2.1
 have NL:=hd0 fun(W:World) (hW:Below w0.heap.size w0 W)=>(h.later hb).later hW
 clear h hb g1 g2 hz DO0 hAC hA1
 go_enter Tryz.func46,Tryz.ntmps46
 go_upto_region 1 with fail
 clear hw0
 refine wp_region_later (by kernel_rfl) (by kernel_rfl) ?_
 repeat (go_big_quiet_step (fail))
 refine wpQuiet_nil ?_
 rintro _ ⟨K,rfl⟩
 clear l1 l2
 go_upto_region 2 with fail
 have BD:Below w0.heap.size w0 K.out.drew:=K.h.drew
 obtain⟨w1,hw1⟩:∃ z,K.out=z:=⟨_,rfl⟩
 rw[hw1] at BD ⊢
 clear hw1 K
 have S0:=SX.out _ (Fr.of_below BD)
 have N1:=hd0 (NL.out _ BD)
 refine wp_region_held_drew (S:=fun W=>W.cell? ⟨N.n,0,none⟩=some (.slice (some ⟨N.bs,0,none⟩) 2 N.bc)∧W.cell? ⟨N.bs,1,none⟩=some (.pointer (some ⟨N.B.b,0,none⟩))∧W.rangeAt w.heap.size 5 C.toList) (by kernel_rfl) ⟨S0.2.2.1,S0.2.2.2,RC.out _ (Fr.of_below BD)⟩ (fun hHeld=>?_)
 clear S0
 refine tkH 0 ?_ ?h ?_
 case h=>(intro w hSw;go_simp;try with_reducible rfl)
 try simp only[Act.put,zz]
 refine tkH 1 ?_ ?h ?_
 case h=>(intro w hSw;go_simp;try with_reducible rfl)
 try simp only[Act.put,zz]
 refine tkH 2 ?_ ?h ?_
 case h=>(intro w hSw;go_simp;try with_reducible rfl)
 try simp only[Act.put,zz]
 refine tkH 3 ?_ ?h ?_
 case h=>(intro w hSw;go_simp;try with_reducible rfl)
 try simp only[Act.put,zz]
 refine tkH 4 ?_ ?h ?_
 case h=>(intro w hSw;go_simp;try with_reducible rfl)
 try simp only[Act.put,zz]
 refine tkH 5 ?_ ?h ?_
 case h=>(intro w hSw;go_simp;try with_reducible rfl)
 try simp only[Act.put,zz]
 refine tkH 6 ?_ ?h ?_
 case h=>(intro w hSw;go_simp;try with_reducible rfl)
 try simp only[Act.put,zz]
 refine tkH 7 ?_ ?h ?_
 case h=>(intro w hSw;go_simp;try with_reducible rfl)
 try simp only[Act.put,zz]
 refine wpAnyH_take (i:=8) (v:=.agg C.toList.toArray) rfl (by kernel_rfl) (by kernel_rfl) (by kernel_rfl) (fun _ _ _ h=>h) (yieldsIf_load_mid (by rfl) 55 (.tmp 26) rfl w.heap.size 5 rfl C.toList _ (fun w h=>h.2.2) Tryz.underlying55 rfl HIL.out) (by assumption) ?_
 try simp only[Act.put,zz]
 refine rdH 9 fun K hK=>?_
 (go_simp;go_at_call 77;(with_reducible refine(DO.out _ N1.out).mono ?_);rintro en' w2 ⟨rfl,hn2,hf2⟩;have F2:=hd0 ((Fr.of_below BD).trans hf2);have N2:=hd0 hn2;have S2:=SX.out _ F2.out;refine hK.out _ _ ⟨S2.2.2.1,S2.2.2.2,RC.out _ F2.out⟩ (fun hHeld=>?_);clear hK K S2 hn2 hf2;try simp only[Act.put,zz])
 refine tkH 10 ?_ ?h ?_
 case h=>(intro w hSw;go_simp;try with_reducible rfl)
 try simp only[Act.put,zz]
 refine tkH 11 ?_ ?h ?_
 case h=>(intro w hSw;go_simp;try with_reducible rfl)
 try simp only[Act.put,zz]
 refine tkH 12 ?_ ?h ?_
 case h=>(intro w hSw;go_simp;try with_reducible rfl)
 try simp only[Act.put,zz]
 refine tkH 13 ?_ ?h ?_
 case h=>(intro w hSw;go_simp;try with_reducible rfl)
 try simp only[Act.put,zz]
 refine tkH 14 ?_ ?h ?_
 case h=>(intro w hSw;go_simp;try with_reducible rfl)
 try simp only[Act.put,zz]
 refine tkH 15 ?_ ?h ?_
 case h=>(intro w hSw;go_simp;try with_reducible rfl)
 try simp only[Act.put,zz]
 refine tkH 16 ?_ ?h ?_
 case h=>(intro w hSw;go_simp;try with_reducible rfl)
 try simp only[Act.put,zz]
 refine wpAnyH_done (by kernel_rfl) ?_ _
 have go1:=ngN N 1 s' (.slice none 0 0) w2 ⟨rfl,N2.out⟩
 rw[show((1:Nat):Int)=1 from rfl] at go1
 have GO:=hd0 go1
 clear go1
 go_wp2_with fail
 with_reducible refine GO.out.mono ?_
 rintro en' w3 ⟨v3,rfl,ho3,hn3,hf3⟩
 obtain⟨a4,n4,m4,rfl⟩:=ho3.shape
 have F3:=hd0 (F2.out.trans hf3)
 have G3:=hd0 (SX.out _ F3.out).2.1
 have F5:=hd0 (told_fin G3.out rfl (by omega) (by have:=F2.out.size;have:=HZ.out;omega) ho3 hn3 HN.out ((Fr.of_below HB.out).trans F3.out))
 have TH:Hid (w3.there (w.heap.size+1) 0 (#[.int .i64 0,.int .i64 0,.slice a4 n4 m4,.slice none 0 0]:Array Value).size):=hd0 (G3.out.there (n:=4) (Nat.le_refl _))
 have IT:Hid ((Tryz.prog.info? 49).map (·.size)=some (#[.int .i64 0,.int .i64 0,.slice a4 n4 m4,.slice none 0 0]:Array Value).size):=hd0 told_il
 have OC:=hd0 (told_o a4 n4 m4)
 clear ho3 hn3 hf3
 go_wp2_with ((with_reducible refine wpList_store_mid rfl 49 (.tmp 4) (.tmp 38) rfl (w.heap.size+1) 0 #[.int .i64 0,.int .i64 0,.slice a4 n4 m4,.slice none 0 0] ?hx ?hy TH.out IT.out OC.out ?_);(case hx=>rfl);(case hy=>rfl))
 refine bodyPost_ret (v:=.agg #[.int .i64 0,.int .i64 0,.slice a4 n4 m4,.slice none 0 0]) (res_one (p:=4) (d:=_) rfl rfl Tryz.underlying49 _ _ (w.heap.size+1) _ rfl F5.out.1 told_il) rfl ?_
 exact⟨_,rfl,F5.out.2⟩
theorem execLookup {e:Operand→Value}{o:Oper}{ty:TypeId}{x y:Operand}{ok:Bool}{M K v:Value}{W:World}(ho:o.op=.lookup ty x y ok)(hx:e x=M)(hy:e y=K)(hl:(Instr.lookup ty M K ok).run Tryz.prog W=.ok v W):(execOp e o).run Tryz.prog W=.ok (.value v) W:=by
 unfold execOp
 simp only[ho,hx,hy,Sem.run_bind,hl,Result.andThen_ok,Sem.run_pure]
theorem broleN (b m:Nat)(p r:Int)(w:World)(c1:w.cell? ⟨b,1,none⟩=some (.pointer (some ⟨m,0,none⟩)))(h:Calls Tryz.prog 78 #[.pointer (some ⟨m,0,none⟩),.int .u8 p] w fun en w'=>en=.returned (.int .u8 r)∧Below w.heap.size w w'):Calls Tryz.prog 59 #[.pointer (some ⟨b,0,none⟩),.int .u8 p] w fun en w'=>en=.returned (.int .u8 r)∧Below w.heap.size w w':=by
 have H:=hd0 h
 clear h
 go_enter Tryz.func59,Tryz.ntmps59
 go_wp2_with (go_at_call 78;with_reducible refine H.out.mono ?_;rintro e wx ⟨rfl,hb⟩)
 go_ret
 exact⟨rfl,hb⟩
theorem nhost (N:NPos)(s s1 s2:NSt)(x:Value)(o:Option (Int × List UInt8))(l:List (Int × Int × List UInt8))(A:Array Value)(hA:A[1]?=some (.int .u8 0)∧A[2]?=some (.int .u8 0)∧A[4]?=some x)
  (RO0:∀ W,NZ W N s→Calls Tryz.prog 59 #[.pointer (some ⟨N.A.b,0,none⟩),.int .u8 0] W fun en w'=>en=.returned (.int .u8 5)∧Below W.heap.size W w')
  (RV0:∀ W,NZ W N s→Calls Tryz.prog 76 #[.pointer (some ⟨N.A.b,0,none⟩),.int .u8 0,x] W fun en w'=>∃ v,en=.returned v∧SQ w' N s1 v o∧Fr (NK N) W w')
  (GO0:∀ v W,SQ W N s1 v o→Calls Tryz.prog 70 #[.pointer (some ⟨N.n,0,none⟩),.int .i64 0,v] W fun en w'=>∃ v',en=.returned v'∧OV w' W.heap.size v' l∧NZ w' N s2∧Fr (NK N) W w')
  (w:World) (h:NZ w N s):Calls Tryz.prog 45 #[.pointer (some ⟨N.n,0,none⟩),.agg A] w fun en w'=>∃ v,en=.returned (.agg #[.int .i64 0,.int .i64 0,v,.slice none 0 0])∧OV w' w.heap.size v l∧NZ w' N s2∧Fr (NK N) w w':=by
 have hb:=((Below.refl w.heap.size w).alloc (Nat.le_refl _) (.cells A 57)).alloc (by simp) (.cells #[.int .i64 0,.int .i64 0,.slice none 0 0,.slice none 0 0] 49)
 have g1:=(GB.new 57 w A).later (bAo (.cells #[.int .i64 0,.int .i64 0,.slice none 0 0,.slice none 0 0] 49))
 have g2:=GB.new 49 (w.alloc (.cells A 57)) #[.int .i64 0,.int .i64 0,.slice none 0 0,.slice none 0 0]
 rw[show(w.alloc (.cells A 57)).heap.size=w.heap.size+1 by simp] at g2
 have hz:((w.alloc (.cells A 57)).alloc (.cells #[.int .i64 0,.int .i64 0,.slice none 0 0,.slice none 0 0] 49)).heap.size=w.heap.size+2:=by simp
 obtain⟨w0,hw0⟩:∃ z,(w.alloc (.cells A 57)).alloc (.cells #[.int .i64 0,.int .i64 0,.slice none 0 0,.slice none 0 0] 49)=z:=⟨_,rfl⟩
 rw[hw0] at hb g1 g2 hz
 have HN:=hd0 h
 have HK:=hd0 fun k (hk:NK N k)=>h.nk hk
 have HO:=hd0 h.out
 have HB:=hd0 hb
 have HZ:=hd0 hz
 have RO:=hd0 RO0
 have RV:=hd0 RV0
 have GO:=hd0 GO0
 have SX:Hid (∀ W,Fr (fun k=>NK N k∨k=w.heap.size+1) w0 W→GB 57 W w.heap.size A∧W.cell? ⟨N.n,0,none⟩=some (.slice (some ⟨N.bs,0,none⟩) 2 N.bc)∧W.cell? ⟨N.bs,0,none⟩=some (.pointer (some ⟨N.A.b,0,none⟩))∧W.cell? ⟨N.n,2,none⟩=some (.map (some N.sm))∧SM W N.sm):=hd0 fun W hf=>by
  have o1:N.n≠w.heap.size+1:=by have:=(NZ.gn h).lt;omega
  have o2:N.bs≠w.heap.size+1:=by have:=range_lt (by simp) (NZ.rb h);omega
  have o3:N.sm≠w.heap.size+1:=by have:=(NZ.sm h).lt;omega
  have gn:=(NZ.gn (h.later hb)).fr' hf (fun hk=>hk.elim HO.out.1 o1)
  exact⟨g1.fr' hf fun hk=>hk.elim (fun hk=>by have:=HK.out _ hk;omega) (fun hk=>by omega),gn.c 0 _ rfl,range_fr (NZ.rb (h.later hb)) hf (fun hk=>hk.elim HO.out.2.1 o2) 0 _ rfl,gn.c 2 _ rfl,(NZ.sm (h.later hb)).blk (hf.block _ (NZ.sm (h.later hb)).lt (fun hk=>hk.elim HO.out.2.2.2.1 o3))⟩
 have BS:=hd0 fun W (hW:Below w0.heap.size w0 W)=>SX.out W (Fr.of_below hW)
 have l1:∀ K:Later w0,K.out.cell? ⟨w.heap.size,1,none⟩=some (.int .u8 0):=fun K=>(BS.out _ K.h).1.c 1 _ hA.1
 have l2:∀ K:Later w0,K.out.cell? ⟨N.n,0,none⟩=some (.slice (some ⟨N.bs,0,none⟩) 2 N.bc):=fun K=>(BS.out _ K.h).2.1
 have NL:=hd0 fun(W:World) (hW:Below w0.heap.size w0 W)=>(h.later hb).later hW
 have G2:=hd0 g2
 have HA:=hd0 hA
 clear h hb g1 g2 hz RO0 RV0 GO0 hA
 go_enter Tryz.func45,Tryz.ntmps45
 go_upto_region 1 with fail
 clear hw0
 refine wp_region_later (by kernel_rfl) (by kernel_rfl) ?_
 repeat (go_big_quiet_step (fail))
 refine wpQuiet_nil ?_
 rintro _ ⟨K,rfl⟩
 clear l1 l2
 go_upto_region 2 with fail
 have B1:=K.h
 obtain⟨w1,hw1⟩:∃ z,K.out=z:=⟨_,rfl⟩
 rw[hw1] at B1 ⊢
 clear hw1 K
 have B1d:Below w0.heap.size w0 w1.drew:=B1.drew
 have B2:Hid (∀ X,Below w0.heap.size w0 (w1.alloc (.cells X 140)).drew):=hd0 fun X=>(B1.alloc B1.size _).drew
 have S2:=hd0 fun W (hW:Below w0.heap.size w0 W)=>show W.cell? ⟨N.n,2,none⟩=some (.map (some N.sm))∧W.cell? ⟨w.heap.size,2,none⟩=some (.int .u8 0)∧SM W N.sm from⟨(BS.out W hW).2.2.2.1,(BS.out W hW).1.c 2 _ HA.out.2.1,(BS.out W hW).2.2.2.2⟩
 refine wp_region_held_drew (S:=fun W=>W.cell? ⟨N.n,2,none⟩=some (.map (some N.sm))∧W.cell? ⟨w.heap.size,2,none⟩=some (.int .u8 0)∧SM W N.sm) (by kernel_rfl) (S2.out _ B1d) (fun hHeld=>?_)
 refine tkH 0 ?_ ?h ?_
 case h=>(intro w hSw;go_simp;try with_reducible rfl)
 try simp only[Act.put,zz]
 refine tkH 1 ?_ ?h ?_
 case h=>(intro w hSw;go_simp;try with_reducible rfl)
 try simp only[Act.put,zz]
 refine tkH 2 ?_ ?h ?_
 case h=>(intro w hSw;go_simp;try with_reducible rfl)
 try simp only[Act.put,zz]
 refine tkH 3 ?_ ?h ?_
 case h=>(intro w hSw;go_simp;try with_reducible rfl)
 try simp only[Act.put,zz]
 refine tkH 4 ?_ ?h ?_
 case h=>(intro w hSw;go_simp;try with_reducible rfl)
 try simp only[Act.put,zz]
 refine tkH 5 ?_ ?h ?_
 case h=>(intro w hSw;go_simp;try with_reducible rfl)
 try simp only[Act.put,zz]
 refine tkH 6 ?_ ?h ?_
 case h=>(intro w hSw;go_simp;try with_reducible rfl)
 try simp only[Act.put,zz]
 refine tkH 7 ?_ ?h ?_
 case h=>(intro w hSw;go_simp;try with_reducible rfl)
 try simp only[Act.put,zz]
 refine wpAnyH_take (i:=8) (v:=.tuple #[.agg #[.int .i64 0,.int .i64 0],.bool false]) rfl (by kernel_rfl) (by kernel_rfl) (by kernel_rfl) (fun _ _ _ h=>h) (Or.inl ⟨by rfl,?hy8⟩) (by assumption) ?_
 case hy8=>(intro W hSw;exact execLookup rfl rfl rfl hSw.2.2.l00)
 try simp only[Act.put,zz]
 refine tkH 9 ?_ ?h ?_
 case h=>(intro w hSw;go_simp;try with_reducible rfl)
 try simp only[Act.put,zz]
 refine tkH 10 ?_ ?h ?_
 case h=>(intro w hSw;go_simp;try with_reducible rfl)
 try simp only[Act.put,zz]
 refine tkH 11 ?_ ?h ?_
 case h=>(intro w hSw;go_simp;try with_reducible rfl)
 try simp only[Act.put,zz]
 refine rdH 12 fun K hK=>?_
 (go_simp;refine hK.out _ _ (S2.out _ (B2.out _)) (fun hHeld=>?_);clear hK K;try simp only[Act.put,zz])
 refine rdH 13 fun K hK=>?_
 (go_simp;refine hK.out _ _ (S2.out _ (B2.out _)) (fun hHeld=>?_);clear hK K;try simp only[Act.put,zz])
 refine tkH 14 ?_ ?h ?_
 case h=>(intro w hSw;go_simp;try with_reducible rfl)
 try simp only[Act.put,zz]
 refine wpAnyH_done (by kernel_rfl) ?_ _
 have B3:=B2.out #[.int .i64 0,.int .i64 0]
 obtain⟨w2,hw2⟩:∃ z,(w1.alloc (.cells #[.int .i64 0,.int .i64 0] 140)).drew=z:=⟨_,rfl⟩
 rw[hw2] at B3 ⊢
 clear hw2 B1d B1 B2 S2
 have l1:∀ K:Later w2,K.out.cell? ⟨w.heap.size,2,none⟩=some (.int .u8 0):=fun K=>(BS.out _ (B3.trans (K.h.mono B3.size))).1.c 2 _ HA.out.2.1
 have l2:∀ K:Later w2,K.out.cell? ⟨N.n,0,none⟩=some (.slice (some ⟨N.bs,0,none⟩) 2 N.bc):=fun K=>(BS.out _ (B3.trans (K.h.mono B3.size))).2.1
 have l3:∀ K:Later w2,K.out.cell? ⟨N.bs,0,none⟩=some (.pointer (some ⟨N.A.b,0,none⟩)):=fun K=>(BS.out _ (B3.trans (K.h.mono B3.size))).2.2.1
 have R1:Hid (∀ K:Later w2,Calls Tryz.prog 59 #[.pointer (some ⟨N.A.b,0,none⟩),.int .u8 0] K.out fun en w'=>en=.returned (.int .u8 5)∧Below K.out.heap.size K.out w'):=hd0 fun K=>RO.out _ (NL.out _ (B3.trans (K.h.mono B3.size)))
 go_upto_region 3 with fail
 refine wp_region_later (by kernel_rfl) (by kernel_rfl) ?_
 repeat (go_big_quiet_step (first|(go_at_call 59;exact Calls.later (R1.out _))))
 refine wpQuiet_nil ?_
 rintro _ ⟨K,rfl⟩
 clear l1 l2 l3 R1
 go_upto_region 5 with fail
 have B4:=B3.trans (K.h.mono B3.size)
 obtain⟨w3,hw3⟩:∃ z,K.out=z:=⟨_,rfl⟩
 rw[hw3] at B4 ⊢
 clear hw3 K B3
 have F0:Fr (NK N) w0 w3.drew:=Fr.of_below B4.drew
 have W3:=hd0 fun W (hf:Fr (NK N) w0 W)=>hf.mono (E:=fun k=>NK N k∨k=w.heap.size+1) fun k _ hk=>Or.inl hk
 have S3:=hd0 fun W (hf:Fr (fun k=>NK N k∨k=w.heap.size+1) w0 W)=>show W.cell? ⟨N.n,0,none⟩=some (.slice (some ⟨N.bs,0,none⟩) 2 N.bc)∧W.cell? ⟨N.bs,0,none⟩=some (.pointer (some ⟨N.A.b,0,none⟩))∧W.cell? ⟨w.heap.size,2,none⟩=some (.int .u8 0)∧W.cell? ⟨w.heap.size,4,none⟩=some x from⟨(SX.out W hf).2.1,(SX.out W hf).2.2.1,(SX.out W hf).1.c 2 _ HA.out.2.1,(SX.out W hf).1.c 4 _ HA.out.2.2⟩
 have N3:=hd0 (NL.out _ B4.drew)
 refine wp_region_held_drew (S:=fun W=>W.cell? ⟨N.n,0,none⟩=some (.slice (some ⟨N.bs,0,none⟩) 2 N.bc)∧W.cell? ⟨N.bs,0,none⟩=some (.pointer (some ⟨N.A.b,0,none⟩))∧W.cell? ⟨w.heap.size,2,none⟩=some (.int .u8 0)∧W.cell? ⟨w.heap.size,4,none⟩=some x) (by kernel_rfl) (S3.out _ (W3.out _ F0)) (fun hHeld=>?_)
 refine tkH 0 ?_ ?h ?_
 case h=>(intro w hSw;go_simp;try with_reducible rfl)
 try simp only[Act.put,zz]
 refine tkH 1 ?_ ?h ?_
 case h=>(intro w hSw;go_simp;try with_reducible rfl)
 try simp only[Act.put,zz]
 refine tkH 2 ?_ ?h ?_
 case h=>(intro w hSw;go_simp;try with_reducible rfl)
 try simp only[Act.put,zz]
 refine tkH 3 ?_ ?h ?_
 case h=>(intro w hSw;go_simp;try with_reducible rfl)
 try simp only[Act.put,zz]
 refine tkH 4 ?_ ?h ?_
 case h=>(intro w hSw;go_simp;try with_reducible rfl)
 try simp only[Act.put,zz]
 refine tkH 5 ?_ ?h ?_
 case h=>(intro w hSw;go_simp;try with_reducible rfl)
 try simp only[Act.put,zz]
 refine tkH 6 ?_ ?h ?_
 case h=>(intro w hSw;go_simp;try with_reducible rfl)
 try simp only[Act.put,zz]
 refine tkH 7 ?_ ?h ?_
 case h=>(intro w hSw;go_simp;try with_reducible rfl)
 try simp only[Act.put,zz]
 refine tkH 8 ?_ ?h ?_
 case h=>(intro w hSw;go_simp;try with_reducible rfl)
 try simp only[Act.put,zz]
 refine tkH 9 ?_ ?h ?_
 case h=>(intro w hSw;go_simp;try with_reducible rfl)
 try simp only[Act.put,zz]
 refine tkH 10 ?_ ?h ?_
 case h=>(intro w hSw;go_simp;try with_reducible rfl)
 try simp only[Act.put,zz]
 refine tkH 11 ?_ ?h ?_
 case h=>(intro w hSw;go_simp;try with_reducible rfl)
 try simp only[Act.put,zz]
 refine tkH 12 ?_ ?h ?_
 case h=>(intro w hSw;go_simp;try with_reducible rfl)
 try simp only[Act.put,zz]
 refine rdH 13 fun K hK=>?_
 (go_simp;go_at_call 76;(with_reducible refine(RV.out _ N3.out).mono ?_);rintro en' w4 ⟨v4,rfl,hq4,hf4⟩;have F4:=hd0 (F0.trans hf4);have Q4:=hd0 hq4;refine hK.out _ _ (S3.out _ (W3.out _ F4.out)) (fun hHeld=>?_);clear hK K hq4 hf4;try simp only[Act.put,zz])
 refine rdH 14 fun K hK=>?_
 (go_simp;go_at_call 70;(with_reducible refine(GO.out v4 _ Q4.out).mono ?_);rintro en' w5 ⟨v5,rfl,ho5,hn5,hf5⟩;obtain⟨a4,n4,m4,rfl⟩:=ho5.shape;have F5:=hd0 (F4.out.trans hf5);have O5:=hd0 (And.intro ho5 hn5);refine hK.out _ _ (S3.out _ (W3.out _ F5.out)) (fun hHeld=>?_);clear hK K ho5 hn5 hf5;try simp only[Act.put,zz])
 have G5:=hd0 (G2.out.fr' F5.out fun hk=>by have:=HK.out _ hk;omega)
 have FZ:=hd0 (told_fin G5.out rfl (by omega) (by have:=F4.out.size;have:=HZ.out;omega) O5.out.1 O5.out.2 HN.out ((Fr.of_below HB.out).trans F5.out))
 have TH:Hid (w5.there (w.heap.size+1) 0 (#[.int .i64 0,.int .i64 0,.slice a4 n4 m4,.slice none 0 0]:Array Value).size):=hd0 (G5.out.there (n:=4) (Nat.le_refl _))
 have IT:Hid ((Tryz.prog.info? 49).map (·.size)=some (#[.int .i64 0,.int .i64 0,.slice a4 n4 m4,.slice none 0 0]:Array Value).size):=hd0 told_il
 have OC:=hd0 (told_o a4 n4 m4)
 have F6:Hid (Fr (fun k=>NK N k∨k=w.heap.size+1) w0 (w5.setCells (w.heap.size+1) 0 [.int .i64 0,.int .i64 0,.slice a4 n4 m4,.slice none 0 0])):=hd0 ((W3.out _ F5.out).trans (Fr.of_only (only_cells _ _ _ _) (Or.inr rfl)))
 refine tkH 15 ?_ ?h ?_
 case h=>(intro w hSw;go_simp;try with_reducible rfl)
 try simp only[Act.put,zz]
 refine rdH 16 fun K hK=>?_
 (rw[if_pos (by rfl)];refine wp_store_mid 49 (.tmp 4) (.tmp 59) rfl _ 0 #[.int .i64 0,.int .i64 0,.slice a4 n4 m4,.slice none 0 0] rfl (by rfl) TH.out IT.out OC.out ?_;refine hK.out _ _ (S3.out _ F6.out) (fun hHeld=>?_);clear hK K;try simp only[Act.put,zz])
 refine wpAnyH_done (by kernel_rfl) ?_ _
 go_wp2_with fail
 refine bodyPost_ret (v:=.agg #[.int .i64 0,.int .i64 0,.slice a4 n4 m4,.slice none 0 0]) (res_one (p:=4) (d:=_) rfl rfl Tryz.underlying49 _ _ (w.heap.size+1) _ rfl FZ.out.1 told_il) rfl ?_
 exact⟨_,rfl,FZ.out.2⟩
end Go.Proofs.YtghaobakpdninaaGreatDoor
