/- ZR41 -/
import Derived.Test.YtghaobakpdninaaGreatDoorZR34
import Derived.Test.YtghaobakpdninaaGreatDoorZR38
import Derived.Test.YtghaobakpdninaaGreatDoorZR39
import Derived.Test.YtghaobakpdninaaGreatDoorZR40
set_option linter.unusedVariables false
set_option linter.unusedSimpArgs false
set_option maxRecDepth 100000
set_option maxHeartbeats 16000000
namespace Go.Proofs.YtghaobakpdninaaGreatDoor
open Go.RowKit
open Go.Maps (Keyed int_keyed keyOf_int_mk)
def nsD:DataW Unit:=.map [(.int .u8 1,.lit (.int .i64 41)),(.int .u8 2,.lit (.int .i64 42)),(.int .u8 3,.lit (.int .i64 43)),(.int .u8 4,.lit (.int .i64 44)),(.int .u8 5,.lit (.int .i64 44)),(.int .u8 6,.lit (.int .i64 45)),(.int .u8 7,.lit (.int .i64 46)),(.int .u8 8,.lit (.int .i64 47))]
def NMap (W:World)(b:Nat):Prop:=W.ownsMap Tryz.prog 5 fEl b 8 nsD
theorem steps_any (w:World):Calls Tryz.prog 22 #[] w fun en w'=>∃ b:Nat,en=.returned (.map (some b))∧NMap w' b∧Below w.heap.size w w':=by
 have hm0:=World.ownsMap_made w Tryz.prog 5 fEl
 obtain⟨w1,run1,hm1,hg1⟩:=hm0.update u8_keyed Tryz.underlying90 (by decide) (key:=.int .u8 1) (val:=.func (.func 41) #[] #[]) (kl:=.int .u8 1) (d:=.lit (.int .i64 41)) (ps:=[]) (keyOf_int_mk Tryz.underlying5 (by decide)) (fEl_mk 41)
 obtain⟨w2,run2,hm2,hg2⟩:=hm1.update u8_keyed Tryz.underlying90 (by decide) (key:=.int .u8 2) (val:=.func (.func 42) #[] #[]) (kl:=.int .u8 2) (d:=.lit (.int .i64 42)) (ps:=[]) (keyOf_int_mk Tryz.underlying5 (by decide)) (fEl_mk 42)
 obtain⟨w3,run3,hm3,hg3⟩:=hm2.update u8_keyed Tryz.underlying90 (by decide) (key:=.int .u8 3) (val:=.func (.func 43) #[] #[]) (kl:=.int .u8 3) (d:=.lit (.int .i64 43)) (ps:=[]) (keyOf_int_mk Tryz.underlying5 (by decide)) (fEl_mk 43)
 obtain⟨w4,run4,hm4,hg4⟩:=hm3.update u8_keyed Tryz.underlying90 (by decide) (key:=.int .u8 4) (val:=.func (.func 44) #[] #[]) (kl:=.int .u8 4) (d:=.lit (.int .i64 44)) (ps:=[]) (keyOf_int_mk Tryz.underlying5 (by decide)) (fEl_mk 44)
 obtain⟨w5,run5,hm5,hg5⟩:=hm4.update u8_keyed Tryz.underlying90 (by decide) (key:=.int .u8 5) (val:=.func (.func 44) #[] #[]) (kl:=.int .u8 5) (d:=.lit (.int .i64 44)) (ps:=[]) (keyOf_int_mk Tryz.underlying5 (by decide)) (fEl_mk 44)
 obtain⟨w6,run6,hm6,hg6⟩:=hm5.update u8_keyed Tryz.underlying90 (by decide) (key:=.int .u8 6) (val:=.func (.func 45) #[] #[]) (kl:=.int .u8 6) (d:=.lit (.int .i64 45)) (ps:=[]) (keyOf_int_mk Tryz.underlying5 (by decide)) (fEl_mk 45)
 obtain⟨w7,run7,hm7,hg7⟩:=hm6.update u8_keyed Tryz.underlying90 (by decide) (key:=.int .u8 7) (val:=.func (.func 46) #[] #[]) (kl:=.int .u8 7) (d:=.lit (.int .i64 46)) (ps:=[]) (keyOf_int_mk Tryz.underlying5 (by decide)) (fEl_mk 46)
 obtain⟨w8,run8,hm8,hg8⟩:=hm7.update u8_keyed Tryz.underlying90 (by decide) (key:=.int .u8 8) (val:=.func (.func 47) #[] #[]) (kl:=.int .u8 8) (d:=.lit (.int .i64 47)) (ps:=[]) (keyOf_int_mk Tryz.underlying5 (by decide)) (fEl_mk 47)
 have hb0:Below w.heap.size w (w.alloc (.map #[] 0)):=bAo _
 have hb1:=hb0.grown hg1 hb0.size (fun k hk=>by injection hk with hk;omega)
 have hb2:=hb1.grown hg2 hb1.size (fun k hk=>by injection hk with hk;omega)
 have hb3:=hb2.grown hg3 hb2.size (fun k hk=>by injection hk with hk;omega)
 have hb4:=hb3.grown hg4 hb3.size (fun k hk=>by injection hk with hk;omega)
 have hb5:=hb4.grown hg5 hb4.size (fun k hk=>by injection hk with hk;omega)
 have hb6:=hb5.grown hg6 hb5.size (fun k hk=>by injection hk with hk;omega)
 have hb7:=hb6.grown hg7 hb6.size (fun k hk=>by injection hk with hk;omega)
 have hb8:=hb7.grown hg8 hb7.size (fun k hk=>by injection hk with hk;omega)
 have HM:=hd0 hm8
 have HB:=hd0 hb8
 have run0:(Instr.makeMap 90 none).run Tryz.prog w=.ok (.map (some w.heap.size)) (w.alloc (.map #[] 0)):=rfl
 clear hm0 hm1 hm2 hm3 hm4 hm5 hm6 hm7 hm8 hg1 hg2 hg3 hg4 hg5 hg6 hg7 hg8 hb0 hb1 hb2 hb3 hb4 hb5 hb6 hb7 hb8
 go_enter Tryz.func22,Tryz.ntmps22
 go_wp2
 go_ret
 exact⟨_,rfl,HM.out,HB.out⟩
theorem nmap_look {W:World}{q:Nat}(h:NMap W q)(b:Int)(h0:0≤b∧b<256)(n:Nat)(hn:∀ z:DataW Unit,nsD.atKey (.int .u8 b) z=.lit (.int .i64 (n:Int))) :
  (Instr.lookup 90 (.map (some q)) (.int .u8 b) true).run Tryz.prog W=.ok (.tuple #[.func (.func n) #[] #[],.bool true]) W:=by
 obtain⟨es,clock,hb,F,hs,hD⟩:=h
 have hw:(Lit.int .u8 b).wf=true:=by simp[Lit.wf,IntKind.min,IntKind.max,IntKind.bits,IntKind.signed];omega
 have hz:(zeroValue 88).run Tryz.prog W=.ok .nilFunc W:=by kernel_rfl
 rcases Maps.fit_look true u8_keyed Tryz.underlying90 hz hb F (keyOf_int_mk Tryz.underlying5 hw) with⟨hrun,_,hat⟩|⟨e0,y,_,_,hrun,hRv,hat,_⟩
 ·rw[←hD] at hat
  have a:=hat (.lit (.bool false))
  rw[hn] at a
  injection a with a;cases a
 ·rw[←hD] at hat
  have a:=hat (.lit (.bool false))
  rw[hn] at a
  obtain⟨n',hx,hy⟩:=fEl_inv hRv
  rw[hy] at a
  injection a with a
  injection a with _ a
  have e:n=n':=by exact_mod_cast a
  rw[hrun,hx,← e]
  rfl
theorem ndo (N:NPos)(s s':NSt)(l:List (Int × Int × List UInt8))(A:Array Value)(d:Int)(F:Nat)(hF:F=41∨F=45∨F=46∨F=47)(hA0:A[0]?=some (.int .u8 d))(hsz:A.size=32)(hd:0≤d∧d<256)(hn:∀ z:DataW Unit,nsD.atKey (.int .u8 d) z=.lit (.int .i64 (F:Nat)))
  (HC0:∀ W,NZ W N s→Calls Tryz.prog F #[.pointer (some ⟨N.n,0,none⟩),.agg A] W fun en w'=>∃ v,en=.returned (.agg #[.int .i64 0,.int .i64 0,v,.slice none 0 0])∧OV w' W.heap.size v l∧NZ w' N s'∧Fr (NK N) W w') (w:World) (h:NZ w N s) :
  Calls Tryz.prog 7 #[.pointer (some ⟨N.n,0,none⟩),.agg A] w fun en w'=>∃ v,en=.returned (.agg #[.int .i64 0,.int .i64 0,v,.slice none 0 0])∧OV w' w.heap.size v l∧NZ w' N s'∧Fr (NK N) w w':=by
 have hb:=((Below.refl w.heap.size w).alloc (Nat.le_refl _) (.cells A 57)).alloc (by simp) (.cells #[.int .i64 0,.int .i64 0,.slice none 0 0,.slice none 0 0] 49)
 have g1:=(GB.new 57 w A).later (bAo (.cells #[.int .i64 0,.int .i64 0,.slice none 0 0,.slice none 0 0] 49))
 have g2:=GB.new 49 (w.alloc (.cells A 57)) #[.int .i64 0,.int .i64 0,.slice none 0 0,.slice none 0 0]
 rw[show(w.alloc (.cells A 57)).heap.size=w.heap.size+1 by simp] at g2
 obtain⟨w0,hw0⟩:∃ z,(w.alloc (.cells A 57)).alloc (.cells #[.int .i64 0,.int .i64 0,.slice none 0 0,.slice none 0 0] 49)=z:=⟨_,rfl⟩
 rw[hw0] at hb g1 g2
 have dd:=(Below.refl w0.heap.size w0).drew
 have HB:=hd0 (hb.trans (dd.mono hb.size))
 have HG:=hd0 (g1.later dd)
 have HIL:Hid ((Tryz.prog.info? 57).map (·.size)=some A.toList.length):=hd0 (by rw[Array.length_toList,hsz];kernel_rfl)
 have HC:=hd0 (fun W (hW:Below w.heap.size w W)=>HC0 W (h.later hW))
 have HN:=hd0 h
 have HG2:=hd0 (g2.later dd)
 have HZ:=hd0 (show w.heap.size+2≤w0.heap.size by rw[←hw0];simp)
 have hdz:w0.drew.heap.size=w0.heap.size:=rfl
 have c0:w0.drew.cell? ⟨w.heap.size,0,none⟩=some (.int .u8 d):=HG.out.c 0 _ hA0
 have HL:Hid (∀ W q,NMap W q→(Instr.lookup 90 (.map (some q)) (.int .u8 d) true).run Tryz.prog W=.ok (.tuple #[.func (.func F) #[] #[],.bool true]) W):=hd0 fun W q h=>nmap_look h d hd _ hn
 clear hb g1 g2 hn hA0 hsz HC0 h
 go_enter Tryz.func7,Tryz.ntmps7
 go_upto_region 3 with fail
 clear hw0
 refine wp_region_held_drew (S:=fun W=>W.cell? ⟨w.heap.size,0,none⟩=some (.int .u8 d)) (by kernel_rfl) c0 (fun hHeld=>?_)
 refine tkH 1 ?_ ?h ?_
 case h=>(intro w hSw;go_simp;try with_reducible rfl)
 try simp only[Act.put,zz]
 refine tkH 2 ?_ ?h ?_
 case h=>(intro w hSw;go_simp;try with_reducible rfl)
 try simp only[Act.put,zz]
 refine rdH 0 fun K hK=>?_
 (go_simp;go_at_call 22;refine(steps_any _).mono ?_;rintro en' w1 ⟨mp,rfl,hm1,hb1⟩;have c1:=(hb1.cell (World.block_lt_of_cell? _ _ c0)).trans c0;have HM1:=hd0 hm1;have HB1:=hd0 (HB.out.trans (hb1.mono HB.out.size));have HG1:=hd0 (HG.out.later hb1);have HG3:=hd0 (HG2.out.later hb1);have HZ1:=hd0 (Nat.le_trans HZ.out hb1.size);clear hb1 hm1;refine hK.out _ _ c1 (fun hHeld=>?_);clear hK K;try simp only[Act.put,zz])
 have LK:=HL.out _ _ HM1.out
 refine rdH 3 fun K hK=>?_
 (go_simp;refine hK.out _ _ c1 (fun hHeld=>?_);clear hK K;try simp only[Act.put,zz])
 refine tkH 4 ?_ ?h ?_
 case h=>(intro w hSw;go_simp;try with_reducible rfl)
 try simp only[Act.put,zz]
 refine tkH 5 ?_ ?h ?_
 case h=>(intro w hSw;go_simp;try with_reducible rfl)
 try simp only[Act.put,zz]
 refine tkH 6 ?_ ?h ?_
 case h=>(intro w hSw;go_simp;try with_reducible rfl)
 try simp only[Act.put,zz]
 refine tkH 7 ?_ ?h ?_
 case h=>(intro w hSw;go_simp;try with_reducible rfl)
 try simp only[Act.put,zz]
 refine tkH 8 ?_ ?h ?_
 case h=>(intro w hSw;go_simp;try with_reducible rfl)
 try simp only[Act.put,zz]
 refine wpAnyH_done (by kernel_rfl) ?_ _
 have TC:=hd0 (HC.out w1 HB1.out)
 have HK:=hd0 fun k (hk:NK N k)=>HN.out.nk hk
 rcases hF with rfl|rfl|rfl|rfl
 all_goals
  go_wp2_with ((with_reducible refine wpList_load_mid rfl 57 (.tmp 3) rfl w.heap.size 0 ?hx A.toList _ HG1.out.range Tryz.underlying57 ?hu HIL.out ?_);(case hx=>rfl);(case hu=>rfl))
  with_reducible refine TC.out.mono ?_
  rintro e w2 ⟨v,rfl,ho2,hn2,hf2⟩
  obtain⟨a4,n4,m4,rfl⟩:=ho2.shape
  have G3:=hd0 (HG3.out.fr' hf2 fun hk=>by have:=HK.out _ hk;omega)
  have F4:=hd0 (told_fin G3.out rfl (by omega) (by have:=HZ1.out;omega) ho2 hn2 HN.out ((Fr.of_below HB1.out).trans hf2))
  have TH:Hid (w2.there (w.heap.size+1) 0 (#[.int .i64 0,.int .i64 0,.slice a4 n4 m4,.slice none 0 0]:Array Value).size):=hd0 (G3.out.there (n:=4) (Nat.le_refl _))
  have IT:Hid ((Tryz.prog.info? 49).map (·.size)=some (#[.int .i64 0,.int .i64 0,.slice a4 n4 m4,.slice none 0 0]:Array Value).size):=hd0 told_il
  have O4:=hd0 (told_o a4 n4 m4)
  clear ho2 hn2 hf2
  go_wp2_with ((with_reducible refine wpList_store_mid rfl 49 (.tmp 4) (.tmp 23) rfl (w.heap.size+1) 0 #[.int .i64 0,.int .i64 0,.slice a4 n4 m4,.slice none 0 0] ?hx ?hy TH.out IT.out O4.out ?_);(case hx=>rfl);(case hy=>rfl))
  refine bodyPost_ret (v:=.agg #[.int .i64 0,.int .i64 0,.slice a4 n4 m4,.slice none 0 0]) (res_one (p:=4) (d:=_) rfl rfl Tryz.underlying49 _ _ (w.heap.size+1) _ rfl F4.out.1 told_il) rfl ?_
  exact⟨_,rfl,F4.out.2⟩
abbrev o0:List Int:=[0,0,0,0,0,0,0,0]
abbrev cmV:Array Value:=#[.int .u8 1,.int .u8 0,.int .u16 1,.int .u8 3,.int .u8 1,.int .u8 0,.int .u8 0,.int .u8 0,.int .u8 0,.int .u8 0,.int .u8 0,.int .u8 0,.string { data:=#[] },.string { data:=#[] },.int .u16 0,.int .u8 0,.slice none 0 0,.int .i64 0,.int .u16 0,.int .u8 0,.bool false,.int .u8 0,.int .u8 0,.int .u16 0,.int .u8 0,.string { data:=#[] },.int .u8 0]
abbrev cmO:Array Value:=#[.int .u8 3,.int .u8 0,.int .u16 1,.int .u8 0,.int .u8 0,.int .u8 0,.int .u8 0,.int .u8 0,.int .u8 0,.int .u8 0,.int .u8 0,.int .u8 0,.string { data:=#[] },.string { data:=#[] },.int .u16 0,.int .u8 0,.slice none 0 0,.int .i64 0,.int .u16 0,.int .u8 0,.bool false,.int .u8 0,.int .u8 0,.int .u16 0,.int .u8 0,.string { data:=#[] },.int .u8 0]
theorem doVA {N:NPos}{s:NSt}(hv:s.vA=false)(hV:s.VA=[])(W:World)(h:NZ W N s):Calls Tryz.prog 77 #[.pointer (some ⟨N.A.b,0,none⟩),.agg cmV] W fun en w'=>en=.returned (.tuple #[.slice none 0 0,.int .i64 0,.int .i64 0])∧NZ w' N { s with VA:=vC,vA:=false }∧Fr (NK N) W w' :=
 bdo_table N.A.b cmV 1 rfl rfl (by decide) (fun z=>rfl) (fun w'=>NZ w' N { s with VA:=vC,vA:=false }∧Fr (NK N) W w') W fun W1 hW1=>by
  have hz:=h.later hW1
  have hb:=hz.A0 hv
  rw[hV] at hb
  refine(btableVN _ _ _ _ _ _ W1 hb).mono ?_
  rintro en w' ⟨h1,h2,h3⟩
  have hf:=hb.on h3 hb.bi.vm
  exact⟨h1,hz.setA h2 hf (fun _=>rfl),(Fr.of_below hW1).trans (hf.mono fun k _ hk=>Or.inl hk)⟩
theorem doOA {N:NPos}{s:NSt}(hv:s.vA=false)(ho:s.oA=o0)(W:World)(h:NZ W N s):Calls Tryz.prog 77 #[.pointer (some ⟨N.A.b,0,none⟩),.agg cmO] W fun en w'=>en=.returned (.tuple #[.slice none 0 0,.int .i64 0,.int .i64 0])∧NZ w' N { s with oA:=oC,vA:=false }∧Fr (NK N) W w' :=
 bdo_table N.A.b cmO 3 rfl rfl (by decide) (fun z=>rfl) (fun w'=>NZ w' N { s with oA:=oC,vA:=false }∧Fr (NK N) W w') W fun W1 hW1=>by
  have hz:=h.later hW1
  have hb:=hz.A0 hv
  rw[ho] at hb
  refine(btableON _ _ _ _ _ _ W1 hb).mono ?_
  rintro en w' ⟨h1,h2,h3⟩
  have hf:=hb.on h3 hb.bi.q
  exact⟨h1,hz.setA h2 hf (fun _=>rfl),(Fr.of_below hW1).trans (hf.mono fun k _ hk=>Or.inl hk)⟩
theorem doVB {N:NPos}{s:NSt}(hv:s.vB=false)(hV:s.VB=[])(W:World)(h:NZ W N s):Calls Tryz.prog 77 #[.pointer (some ⟨N.B.b,0,none⟩),.agg cmV] W fun en w'=>en=.returned (.tuple #[.slice none 0 0,.int .i64 0,.int .i64 0])∧NZ w' N { s with VB:=vC,vB:=false }∧Fr (NK N) W w' :=
 bdo_table N.B.b cmV 1 rfl rfl (by decide) (fun z=>rfl) (fun w'=>NZ w' N { s with VB:=vC,vB:=false }∧Fr (NK N) W w') W fun W1 hW1=>by
  have hz:=h.later hW1
  have hb:=hz.B0 hv
  rw[hV] at hb
  refine(btableVN _ _ _ _ _ _ W1 hb).mono ?_
  rintro en w' ⟨h1,h2,h3⟩
  have hf:=hb.on h3 hb.bi.vm
  exact⟨h1,hz.setB h2 hf (fun _=>rfl),(Fr.of_below hW1).trans (hf.mono fun k _ hk=>Or.inr (Or.inl hk))⟩
theorem doOB {N:NPos}{s:NSt}(hv:s.vB=false)(ho:s.oB=o0)(W:World)(h:NZ W N s):Calls Tryz.prog 77 #[.pointer (some ⟨N.B.b,0,none⟩),.agg cmO] W fun en w'=>en=.returned (.tuple #[.slice none 0 0,.int .i64 0,.int .i64 0])∧NZ w' N { s with oB:=oC,vB:=false }∧Fr (NK N) W w' :=
 bdo_table N.B.b cmO 3 rfl rfl (by decide) (fun z=>rfl) (fun w'=>NZ w' N { s with oB:=oC,vB:=false }∧Fr (NK N) W w') W fun W1 hW1=>by
  have hz:=h.later hW1
  have hb:=hz.B0 hv
  rw[ho] at hb
  refine(btableON _ _ _ _ _ _ W1 hb).mono ?_
  rintro en w' ⟨h1,h2,h3⟩
  have hf:=hb.on h3 hb.bi.q
  exact⟨h1,hz.setB h2 hf (fun _=>rfl),(Fr.of_below hW1).trans (hf.mono fun k _ hk=>Or.inr (Or.inl hk))⟩
theorem st5 {a b c d e:Value}{l:List Value}{j:Nat}{v:Value}(h:l.toArray[j]?=some v):(a::b::c::d::e::l).toArray[5+j]?=some v:=by
 rw[Nat.add_comm];simpa using h
section
variable {N:NPos} {s s':NSt}
abbrev Tells (N:NPos)(s s':NSt)(l:List (Int × Int × List UInt8))(A:Array Value):Prop:=∀ W,NZ W N s→Calls Tryz.prog 7 #[.pointer (some ⟨N.n,0,none⟩),.agg A] W fun en w'=>∃ v,en=.returned (.agg #[.int .i64 0,.int .i64 0,v,.slice none 0 0])∧OV w' W.heap.size v l∧NZ w' N s'∧Fr (NK N) W w'
theorem stV0 (hv:s.vA=false)(hV:s.VA=[]):Tells N s { s with VA:=vC,vA:=false } [] #[.int .u8 7,.int .u8 0,.int .u8 0,.int .u8 0,.string { data:=#[] },.int .u8 1,.int .u8 0,.int .u16 1,.int .u8 3,.int .u8 1,.int .u8 0,.int .u8 0,.int .u8 0,.int .u8 0,.int .u8 0,.int .u8 0,.int .u8 0,.string { data:=#[] },.string { data:=#[] },.int .u16 0,.int .u8 0,.slice none 0 0,.int .i64 0,.int .u16 0,.int .u8 0,.bool false,.int .u8 0,.int .u8 0,.int .u16 0,.int .u8 0,.string { data:=#[] },.int .u8 0]:=fun W h =>
 ndo N s _ [] _ 7 46 (by simp) rfl rfl (by decide) (fun z=>rfl) (fun W h=>ncmd0 N s _ cmV _ rfl rfl (fun j v hj=>st5 hj) (doVA hv hV) W h) W h
theorem stO0 (hv:s.vA=false)(ho:s.oA=o0):Tells N s { s with oA:=oC,vA:=false } [] #[.int .u8 7,.int .u8 0,.int .u8 0,.int .u8 0,.string { data:=#[] },.int .u8 3,.int .u8 0,.int .u16 1,.int .u8 0,.int .u8 0,.int .u8 0,.int .u8 0,.int .u8 0,.int .u8 0,.int .u8 0,.int .u8 0,.int .u8 0,.string { data:=#[] },.string { data:=#[] },.int .u16 0,.int .u8 0,.slice none 0 0,.int .i64 0,.int .u16 0,.int .u8 0,.bool false,.int .u8 0,.int .u8 0,.int .u16 0,.int .u8 0,.string { data:=#[] },.int .u8 0]:=fun W h =>
 ndo N s _ [] _ 7 46 (by simp) rfl rfl (by decide) (fun z=>rfl) (fun W h=>ncmd0 N s _ cmO _ rfl rfl (fun j v hj=>st5 hj) (doOA hv ho) W h) W h
theorem stV1 (hv:s.vB=false)(hV:s.VB=[]):Tells N s { s with VB:=vC,vB:=false } [] #[.int .u8 7,.int .u8 1,.int .u8 0,.int .u8 0,.string { data:=#[] },.int .u8 1,.int .u8 0,.int .u16 1,.int .u8 3,.int .u8 1,.int .u8 0,.int .u8 0,.int .u8 0,.int .u8 0,.int .u8 0,.int .u8 0,.int .u8 0,.string { data:=#[] },.string { data:=#[] },.int .u16 0,.int .u8 0,.slice none 0 0,.int .i64 0,.int .u16 0,.int .u8 0,.bool false,.int .u8 0,.int .u8 0,.int .u16 0,.int .u8 0,.string { data:=#[] },.int .u8 0]:=fun W h =>
 ndo N s _ [] _ 7 46 (by simp) rfl rfl (by decide) (fun z=>rfl) (fun W h=>ncmd1 N s _ cmV _ rfl rfl (fun j v hj=>st5 hj) (doVB hv hV) W h) W h
theorem stO1 (hv:s.vB=false)(ho:s.oB=o0):Tells N s { s with oB:=oC,vB:=false } [] #[.int .u8 7,.int .u8 1,.int .u8 0,.int .u8 0,.string { data:=#[] },.int .u8 3,.int .u8 0,.int .u16 1,.int .u8 0,.int .u8 0,.int .u8 0,.int .u8 0,.int .u8 0,.int .u8 0,.int .u8 0,.int .u8 0,.int .u8 0,.string { data:=#[] },.string { data:=#[] },.int .u16 0,.int .u8 0,.slice none 0 0,.int .i64 0,.int .u16 0,.int .u8 0,.bool false,.int .u8 0,.int .u8 0,.int .u16 0,.int .u8 0,.string { data:=#[] },.int .u8 0]:=fun W h =>
 ndo N s _ [] _ 7 46 (by simp) rfl rfl (by decide) (fun z=>rfl) (fun W h=>ncmd1 N s _ cmO _ rfl rfl (fun j v hj=>st5 hj) (doOB hv ho) W h) W h
theorem stT {l:List (Int × Int × List UInt8)}(h0:∀ A W,NZ W N s→Calls Tryz.prog 41 #[.pointer (some ⟨N.n,0,none⟩),.agg A] W fun en w'=>∃ v,en=.returned (.agg #[.int .i64 0,.int .i64 0,v,.slice none 0 0])∧OV w' W.heap.size v l∧NZ w' N s'∧Fr (NK N) W w'):Tells N s s' l #[.int .u8 1,.int .u8 0,.int .u8 0,.int .u8 0,.string { data:=#[] },.int .u8 0,.int .u8 0,.int .u16 0,.int .u8 0,.int .u8 0,.int .u8 0,.int .u8 0,.int .u8 0,.int .u8 0,.int .u8 0,.int .u8 0,.int .u8 0,.string { data:=#[] },.string { data:=#[] },.int .u16 0,.int .u8 0,.slice none 0 0,.int .i64 0,.int .u16 0,.int .u8 0,.bool false,.int .u8 0,.int .u8 0,.int .u16 0,.int .u8 0,.string { data:=#[] },.int .u8 0]:=fun W h =>
 ndo N s s' l _ 1 41 (by simp) rfl rfl (by decide) (fun z=>rfl) (fun W h=>h0 _ W h) W h
theorem stD {l:List (Int × Int × List UInt8)}(h0:∀ A W,NZ W N s→Calls Tryz.prog 47 #[.pointer (some ⟨N.n,0,none⟩),.agg A] W fun en w'=>∃ v,en=.returned (.agg #[.int .i64 0,.int .i64 0,v,.slice none 0 0])∧OV w' W.heap.size v l∧NZ w' N s'∧Fr (NK N) W w'):Tells N s s' l #[.int .u8 8,.int .u8 0,.int .u8 0,.int .u8 0,.string { data:=#[] },.int .u8 0,.int .u8 0,.int .u16 0,.int .u8 0,.int .u8 0,.int .u8 0,.int .u8 0,.int .u8 0,.int .u8 0,.int .u8 0,.int .u8 0,.int .u8 0,.string { data:=#[] },.string { data:=#[] },.int .u16 0,.int .u8 0,.slice none 0 0,.int .i64 0,.int .u16 0,.int .u8 0,.bool false,.int .u8 0,.int .u8 0,.int .u16 0,.int .u8 0,.string { data:=#[] },.int .u8 0]:=fun W h =>
 ndo N s s' l _ 8 47 (by simp) rfl rfl (by decide) (fun z=>rfl) (fun W h=>h0 _ W h) W h
end
end Go.Proofs.YtghaobakpdninaaGreatDoor
