/- ZR24 -/
import Derived.Test.YtghaobakpdninaaGreatDoorZR20
import Derived.Test.YtghaobakpdninaaGreatDoorZR22
import Derived.Test.YtghaobakpdninaaGreatDoorZR23
set_option linter.unusedVariables false
set_option linter.unusedSimpArgs false
set_option maxRecDepth 100000
set_option maxHeartbeats 16000000
namespace Go.Proofs.YtghaobakpdninaaGreatDoor
open Go.RowKit
section
variable (lo hi:Nat) (P:BP) (o:List Int) (V:List Vn)
theorem bhear0N (T T':TM)(hid:T'.id=T.id)(x:Bp)(ρ:Int)(hρ:(ρ==5)=false)(ht:tkB (byB x)=(x,0))
  (RO:∀ W,TR W P.m P.g P.cap P.t T→Calls Tryz.prog 78 #[.pointer (some ⟨P.m,0,none⟩),.int .u8 1] W fun en w'=>en=.returned (.int .u8 ρ)∧Below W.heap.size W w')
  (HE:∀ W,TR W P.m P.g P.cap P.t T→Calls Tryz.prog 150 #[.pointer (some ⟨P.m,0,none⟩),.int .u8 1,.agg #[.int .u64 x.rt,.int .u32 x.co,.int .u64 x.br,.int .u8 x.po,.int .u8 x.ho,.int .u64 x.ve,.int .u8 x.ro,.bool x.pr,.bool x.ag,.bool x.tp,.int .u64 x.ec]] W fun en w'=>en=.returned (.slice none 0 0)∧TR w' P.m P.g P.cap P.t T'∧Fr (D2 P.m P.g) W w')
  (w:World) (hw:hi≤w.heap.size) (h:BN w lo hi P T o V (.slice none 0 0)):Calls Tryz.prog 106 #[.pointer (some ⟨P.b,0,none⟩),.int .u8 1,.string (bs (byB x))] w fun en w'=>∃ v,en=.returned v∧v=.slice none 0 0∧BN w' lo hi P { T' with fl:=0 } o V (.slice none 0 0)∧Fr (InR lo hi) w w':=by
 have R1:=hd0 (RO w h.tr)
 have HH:=hd0 h
 have HW:=hd0 hw
 have HID:=hd0 hid
 have TK:Hid (∀ w,Calls Tryz.prog 149 #[.string (bs (byB x))] w fun en w'=>en=.returned (.tuple #[.agg #[.int .u64 x.rt,.int .u32 x.co,.int .u64 x.br,.int .u8 x.po,.int .u8 x.ho,.int .u64 x.ve,.int .u8 x.ro,.bool x.pr,.bool x.ag,.bool x.tp,.int .u64 x.ec],.int .i64 0])∧Below w.heap.size w w'):=hd0 fun w=>by
  have:=btake_any (byB x) w (by rw[byB_len];decide)
  rw[ht] at this;exact this
 have HEE:=hd0 HE
 have FL:=hd0 fun W hW=>bflushN lo hi P T' o V W hW
 have c1:=h.c1
 clear h hid RO HE ht hw
 go_enter Tryz.func106,Tryz.ntmps106
 go_wp2_with fail
 with_reducible refine R1.out.mono ?_
 rintro en w1 ⟨rfl,hb1⟩
 have H1:=hd0 (HH.out.later hb1)
 have F1:Hid (Fr (InR lo hi) w w1):=hd0 (Fr.of_below hb1)
 clear hb1 c1 R1 HH
 go_wp2_with fail
 with_reducible refine(TK.out _).mono ?_
 rintro en w2 ⟨rfl,hb2⟩
 have b3:=hb2.trans (((Below.refl w2.heap.size w2).alloc (Nat.le_refl _) (.cells #[.int .u64 x.rt,.int .u32 x.co,.int .u64 x.br,.int .u8 x.po,.int .u8 x.ho,.int .u64 x.ve,.int .u8 x.ro,.bool x.pr,.bool x.ag,.bool x.tp,.int .u64 x.ec] 212)).mono hb2.size)
 have g3:=GB.new 212 w2 #[.int .u64 x.rt,.int .u32 x.co,.int .u64 x.br,.int .u8 x.po,.int .u8 x.ho,.int .u64 x.ve,.int .u8 x.ro,.bool x.pr,.bool x.ag,.bool x.tp,.int .u64 x.ec]
 obtain⟨q,hq⟩:∃ z,w2.heap.size=z:=⟨_,rfl⟩
 have hlq:w.heap.size≤q:=by rw[←hq];exact Nat.le_trans F1.out.size hb2.size
 rw[hq] at g3
 go_upto_region 6 with fail
 try rw[hq]
 obtain⟨w3,hw3⟩:∃ z,w2.alloc (.cells #[.int .u64 x.rt,.int .u32 x.co,.int .u64 x.br,.int .u8 x.po,.int .u8 x.ho,.int .u64 x.ve,.int .u8 x.ro,.bool x.pr,.bool x.ag,.bool x.tp,.int .u64 x.ec] 212)=z:=⟨_,rfl⟩
 rw[hw3] at b3 g3 ⊢
 have H3:=hd0 (H1.out.later (b3.drew))
 have F3:Hid (Fr (InR lo hi) w w3.drew):=hd0 (F1.out.trans (Fr.of_below b3.drew))
 have G3:=hd0 (g3.drew.range)
 have HQ:=hd0 hlq
 have HE3:=hd0 (HEE.out _ H3.out.tr)
 have HIB:Hid ((Tryz.prog.info? 212).map (·.size)=some (List.length ([.int .u64 x.rt,.int .u32 x.co,.int .u64 x.br,.int .u8 x.po,.int .u8 x.ho,.int .u64 x.ve,.int .u8 x.ro,.bool x.pr,.bool x.ag,.bool x.tp,.int .u64 x.ec]:List Value))):=hd0 (by kernel_rfl)
 have c1:w3.drew.cell? ⟨P.b,1,none⟩=some (.pointer (some ⟨P.m,0,none⟩)):=H3.out.c1
 have r3:w3.drew.rangeAt q 0 [.int .u64 x.rt,.int .u32 x.co,.int .u64 x.br,.int .u8 x.po,.int .u8 x.ho,.int .u64 x.ve,.int .u8 x.ro,.bool x.pr,.bool x.ag,.bool x.tp,.int .u64 x.ec]:=G3.out
 clear hw3 hq b3 g3 hb2 H1 F1 hlq
 refine wp_region_held_drew (S:=fun W=>W.rangeAt q 0 [.int .u64 x.rt,.int .u32 x.co,.int .u64 x.br,.int .u8 x.po,.int .u8 x.ho,.int .u64 x.ve,.int .u8 x.ro,.bool x.pr,.bool x.ag,.bool x.tp,.int .u64 x.ec]∧W.cell? ⟨P.b,1,none⟩=some (.pointer (some ⟨P.m,0,none⟩))) (by kernel_rfl) ⟨r3,c1⟩ (fun hHeld=>?_)
 refine tkH 0 ?_ ?h ?_
 case h=>(intro w hSw;go_simp;try with_reducible rfl)
 try simp only[Act.put,zz]
 refine tkH 1 ?_ ?h ?_
 case h=>(intro w hSw;go_simp;try with_reducible rfl)
 try simp only[Act.put,zz]
 refine tkH 2 ?_ ?h ?_
 case h=>(intro w hSw;go_simp;try with_reducible rfl)
 try simp only[Act.put,zz]
 refine tkH 3 ?_ ?h ?_
 case h=>(intro w hSw;go_simp;try with_reducible rfl)
 try simp only[Act.put,zz]
 refine tkH 4 ?_ ?h ?_
 case h=>(intro w hSw;go_simp;try with_reducible rfl)
 try simp only[Act.put,zz]
 refine wpAnyH_take (i:=5) (v:=.agg #[.int .u64 x.rt,.int .u32 x.co,.int .u64 x.br,.int .u8 x.po,.int .u8 x.ho,.int .u64 x.ve,.int .u8 x.ro,.bool x.pr,.bool x.ag,.bool x.tp,.int .u64 x.ec]) rfl (by kernel_rfl) (by kernel_rfl) (by kernel_rfl) (fun _ _ _ h=>h) (yieldsIf_load_mid (by rfl) 212 (.tmp 7) rfl q 0 rfl [.int .u64 x.rt,.int .u32 x.co,.int .u64 x.br,.int .u8 x.po,.int .u8 x.ho,.int .u64 x.ve,.int .u8 x.ro,.bool x.pr,.bool x.ag,.bool x.tp,.int .u64 x.ec] _ (fun w h=>h.1) Tryz.underlying212 rfl HIB.out) (by assumption) ?_
 try simp only[Act.put,zz]
 refine rdH 6 fun K hK=>?_
 (go_simp;go_at_call 150;(with_reducible refine HE3.out.mono ?_);rintro en w4 ⟨rfl,ht4,hf4⟩;have H4:=hd0 (H3.out.setTR ht4 hf4 HID.out);have D4:=hd0 (H3.out.d2 hf4);have F4:=hd0 (F3.out.trans D4.out);have r4:=range_fr G3.out D4.out (by have:=HQ.out;have:=HW.out;intro h;have:=h.2;omega);refine hK.out _ _ ⟨r4,H4.out.c1⟩ (fun hHeld=>?_);clear hK K;try simp only[Act.put,zz])
 refine tkH 7 ?_ ?h ?_
 case h=>(intro w hSw;go_simp;try with_reducible rfl)
 try simp only[Act.put,zz]
 refine wpAnyH_done (by kernel_rfl) ?_ _
 clear r3 c1 ht4 hf4 r4 H3 F3 G3 HE3 D4
 have F5:=hd0 (FL.out w4 H4.out)
 go_wp2_with fail
 with_reducible refine F5.out.mono ?_
 rintro en w5 ⟨rfl,hb5,hf5⟩
 have H5:=hd0 hb5
 have F6:=hd0 (F4.out.trans hf5)
 have W0:=hd0 (bwords0 P.b w5)
 clear hb5 hf5 F5
 go_wp2_with (go_at_call 92;with_reducible refine W0.out.mono ?_;rintro e w' ⟨rfl,rfl⟩)
 go_ret
 exact⟨_,rfl,rfl,H5.out,F6.out⟩
theorem bhear1N (T T':TM)(hid:T'.id=T.id)(hT':T'.id=32)(hhi:lo≤hi)(x:Bp)(ρ:Int)(hρ:(ρ==5)=false)(ht:tkB (byB x)=(x,0))
  (RO:∀ W,TR W P.m P.g P.cap P.t T→Calls Tryz.prog 78 #[.pointer (some ⟨P.m,0,none⟩),.int .u8 1] W fun en w'=>en=.returned (.int .u8 ρ)∧Below W.heap.size W w')
  (HE:∀ W,TR W P.m P.g P.cap P.t T→Calls Tryz.prog 150 #[.pointer (some ⟨P.m,0,none⟩),.int .u8 1,.agg #[.int .u64 x.rt,.int .u32 x.co,.int .u64 x.br,.int .u8 x.po,.int .u8 x.ho,.int .u64 x.ve,.int .u8 x.ro,.bool x.pr,.bool x.ag,.bool x.tp,.int .u64 x.ec]] W fun en w'=>(∃ gs,en=.returned (.slice (some ⟨gs,0,none⟩) 1 1)∧w'.rangeAt gs 0 (stW wR)∧W.heap.size≤gs)∧TR w' P.m P.g P.cap P.t T'∧Fr (D2 P.m P.g) W w')
  (w:World) (hw:hi≤w.heap.size) (h:BN w lo hi P T o V (.slice none 0 0)):Calls Tryz.prog 106 #[.pointer (some ⟨P.b,0,none⟩),.int .u8 1,.string (bs (byB x))] w fun en w'=>∃ v,en=.returned v∧(∃ g1 c1,v=.slice (some ⟨g1,0,none⟩) 1 c1∧w'.rangeAt g1 0 (sdC (1,fwB 34 wR))∧w.heap.size≤g1)∧BN w' lo hi P { T' with fl:=0 } o V (.slice none 0 0)∧Fr (InR lo hi) w w':=by
 have R1:=hd0 (RO w h.tr)
 have HH:=hd0 h
 have HW:=hd0 hw
 have HID:=hd0 hid
 have TK:Hid (∀ w,Calls Tryz.prog 149 #[.string (bs (byB x))] w fun en w'=>en=.returned (.tuple #[.agg #[.int .u64 x.rt,.int .u32 x.co,.int .u64 x.br,.int .u8 x.po,.int .u8 x.ho,.int .u64 x.ve,.int .u8 x.ro,.bool x.pr,.bool x.ag,.bool x.tp,.int .u64 x.ec],.int .i64 0])∧Below w.heap.size w w'):=hd0 fun w=>by
  have:=btake_any (byB x) w (by rw[byB_len];decide)
  rw[ht] at this;exact this
 have HEE:=hd0 HE
 have FL:=hd0 fun W hW=>bflushN lo hi P T' o V W hW
 have c1:=h.c1
 have WD:=hd0 fun(gs cs:Nat) (W:World) (hB:BN W lo hi P { T' with fl:=0 } o V (.slice none 0 0)) (hr:W.rangeAt gs 0 (stW wR))=>bwords32 P.b gs cs wR (by constructor <;> decide) (by decide) (by kernel_rfl) W (by have:=hB.c0;rw[show TM.id { T' with fl:=0 }=32 from hT'] at this;exact this) hr
 clear hT' hhi
 clear h hid RO HE ht hw
 go_enter Tryz.func106,Tryz.ntmps106
 go_wp2_with fail
 with_reducible refine R1.out.mono ?_
 rintro en w1 ⟨rfl,hb1⟩
 have H1:=hd0 (HH.out.later hb1)
 have F1:Hid (Fr (InR lo hi) w w1):=hd0 (Fr.of_below hb1)
 clear hb1 c1 R1 HH
 go_wp2_with fail
 with_reducible refine(TK.out _).mono ?_
 rintro en w2 ⟨rfl,hb2⟩
 have b3:=hb2.trans (((Below.refl w2.heap.size w2).alloc (Nat.le_refl _) (.cells #[.int .u64 x.rt,.int .u32 x.co,.int .u64 x.br,.int .u8 x.po,.int .u8 x.ho,.int .u64 x.ve,.int .u8 x.ro,.bool x.pr,.bool x.ag,.bool x.tp,.int .u64 x.ec] 212)).mono hb2.size)
 have g3:=GB.new 212 w2 #[.int .u64 x.rt,.int .u32 x.co,.int .u64 x.br,.int .u8 x.po,.int .u8 x.ho,.int .u64 x.ve,.int .u8 x.ro,.bool x.pr,.bool x.ag,.bool x.tp,.int .u64 x.ec]
 obtain⟨q,hq⟩:∃ z,w2.heap.size=z:=⟨_,rfl⟩
 have hlq:w.heap.size≤q:=by rw[←hq];exact Nat.le_trans F1.out.size hb2.size
 rw[hq] at g3
 go_upto_region 6 with fail
 try rw[hq]
 obtain⟨w3,hw3⟩:∃ z,w2.alloc (.cells #[.int .u64 x.rt,.int .u32 x.co,.int .u64 x.br,.int .u8 x.po,.int .u8 x.ho,.int .u64 x.ve,.int .u8 x.ro,.bool x.pr,.bool x.ag,.bool x.tp,.int .u64 x.ec] 212)=z:=⟨_,rfl⟩
 rw[hw3] at b3 g3 ⊢
 have H3:=hd0 (H1.out.later (b3.drew))
 have F3:Hid (Fr (InR lo hi) w w3.drew):=hd0 (F1.out.trans (Fr.of_below b3.drew))
 have G3:=hd0 (g3.drew.range)
 have HQ:=hd0 hlq
 have HE3:=hd0 (HEE.out _ H3.out.tr)
 have HIB:Hid ((Tryz.prog.info? 212).map (·.size)=some (List.length ([.int .u64 x.rt,.int .u32 x.co,.int .u64 x.br,.int .u8 x.po,.int .u8 x.ho,.int .u64 x.ve,.int .u8 x.ro,.bool x.pr,.bool x.ag,.bool x.tp,.int .u64 x.ec]:List Value))):=hd0 (by kernel_rfl)
 have c1:w3.drew.cell? ⟨P.b,1,none⟩=some (.pointer (some ⟨P.m,0,none⟩)):=H3.out.c1
 have r3:w3.drew.rangeAt q 0 [.int .u64 x.rt,.int .u32 x.co,.int .u64 x.br,.int .u8 x.po,.int .u8 x.ho,.int .u64 x.ve,.int .u8 x.ro,.bool x.pr,.bool x.ag,.bool x.tp,.int .u64 x.ec]:=G3.out
 clear hw3 hq b3 g3 hb2 H1 F1 hlq
 refine wp_region_held_drew (S:=fun W=>W.rangeAt q 0 [.int .u64 x.rt,.int .u32 x.co,.int .u64 x.br,.int .u8 x.po,.int .u8 x.ho,.int .u64 x.ve,.int .u8 x.ro,.bool x.pr,.bool x.ag,.bool x.tp,.int .u64 x.ec]∧W.cell? ⟨P.b,1,none⟩=some (.pointer (some ⟨P.m,0,none⟩))) (by kernel_rfl) ⟨r3,c1⟩ (fun hHeld=>?_)
 refine tkH 0 ?_ ?h ?_
 case h=>(intro w hSw;go_simp;try with_reducible rfl)
 try simp only[Act.put,zz]
 refine tkH 1 ?_ ?h ?_
 case h=>(intro w hSw;go_simp;try with_reducible rfl)
 try simp only[Act.put,zz]
 refine tkH 2 ?_ ?h ?_
 case h=>(intro w hSw;go_simp;try with_reducible rfl)
 try simp only[Act.put,zz]
 refine tkH 3 ?_ ?h ?_
 case h=>(intro w hSw;go_simp;try with_reducible rfl)
 try simp only[Act.put,zz]
 refine tkH 4 ?_ ?h ?_
 case h=>(intro w hSw;go_simp;try with_reducible rfl)
 try simp only[Act.put,zz]
 refine wpAnyH_take (i:=5) (v:=.agg #[.int .u64 x.rt,.int .u32 x.co,.int .u64 x.br,.int .u8 x.po,.int .u8 x.ho,.int .u64 x.ve,.int .u8 x.ro,.bool x.pr,.bool x.ag,.bool x.tp,.int .u64 x.ec]) rfl (by kernel_rfl) (by kernel_rfl) (by kernel_rfl) (fun _ _ _ h=>h) (yieldsIf_load_mid (by rfl) 212 (.tmp 7) rfl q 0 rfl [.int .u64 x.rt,.int .u32 x.co,.int .u64 x.br,.int .u8 x.po,.int .u8 x.ho,.int .u64 x.ve,.int .u8 x.ro,.bool x.pr,.bool x.ag,.bool x.tp,.int .u64 x.ec] _ (fun w h=>h.1) Tryz.underlying212 rfl HIB.out) (by assumption) ?_
 try simp only[Act.put,zz]
 refine rdH 6 fun K hK=>?_
 (go_simp;go_at_call 150;(with_reducible refine HE3.out.mono ?_);rintro en w4 ⟨⟨gs,rfl,hrg,hgs⟩,ht4,hf4⟩;have H4:=hd0 (H3.out.setTR ht4 hf4 HID.out);have D4:=hd0 (H3.out.d2 hf4);have F4:=hd0 (F3.out.trans D4.out);have r4:=range_fr G3.out D4.out (by have:=HQ.out;have:=HW.out;intro h;have:=h.2;omega);refine hK.out _ _ ⟨r4,H4.out.c1⟩ (fun hHeld=>?_);clear hK K;try simp only[Act.put,zz])
 refine tkH 7 ?_ ?h ?_
 case h=>(intro w hSw;go_simp;try with_reducible rfl)
 try simp only[Act.put,zz]
 refine wpAnyH_done (by kernel_rfl) ?_ _
 have HRG:=hd0 (And.intro hrg (Nat.le_trans F3.out.size hgs))
 clear hrg hgs
 clear r3 c1 ht4 hf4 r4 H3 F3 G3 HE3 D4
 have F5:=hd0 (FL.out w4 H4.out)
 go_wp2_with fail
 with_reducible refine F5.out.mono ?_
 rintro en w5 ⟨rfl,hb5,hf5⟩
 have H5:=hd0 hb5
 have F6:=hd0 (F4.out.trans hf5)
 have hr5:w5.rangeAt gs 0 (stW wR):=range_fr HRG.out.1 hf5 (by have:=HRG.out.2;have:=HW.out;intro h;have:=h.2;omega)
 have W0:=hd0 (WD.out gs 1 w5 H5.out hr5)
 clear hb5 hf5 F5 hr5
 go_wp2_with fail
 with_reducible refine W0.out.mono ?_
 rintro en w6 ⟨g1,c1,rfl,hr6,hg6,hb6⟩
 go_wp2_with fail
 go_ret
 exact⟨_,rfl,⟨g1,c1,rfl,hr6,Nat.le_trans F6.out.size hg6⟩,H5.out.later hb6,F6.out.trans (Fr.of_below hb6)⟩
theorem brecvN (T:TM)(x:Bp)(e:Int)(ρ:Int)(hρ:(ρ==0)=false)(hl:(fwB e x).length≤100000)(ht:tkF (fwB e x)=(#[.int .u8 1,.int .u8 128,.int .u8 194,.int .u8 0,.int .u8 0,.int .u8 0,.int .u8 0,.int .u8 0,.int .u8 0,.int .u8 0,.int .u8 0,.int .u8 e,.bool false,.int .u8 0,.int .u16 0,.int .u16 19779,.string (bs (byB x))],0))
  (RO:∀ W,TR W P.m P.g P.cap P.t T→Calls Tryz.prog 78 #[.pointer (some ⟨P.m,0,none⟩),.int .u8 1] W fun en w'=>en=.returned (.int .u8 ρ)∧Below W.heap.size W w')
  (R:Value→World→Prop) (w:World) (HE:∀ W,Below w.heap.size w W→Calls Tryz.prog 106 #[.pointer (some ⟨P.b,0,none⟩),.int .u8 1,.string (bs (byB x))] W fun en w'=>∃ v,en=.returned v∧R v w')
  (h:BN w lo hi P T o V (.slice none 0 0)):Calls Tryz.prog 76 #[.pointer (some ⟨P.b,0,none⟩),.int .u8 1,.string (bs (fwB e x))] w fun en w'=>∃ v,en=.returned v∧R v w':=by
 obtain⟨A,hA⟩:∃ A:Array Value,A=#[.int .u8 1,.int .u8 128,.int .u8 194,.int .u8 0,.int .u8 0,.int .u8 0,.int .u8 0,.int .u8 0,.int .u8 0,.int .u8 0,.int .u8 0,.int .u8 e,.bool false,.int .u8 0,.int .u16 0,.int .u16 19779,.string (bs (byB x))]:=⟨_,rfl⟩
 have TK:Hid (∀ w,Calls Tryz.prog 103 #[.string (bs (fwB e x))] w fun en w'=>en=.returned (.tuple #[.agg A,.int .i64 0])∧Below w.heap.size w w'):=hd0 fun w=>by
  have:=ftake_any (fwB e x) w hl
  rw[ht] at this;rw[hA];exact this
 have hJ:∀ (j:Nat) (v:Value),(#[.int .u8 1,.int .u8 128,.int .u8 194,.int .u8 0,.int .u8 0,.int .u8 0,.int .u8 0,.int .u8 0,.int .u8 0,.int .u8 0,.int .u8 0,.int .u8 e,.bool false,.int .u8 0,.int .u16 0,.int .u16 19779,.string (bs (byB x))]:Array Value)[j]?=some v→A[j]?=some v:=fun j v h=>by rw[hA];exact h
 have hI:isFr A:=by rw[hA];exact⟨1,128,194,0,0,0,0,0,0,0,0,e,false,0,0,19779,byB x,rfl⟩
 clear hA
 have R1:=hd0 (RO w h.tr)
 have HIZ:=hd0 (frame_info hI)
 have HIL:=hd0 (frame_infoL hI)
 have HO1:=hd0 hI.one
 have HIF:=hd0 hI
 have EQ:∀ W:World,(binOp .eql 24 (.agg #[.int .u8 1,.int .u8 128,.int .u8 194,.int .u8 0,.int .u8 0,.int .u8 0]) (.agg #[.int .u8 1,.int .u8 128,.int .u8 194,.int .u8 0,.int .u8 0,.int .u8 0])).run Tryz.prog W=.ok (.bool true) W:=fun W=>by kernel_rfl
 have OWN:=own_any
 have HEE:=hd0 HE
 have c1:=h.c1
 clear h hI RO HE ht hl
 go_enter Tryz.func76,Tryz.ntmps76
 go_wp2_with fail
 with_reducible refine R1.out.mono ?_
 rintro en w0 ⟨rfl,hb0⟩
 have HB0:=hd0 hb0
 clear c1 hb0 R1
 go_wp2_with fail
 with_reducible refine(TK.out _).mono ?_
 rintro en w1 ⟨rfl,hb1⟩
 have TH:=hd0 (fr_there w1 HIF.out)
 go_upto_region 4 with((with_reducible refine wpList_store_mid rfl 264 (.tmp 7) (.tmp 25) rfl w1.heap.size 0 A ?hx ?hy TH.out HIZ.out HO1.out ?_);(case hx=>rfl);(case hy=>rfl))
 have gf:GB 264 ((w1.alloc (.cells #[.int .u8 0,.int .u8 0,.int .u8 0,.int .u8 0,.int .u8 0,.int .u8 0,.int .u8 0,.int .u8 0,.int .u8 0,.int .u8 0,.int .u8 0,.int .u8 0,.bool false,.int .u8 0,.int .u16 0,.int .u16 0,.string { data:=#[] }] 264)).setCells w1.heap.size 0 A.toList) w1.heap.size A:=fr_stored w1 HIF.out
 have b2:Below w1.heap.size w1 ((w1.alloc (.cells #[.int .u8 0,.int .u8 0,.int .u8 0,.int .u8 0,.int .u8 0,.int .u8 0,.int .u8 0,.int .u8 0,.int .u8 0,.int .u8 0,.int .u8 0,.int .u8 0,.bool false,.int .u8 0,.int .u16 0,.int .u16 0,.string { data:=#[] }] 264)).setCells w1.heap.size 0 A.toList):=below_cells (Nat.le_refl _) _ _ _ (bAo _)
 obtain⟨z,hz⟩:∃ z,w1.heap.size=z:=⟨_,rfl⟩
 have hbz:=hb1.trans (b2.mono hb1.size)
 rw[hz] at gf b2 hbz ⊢
 obtain⟨w2,hw2⟩:∃ k,(w1.alloc (.cells #[.int .u8 0,.int .u8 0,.int .u8 0,.int .u8 0,.int .u8 0,.int .u8 0,.int .u8 0,.int .u8 0,.int .u8 0,.int .u8 0,.int .u8 0,.int .u8 0,.bool false,.int .u8 0,.int .u16 0,.int .u16 0,.string { data:=#[] }] 264)).setCells z 0 A.toList=k:=⟨_,rfl⟩
 rw[hw2] at gf b2 hbz ⊢
 have HB2:=hd0 (HB0.out.trans (hbz.mono HB0.out.size))
 have G2:=hd0 gf
 clear gf b2 hbz hw2 TH hb1 HB0
 go_upto_region 6 with fail
 have l0:∀ K:Later w2,K.out.cell? ⟨z,0,none⟩=some (.int .u8 1):=fun K=>(G2.out.later K.h).c 0 _ (hJ 0 _ rfl)
 have l1:∀ K:Later w2,K.out.cell? ⟨z,1,none⟩=some (.int .u8 128):=fun K=>(G2.out.later K.h).c 1 _ (hJ 1 _ rfl)
 have l2:∀ K:Later w2,K.out.cell? ⟨z,2,none⟩=some (.int .u8 194):=fun K=>(G2.out.later K.h).c 2 _ (hJ 2 _ rfl)
 have l3:∀ K:Later w2,K.out.cell? ⟨z,3,none⟩=some (.int .u8 0):=fun K=>(G2.out.later K.h).c 3 _ (hJ 3 _ rfl)
 have l4:∀ K:Later w2,K.out.cell? ⟨z,4,none⟩=some (.int .u8 0):=fun K=>(G2.out.later K.h).c 4 _ (hJ 4 _ rfl)
 have l5:∀ K:Later w2,K.out.cell? ⟨z,5,none⟩=some (.int .u8 0):=fun K=>(G2.out.later K.h).c 5 _ (hJ 5 _ rfl)
 have l15:∀ K:Later w2,K.out.cell? ⟨z,15,none⟩=some (.int .u16 19779):=fun K=>(G2.out.later K.h).c 15 _ (hJ 15 _ rfl)
 refine wp_region_later (by kernel_rfl) (by kernel_rfl) ?_
 repeat (go_big_quiet_step (first|(go_at_call 105;exact Calls.later (OWN _))))
 refine wpQuiet_nil ?_
 rintro _ ⟨K,rfl⟩
 clear l0 l1 l2 l3 l4 l5 l15 EQ
 have HB3:=hd0 (HB2.out.trans (K.h.mono HB2.out.size))
 have G3:=hd0 (G2.out.later K.h)
 obtain⟨w3,hw3⟩:∃ z,K.out=z:=⟨_,rfl⟩
 rw[hw3] at HB3 G3 ⊢
 clear hw3 K G2 HB2
 have c16:w3.cell? ⟨z,16,none⟩=some (.string (bs (byB x))):=G3.out.c 16 _ (hJ 16 _ rfl)
 have HE3:=hd0 (HEE.out w3 HB3.out)
 go_wp2_with fail
 with_reducible refine HE3.out.mono ?_
 rintro en w4 ⟨v,rfl,hq⟩
 go_wp2_with fail
 go_ret
 exact⟨_,rfl,hq⟩
end
end Go.Proofs.YtghaobakpdninaaGreatDoor
