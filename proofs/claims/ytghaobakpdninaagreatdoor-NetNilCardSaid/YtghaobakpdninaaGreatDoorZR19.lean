/- ZR19 -/
import Derived.Test.YtghaobakpdninaaGreatDoorZR18
import Derived.Test.YtghaobakpdninaaGreatDoorZR14
set_option linter.unusedVariables false
set_option linter.unusedSimpArgs false
set_option maxRecDepth 100000
set_option maxHeartbeats 16000000
namespace Go.Proofs.YtghaobakpdninaaGreatDoor
open Go.RowKit
def stW (b:Bp):List Value:=.int .u8 1::bpC b
theorem stW_len (b:Bp):(stW b).length=12:=rfl
theorem stW_one (b:Bp):∀ v∈stW b,v.oneCell'=true:=by
 intro v hv
 simp[stW,bpC] at hv
 rcases hv with rfl|rfl|rfl|rfl|rfl|rfl|rfl|rfl|rfl|rfl|rfl|rfl <;> rfl
theorem info_tsent:(Tryz.prog.info? 302).map (fun i=>(i.zero,i.size,i.bytes))=some (some (.agg #[.int .u8 0,.int .u64 0,.int .u32 0,.int .u64 0,.int .u8 0,.int .u8 0,.int .u64 0,.int .u8 0,.bool false,.bool false,.bool false,.int .u64 0]),12,72):=by kernel_rfl
theorem ttickS (m g cap:Nat)(t:List Value)(id:Int)(a:Bool)(w:World)(h:TR w m g cap t (ml id a (lk true bp0 0 false 0) id 0 (-1) 0 1 0)):Calls Tryz.prog 93 #[.pointer (some ⟨m,0,none⟩)] w fun en w'=>∃ gs cs,en=.returned (.slice (some ⟨gs,0,none⟩) 1 cs)∧w'.rangeAt gs 0 (stW (wD id true))∧w.heap.size≤gs∧TR w' m g cap t (ml id a (lk true bp0 0 false 0) id 0 (-1) 0 1 0)∧Fr (D2 m g) w w':=by
 have HT0:=hd0 h
 have HF0:=hd0 (Fr.refl (D2 m g) w)
 have HML:=hd0 (And.intro h.tm.lt h.row.lt)
 have c1:=h.l1
 clear h
 go_enter Tryz.func93,Tryz.ntmps93
 go_wp2_with fail
 clear c1
 refine wp_loop_rounds 3 ?_
 rw[rounds_succ]
 have c1:w.drew.cell? ⟨m,1,none⟩=some (.slice (some ⟨g,0,none⟩) 2 cap):=HT0.out.l1
 have a1:w.drew.cell? ⟨g,13,none⟩=some (.int .i64 0):=HT0.out.h0 13 (by decide) _ rfl
 have fa:w.drew.frozen? ⟨g,13,none⟩=false:=HT0.out.row.fr 13
 have t2:Hid (TR w.drew m g cap t (ml id a (lk true bp0 0 false 0) id 0 (-1) 0 1 0)):=hd0 (HT0.out.later (Below.refl _ _).drew)
 have c2:(w.drew).cell? ⟨m,1,none⟩=some (.slice (some ⟨g,0,none⟩) 2 cap):=t2.out.l1
 have sa:=setCell_id a1
 go_upto_region 6 with fail
 refine wp_region_held_drew (S:=fun W=>W.cell? ⟨m,1,none⟩=some (.slice (some ⟨g,0,none⟩) 2 cap)) (by kernel_rfl) c1 (fun hHeld=>?_)
 refine tkH 0 ?_ ?h ?_
 case h=>(intro w hSw;go_simp;try with_reducible rfl)
 try simp only[Act.put,zz]
 refine tkH 1 ?_ ?h ?_
 case h=>(intro w hSw;go_simp;try with_reducible rfl)
 try simp only[Act.put,zz]
 refine tkH 2 ?_ ?h ?_
 case h=>(intro w hSw;go_simp;try with_reducible rfl)
 try simp only[Act.put,zz]
 refine tkH 3 ?_ ?h ?_
 case h=>(intro w hSw;go_simp;try with_reducible rfl)
 try simp only[Act.put,zz]
 refine tkH 4 ?_ ?h ?_
 case h=>(intro w hSw;go_simp;try with_reducible rfl)
 try simp only[Act.put,zz]
 refine tkH 5 ?_ ?h ?_
 case h=>(intro w hSw;go_simp;try with_reducible rfl)
 try simp only[Act.put,zz]
 refine tkH 6 ?_ ?h ?_
 case h=>(intro w hSw;go_simp;try with_reducible rfl)
 try simp only[Act.put,zz]
 refine tkH 7 ?_ ?h ?_
 case h=>(intro w hSw;go_simp;try with_reducible rfl)
 try simp only[Act.put,zz]
 refine tkH 8 ?_ ?h ?_
 case h=>(intro w hSw;go_simp;try with_reducible rfl)
 try simp only[Act.put,zz]
 refine tkH 9 ?_ ?h ?_
 case h=>(intro w hSw;go_simp;try with_reducible rfl)
 try simp only[Act.put,zz]
 refine tkH 10 ?_ ?h ?_
 case h=>(intro w hSw;go_simp;try with_reducible rfl)
 try simp only[Act.put,zz]
 refine tkH 11 ?_ ?h ?_
 case h=>(intro w hSw;go_simp;try with_reducible rfl)
 try simp only[Act.put,zz]
 refine rdH 12 fun K hK=>?_
 (go_simp;refine hK.out _ _ c1 (fun hHeld=>?_);clear hK K;try simp only[Act.put,zz])
 refine tkH 13 ?_ ?h ?_
 case h=>(intro w hSw;go_simp;try with_reducible rfl)
 try simp only[Act.put,zz]
 refine tkH 14 ?_ ?h ?_
 case h=>(intro w hSw;go_simp;try with_reducible rfl)
 try simp only[Act.put,zz]
 refine tkH 15 ?_ ?h ?_
 case h=>(intro w hSw;go_simp;try with_reducible rfl)
 try simp only[Act.put,zz]
 refine tkH 16 ?_ ?h ?_
 case h=>(intro w hSw;go_simp;try with_reducible rfl)
 try simp only[Act.put,zz]
 simp only[show(if (0:Int)<IntKind.i64.wrap (-1) then IntKind.i64.wrap (-1) else 0)=0 from by decide]
 refine rdH 17 fun K hK=>?_
 (go_simp;refine hK.out _ _ c2 (fun hHeld=>?_);clear hK K;try simp only[Act.put,zz])
 refine wpAnyH_done (by kernel_rfl) ?_ _
 have HF1:Hid (Fr (D2 m g) w w.drew):=hd0 (HF0.out.drew)
 have HT1:=t2
 obtain⟨w1,hw1⟩:∃ z,w.drew=z:=⟨_,rfl⟩
 rw[hw1] at HT1 HF1 ⊢
 clear hw1 a1 fa c1 c2 t2 sa
 go_wp2_with fail
 rw[rounds_succ]
 have c1:w1.drew.cell? ⟨m,1,none⟩=some (.slice (some ⟨g,0,none⟩) 2 cap):=HT1.out.l1
 have a1:w1.drew.cell? ⟨g,29,none⟩=some (.int .i64 0):=HT1.out.x1 13 (by decide) _ rfl
 have fa:w1.drew.frozen? ⟨g,29,none⟩=false:=HT1.out.row.fr 29
 have t2:Hid (TR w1.drew m g cap t (ml id a (lk true bp0 0 false 0) id 0 (-1) 0 1 0)):=hd0 (HT1.out.later (Below.refl _ _).drew)
 have c2:(w1.drew).cell? ⟨m,1,none⟩=some (.slice (some ⟨g,0,none⟩) 2 cap):=t2.out.l1
 have sa:=setCell_id a1
 go_upto_region 6 with fail
 refine wp_region_held_drew (S:=fun W=>W.cell? ⟨m,1,none⟩=some (.slice (some ⟨g,0,none⟩) 2 cap)) (by kernel_rfl) c1 (fun hHeld=>?_)
 refine tkH 0 ?_ ?h ?_
 case h=>(intro w hSw;go_simp;try with_reducible rfl)
 try simp only[Act.put,zz]
 refine tkH 1 ?_ ?h ?_
 case h=>(intro w hSw;go_simp;try with_reducible rfl)
 try simp only[Act.put,zz]
 refine tkH 2 ?_ ?h ?_
 case h=>(intro w hSw;go_simp;try with_reducible rfl)
 try simp only[Act.put,zz]
 refine tkH 3 ?_ ?h ?_
 case h=>(intro w hSw;go_simp;try with_reducible rfl)
 try simp only[Act.put,zz]
 refine tkH 4 ?_ ?h ?_
 case h=>(intro w hSw;go_simp;try with_reducible rfl)
 try simp only[Act.put,zz]
 refine tkH 5 ?_ ?h ?_
 case h=>(intro w hSw;go_simp;try with_reducible rfl)
 try simp only[Act.put,zz]
 refine tkH 6 ?_ ?h ?_
 case h=>(intro w hSw;go_simp;try with_reducible rfl)
 try simp only[Act.put,zz]
 refine tkH 7 ?_ ?h ?_
 case h=>(intro w hSw;go_simp;try with_reducible rfl)
 try simp only[Act.put,zz]
 refine tkH 8 ?_ ?h ?_
 case h=>(intro w hSw;go_simp;try with_reducible rfl)
 try simp only[Act.put,zz]
 refine tkH 9 ?_ ?h ?_
 case h=>(intro w hSw;go_simp;try with_reducible rfl)
 try simp only[Act.put,zz]
 refine tkH 10 ?_ ?h ?_
 case h=>(intro w hSw;go_simp;try with_reducible rfl)
 try simp only[Act.put,zz]
 refine tkH 11 ?_ ?h ?_
 case h=>(intro w hSw;go_simp;try with_reducible rfl)
 try simp only[Act.put,zz]
 refine rdH 12 fun K hK=>?_
 (go_simp;refine hK.out _ _ c1 (fun hHeld=>?_);clear hK K;try simp only[Act.put,zz])
 refine tkH 13 ?_ ?h ?_
 case h=>(intro w hSw;go_simp;try with_reducible rfl)
 try simp only[Act.put,zz]
 refine tkH 14 ?_ ?h ?_
 case h=>(intro w hSw;go_simp;try with_reducible rfl)
 try simp only[Act.put,zz]
 refine tkH 15 ?_ ?h ?_
 case h=>(intro w hSw;go_simp;try with_reducible rfl)
 try simp only[Act.put,zz]
 refine tkH 16 ?_ ?h ?_
 case h=>(intro w hSw;go_simp;try with_reducible rfl)
 try simp only[Act.put,zz]
 simp only[show(if (0:Int)<IntKind.i64.wrap (-1) then IntKind.i64.wrap (-1) else 0)=0 from by decide]
 refine rdH 17 fun K hK=>?_
 (go_simp;refine hK.out _ _ c2 (fun hHeld=>?_);clear hK K;try simp only[Act.put,zz])
 refine wpAnyH_done (by kernel_rfl) ?_ _
 have HF2:Hid (Fr (D2 m g) w w1.drew):=hd0 (HF1.out.drew)
 have HT2:=t2
 obtain⟨w2,hw2⟩:∃ z,w1.drew=z:=⟨_,rfl⟩
 rw[hw2] at HT2 HF2 ⊢
 clear hw2 a1 fa c1 c2 t2 sa
 go_wp2_with fail
 rw[rounds_succ]
 have CH:Hid (Calls Tryz.prog 118 #[.pointer (some ⟨m,0,none⟩)] w2 fun en w'=>en=.returned (.tuple #[])∧TR w' m g cap t (ml id a (lk true bp0 0 false 0) id 0 (-1) 0 1 0)∧Fr (D2 m g) w2 w'):=hd0 ((tchooseN m g cap t id a true bp0 0 false 0 1 0 (Or.inr (Or.inl rfl)) (fun h=>by cases h) w2 HT2.out).mono fun e w' h=>⟨h.1,HT2.out.later h.2,Fr.of_below h.2⟩)
 go_upto_region 9 with(go_at_call 118;with_reducible refine CH.out.mono ?_;rintro e w3 ⟨rfl,ht3,hf3⟩)
 have HT3:=hd0 ht3
 have HF3:=hd0 (HF2.out.trans hf3)
 clear ht3 hf3 CH HT2 HF2
 have c1:w3.cell? ⟨m,1,none⟩=some (.slice (some ⟨g,0,none⟩) 2 cap):=HT3.out.l1
 go_wp2_with fail
 refine wp_loop_rounds 3 ?_
 rw[rounds_succ]
 have L0:Hid (Calls Tryz.prog 125 #[.pointer (some ⟨g,0,none⟩)] w3 fun en w'=>en=.returned (.bool false)∧w3=w'):=hd0 ((tlink_host g 0 a w3 (HT3.out.h0 0 (by decide) _ rfl) (HT3.out.h0 1 (by decide) _ rfl)).mono fun e w' h=>⟨h.1,h.2.symm⟩)
 have k15:w3.cell? ⟨g,15,none⟩=some (.int .i64 0):=HT3.out.h0 15 (by decide) _ rfl
 have f15:=HT3.out.row.fr 15
 have s15:=setCell_id k15
 go_wp2_with (go_at_call 125;with_reducible refine L0.out.mono ?_;rintro e w' ⟨rfl,rfl⟩)
 clear k15 f15 s15 L0
 have L1:Hid (Calls Tryz.prog 125 #[.pointer (some ⟨g,16,none⟩)] w3 fun en w'=>en=.returned (.bool true)∧w3=w'):=hd0 ((tlink_k g 16 true w3 (HT3.out.x1 0 (by decide) _ rfl) (HT3.out.x1 1 (by decide) _ rfl)).mono fun e w' h=>⟨h.1,h.2.symm⟩)
 have WO:Hid (Calls Tryz.prog 126 #[.pointer (some ⟨m,0,none⟩),.int .u8 1] w3 fun en w'=>en=.returned (.agg #[.int .u8 1,.int .u64 id,.int .u32 0,.int .u64 id,.int .u8 1,.int .u8 0,.int .u64 1,.int .u8 2,.bool true,.bool false,.bool false,.int .u64 0])∧Below w3.heap.size w3 w'):=hd0 (twordA m g cap t id a bp0 0 false 0 (fun W hW=>troleS m g cap t id a bp0 false 0 id 0 0 1 0 W hW) w3 HT3.out)
 rw[rounds_succ]
 go_upto_region 15 with(go_at_call 125;with_reducible refine L1.out.mono ?_;rintro e w' ⟨rfl,rfl⟩)
 go_wp2_with fail
 with_reducible refine WO.out.mono ?_
 rintro en w5 ⟨rfl,hb5⟩
 have hlit:Rw 12 stW (w5.alloc (.cells #[.int .u8 1,.int .u64 id,.int .u32 0,.int .u64 id,.int .u8 1,.int .u8 0,.int .u64 1,.int .u8 2,.bool true,.bool false,.bool false,.int .u64 0] 302)) (.slice (some ⟨w5.heap.size,0,none⟩) 1 1) [(wD id true)]:=(Ow.lit (E:=302) stW_len w5 0 (wD id true) #[.int .u8 1,.int .u64 id,.int .u32 0,.int .u64 id,.int .u8 1,.int .u8 0,.int .u64 1,.int .u8 2,.bool true,.bool false,.bool false,.int .u64 0] rfl (Nat.zero_le _)).rw stW_len
 have HL:=hd0 hlit
 have hba:Below w3.heap.size w3 (w5.alloc (.cells #[.int .u8 1,.int .u64 id,.int .u32 0,.int .u64 id,.int .u8 1,.int .u8 0,.int .u64 1,.int .u8 2,.bool true,.bool false,.bool false,.int .u64 0] 302)):=hb5.alloc hb5.size _
 have HBA:=hd0 hba
 clear hlit hba hb5 c1
 go_upto_region 16 with(at_builtin;refine wpList_append_rw stW_len stW_one 302 188 _ 72 Tryz.underlying188 info_tsent rfl (by decide) (by decide) rfl (.tmp 53) (.tmp 58) rfl w3.heap.size (.slice none 0 0) [] rfl (Ow.none _ _) _ _ rfl HL.out (by simp) HBA.out.size ?_;intro v1 w6 ho1 hb6;obtain⟨g1,cap1,t1,rfl,hg1,hc1,hh1⟩:=ho1.ne (by simp))
 have hb36:=HBA.out.trans hb6
 have HT6:=hd0 (HT3.out.later hb36)
 have HF6:=hd0 (HF3.out.trans (Fr.of_below hb36))
 have hrow:w6.rangeAt g1 0 (stW (wD id true)):=row_range (Below.refl _ _) hh1
 have HR6:=hd0 hrow
 have HG1:=hd0 (And.intro hg1 (And.intro HF3.out.size HML.out))
 have k31:w6.cell? ⟨g,31,none⟩=some (.int .i64 0):=HT6.out.x1 15 (by decide) _ rfl
 have f31:=HT6.out.row.fr 31
 have s31:=setCell_id k31
 clear hb36 hrow ho1 hb6 hh1 HL HBA L1 WO HT3 HF3
 go_wp2_with fail
 rw[rounds_succ]
 go_wp2_with fail
 clear k31 f31 s31
 have hne:g≠g1:=by have:=HG1.out;omega
 have hle:w.heap.size≤g1:=by have:=HG1.out;omega
 have hrow:(w6).rangeAt g1 0 (stW (wD id true)):=HR6.out
 refine bodyPost_ret (v:=.slice (some ⟨g1,0,none⟩) 1 cap1) (by simp[results,Tryz.results93,go_sem]) rfl ⟨g1,cap1,rfl,hrow,hle,HT6.out,HF6.out⟩
theorem ttickA (m g cap:Nat)(t:List Value)(a:Bool)(w:World)(h:TR w m g cap t (ml 16 a (lk true wR 3 true 0) 16 0 (-1) 0 1 0)):Calls Tryz.prog 93 #[.pointer (some ⟨m,0,none⟩)] w fun en w'=>∃ gs cs,en=.returned (.slice (some ⟨gs,0,none⟩) 1 cs)∧w'.rangeAt gs 0 (stW (wD 16 false))∧w.heap.size≤gs∧TR w' m g cap t (ml 16 a (lk true wR 2 true 0) 16 0 (-1) 0 1 0)∧Fr (D2 m g) w w':=by
 have HT0:=hd0 h
 have HF0:=hd0 (Fr.refl (D2 m g) w)
 have HML:=hd0 (And.intro h.tm.lt h.row.lt)
 have c1:=h.l1
 clear h
 go_enter Tryz.func93,Tryz.ntmps93
 go_wp2_with fail
 clear c1
 refine wp_loop_rounds 3 ?_
 rw[rounds_succ]
 have c1:w.drew.cell? ⟨m,1,none⟩=some (.slice (some ⟨g,0,none⟩) 2 cap):=HT0.out.l1
 have a1:w.drew.cell? ⟨g,13,none⟩=some (.int .i64 0):=HT0.out.h0 13 (by decide) _ rfl
 have fa:w.drew.frozen? ⟨g,13,none⟩=false:=HT0.out.row.fr 13
 have t2:Hid (TR w.drew m g cap t (ml 16 a (lk true wR 3 true 0) 16 0 (-1) 0 1 0)):=hd0 (HT0.out.later (Below.refl _ _).drew)
 have c2:(w.drew).cell? ⟨m,1,none⟩=some (.slice (some ⟨g,0,none⟩) 2 cap):=t2.out.l1
 have sa:=setCell_id a1
 go_upto_region 6 with fail
 refine wp_region_held_drew (S:=fun W=>W.cell? ⟨m,1,none⟩=some (.slice (some ⟨g,0,none⟩) 2 cap)) (by kernel_rfl) c1 (fun hHeld=>?_)
 refine tkH 0 ?_ ?h ?_
 case h=>(intro w hSw;go_simp;try with_reducible rfl)
 try simp only[Act.put,zz]
 refine tkH 1 ?_ ?h ?_
 case h=>(intro w hSw;go_simp;try with_reducible rfl)
 try simp only[Act.put,zz]
 refine tkH 2 ?_ ?h ?_
 case h=>(intro w hSw;go_simp;try with_reducible rfl)
 try simp only[Act.put,zz]
 refine tkH 3 ?_ ?h ?_
 case h=>(intro w hSw;go_simp;try with_reducible rfl)
 try simp only[Act.put,zz]
 refine tkH 4 ?_ ?h ?_
 case h=>(intro w hSw;go_simp;try with_reducible rfl)
 try simp only[Act.put,zz]
 refine tkH 5 ?_ ?h ?_
 case h=>(intro w hSw;go_simp;try with_reducible rfl)
 try simp only[Act.put,zz]
 refine tkH 6 ?_ ?h ?_
 case h=>(intro w hSw;go_simp;try with_reducible rfl)
 try simp only[Act.put,zz]
 refine tkH 7 ?_ ?h ?_
 case h=>(intro w hSw;go_simp;try with_reducible rfl)
 try simp only[Act.put,zz]
 refine tkH 8 ?_ ?h ?_
 case h=>(intro w hSw;go_simp;try with_reducible rfl)
 try simp only[Act.put,zz]
 refine tkH 9 ?_ ?h ?_
 case h=>(intro w hSw;go_simp;try with_reducible rfl)
 try simp only[Act.put,zz]
 refine tkH 10 ?_ ?h ?_
 case h=>(intro w hSw;go_simp;try with_reducible rfl)
 try simp only[Act.put,zz]
 refine tkH 11 ?_ ?h ?_
 case h=>(intro w hSw;go_simp;try with_reducible rfl)
 try simp only[Act.put,zz]
 refine rdH 12 fun K hK=>?_
 (go_simp;refine hK.out _ _ c1 (fun hHeld=>?_);clear hK K;try simp only[Act.put,zz])
 refine tkH 13 ?_ ?h ?_
 case h=>(intro w hSw;go_simp;try with_reducible rfl)
 try simp only[Act.put,zz]
 refine tkH 14 ?_ ?h ?_
 case h=>(intro w hSw;go_simp;try with_reducible rfl)
 try simp only[Act.put,zz]
 refine tkH 15 ?_ ?h ?_
 case h=>(intro w hSw;go_simp;try with_reducible rfl)
 try simp only[Act.put,zz]
 refine tkH 16 ?_ ?h ?_
 case h=>(intro w hSw;go_simp;try with_reducible rfl)
 try simp only[Act.put,zz]
 simp only[show(if (0:Int)<IntKind.i64.wrap (-1) then IntKind.i64.wrap (-1) else 0)=0 from by decide]
 refine rdH 17 fun K hK=>?_
 (go_simp;refine hK.out _ _ c2 (fun hHeld=>?_);clear hK K;try simp only[Act.put,zz])
 refine wpAnyH_done (by kernel_rfl) ?_ _
 have HF1:Hid (Fr (D2 m g) w w.drew):=hd0 (HF0.out.drew)
 have HT1:=t2
 obtain⟨w1,hw1⟩:∃ z,w.drew=z:=⟨_,rfl⟩
 rw[hw1] at HT1 HF1 ⊢
 clear hw1 a1 fa c1 c2 t2 sa
 go_wp2_with fail
 rw[rounds_succ]
 have c1:w1.drew.cell? ⟨m,1,none⟩=some (.slice (some ⟨g,0,none⟩) 2 cap):=HT1.out.l1
 have a1:w1.drew.cell? ⟨g,29,none⟩=some (.int .i64 3):=HT1.out.x1 13 (by decide) _ rfl
 have fa:w1.drew.frozen? ⟨g,29,none⟩=false:=HT1.out.row.fr 29
 have t2:Hid (TR (w1.setCell ⟨g,29,none⟩ (.int .i64 2)).drew m g cap t (ml 16 a (lk true wR 2 true 0) 16 0 (-1) 0 1 0)):=hd0 ((HT1.out.xSet 13 (by decide) (.int .i64 2) (lk true wR 2 true 0) rfl).later (Below.refl _ _).drew)
 have c2:((w1.setCell ⟨g,29,none⟩ (.int .i64 2)).drew).cell? ⟨m,1,none⟩=some (.slice (some ⟨g,0,none⟩) 2 cap):=t2.out.l1
 go_upto_region 6 with fail
 refine wp_region_held_drew (S:=fun W=>W.cell? ⟨m,1,none⟩=some (.slice (some ⟨g,0,none⟩) 2 cap)) (by kernel_rfl) c1 (fun hHeld=>?_)
 refine tkH 0 ?_ ?h ?_
 case h=>(intro w hSw;go_simp;try with_reducible rfl)
 try simp only[Act.put,zz]
 refine tkH 1 ?_ ?h ?_
 case h=>(intro w hSw;go_simp;try with_reducible rfl)
 try simp only[Act.put,zz]
 refine tkH 2 ?_ ?h ?_
 case h=>(intro w hSw;go_simp;try with_reducible rfl)
 try simp only[Act.put,zz]
 refine tkH 3 ?_ ?h ?_
 case h=>(intro w hSw;go_simp;try with_reducible rfl)
 try simp only[Act.put,zz]
 refine tkH 4 ?_ ?h ?_
 case h=>(intro w hSw;go_simp;try with_reducible rfl)
 try simp only[Act.put,zz]
 refine tkH 5 ?_ ?h ?_
 case h=>(intro w hSw;go_simp;try with_reducible rfl)
 try simp only[Act.put,zz]
 refine tkH 6 ?_ ?h ?_
 case h=>(intro w hSw;go_simp;try with_reducible rfl)
 try simp only[Act.put,zz]
 refine tkH 7 ?_ ?h ?_
 case h=>(intro w hSw;go_simp;try with_reducible rfl)
 try simp only[Act.put,zz]
 refine tkH 8 ?_ ?h ?_
 case h=>(intro w hSw;go_simp;try with_reducible rfl)
 try simp only[Act.put,zz]
 refine tkH 9 ?_ ?h ?_
 case h=>(intro w hSw;go_simp;try with_reducible rfl)
 try simp only[Act.put,zz]
 refine tkH 10 ?_ ?h ?_
 case h=>(intro w hSw;go_simp;try with_reducible rfl)
 try simp only[Act.put,zz]
 refine tkH 11 ?_ ?h ?_
 case h=>(intro w hSw;go_simp;try with_reducible rfl)
 try simp only[Act.put,zz]
 refine rdH 12 fun K hK=>?_
 (go_simp;refine hK.out _ _ c1 (fun hHeld=>?_);clear hK K;try simp only[Act.put,zz])
 refine tkH 13 ?_ ?h ?_
 case h=>(intro w hSw;go_simp;try with_reducible rfl)
 try simp only[Act.put,zz]
 refine tkH 14 ?_ ?h ?_
 case h=>(intro w hSw;go_simp;try with_reducible rfl)
 try simp only[Act.put,zz]
 refine tkH 15 ?_ ?h ?_
 case h=>(intro w hSw;go_simp;try with_reducible rfl)
 try simp only[Act.put,zz]
 refine tkH 16 ?_ ?h ?_
 case h=>(intro w hSw;go_simp;try with_reducible rfl)
 try simp only[Act.put,zz]
 simp only[show(if (0:Int)<IntKind.i64.wrap 2 then IntKind.i64.wrap 2 else 0)=2 from by decide]
 refine rdH 17 fun K hK=>?_
 (go_simp;refine hK.out _ _ c2 (fun hHeld=>?_);clear hK K;try simp only[Act.put,zz])
 refine wpAnyH_done (by kernel_rfl) ?_ _
 have HF2:Hid (Fr (D2 m g) w (w1.setCell ⟨g,29,none⟩ (.int .i64 2)).drew):=hd0 ((HF1.out.trans (Fr.of_only (Only.set _ _ _ _) (Or.inr rfl))).drew)
 have HT2:=t2
 obtain⟨w2,hw2⟩:∃ z,(w1.setCell ⟨g,29,none⟩ (.int .i64 2)).drew=z:=⟨_,rfl⟩
 rw[hw2] at HT2 HF2 ⊢
 clear hw2 a1 fa c1 c2 t2
 go_wp2_with fail
 rw[rounds_succ]
 have CH:Hid (Calls Tryz.prog 118 #[.pointer (some ⟨m,0,none⟩)] w2 fun en w'=>en=.returned (.tuple #[])∧TR w' m g cap t (ml 16 a (lk true wR 2 true 0) 16 0 (-1) 0 1 0)∧Fr (D2 m g) w2 w'):=hd0 ((tchooseN m g cap t 16 a true wR 2 true 0 1 0 (Or.inr (Or.inr ⟨by decide,by decide⟩)) (fun _ W hW=>troleA2 m g cap t a true 2 true 0 0 1 0 (by decide) W hW) w2 HT2.out).mono fun e w' h=>⟨h.1,HT2.out.later h.2,Fr.of_below h.2⟩)
 go_upto_region 9 with(go_at_call 118;with_reducible refine CH.out.mono ?_;rintro e w3 ⟨rfl,ht3,hf3⟩)
 have HT3:=hd0 ht3
 have HF3:=hd0 (HF2.out.trans hf3)
 clear ht3 hf3 CH HT2 HF2
 have c1:w3.cell? ⟨m,1,none⟩=some (.slice (some ⟨g,0,none⟩) 2 cap):=HT3.out.l1
 go_wp2_with fail
 refine wp_loop_rounds 3 ?_
 rw[rounds_succ]
 have L0:Hid (Calls Tryz.prog 125 #[.pointer (some ⟨g,0,none⟩)] w3 fun en w'=>en=.returned (.bool false)∧w3=w'):=hd0 ((tlink_host g 0 a w3 (HT3.out.h0 0 (by decide) _ rfl) (HT3.out.h0 1 (by decide) _ rfl)).mono fun e w' h=>⟨h.1,h.2.symm⟩)
 have k15:w3.cell? ⟨g,15,none⟩=some (.int .i64 0):=HT3.out.h0 15 (by decide) _ rfl
 have f15:=HT3.out.row.fr 15
 have s15:=setCell_id k15
 go_wp2_with (go_at_call 125;with_reducible refine L0.out.mono ?_;rintro e w' ⟨rfl,rfl⟩)
 clear k15 f15 s15 L0
 have L1:Hid (Calls Tryz.prog 125 #[.pointer (some ⟨g,16,none⟩)] w3 fun en w'=>en=.returned (.bool true)∧w3=w'):=hd0 ((tlink_k g 16 true w3 (HT3.out.x1 0 (by decide) _ rfl) (HT3.out.x1 1 (by decide) _ rfl)).mono fun e w' h=>⟨h.1,h.2.symm⟩)
 have WO:Hid (Calls Tryz.prog 126 #[.pointer (some ⟨m,0,none⟩),.int .u8 1] w3 fun en w'=>en=.returned (.agg #[.int .u8 1,.int .u64 16,.int .u32 0,.int .u64 16,.int .u8 1,.int .u8 0,.int .u64 1,.int .u8 2,.bool false,.bool false,.bool false,.int .u64 0])∧Below w3.heap.size w3 w'):=hd0 (twordA m g cap t 16 a wR 2 true 0 (fun W hW=>troleA2 m g cap t a true 2 true 0 0 1 0 (by decide) W hW) w3 HT3.out)
 rw[rounds_succ]
 go_upto_region 15 with(go_at_call 125;with_reducible refine L1.out.mono ?_;rintro e w' ⟨rfl,rfl⟩)
 go_wp2_with fail
 with_reducible refine WO.out.mono ?_
 rintro en w5 ⟨rfl,hb5⟩
 have hlit:Rw 12 stW (w5.alloc (.cells #[.int .u8 1,.int .u64 16,.int .u32 0,.int .u64 16,.int .u8 1,.int .u8 0,.int .u64 1,.int .u8 2,.bool false,.bool false,.bool false,.int .u64 0] 302)) (.slice (some ⟨w5.heap.size,0,none⟩) 1 1) [(wD 16 false)]:=(Ow.lit (E:=302) stW_len w5 0 (wD 16 false) #[.int .u8 1,.int .u64 16,.int .u32 0,.int .u64 16,.int .u8 1,.int .u8 0,.int .u64 1,.int .u8 2,.bool false,.bool false,.bool false,.int .u64 0] rfl (Nat.zero_le _)).rw stW_len
 have HL:=hd0 hlit
 have hba:Below w3.heap.size w3 (w5.alloc (.cells #[.int .u8 1,.int .u64 16,.int .u32 0,.int .u64 16,.int .u8 1,.int .u8 0,.int .u64 1,.int .u8 2,.bool false,.bool false,.bool false,.int .u64 0] 302)):=hb5.alloc hb5.size _
 have HBA:=hd0 hba
 clear hlit hba hb5 c1
 go_upto_region 16 with(at_builtin;refine wpList_append_rw stW_len stW_one 302 188 _ 72 Tryz.underlying188 info_tsent rfl (by decide) (by decide) rfl (.tmp 53) (.tmp 58) rfl w3.heap.size (.slice none 0 0) [] rfl (Ow.none _ _) _ _ rfl HL.out (by simp) HBA.out.size ?_;intro v1 w6 ho1 hb6;obtain⟨g1,cap1,t1,rfl,hg1,hc1,hh1⟩:=ho1.ne (by simp))
 have hb36:=HBA.out.trans hb6
 have HT6:=hd0 (HT3.out.later hb36)
 have HF6:=hd0 (HF3.out.trans (Fr.of_below hb36))
 have hrow:w6.rangeAt g1 0 (stW (wD 16 false)):=row_range (Below.refl _ _) hh1
 have HR6:=hd0 hrow
 have HG1:=hd0 (And.intro hg1 (And.intro HF3.out.size HML.out))
 have k31:w6.cell? ⟨g,31,none⟩=some (.int .i64 0):=HT6.out.x1 15 (by decide) _ rfl
 have f31:=HT6.out.row.fr 31
 have s31:=setCell_id k31
 clear hb36 hrow ho1 hb6 hh1 HL HBA L1 WO HT3 HF3
 go_wp2_with fail
 rw[rounds_succ]
 go_wp2_with fail
 clear k31 f31 s31
 have hne:g≠g1:=by have:=HG1.out;omega
 have hle:w.heap.size≤g1:=by have:=HG1.out;omega
 have hrow:(w6).rangeAt g1 0 (stW (wD 16 false)):=HR6.out
 refine bodyPost_ret (v:=.slice (some ⟨g1,0,none⟩) 1 cap1) (by simp[results,Tryz.results93,go_sem]) rfl ⟨g1,cap1,rfl,hrow,hle,HT6.out,HF6.out⟩
theorem ttickB4 (m g cap:Nat)(t:List Value)(a p:Bool)(w:World)(h:TR w m g cap t (ml 32 a (lk true (wD 16 p) 3 false 4) 16 5 1 1 2 0)):Calls Tryz.prog 93 #[.pointer (some ⟨m,0,none⟩)] w fun en w'=>∃ gs cs,en=.returned (.slice (some ⟨gs,0,none⟩) 1 cs)∧w'.rangeAt gs 0 (stW wR)∧w.heap.size≤gs∧TR w' m g cap t (ml 32 a (lk true (wD 16 p) 2 false 3) 16 5 1 1 2 0)∧Fr (D2 m g) w w':=by
 have HT0:=hd0 h
 have HF0:=hd0 (Fr.refl (D2 m g) w)
 have HML:=hd0 (And.intro h.tm.lt h.row.lt)
 have c1:=h.l1
 clear h
 go_enter Tryz.func93,Tryz.ntmps93
 go_wp2_with fail
 clear c1
 refine wp_loop_rounds 3 ?_
 rw[rounds_succ]
 have c1:w.drew.cell? ⟨m,1,none⟩=some (.slice (some ⟨g,0,none⟩) 2 cap):=HT0.out.l1
 have a1:w.drew.cell? ⟨g,13,none⟩=some (.int .i64 0):=HT0.out.h0 13 (by decide) _ rfl
 have fa:w.drew.frozen? ⟨g,13,none⟩=false:=HT0.out.row.fr 13
 have t2:Hid (TR w.drew m g cap t (ml 32 a (lk true (wD 16 p) 3 false 4) 16 5 1 1 2 0)):=hd0 (HT0.out.later (Below.refl _ _).drew)
 have c2:(w.drew).cell? ⟨m,1,none⟩=some (.slice (some ⟨g,0,none⟩) 2 cap):=t2.out.l1
 have sa:=setCell_id a1
 go_upto_region 6 with fail
 refine wp_region_held_drew (S:=fun W=>W.cell? ⟨m,1,none⟩=some (.slice (some ⟨g,0,none⟩) 2 cap)) (by kernel_rfl) c1 (fun hHeld=>?_)
 refine tkH 0 ?_ ?h ?_
 case h=>(intro w hSw;go_simp;try with_reducible rfl)
 try simp only[Act.put,zz]
 refine tkH 1 ?_ ?h ?_
 case h=>(intro w hSw;go_simp;try with_reducible rfl)
 try simp only[Act.put,zz]
 refine tkH 2 ?_ ?h ?_
 case h=>(intro w hSw;go_simp;try with_reducible rfl)
 try simp only[Act.put,zz]
 refine tkH 3 ?_ ?h ?_
 case h=>(intro w hSw;go_simp;try with_reducible rfl)
 try simp only[Act.put,zz]
 refine tkH 4 ?_ ?h ?_
 case h=>(intro w hSw;go_simp;try with_reducible rfl)
 try simp only[Act.put,zz]
 refine tkH 5 ?_ ?h ?_
 case h=>(intro w hSw;go_simp;try with_reducible rfl)
 try simp only[Act.put,zz]
 refine tkH 6 ?_ ?h ?_
 case h=>(intro w hSw;go_simp;try with_reducible rfl)
 try simp only[Act.put,zz]
 refine tkH 7 ?_ ?h ?_
 case h=>(intro w hSw;go_simp;try with_reducible rfl)
 try simp only[Act.put,zz]
 refine tkH 8 ?_ ?h ?_
 case h=>(intro w hSw;go_simp;try with_reducible rfl)
 try simp only[Act.put,zz]
 refine tkH 9 ?_ ?h ?_
 case h=>(intro w hSw;go_simp;try with_reducible rfl)
 try simp only[Act.put,zz]
 refine tkH 10 ?_ ?h ?_
 case h=>(intro w hSw;go_simp;try with_reducible rfl)
 try simp only[Act.put,zz]
 refine tkH 11 ?_ ?h ?_
 case h=>(intro w hSw;go_simp;try with_reducible rfl)
 try simp only[Act.put,zz]
 refine rdH 12 fun K hK=>?_
 (go_simp;refine hK.out _ _ c1 (fun hHeld=>?_);clear hK K;try simp only[Act.put,zz])
 refine tkH 13 ?_ ?h ?_
 case h=>(intro w hSw;go_simp;try with_reducible rfl)
 try simp only[Act.put,zz]
 refine tkH 14 ?_ ?h ?_
 case h=>(intro w hSw;go_simp;try with_reducible rfl)
 try simp only[Act.put,zz]
 refine tkH 15 ?_ ?h ?_
 case h=>(intro w hSw;go_simp;try with_reducible rfl)
 try simp only[Act.put,zz]
 refine tkH 16 ?_ ?h ?_
 case h=>(intro w hSw;go_simp;try with_reducible rfl)
 try simp only[Act.put,zz]
 simp only[show(if (0:Int)<IntKind.i64.wrap (-1) then IntKind.i64.wrap (-1) else 0)=0 from by decide]
 refine rdH 17 fun K hK=>?_
 (go_simp;refine hK.out _ _ c2 (fun hHeld=>?_);clear hK K;try simp only[Act.put,zz])
 refine wpAnyH_done (by kernel_rfl) ?_ _
 have HF1:Hid (Fr (D2 m g) w w.drew):=hd0 (HF0.out.drew)
 have HT1:=t2
 obtain⟨w1,hw1⟩:∃ z,w.drew=z:=⟨_,rfl⟩
 rw[hw1] at HT1 HF1 ⊢
 clear hw1 a1 fa c1 c2 t2 sa
 go_wp2_with fail
 rw[rounds_succ]
 have c1:w1.drew.cell? ⟨m,1,none⟩=some (.slice (some ⟨g,0,none⟩) 2 cap):=HT1.out.l1
 have a1:w1.drew.cell? ⟨g,29,none⟩=some (.int .i64 3):=HT1.out.x1 13 (by decide) _ rfl
 have fa:w1.drew.frozen? ⟨g,29,none⟩=false:=HT1.out.row.fr 29
 have t2:Hid (TR (w1.setCell ⟨g,29,none⟩ (.int .i64 2)).drew m g cap t (ml 32 a (lk true (wD 16 p) 2 false 4) 16 5 1 1 2 0)):=hd0 ((HT1.out.xSet 13 (by decide) (.int .i64 2) (lk true (wD 16 p) 2 false 4) rfl).later (Below.refl _ _).drew)
 have c2:((w1.setCell ⟨g,29,none⟩ (.int .i64 2)).drew).cell? ⟨m,1,none⟩=some (.slice (some ⟨g,0,none⟩) 2 cap):=t2.out.l1
 go_upto_region 6 with fail
 refine wp_region_held_drew (S:=fun W=>W.cell? ⟨m,1,none⟩=some (.slice (some ⟨g,0,none⟩) 2 cap)) (by kernel_rfl) c1 (fun hHeld=>?_)
 refine tkH 0 ?_ ?h ?_
 case h=>(intro w hSw;go_simp;try with_reducible rfl)
 try simp only[Act.put,zz]
 refine tkH 1 ?_ ?h ?_
 case h=>(intro w hSw;go_simp;try with_reducible rfl)
 try simp only[Act.put,zz]
 refine tkH 2 ?_ ?h ?_
 case h=>(intro w hSw;go_simp;try with_reducible rfl)
 try simp only[Act.put,zz]
 refine tkH 3 ?_ ?h ?_
 case h=>(intro w hSw;go_simp;try with_reducible rfl)
 try simp only[Act.put,zz]
 refine tkH 4 ?_ ?h ?_
 case h=>(intro w hSw;go_simp;try with_reducible rfl)
 try simp only[Act.put,zz]
 refine tkH 5 ?_ ?h ?_
 case h=>(intro w hSw;go_simp;try with_reducible rfl)
 try simp only[Act.put,zz]
 refine tkH 6 ?_ ?h ?_
 case h=>(intro w hSw;go_simp;try with_reducible rfl)
 try simp only[Act.put,zz]
 refine tkH 7 ?_ ?h ?_
 case h=>(intro w hSw;go_simp;try with_reducible rfl)
 try simp only[Act.put,zz]
 refine tkH 8 ?_ ?h ?_
 case h=>(intro w hSw;go_simp;try with_reducible rfl)
 try simp only[Act.put,zz]
 refine tkH 9 ?_ ?h ?_
 case h=>(intro w hSw;go_simp;try with_reducible rfl)
 try simp only[Act.put,zz]
 refine tkH 10 ?_ ?h ?_
 case h=>(intro w hSw;go_simp;try with_reducible rfl)
 try simp only[Act.put,zz]
 refine tkH 11 ?_ ?h ?_
 case h=>(intro w hSw;go_simp;try with_reducible rfl)
 try simp only[Act.put,zz]
 refine rdH 12 fun K hK=>?_
 (go_simp;refine hK.out _ _ c1 (fun hHeld=>?_);clear hK K;try simp only[Act.put,zz])
 refine tkH 13 ?_ ?h ?_
 case h=>(intro w hSw;go_simp;try with_reducible rfl)
 try simp only[Act.put,zz]
 refine tkH 14 ?_ ?h ?_
 case h=>(intro w hSw;go_simp;try with_reducible rfl)
 try simp only[Act.put,zz]
 refine tkH 15 ?_ ?h ?_
 case h=>(intro w hSw;go_simp;try with_reducible rfl)
 try simp only[Act.put,zz]
 refine tkH 16 ?_ ?h ?_
 case h=>(intro w hSw;go_simp;try with_reducible rfl)
 try simp only[Act.put,zz]
 simp only[show(if (0:Int)<IntKind.i64.wrap 2 then IntKind.i64.wrap 2 else 0)=2 from by decide]
 refine rdH 17 fun K hK=>?_
 (go_simp;refine hK.out _ _ c2 (fun hHeld=>?_);clear hK K;try simp only[Act.put,zz])
 refine wpAnyH_done (by kernel_rfl) ?_ _
 have HF2:Hid (Fr (D2 m g) w (w1.setCell ⟨g,29,none⟩ (.int .i64 2)).drew):=hd0 ((HF1.out.trans (Fr.of_only (Only.set _ _ _ _) (Or.inr rfl))).drew)
 have HT2:=t2
 obtain⟨w2,hw2⟩:∃ z,(w1.setCell ⟨g,29,none⟩ (.int .i64 2)).drew=z:=⟨_,rfl⟩
 rw[hw2] at HT2 HF2 ⊢
 clear hw2 a1 fa c1 c2 t2
 go_wp2_with fail
 rw[rounds_succ]
 have CH:Hid (Calls Tryz.prog 118 #[.pointer (some ⟨m,0,none⟩)] w2 fun en w'=>en=.returned (.tuple #[])∧TR w' m g cap t (ml 32 a (lk true (wD 16 p) 2 false 4) 16 5 1 1 2 0)∧Fr (D2 m g) w2 w'):=hd0 (tchooseS m g cap t a p 2 4 0 (by decide) w2 HT2.out)
 go_upto_region 9 with(go_at_call 118;with_reducible refine CH.out.mono ?_;rintro e w3 ⟨rfl,ht3,hf3⟩)
 have HT3:=hd0 ht3
 have HF3:=hd0 (HF2.out.trans hf3)
 clear ht3 hf3 CH HT2 HF2
 have c1:w3.cell? ⟨m,1,none⟩=some (.slice (some ⟨g,0,none⟩) 2 cap):=HT3.out.l1
 go_wp2_with fail
 refine wp_loop_rounds 3 ?_
 rw[rounds_succ]
 have L0:Hid (Calls Tryz.prog 125 #[.pointer (some ⟨g,0,none⟩)] w3 fun en w'=>en=.returned (.bool false)∧w3=w'):=hd0 ((tlink_host g 0 a w3 (HT3.out.h0 0 (by decide) _ rfl) (HT3.out.h0 1 (by decide) _ rfl)).mono fun e w' h=>⟨h.1,h.2.symm⟩)
 have k15:w3.cell? ⟨g,15,none⟩=some (.int .i64 0):=HT3.out.h0 15 (by decide) _ rfl
 have f15:=HT3.out.row.fr 15
 have s15:=setCell_id k15
 go_wp2_with (go_at_call 125;with_reducible refine L0.out.mono ?_;rintro e w' ⟨rfl,rfl⟩)
 clear k15 f15 s15 L0
 have L1:Hid (Calls Tryz.prog 125 #[.pointer (some ⟨g,16,none⟩)] w3 fun en w'=>en=.returned (.bool true)∧w3=w'):=hd0 ((tlink_k g 16 true w3 (HT3.out.x1 0 (by decide) _ rfl) (HT3.out.x1 1 (by decide) _ rfl)).mono fun e w' h=>⟨h.1,h.2.symm⟩)
 have WO:Hid (Calls Tryz.prog 126 #[.pointer (some ⟨m,0,none⟩),.int .u8 1] w3 fun en w'=>en=.returned (.agg #[.int .u8 1,.int .u64 16,.int .u32 5,.int .u64 32,.int .u8 1,.int .u8 1,.int .u64 2,.int .u8 1,.bool false,.bool true,.bool true,.int .u64 1])∧Below w3.heap.size w3 w'):=hd0 (twordB m g cap t a p 2 4 0 (by decide) (fun W hW=>(troleR m g cap t 32 a (wD 16 p) 2 false 4 16 5 1 2 0 W hW).mono fun e w' h=>⟨h.1,h.2 ▸ Below.refl _ _⟩) w3 HT3.out)
 rw[rounds_succ]
 go_upto_region 15 with(go_at_call 125;with_reducible refine L1.out.mono ?_;rintro e w' ⟨rfl,rfl⟩)
 go_wp2_with fail
 with_reducible refine WO.out.mono ?_
 rintro en w5 ⟨rfl,hb5⟩
 have hlit:Rw 12 stW (w5.alloc (.cells #[.int .u8 1,.int .u64 16,.int .u32 5,.int .u64 32,.int .u8 1,.int .u8 1,.int .u64 2,.int .u8 1,.bool false,.bool true,.bool true,.int .u64 1] 302)) (.slice (some ⟨w5.heap.size,0,none⟩) 1 1) [wR]:=(Ow.lit (E:=302) stW_len w5 0 wR #[.int .u8 1,.int .u64 16,.int .u32 5,.int .u64 32,.int .u8 1,.int .u8 1,.int .u64 2,.int .u8 1,.bool false,.bool true,.bool true,.int .u64 1] rfl (Nat.zero_le _)).rw stW_len
 have HL:=hd0 hlit
 have hba:Below w3.heap.size w3 (w5.alloc (.cells #[.int .u8 1,.int .u64 16,.int .u32 5,.int .u64 32,.int .u8 1,.int .u8 1,.int .u64 2,.int .u8 1,.bool false,.bool true,.bool true,.int .u64 1] 302)):=hb5.alloc hb5.size _
 have HBA:=hd0 hba
 clear hlit hba hb5 c1
 go_upto_region 16 with(at_builtin;refine wpList_append_rw stW_len stW_one 302 188 _ 72 Tryz.underlying188 info_tsent rfl (by decide) (by decide) rfl (.tmp 53) (.tmp 58) rfl w3.heap.size (.slice none 0 0) [] rfl (Ow.none _ _) _ _ rfl HL.out (by simp) HBA.out.size ?_;intro v1 w6 ho1 hb6;obtain⟨g1,cap1,t1,rfl,hg1,hc1,hh1⟩:=ho1.ne (by simp))
 have hb36:=HBA.out.trans hb6
 have HT6:=hd0 (HT3.out.later hb36)
 have HF6:=hd0 (HF3.out.trans (Fr.of_below hb36))
 have hrow:w6.rangeAt g1 0 (stW wR):=row_range (Below.refl _ _) hh1
 have HR6:=hd0 hrow
 have HG1:=hd0 (And.intro hg1 (And.intro HF3.out.size HML.out))
 have k31:w6.cell? ⟨g,31,none⟩=some (.int .i64 4):=HT6.out.x1 15 (by decide) _ rfl
 have f31:=HT6.out.row.fr 31
 clear hb36 hrow ho1 hb6 hh1 HL HBA L1 WO HT3 HF3
 go_wp2_with fail
 rw[rounds_succ]
 go_wp2_with fail
 clear k31 f31
 have hne:g≠g1:=by have:=HG1.out;omega
 have hle:w.heap.size≤g1:=by have:=HG1.out;omega
 have hrow:(w6.setCell ⟨g,31,none⟩ (.int .i64 3)).rangeAt g1 0 (stW wR):=fun j v hv=>by
  have:=HR6.out j v hv
  unfold World.cell? at this ⊢
  rw[Below.heap_setCell _ _ _ _ (by intro e;simp at e;omega)];exact this
 refine bodyPost_ret (v:=.slice (some ⟨g1,0,none⟩) 1 cap1) (by simp[results,Tryz.results93,go_sem]) rfl ⟨g1,cap1,rfl,hrow,hle,HT6.out.xSet 15 (by decide) (.int .i64 3) (lk true (wD 16 p) 2 false 3) rfl,HF6.out.trans (Fr.of_only (Only.set _ _ _ _) (Or.inr rfl))⟩
theorem ttickB3 (m g cap:Nat)(t:List Value)(a p:Bool)(w:World)(h:TR w m g cap t (ml 32 a (lk true (wD 16 p) 3 false 3) 16 5 1 1 2 0)):Calls Tryz.prog 93 #[.pointer (some ⟨m,0,none⟩)] w fun en w'=>∃ gs cs,en=.returned (.slice (some ⟨gs,0,none⟩) 1 cs)∧w'.rangeAt gs 0 (stW wR)∧w.heap.size≤gs∧TR w' m g cap t (ml 32 a (lk true (wD 16 p) 2 false 2) 16 5 1 1 2 0)∧Fr (D2 m g) w w':=by
 have HT0:=hd0 h
 have HF0:=hd0 (Fr.refl (D2 m g) w)
 have HML:=hd0 (And.intro h.tm.lt h.row.lt)
 have c1:=h.l1
 clear h
 go_enter Tryz.func93,Tryz.ntmps93
 go_wp2_with fail
 clear c1
 refine wp_loop_rounds 3 ?_
 rw[rounds_succ]
 have c1:w.drew.cell? ⟨m,1,none⟩=some (.slice (some ⟨g,0,none⟩) 2 cap):=HT0.out.l1
 have a1:w.drew.cell? ⟨g,13,none⟩=some (.int .i64 0):=HT0.out.h0 13 (by decide) _ rfl
 have fa:w.drew.frozen? ⟨g,13,none⟩=false:=HT0.out.row.fr 13
 have t2:Hid (TR w.drew m g cap t (ml 32 a (lk true (wD 16 p) 3 false 3) 16 5 1 1 2 0)):=hd0 (HT0.out.later (Below.refl _ _).drew)
 have c2:(w.drew).cell? ⟨m,1,none⟩=some (.slice (some ⟨g,0,none⟩) 2 cap):=t2.out.l1
 have sa:=setCell_id a1
 go_upto_region 6 with fail
 refine wp_region_held_drew (S:=fun W=>W.cell? ⟨m,1,none⟩=some (.slice (some ⟨g,0,none⟩) 2 cap)) (by kernel_rfl) c1 (fun hHeld=>?_)
 refine tkH 0 ?_ ?h ?_
 case h=>(intro w hSw;go_simp;try with_reducible rfl)
 try simp only[Act.put,zz]
 refine tkH 1 ?_ ?h ?_
 case h=>(intro w hSw;go_simp;try with_reducible rfl)
 try simp only[Act.put,zz]
 refine tkH 2 ?_ ?h ?_
 case h=>(intro w hSw;go_simp;try with_reducible rfl)
 try simp only[Act.put,zz]
 refine tkH 3 ?_ ?h ?_
 case h=>(intro w hSw;go_simp;try with_reducible rfl)
 try simp only[Act.put,zz]
 refine tkH 4 ?_ ?h ?_
 case h=>(intro w hSw;go_simp;try with_reducible rfl)
 try simp only[Act.put,zz]
 refine tkH 5 ?_ ?h ?_
 case h=>(intro w hSw;go_simp;try with_reducible rfl)
 try simp only[Act.put,zz]
 refine tkH 6 ?_ ?h ?_
 case h=>(intro w hSw;go_simp;try with_reducible rfl)
 try simp only[Act.put,zz]
 refine tkH 7 ?_ ?h ?_
 case h=>(intro w hSw;go_simp;try with_reducible rfl)
 try simp only[Act.put,zz]
 refine tkH 8 ?_ ?h ?_
 case h=>(intro w hSw;go_simp;try with_reducible rfl)
 try simp only[Act.put,zz]
 refine tkH 9 ?_ ?h ?_
 case h=>(intro w hSw;go_simp;try with_reducible rfl)
 try simp only[Act.put,zz]
 refine tkH 10 ?_ ?h ?_
 case h=>(intro w hSw;go_simp;try with_reducible rfl)
 try simp only[Act.put,zz]
 refine tkH 11 ?_ ?h ?_
 case h=>(intro w hSw;go_simp;try with_reducible rfl)
 try simp only[Act.put,zz]
 refine rdH 12 fun K hK=>?_
 (go_simp;refine hK.out _ _ c1 (fun hHeld=>?_);clear hK K;try simp only[Act.put,zz])
 refine tkH 13 ?_ ?h ?_
 case h=>(intro w hSw;go_simp;try with_reducible rfl)
 try simp only[Act.put,zz]
 refine tkH 14 ?_ ?h ?_
 case h=>(intro w hSw;go_simp;try with_reducible rfl)
 try simp only[Act.put,zz]
 refine tkH 15 ?_ ?h ?_
 case h=>(intro w hSw;go_simp;try with_reducible rfl)
 try simp only[Act.put,zz]
 refine tkH 16 ?_ ?h ?_
 case h=>(intro w hSw;go_simp;try with_reducible rfl)
 try simp only[Act.put,zz]
 simp only[show(if (0:Int)<IntKind.i64.wrap (-1) then IntKind.i64.wrap (-1) else 0)=0 from by decide]
 refine rdH 17 fun K hK=>?_
 (go_simp;refine hK.out _ _ c2 (fun hHeld=>?_);clear hK K;try simp only[Act.put,zz])
 refine wpAnyH_done (by kernel_rfl) ?_ _
 have HF1:Hid (Fr (D2 m g) w w.drew):=hd0 (HF0.out.drew)
 have HT1:=t2
 obtain⟨w1,hw1⟩:∃ z,w.drew=z:=⟨_,rfl⟩
 rw[hw1] at HT1 HF1 ⊢
 clear hw1 a1 fa c1 c2 t2 sa
 go_wp2_with fail
 rw[rounds_succ]
 have c1:w1.drew.cell? ⟨m,1,none⟩=some (.slice (some ⟨g,0,none⟩) 2 cap):=HT1.out.l1
 have a1:w1.drew.cell? ⟨g,29,none⟩=some (.int .i64 3):=HT1.out.x1 13 (by decide) _ rfl
 have fa:w1.drew.frozen? ⟨g,29,none⟩=false:=HT1.out.row.fr 29
 have t2:Hid (TR (w1.setCell ⟨g,29,none⟩ (.int .i64 2)).drew m g cap t (ml 32 a (lk true (wD 16 p) 2 false 3) 16 5 1 1 2 0)):=hd0 ((HT1.out.xSet 13 (by decide) (.int .i64 2) (lk true (wD 16 p) 2 false 3) rfl).later (Below.refl _ _).drew)
 have c2:((w1.setCell ⟨g,29,none⟩ (.int .i64 2)).drew).cell? ⟨m,1,none⟩=some (.slice (some ⟨g,0,none⟩) 2 cap):=t2.out.l1
 go_upto_region 6 with fail
 refine wp_region_held_drew (S:=fun W=>W.cell? ⟨m,1,none⟩=some (.slice (some ⟨g,0,none⟩) 2 cap)) (by kernel_rfl) c1 (fun hHeld=>?_)
 refine tkH 0 ?_ ?h ?_
 case h=>(intro w hSw;go_simp;try with_reducible rfl)
 try simp only[Act.put,zz]
 refine tkH 1 ?_ ?h ?_
 case h=>(intro w hSw;go_simp;try with_reducible rfl)
 try simp only[Act.put,zz]
 refine tkH 2 ?_ ?h ?_
 case h=>(intro w hSw;go_simp;try with_reducible rfl)
 try simp only[Act.put,zz]
 refine tkH 3 ?_ ?h ?_
 case h=>(intro w hSw;go_simp;try with_reducible rfl)
 try simp only[Act.put,zz]
 refine tkH 4 ?_ ?h ?_
 case h=>(intro w hSw;go_simp;try with_reducible rfl)
 try simp only[Act.put,zz]
 refine tkH 5 ?_ ?h ?_
 case h=>(intro w hSw;go_simp;try with_reducible rfl)
 try simp only[Act.put,zz]
 refine tkH 6 ?_ ?h ?_
 case h=>(intro w hSw;go_simp;try with_reducible rfl)
 try simp only[Act.put,zz]
 refine tkH 7 ?_ ?h ?_
 case h=>(intro w hSw;go_simp;try with_reducible rfl)
 try simp only[Act.put,zz]
 refine tkH 8 ?_ ?h ?_
 case h=>(intro w hSw;go_simp;try with_reducible rfl)
 try simp only[Act.put,zz]
 refine tkH 9 ?_ ?h ?_
 case h=>(intro w hSw;go_simp;try with_reducible rfl)
 try simp only[Act.put,zz]
 refine tkH 10 ?_ ?h ?_
 case h=>(intro w hSw;go_simp;try with_reducible rfl)
 try simp only[Act.put,zz]
 refine tkH 11 ?_ ?h ?_
 case h=>(intro w hSw;go_simp;try with_reducible rfl)
 try simp only[Act.put,zz]
 refine rdH 12 fun K hK=>?_
 (go_simp;refine hK.out _ _ c1 (fun hHeld=>?_);clear hK K;try simp only[Act.put,zz])
 refine tkH 13 ?_ ?h ?_
 case h=>(intro w hSw;go_simp;try with_reducible rfl)
 try simp only[Act.put,zz]
 refine tkH 14 ?_ ?h ?_
 case h=>(intro w hSw;go_simp;try with_reducible rfl)
 try simp only[Act.put,zz]
 refine tkH 15 ?_ ?h ?_
 case h=>(intro w hSw;go_simp;try with_reducible rfl)
 try simp only[Act.put,zz]
 refine tkH 16 ?_ ?h ?_
 case h=>(intro w hSw;go_simp;try with_reducible rfl)
 try simp only[Act.put,zz]
 simp only[show(if (0:Int)<IntKind.i64.wrap 2 then IntKind.i64.wrap 2 else 0)=2 from by decide]
 refine rdH 17 fun K hK=>?_
 (go_simp;refine hK.out _ _ c2 (fun hHeld=>?_);clear hK K;try simp only[Act.put,zz])
 refine wpAnyH_done (by kernel_rfl) ?_ _
 have HF2:Hid (Fr (D2 m g) w (w1.setCell ⟨g,29,none⟩ (.int .i64 2)).drew):=hd0 ((HF1.out.trans (Fr.of_only (Only.set _ _ _ _) (Or.inr rfl))).drew)
 have HT2:=t2
 obtain⟨w2,hw2⟩:∃ z,(w1.setCell ⟨g,29,none⟩ (.int .i64 2)).drew=z:=⟨_,rfl⟩
 rw[hw2] at HT2 HF2 ⊢
 clear hw2 a1 fa c1 c2 t2
 go_wp2_with fail
 rw[rounds_succ]
 have CH:Hid (Calls Tryz.prog 118 #[.pointer (some ⟨m,0,none⟩)] w2 fun en w'=>en=.returned (.tuple #[])∧TR w' m g cap t (ml 32 a (lk true (wD 16 p) 2 false 3) 16 5 1 1 2 0)∧Fr (D2 m g) w2 w'):=hd0 (tchooseS m g cap t a p 2 3 0 (by decide) w2 HT2.out)
 go_upto_region 9 with(go_at_call 118;with_reducible refine CH.out.mono ?_;rintro e w3 ⟨rfl,ht3,hf3⟩)
 have HT3:=hd0 ht3
 have HF3:=hd0 (HF2.out.trans hf3)
 clear ht3 hf3 CH HT2 HF2
 have c1:w3.cell? ⟨m,1,none⟩=some (.slice (some ⟨g,0,none⟩) 2 cap):=HT3.out.l1
 go_wp2_with fail
 refine wp_loop_rounds 3 ?_
 rw[rounds_succ]
 have L0:Hid (Calls Tryz.prog 125 #[.pointer (some ⟨g,0,none⟩)] w3 fun en w'=>en=.returned (.bool false)∧w3=w'):=hd0 ((tlink_host g 0 a w3 (HT3.out.h0 0 (by decide) _ rfl) (HT3.out.h0 1 (by decide) _ rfl)).mono fun e w' h=>⟨h.1,h.2.symm⟩)
 have k15:w3.cell? ⟨g,15,none⟩=some (.int .i64 0):=HT3.out.h0 15 (by decide) _ rfl
 have f15:=HT3.out.row.fr 15
 have s15:=setCell_id k15
 go_wp2_with (go_at_call 125;with_reducible refine L0.out.mono ?_;rintro e w' ⟨rfl,rfl⟩)
 clear k15 f15 s15 L0
 have L1:Hid (Calls Tryz.prog 125 #[.pointer (some ⟨g,16,none⟩)] w3 fun en w'=>en=.returned (.bool true)∧w3=w'):=hd0 ((tlink_k g 16 true w3 (HT3.out.x1 0 (by decide) _ rfl) (HT3.out.x1 1 (by decide) _ rfl)).mono fun e w' h=>⟨h.1,h.2.symm⟩)
 have WO:Hid (Calls Tryz.prog 126 #[.pointer (some ⟨m,0,none⟩),.int .u8 1] w3 fun en w'=>en=.returned (.agg #[.int .u8 1,.int .u64 16,.int .u32 5,.int .u64 32,.int .u8 1,.int .u8 1,.int .u64 2,.int .u8 1,.bool false,.bool true,.bool true,.int .u64 1])∧Below w3.heap.size w3 w'):=hd0 (twordB m g cap t a p 2 3 0 (by decide) (fun W hW=>(troleR m g cap t 32 a (wD 16 p) 2 false 3 16 5 1 2 0 W hW).mono fun e w' h=>⟨h.1,h.2 ▸ Below.refl _ _⟩) w3 HT3.out)
 rw[rounds_succ]
 go_upto_region 15 with(go_at_call 125;with_reducible refine L1.out.mono ?_;rintro e w' ⟨rfl,rfl⟩)
 go_wp2_with fail
 with_reducible refine WO.out.mono ?_
 rintro en w5 ⟨rfl,hb5⟩
 have hlit:Rw 12 stW (w5.alloc (.cells #[.int .u8 1,.int .u64 16,.int .u32 5,.int .u64 32,.int .u8 1,.int .u8 1,.int .u64 2,.int .u8 1,.bool false,.bool true,.bool true,.int .u64 1] 302)) (.slice (some ⟨w5.heap.size,0,none⟩) 1 1) [wR]:=(Ow.lit (E:=302) stW_len w5 0 wR #[.int .u8 1,.int .u64 16,.int .u32 5,.int .u64 32,.int .u8 1,.int .u8 1,.int .u64 2,.int .u8 1,.bool false,.bool true,.bool true,.int .u64 1] rfl (Nat.zero_le _)).rw stW_len
 have HL:=hd0 hlit
 have hba:Below w3.heap.size w3 (w5.alloc (.cells #[.int .u8 1,.int .u64 16,.int .u32 5,.int .u64 32,.int .u8 1,.int .u8 1,.int .u64 2,.int .u8 1,.bool false,.bool true,.bool true,.int .u64 1] 302)):=hb5.alloc hb5.size _
 have HBA:=hd0 hba
 clear hlit hba hb5 c1
 go_upto_region 16 with(at_builtin;refine wpList_append_rw stW_len stW_one 302 188 _ 72 Tryz.underlying188 info_tsent rfl (by decide) (by decide) rfl (.tmp 53) (.tmp 58) rfl w3.heap.size (.slice none 0 0) [] rfl (Ow.none _ _) _ _ rfl HL.out (by simp) HBA.out.size ?_;intro v1 w6 ho1 hb6;obtain⟨g1,cap1,t1,rfl,hg1,hc1,hh1⟩:=ho1.ne (by simp))
 have hb36:=HBA.out.trans hb6
 have HT6:=hd0 (HT3.out.later hb36)
 have HF6:=hd0 (HF3.out.trans (Fr.of_below hb36))
 have hrow:w6.rangeAt g1 0 (stW wR):=row_range (Below.refl _ _) hh1
 have HR6:=hd0 hrow
 have HG1:=hd0 (And.intro hg1 (And.intro HF3.out.size HML.out))
 have k31:w6.cell? ⟨g,31,none⟩=some (.int .i64 3):=HT6.out.x1 15 (by decide) _ rfl
 have f31:=HT6.out.row.fr 31
 clear hb36 hrow ho1 hb6 hh1 HL HBA L1 WO HT3 HF3
 go_wp2_with fail
 rw[rounds_succ]
 go_wp2_with fail
 clear k31 f31
 have hne:g≠g1:=by have:=HG1.out;omega
 have hle:w.heap.size≤g1:=by have:=HG1.out;omega
 have hrow:(w6.setCell ⟨g,31,none⟩ (.int .i64 2)).rangeAt g1 0 (stW wR):=fun j v hv=>by
  have:=HR6.out j v hv
  unfold World.cell? at this ⊢
  rw[Below.heap_setCell _ _ _ _ (by intro e;simp at e;omega)];exact this
 refine bodyPost_ret (v:=.slice (some ⟨g1,0,none⟩) 1 cap1) (by simp[results,Tryz.results93,go_sem]) rfl ⟨g1,cap1,rfl,hrow,hle,HT6.out.xSet 15 (by decide) (.int .i64 2) (lk true (wD 16 p) 2 false 2) rfl,HF6.out.trans (Fr.of_only (Only.set _ _ _ _) (Or.inr rfl))⟩
end Go.Proofs.YtghaobakpdninaaGreatDoor
