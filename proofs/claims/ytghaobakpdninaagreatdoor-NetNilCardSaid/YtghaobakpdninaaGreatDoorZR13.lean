/- ZR13 -/
import Derived.Test.YtghaobakpdninaaGreatDoorZR12
set_option linter.unusedVariables false
set_option linter.unusedSimpArgs false
set_option maxRecDepth 100000
set_option maxHeartbeats 16000000
namespace Go.Proofs.YtghaobakpdninaaGreatDoor
open Go.RowKit
theorem tturn1 (p:Value)(w:World):Calls Tryz.prog 235 #[p] w fun en w'=>en=.returned (.bool true)∧w=w':=by
 go_enter Tryz.func235,Tryz.ntmps235
 go_wp2
 go_ret
 exact⟨rfl,rfl⟩
theorem tspreadsT (m g cap:Nat)(t:List Value)(id:Int)(a:Bool)(x:Bp)(la:Int)(ag:Bool)(sp rt co po ho ve fl:Int)(w:World)(h:TR w m g cap t (ml id a (lk true x la ag sp) rt co po ho ve fl)):Calls Tryz.prog 201 #[.pointer (some ⟨m,0,none⟩),.func (.func 235) #[] #[]] w fun en w'=>en=.returned (.tuple #[])∧TR w' m g cap t (ml id a (lk true x la ag 4) rt co po ho ve fl)∧Only g w w':=by
 have c1:=h.l1
 have L0:Hid (Calls Tryz.prog 125 #[.pointer (some ⟨g,0,none⟩)] w fun en w'=>en=.returned (.bool false)∧w=w'):=hd0 ((tlink_host g 0 a w (h.h0 0 (by decide) _ rfl) (h.h0 1 (by decide) _ rfl)).mono fun e w' h=>⟨h.1,h.2.symm⟩)
 have L1:Hid (Calls Tryz.prog 125 #[.pointer (some ⟨g,16,none⟩)] w fun en w'=>en=.returned (.bool true)∧w=w'):=hd0 ((tlink_k g 16 true w (h.x1 0 (by decide) _ rfl) (h.x1 1 (by decide) _ rfl)).mono fun e w' h=>⟨h.1,h.2.symm⟩)
 have TT:=tturn1
 have k31:w.cell? ⟨g,31,none⟩=some (.int .i64 sp):=h.x1 15 (by decide) _ rfl
 have f31:=h.row.fr 31
 have H:=hd0 h
 clear h
 go_enter Tryz.func201,Tryz.ntmps201
 go_wp2_with fail
 refine wp_loop_rounds 3 ?_
 rw[rounds_succ]
 go_wp2_with (go_at_call 125;with_reducible refine L0.out.mono ?_;rintro e w' ⟨rfl,rfl⟩)
 rw[rounds_succ]
 go_wp2_with (first
  |(go_at_call 125;with_reducible refine L1.out.mono ?_;rintro e w' ⟨rfl,rfl⟩)
  |(go_at_call 235;refine(TT _ _).mono ?_;rintro e w' ⟨rfl,rfl⟩))
 have H2:=H.out.xSet 15 (by decide) (.int .i64 4) (lk true x la ag 4) rfl
 have c2:=H2.l1
 rw[rounds_succ]
 go_wp2_with fail
 go_end0
 exact⟨rfl,H2,Only.set _ _ _ _⟩
theorem tturnT (m g cap:Nat)(t:List Value)(id:Int)(a:Bool)(x:Bp)(la:Int)(sp rt co po ho:Int)(w:World)(h:TR w m g cap t (ml id a (lk true x la false sp) rt co po ho 1 0)):Calls Tryz.prog 173 #[.pointer (some ⟨m,0,none⟩)] w fun en w'=>en=.returned (.tuple #[])∧TR w' m g cap t (ml id a (lk true x la false 4) rt co po ho 2 3)∧Fr (D2 m g) w w':=by
 have c6:w.cell? ⟨m,6,none⟩=some (.int .u64 1):=h.c6
 have f6:=h.tm.fr 6
 have h1:=h.tmSet 6 (.int .u64 2) (ml id a (lk true x la false sp) rt co po ho 2 0) rfl rfl (fun s=>rfl)
 have o1:Fr (D2 m g) w (w.setCell ⟨m,6,none⟩ (.int .u64 2)):=Fr.of_only (Only.set _ _ _ _) (Or.inl rfl)
 go_enter Tryz.func173,Tryz.ntmps173
 go_upto_region 1 with fail
 obtain⟨w1,hw1⟩:∃ z,w.setCell ⟨m,6,none⟩ (.int .u64 2)=z:=⟨_,rfl⟩
 rw[hw1] at h1 o1 ⊢
 clear hw1 c6 f6 h
 have c1:=h1.l1
 have a0:w1.cell? ⟨g,14,none⟩=some (.bool false):=h1.h0 14 (by decide) _ rfl
 have fa:=h1.row.fr 14
 have sa:=setCell_id a0
 have c7:w1.cell? ⟨m,7,none⟩=some (.int .u8 0):=h1.c7
 have f7:=h1.tm.fr 7
 go_wp2_with fail
 refine wp_loop_rounds 3 ?_
 rw[rounds_succ]
 have e1:bits .or .u8 0 1=1:=by decide
 have e2:bits .or .u8 1 2=3:=by decide
 have h2:=(h1.tmSet 7 (.int .u8 1) (ml id a (lk true x la false sp) rt co po ho 2 1) rfl rfl (fun s=>rfl)).later (Below.refl _ _).drew
 have o2:Fr (D2 m g) w (w1.setCell ⟨m,7,none⟩ (.int .u8 1)).drew:=(o1.trans (Fr.of_only (Only.set _ _ _ _) (Or.inl rfl))).drew
 go_wp2_with (go_region_with (fail))
 obtain⟨w2,hw2⟩:∃ z,(w1.setCell ⟨m,7,none⟩ (.int .u8 1)).drew=z:=⟨_,rfl⟩
 try rw[e1]
 rw[hw2] at h2 o2 ⊢
 clear hw2 c7 f7 a0 fa sa c1 h1 o1
 have c1:=h2.l1
 have a0:w2.cell? ⟨g,30,none⟩=some (.bool false):=h2.x1 14 (by decide) _ rfl
 have fa:=h2.row.fr 30
 have sa:=setCell_id a0
 have c7:w2.cell? ⟨m,7,none⟩=some (.int .u8 1):=h2.c7
 have f7:=h2.tm.fr 7
 have h3:=(h2.tmSet 7 (.int .u8 3) (ml id a (lk true x la false sp) rt co po ho 2 3) rfl rfl (fun s=>rfl)).later (Below.refl _ _).drew
 have o3:Fr (D2 m g) w (w2.setCell ⟨m,7,none⟩ (.int .u8 3)).drew:=(o2.trans (Fr.of_only (Only.set _ _ _ _) (Or.inl rfl))).drew
 rw[rounds_succ]
 go_wp2_with (go_region_with (fail))
 obtain⟨w3,hw3⟩:∃ z,(w2.setCell ⟨m,7,none⟩ (.int .u8 3)).drew=z:=⟨_,rfl⟩
 try rw[e2]
 rw[hw3] at h3 o3 ⊢
 clear hw3 c7 f7 a0 fa sa c1 h2 o2
 have c1:=h3.l1
 have SP:=hd0 (tspreadsT m g cap t id a x la false sp rt co po ho 2 3 w3 h3)
 rw[rounds_succ]
 go_wp2_with (go_at_call 201;with_reducible refine SP.out.mono ?_;rintro e w4 ⟨rfl,h4,o4⟩)
 go_end0
 exact⟨rfl,h4,o3.trans (Fr.of_only o4 (Or.inr rfl))⟩
end Go.Proofs.YtghaobakpdninaaGreatDoor
