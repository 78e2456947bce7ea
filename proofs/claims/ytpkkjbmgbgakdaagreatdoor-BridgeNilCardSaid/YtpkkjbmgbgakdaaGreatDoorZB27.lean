/- ZB27: the texts NA, NB, NC as one. -/
import Derived.Test.YtpkkjbmgbgakdaaGreatDoorZB24
import Derived.Test.YtpkkjbmgbgakdaaGreatDoorZB26
import Derived.Deep.RegionLaw
import Derived.Test.YtpkkjbmgbgakdaaGreatDoorZB23
/- fdb: a thing is learnt. -/
set_option linter.unusedVariables false
namespace Go.Proofs.YtpkkjbmgbgakdaaGreatDoor
open Go.RowKit

set_option maxRecDepth 100000 in
set_option maxHeartbeats 4000000 in
theorem flearn_one (f s : Nat) (w : World) (h : FT w f s (.slice none 0 0)) : Calls Tryz.prog 208 #[.pointer (some ⟨f, 0, none⟩), .int .u16 1, .agg #[.int .u8 2, .int .u8 0, .int .u8 0, .int .u8 0, .int .u8 0, .int .u8 1], .int .u8 0] w fun en w' =>
    ∃ v, en = .returned (.tuple #[]) ∧ FT w' f s v ∧ Ow 9 enC 185 w' w.heap.size v [0] ∧ Only f w w' := by
  have GR : Hid (∀ w, Calls Tryz.prog 29 #[.agg #[.int .u8 2, .int .u8 0, .int .u8 0, .int .u8 0, .int .u8 0, .int .u8 1]] w fun en w' => en = .returned (.bool false) ∧ Below w.heap.size w w') := Lib.hid fun w => group_any 2 0 0 0 0 1 w (by decide) (by decide)
  obtain ⟨kl, hkl⟩ := Option.isSome_iff_exists.1 keyA
  have HK := Lib.hid hkl
  clear hkl
  have hb0 := (Below.refl w.heap.size w).alloc (Nat.le_refl _) (.cells #[.int .u8 2, .int .u8 0, .int .u8 0, .int .u8 0, .int .u8 0, .int .u8 1] 41)
  have g0 := GB.new 41 w #[.int .u8 2, .int .u8 0, .int .u8 0, .int .u8 0, .int .u8 0, .int .u8 1]
  obtain ⟨w0, hw0⟩ : ∃ z, w.alloc (.cells #[.int .u8 2, .int .u8 0, .int .u8 0, .int .u8 0, .int .u8 0, .int .u8 1] 41) = z := ⟨_, rfl⟩
  rw [hw0] at hb0 g0
  have hz0 : w0.heap.size = w.heap.size + 1 := by rw [← hw0]; simp
  have HB0 := Lib.hid hb0
  have HF0 := Lib.hid (h.later hb0)
  have G0 := Lib.hid g0
  have c0 : w0.cell? ⟨w.heap.size, 0, none⟩ = some (.int .u8 2) := g0.c 0 _ rfl
  have c1 : w0.cell? ⟨w.heap.size, 1, none⟩ = some (.int .u8 0) := g0.c 1 _ rfl
  have c2 : w0.cell? ⟨w.heap.size, 2, none⟩ = some (.int .u8 0) := g0.c 2 _ rfl
  have c3 : w0.cell? ⟨w.heap.size, 3, none⟩ = some (.int .u8 0) := g0.c 3 _ rfl
  have c4 : w0.cell? ⟨w.heap.size, 4, none⟩ = some (.int .u8 0) := g0.c 4 _ rfl
  have c5 : w0.cell? ⟨w.heap.size, 5, none⟩ = some (.int .u8 1) := g0.c 5 _ rfl
  clear hb0 g0 h
  go_enter Tryz.func208, Tryz.ntmps208
  go_upto_region 1 with fail
  clear hw0
  go_upto_region 2 with (first
    | (go_at_call 29; with_reducible refine (GR.out _).mono ?_; rintro e w1 ⟨rfl, hb1⟩)
    | (go_at_call 211; refine (fmay_one _).mono ?_; rintro e w2 ⟨rfl, rfl⟩))
  have d0 := (hb1.cell (World.block_lt_of_cell? _ _ c0)).trans c0
  have d1 := (hb1.cell (World.block_lt_of_cell? _ _ c1)).trans c1
  have d2 := (hb1.cell (World.block_lt_of_cell? _ _ c2)).trans c2
  have d3 := (hb1.cell (World.block_lt_of_cell? _ _ c3)).trans c3
  have d4 := (hb1.cell (World.block_lt_of_cell? _ _ c4)).trans c4
  have d5 := (hb1.cell (World.block_lt_of_cell? _ _ c5)).trans c5
  clear c0 c1 c2 c3 c4 c5
  have hb3 := (Below.refl w2.heap.size w2).alloc (Nat.le_refl _) (.cells #[.int .u16 1, .int .u8 2, .int .u8 0, .int .u8 0, .int .u8 0, .int .u8 0, .int .u8 1] 330)
  have g3 := GB.new 330 w2 #[.int .u16 1, .int .u8 2, .int .u8 0, .int .u8 0, .int .u8 0, .int .u8 0, .int .u8 1]
  obtain ⟨w3, hw3⟩ : ∃ z, w2.alloc (.cells #[.int .u16 1, .int .u8 2, .int .u8 0, .int .u8 0, .int .u8 0, .int .u8 0, .int .u8 1] 330) = z := ⟨_, rfl⟩
  rw [hw3] at hb3 g3
  have hz3 : w3.heap.size = w2.heap.size + 1 := by rw [← hw3]; simp
  have HB3 := Lib.hid (HB0.out.trans ((hb1.trans (hb3.mono hb1.size)).mono HB0.out.size))
  have hb03 := hb1.trans (hb3.mono hb1.size)
  have HF3 := Lib.hid (HF0.out.later hb03)
  have HG3 := Lib.hid (G0.out.later hb03)
  have HP3 := Lib.hid g3
  have HZ3 := Lib.hid (And.intro hz0 (And.intro hb1.size hz3))
  clear hb1 hb3 g3 hb03
  go_upto_region 3 with fail
  clear hw3 d0 d1 d2 d3 d4 d5
  obtain ⟨p3, hp3⟩ : ∃ z, w2.heap.size = z := ⟨_, rfl⟩
  rw [hp3] at HP3 HZ3 ⊢
  clear hp3 hz0 hz3
  have l1 : ∀ K : Later w3, K.out.cell? ⟨f, 1, none⟩ = some (.map (some s)) := fun K => (HF3.out.later K.h).c1
  have e0 : ∀ K : Later w3, K.out.cell? ⟨p3, 0, none⟩ = some (.int .u16 1) := fun K => (HP3.out.later K.h).c 0 _ rfl
  have e1 : ∀ K : Later w3, K.out.cell? ⟨p3, 1, none⟩ = some (.int .u8 2) := fun K => (HP3.out.later K.h).c 1 _ rfl
  have e2 : ∀ K : Later w3, K.out.cell? ⟨p3, 2, none⟩ = some (.int .u8 0) := fun K => (HP3.out.later K.h).c 2 _ rfl
  have e3 : ∀ K : Later w3, K.out.cell? ⟨p3, 3, none⟩ = some (.int .u8 0) := fun K => (HP3.out.later K.h).c 3 _ rfl
  have e4 : ∀ K : Later w3, K.out.cell? ⟨p3, 4, none⟩ = some (.int .u8 0) := fun K => (HP3.out.later K.h).c 4 _ rfl
  have e5 : ∀ K : Later w3, K.out.cell? ⟨p3, 5, none⟩ = some (.int .u8 0) := fun K => (HP3.out.later K.h).c 5 _ rfl
  have e6 : ∀ K : Later w3, K.out.cell? ⟨p3, 6, none⟩ = some (.int .u8 1) := fun K => (HP3.out.later K.h).c 6 _ rfl
  have LK : ∀ K : Later w3, (Instr.lookup 181 (.map (some s)) (.agg #[.int .u16 1, .int .u8 2, .int .u8 0, .int .u8 0, .int .u8 0, .int .u8 0, .int .u8 1]) true).run Tryz.prog K.out = .ok (.tuple #[.int .u8 0, .bool false]) K.out := fun K => flook0 (HF3.out.later K.h).m HK.out
  refine wp_region_later (by kernel_rfl) (by kernel_rfl) ?_
  repeat (go_big_quiet_step (fail))
  refine wpQuiet_nil ?_
  rintro _ ⟨K, rfl⟩
  clear l1 e0 e1 e2 e3 e4 e5 e6 LK
  have FK := HF3.out.later K.h
  have PK := HP3.out.later K.h
  have MK := HG3.out.later K.h
  have HBK := Lib.hid (HB3.out.trans (K.h.mono HB3.out.size))
  have HZK := Lib.hid K.h.size
  obtain ⟨w4, hw4⟩ : ∃ z, K.out = z := ⟨_, rfl⟩
  rw [hw4] at FK PK MK HBK HZK ⊢
  clear hw4 K HB3 HF3 HG3 HP3
  have e0 : w4.cell? ⟨p3, 0, none⟩ = some (.int .u16 1) := PK.c 0 _ rfl
  have e1 : w4.cell? ⟨p3, 1, none⟩ = some (.int .u8 2) := PK.c 1 _ rfl
  have e2 : w4.cell? ⟨p3, 2, none⟩ = some (.int .u8 0) := PK.c 2 _ rfl
  have e3 : w4.cell? ⟨p3, 3, none⟩ = some (.int .u8 0) := PK.c 3 _ rfl
  have e4 : w4.cell? ⟨p3, 4, none⟩ = some (.int .u8 0) := PK.c 4 _ rfl
  have e5 : w4.cell? ⟨p3, 5, none⟩ = some (.int .u8 0) := PK.c 5 _ rfl
  have e6 : w4.cell? ⟨p3, 6, none⟩ = some (.int .u8 1) := PK.c 6 _ rfl
  have DR : Hid (∀ fv, Calls Tryz.prog 78 #[.pointer (some ⟨f, 0, none⟩), fv] w4 fun en w' => en = .returned (.int .i64 0) ∧ w' = w4) := Lib.hid fun fv => fdrop_nil' f s fv w4 FK
  have f0 := FK.c0
  have HFK := Lib.hid FK
  have HMK := Lib.hid MK
  clear FK PK MK
  go_upto_region 6 with (go_at_call 78; with_reducible refine (DR.out _).mono ?_; rintro e w5 ⟨rfl, rfl⟩)
  clear e0 e1 e2 e3 e4 e5 e6 DR
  go_upto_region 8 with fail
  have mk := HMK.out
  have hm0 : w.heap.size < w5.heap.size := mk.lt
  have hf0 : f < w5.heap.size := HFK.out.g.lt
  have HE : Hid (Ow 9 enC 185 (w5.drew.alloc (.cells #[.int .u16 1, .int .u8 2, .int .u8 0, .int .u8 0, .int .u8 0, .int .u8 0, .int .u8 1, .int .u8 0, .int .i64 0] 185)) 0 (.slice (some ⟨w5.heap.size, 0, none⟩) 1 1) [0]) := Lib.hid (Ow.lit (E := 185) enC_len w5.drew 0 (0 : Int) #[.int .u16 1, .int .u8 2, .int .u8 0, .int .u8 0, .int .u8 0, .int .u8 0, .int .u8 1, .int .u8 0, .int .i64 0] rfl (Nat.zero_le _))
  have hbd : Below w5.heap.size w5 (w5.drew.alloc (.cells #[.int .u16 1, .int .u8 2, .int .u8 0, .int .u8 0, .int .u8 0, .int .u8 0, .int .u8 1, .int .u8 0, .int .i64 0] 185)) := (Below.refl _ _).drew.alloc (Nat.le_refl _) _
  have c0 : w5.drew.cell? ⟨w.heap.size, 0, none⟩ = some (.int .u8 2) := mk.c 0 _ rfl
  have c1 : w5.drew.cell? ⟨w.heap.size, 1, none⟩ = some (.int .u8 0) := mk.c 1 _ rfl
  have c2 : w5.drew.cell? ⟨w.heap.size, 2, none⟩ = some (.int .u8 0) := mk.c 2 _ rfl
  have c3 : w5.drew.cell? ⟨w.heap.size, 3, none⟩ = some (.int .u8 0) := mk.c 3 _ rfl
  have c4 : w5.drew.cell? ⟨w.heap.size, 4, none⟩ = some (.int .u8 0) := mk.c 4 _ rfl
  have c5 : w5.drew.cell? ⟨w.heap.size, 5, none⟩ = some (.int .u8 1) := mk.c 5 _ rfl
  have cf : w5.drew.cell? ⟨f, 0, none⟩ = some (.slice none 0 0) := HFK.out.c0
  have cfa : (w5.drew.alloc (.cells #[.int .u16 1, .int .u8 2, .int .u8 0, .int .u8 0, .int .u8 0, .int .u8 0, .int .u8 1, .int .u8 0, .int .i64 0] 185)).cell? ⟨f, 0, none⟩ = some (.slice none 0 0) := (hbd.cell (p := ⟨f, 0, none⟩) hf0).trans HFK.out.c0
  have HB4 := Lib.hid hbd
  clear mk hbd
  go_region_law (first
    | (refine step_append_ow enC_len enC_one 185 83 _ 24 Tryz.underlying83 info_entry rfl (by decide) (by decide) rfl (.tmp 61) (.tmp 66) rfl w5.heap.size (.slice none 0 0) [] rfl (Ow.none _ _) _ _ rfl (HE.out.rw enC_len) (by simp) (by simp) ?_; intro v1 w6 ho5 hb5; obtain ⟨g1, cap1, t1, rfl, hg1, hc1, -⟩ := ho5.ne (by simp); have F5 := HFK.out.later (HB4.out.trans hb5); have cf5 := F5.c0; have ff5 := F5.g.fr 0))
  all_goals go_end0
  all_goals exact ⟨_, rfl, F5.set _, (ho5.setB hf0 0 _).mono HBK.out.size, (below_only (HBK.out.trans ((HB4.out.trans hb5).mono HBK.out.size))).trans (Only.set _ _ _ _)⟩
end Go.Proofs.YtpkkjbmgbgakdaaGreatDoor

/- fdb: one thing is looked up, and listed; nothing, of nobody. -/
set_option linter.unusedVariables false
namespace Go.Proofs.YtpkkjbmgbgakdaaGreatDoor
open Go.RowKit

set_option maxRecDepth 100000 in
set_option maxHeartbeats 4000000 in
theorem fof_no (w : World) : Calls Tryz.prog 212 #[.agg #[.int .u16 1, .int .u8 255, .int .u8 255, .int .u8 255, .int .u8 255, .int .u8 255, .int .u8 255], .agg #[.int .u16 1, .int .u8 2, .int .u8 0, .int .u8 0, .int .u8 0, .int .u8 0, .int .u8 1, .int .u8 0, .int .i64 0]] w fun en w' => en = .returned (.bool false) ∧ Below w.heap.size w w' := by
  have EQ : ∀ W : World, (binOp .eql 330 (.agg #[.int .u16 1, .int .u8 255, .int .u8 255, .int .u8 255, .int .u8 255, .int .u8 255, .int .u8 255]) (.agg #[.int .u16 1, .int .u8 2, .int .u8 0, .int .u8 0, .int .u8 0, .int .u8 0, .int .u8 1])).run Tryz.prog W = .ok (.bool false) W := fun W => by kernel_rfl
  go_enter Tryz.func212, Tryz.ntmps212
  go_wp2
  go_ret
  exact ⟨rfl, ((Below.refl _ _).alloc (Nat.le_refl _) _).alloc (by simp) _⟩
set_option maxRecDepth 100000 in
set_option maxHeartbeats 4000000 in
theorem fidx_one (b c : Nat) (w : World) (hw : ∀ i, i < 9 → w.cell? ⟨b, i, none⟩ = (enC 0)[i]?) : Calls Tryz.prog 195 #[.slice (some ⟨b, 0, none⟩) 1 c, .func (.func 212) #[.agg #[.int .u16 1, .int .u8 255, .int .u8 255, .int .u8 255, .int .u8 255, .int .u8 255, .int .u8 255]] #[]] w fun en w' => en = .returned (.int .i64 (-1)) ∧ Below w.heap.size w w' := by
  have FO := fof_no
  have c0 : w.cell? ⟨b, 0, none⟩ = some (.int .u16 1) := hw 0 (by decide)
  have c1 : w.cell? ⟨b, 1, none⟩ = some (.int .u8 2) := hw 1 (by decide)
  have c2 : w.cell? ⟨b, 2, none⟩ = some (.int .u8 0) := hw 2 (by decide)
  have c3 : w.cell? ⟨b, 3, none⟩ = some (.int .u8 0) := hw 3 (by decide)
  have c4 : w.cell? ⟨b, 4, none⟩ = some (.int .u8 0) := hw 4 (by decide)
  have c5 : w.cell? ⟨b, 5, none⟩ = some (.int .u8 0) := hw 5 (by decide)
  have c6 : w.cell? ⟨b, 6, none⟩ = some (.int .u8 1) := hw 6 (by decide)
  have c7 : w.cell? ⟨b, 7, none⟩ = some (.int .u8 0) := hw 7 (by decide)
  have c8 : w.cell? ⟨b, 8, none⟩ = some (.int .i64 0) := hw 8 (by decide)
  clear hw
  go_enter Tryz.func195, Tryz.ntmps195
  go_wp2_with fail
  refine wp_loop_rounds 2 ?_
  rw [rounds_succ]
  go_wp2_with (go_at_call 212; refine (FO _).mono ?_; rintro e w1 ⟨rfl, hb1⟩)
  rw [rounds_succ]
  go_wp2_with fail
  go_ret
  exact ⟨rfl, hb1⟩
end Go.Proofs.YtpkkjbmgbgakdaaGreatDoor

/- bridge's known frames: taken, put; their VLAN; out. -/
set_option linter.unusedVariables false
namespace Go.Proofs.YtpkkjbmgbgakdaaGreatDoor
open Go.RowKit

theorem tkA : tkF [255, 255, 255, 255, 255, 255, 2, 0, 0, 0, 0, 1, 8, 0, 120] = (#[.int .u8 255, .int .u8 255, .int .u8 255, .int .u8 255, .int .u8 255, .int .u8 255, .int .u8 2, .int .u8 0, .int .u8 0, .int .u8 0, .int .u8 0, .int .u8 1, .bool false, .int .u8 0, .int .u16 0, .int .u16 2048, .string (bs [120])], 0) := by kernel_rfl
theorem tkW : tkF [1, 128, 194, 0, 0, 0, 2, 0, 0, 0, 0, 1, 77, 67, 120] = (#[.int .u8 1, .int .u8 128, .int .u8 194, .int .u8 0, .int .u8 0, .int .u8 0, .int .u8 2, .int .u8 0, .int .u8 0, .int .u8 0, .int .u8 0, .int .u8 1, .bool false, .int .u8 0, .int .u16 0, .int .u16 19779, .string (bs [120])], 0) := by kernel_rfl
theorem takeA (w : World) : Calls Tryz.prog 16 #[.string { data := #[255, 255, 255, 255, 255, 255, 2, 0, 0, 0, 0, 1, 8, 0, 120] }] w fun en w' => en = .returned (.tuple #[.agg #[.int .u8 255, .int .u8 255, .int .u8 255, .int .u8 255, .int .u8 255, .int .u8 255, .int .u8 2, .int .u8 0, .int .u8 0, .int .u8 0, .int .u8 0, .int .u8 1, .bool false, .int .u8 0, .int .u16 0, .int .u16 2048, .string (bs [120])], .int .i64 0]) ∧ Below w.heap.size w w' := by
  have h := ftake_any [255, 255, 255, 255, 255, 255, 2, 0, 0, 0, 0, 1, 8, 0, 120] w (by decide)
  rw [tkA] at h; exact h
theorem takeW (w : World) : Calls Tryz.prog 16 #[.string { data := #[1, 128, 194, 0, 0, 0, 2, 0, 0, 0, 0, 1, 77, 67, 120] }] w fun en w' => en = .returned (.tuple #[.agg #[.int .u8 1, .int .u8 128, .int .u8 194, .int .u8 0, .int .u8 0, .int .u8 0, .int .u8 2, .int .u8 0, .int .u8 0, .int .u8 0, .int .u8 0, .int .u8 1, .bool false, .int .u8 0, .int .u16 0, .int .u16 19779, .string (bs [120])], .int .i64 0]) ∧ Below w.heap.size w w' := by
  have h := ftake_any [1, 128, 194, 0, 0, 0, 2, 0, 0, 0, 0, 1, 77, 67, 120] w (by decide)
  rw [tkW] at h; exact h
theorem putA (w : World) : Calls Tryz.prog 81 #[.agg #[.int .u8 255, .int .u8 255, .int .u8 255, .int .u8 255, .int .u8 255, .int .u8 255, .int .u8 2, .int .u8 0, .int .u8 0, .int .u8 0, .int .u8 0, .int .u8 1, .bool false, .int .u8 0, .int .u16 0, .int .u16 2048, .string (bs [120])]] w fun en w' => en = .returned (.tuple #[.string { data := #[255, 255, 255, 255, 255, 255, 2, 0, 0, 0, 0, 1, 8, 0, 120] }, .int .i64 0]) ∧ Below w.heap.size w w' := by
  have h := fput_any 255 255 255 255 255 255 2 0 0 0 0 1 false 0 0 2048 [120] w (by unfold wfF wfM; decide) (by decide)
  rw [show putF 255 255 255 255 255 255 2 0 0 0 0 1 false 0 0 2048 [120] = ([255, 255, 255, 255, 255, 255, 2, 0, 0, 0, 0, 1, 8, 0, 120], 0) by kernel_rfl] at h; exact h
set_option maxRecDepth 100000 in
set_option maxHeartbeats 4000000 in
theorem cofA (w : World) : Calls Tryz.prog 66 #[.agg #[.int .u8 255, .int .u8 255, .int .u8 255, .int .u8 255, .int .u8 255, .int .u8 255, .int .u8 2, .int .u8 0, .int .u8 0, .int .u8 0, .int .u8 0, .int .u8 1, .bool false, .int .u8 0, .int .u16 0, .int .u16 2048, .string (bs [120])]] w fun en w' => en = .returned (.tuple #[.int .u8 0, .int .u8 0, .bool false]) ∧ Below w.heap.size w w' := by
  have hb := (Below.refl w.heap.size w).alloc (Nat.le_refl _) (.cells #[.int .u8 255, .int .u8 255, .int .u8 255, .int .u8 255, .int .u8 255, .int .u8 255, .int .u8 2, .int .u8 0, .int .u8 0, .int .u8 0, .int .u8 0, .int .u8 1, .bool false, .int .u8 0, .int .u16 0, .int .u16 2048, .string (bs [120])] 68)
  have c15 : (w.alloc (.cells #[.int .u8 255, .int .u8 255, .int .u8 255, .int .u8 255, .int .u8 255, .int .u8 255, .int .u8 2, .int .u8 0, .int .u8 0, .int .u8 0, .int .u8 0, .int .u8 1, .bool false, .int .u8 0, .int .u16 0, .int .u16 2048, .string (bs [120])] 68)).cell? ⟨w.heap.size, 15, none⟩ = some (.int .u16 2048) := (GB.new 68 w #[.int .u8 255, .int .u8 255, .int .u8 255, .int .u8 255, .int .u8 255, .int .u8 255, .int .u8 2, .int .u8 0, .int .u8 0, .int .u8 0, .int .u8 0, .int .u8 1, .bool false, .int .u8 0, .int .u16 0, .int .u16 2048, .string (bs [120])]).c 15 _ rfl
  obtain ⟨w0, hw0⟩ : ∃ z, w.alloc (.cells #[.int .u8 255, .int .u8 255, .int .u8 255, .int .u8 255, .int .u8 255, .int .u8 255, .int .u8 2, .int .u8 0, .int .u8 0, .int .u8 0, .int .u8 0, .int .u8 1, .bool false, .int .u8 0, .int .u16 0, .int .u16 2048, .string (bs [120])] 68) = z := ⟨_, rfl⟩
  rw [hw0] at hb c15
  go_enter Tryz.func66, Tryz.ntmps66
  go_wp2
  refine bodyPost_ret (v := .tuple #[.int .u8 0, .int .u8 0, .bool false]) (by simp [results, Tryz.results66, go_sem]) rfl ⟨rfl, hb⟩
end Go.Proofs.YtpkkjbmgbgakdaaGreatDoor
