/- ZB41: the texts NR as one. -/
import Derived.Test.YtpkkjbmgbgakdaaGreatDoorZB37
/- bridge: Receive: the known frame; a word. -/
set_option linter.unusedVariables false
set_option linter.unusedSimpArgs false
namespace Go.Proofs.YtpkkjbmgbgakdaaGreatDoor
open Go.RowKit

set_option maxRecDepth 100000 in
set_option maxHeartbeats 8000000 in
theorem breceiveA (P : BP) (dr : Int) (w : World) (h : BS w P [true, true] [1, 0, 0, 0, 0, 0, 0, 0] [(1, 3, 3)] (.slice none 0 0) dr) : Calls Tryz.prog 17 #[.pointer (some ⟨P.b, 0, none⟩), .int .u8 0, .string { data := #[255, 255, 255, 255, 255, 255, 2, 0, 0, 0, 0, 1, 8, 0, 120] }] w (PostA P [1, 0, 0, 0, 0, 0, 0, 0] dr w) := by
  obtain ⟨A, hA⟩ : ∃ A : Array Value, A = #[.int .u8 255, .int .u8 255, .int .u8 255, .int .u8 255, .int .u8 255, .int .u8 255, .int .u8 2, .int .u8 0, .int .u8 0, .int .u8 0, .int .u8 0, .int .u8 1, .bool false, .int .u8 0, .int .u16 0, .int .u16 2048, .string (bs [120])] := ⟨_, rfl⟩
  have TK : Hid (∀ w, Calls Tryz.prog 16 #[.string { data := #[255, 255, 255, 255, 255, 255, 2, 0, 0, 0, 0, 1, 8, 0, 120] }] w fun en w' => en = .returned (.tuple #[.agg A, .int .i64 0]) ∧ Below w.heap.size w w') := Lib.hid fun w => by rw [hA]; exact takeA w
  have hJ : ∀ (j : Nat) (v : Value), (#[.int .u8 255, .int .u8 255, .int .u8 255, .int .u8 255, .int .u8 255, .int .u8 255, .int .u8 2, .int .u8 0, .int .u8 0, .int .u8 0, .int .u8 0, .int .u8 1, .bool false, .int .u8 0, .int .u16 0, .int .u16 2048, .string (bs [120])] : Array Value)[j]? = some v → A[j]? = some v := fun j v h => by rw [hA]; exact h
  have hI : isFr A := by rw [hA]; exact isFr_A
  have VI : Hid (∀ W, BS W P [true, true] [1, 0, 0, 0, 0, 0, 0, 0] [(1, 3, 3)] (.slice none 0 0) dr → Calls Tryz.prog 61 #[.pointer (some ⟨P.r, 0, none⟩), .int .u8 0, .agg A] W fun en w' => en = .returned (.tuple #[.int .u16 1, .bool true]) ∧ Below W.heap.size W w') := Lib.hid fun W hW => by rw [hA]; exact rvidA P.r P.q P.vm P.f P.s [(1, 3, 3)] _ (by decide) W hW.rl
  have IN : Hid (∀ W, BS W P [true, true] [1, 0, 0, 0, 0, 0, 0, 0] [(1, 3, 3)] (.slice none 0 0) dr → Calls Tryz.prog 63 #[.pointer (some ⟨P.b, 0, none⟩), .int .u8 0, .int .u16 1, .agg A] W (PostA P [1, 0, 0, 0, 0, 0, 0, 0] dr W)) := Lib.hid fun W hW => by rw [hA]; exact binA P _ dr W hW
  clear hA
  have HI := Lib.hid hI
  have HIZ := Lib.hid (frame_info hI)
  have HIL := Lib.hid (frame_infoL hI)
  have HO1 := Lib.hid hI.one
  have RO : Hid (Calls Tryz.prog 57 #[.pointer (some ⟨P.m, 0, none⟩), .int .u8 0] w fun en w' => en = .returned (.int .u8 5) ∧ w = w') := Lib.hid ((trole_host P.m P.g P.cap P.t 16 [true, true] 0 (by decide) w h.tr).mono fun e w' h => ⟨h.1, h.2.symm⟩)
  have c1 := h.c1
  have HH := Lib.hid h
  have EQ : ∀ W : World, (binOp .eql 41 (.agg #[.int .u8 255, .int .u8 255, .int .u8 255, .int .u8 255, .int .u8 255, .int .u8 255]) (.agg #[.int .u8 1, .int .u8 128, .int .u8 194, .int .u8 0, .int .u8 0, .int .u8 0])).run Tryz.prog W = .ok (.bool false) W := fun W => by kernel_rfl
  have OWN := own_any
  have HIF := Lib.hid hI
  clear h hI
  go_enter Tryz.func17, Tryz.ntmps17
  go_upto_region 3 with (go_at_call 57; with_reducible refine RO.out.mono ?_; rintro e wx ⟨rfl, rfl⟩)
  go_wp2_with fail
  with_reducible refine (TK.out _).mono ?_
  rintro en w1 ⟨rfl, hb1⟩
  have TH := Lib.hid (fr_there w1 HIF.out)
  go_upto_region 4 with ((with_reducible refine wpList_store_mid rfl 68 (.tmp 7) (.tmp 25) rfl w1.heap.size 0 A ?hx ?hy TH.out HIZ.out HO1.out ?_); (case hx => rfl); (case hy => rfl))
  have gf : GB 68 ((w1.alloc (.cells #[.int .u8 0, .int .u8 0, .int .u8 0, .int .u8 0, .int .u8 0, .int .u8 0, .int .u8 0, .int .u8 0, .int .u8 0, .int .u8 0, .int .u8 0, .int .u8 0, .bool false, .int .u8 0, .int .u16 0, .int .u16 0, .string { data := #[] }] 68)).setCells w1.heap.size 0 A.toList) w1.heap.size A := fr_stored w1 HIF.out
  have b2 : Below w1.heap.size w1 ((w1.alloc (.cells #[.int .u8 0, .int .u8 0, .int .u8 0, .int .u8 0, .int .u8 0, .int .u8 0, .int .u8 0, .int .u8 0, .int .u8 0, .int .u8 0, .int .u8 0, .int .u8 0, .bool false, .int .u8 0, .int .u16 0, .int .u16 0, .string { data := #[] }] 68)).setCells w1.heap.size 0 A.toList) := below_cells (Nat.le_refl _) _ _ _ ((Below.refl _ _).alloc (Nat.le_refl _) _)
  obtain ⟨z, hz⟩ : ∃ z, w1.heap.size = z := ⟨_, rfl⟩
  have hbz := hb1.trans (b2.mono hb1.size)
  rw [hz] at gf b2 hbz ⊢
  obtain ⟨w2, hw2⟩ : ∃ k, (w1.alloc (.cells #[.int .u8 0, .int .u8 0, .int .u8 0, .int .u8 0, .int .u8 0, .int .u8 0, .int .u8 0, .int .u8 0, .int .u8 0, .int .u8 0, .int .u8 0, .int .u8 0, .bool false, .int .u8 0, .int .u16 0, .int .u16 0, .string { data := #[] }] 68)).setCells z 0 A.toList = k := ⟨_, rfl⟩
  rw [hw2] at gf b2 hbz ⊢
  have HB2 := Lib.hid hbz
  have G2 := Lib.hid gf
  have H2 := Lib.hid (HH.out.later HB2.out)
  clear gf b2 hbz hw2 TH hb1 c1
  go_upto_region 6 with fail
  have l0 : ∀ K : Later w2, K.out.cell? ⟨z, 0, none⟩ = some (.int .u8 255) := fun K => (G2.out.later K.h).c 0 _ (hJ 0 _ rfl)
  have l1 : ∀ K : Later w2, K.out.cell? ⟨z, 1, none⟩ = some (.int .u8 255) := fun K => (G2.out.later K.h).c 1 _ (hJ 1 _ rfl)
  have l2 : ∀ K : Later w2, K.out.cell? ⟨z, 2, none⟩ = some (.int .u8 255) := fun K => (G2.out.later K.h).c 2 _ (hJ 2 _ rfl)
  have l3 : ∀ K : Later w2, K.out.cell? ⟨z, 3, none⟩ = some (.int .u8 255) := fun K => (G2.out.later K.h).c 3 _ (hJ 3 _ rfl)
  have l4 : ∀ K : Later w2, K.out.cell? ⟨z, 4, none⟩ = some (.int .u8 255) := fun K => (G2.out.later K.h).c 4 _ (hJ 4 _ rfl)
  have l5 : ∀ K : Later w2, K.out.cell? ⟨z, 5, none⟩ = some (.int .u8 255) := fun K => (G2.out.later K.h).c 5 _ (hJ 5 _ rfl)
  have l15 : ∀ K : Later w2, K.out.cell? ⟨z, 15, none⟩ = some (.int .u16 2048) := fun K => (G2.out.later K.h).c 15 _ (hJ 15 _ rfl)
  refine wp_region_later (by kernel_rfl) (by kernel_rfl) ?_
  repeat (go_big_quiet_step (first | (go_at_call 59; exact Calls.later (OWN _))))
  refine wpQuiet_nil ?_
  rintro _ ⟨K, rfl⟩
  clear l0 l1 l2 l3 l4 l5 l15 EQ
  have HB3 := Lib.hid (HB2.out.trans (K.h.mono HB2.out.size))
  have G3 := Lib.hid (G2.out.later K.h)
  have H3 := Lib.hid (H2.out.later K.h)
  obtain ⟨w3, hw3⟩ : ∃ z, K.out = z := ⟨_, rfl⟩
  rw [hw3] at HB3 G3 H3 ⊢
  clear hw3 K G2 H2 HB2
  go_upto_region 8 with fail
  have l2 : ∀ K : Later w3, K.out.cell? ⟨P.b, 2, none⟩ = some (.pointer (some ⟨P.r, 0, none⟩)) := fun K => (H3.out.later K.h).c2
  have VK : Hid (∀ K : Later w3, Calls Tryz.prog 61 #[.pointer (some ⟨P.r, 0, none⟩), .int .u8 0, .agg A] K.out fun en w' => en = .returned (.tuple #[.int .u16 1, .bool true]) ∧ Below K.out.heap.size K.out w') := Lib.hid fun K => VI.out _ (H3.out.later K.h)
  have FK : Hid (∀ K : Later w3, (Instr.loadAt 68 (.pointer (some ⟨z, 0, none⟩))).run Tryz.prog K.out = .ok (.agg A) K.out) := Lib.hid fun K => fr_load (show FB w3 z A from G3.out) HIF.out K
  refine wp_region_later (by kernel_rfl) (by kernel_rfl) ?_
  repeat (go_big_quiet_step (fail))
  refine wpQuiet_load 68 (.tmp 7) z A rfl rfl rfl (by rintro _ ⟨k, rfl⟩; exact FK.out k) ?_
  go_simp
  go_big_quiet_step ((go_at_call 61; exact Calls.later (VK.out _)))
  repeat (go_big_quiet_step (fail))
  refine wpQuiet_nil ?_
  go_simp
  intro K
  have HB4 := Lib.hid (HB3.out.trans (K.h.mono HB3.out.size))
  have G4 := G3.out.later K.h
  have r4 := G4.range
  have W4 := Lib.hid (IN.out K.out (H3.out.later K.h))
  clear l2
  go_wp2_with (first
    | ((with_reducible refine wpList_load_mid rfl 68 (.tmp 7) rfl z 0 ?hx A.toList _ r4 Tryz.underlying68 ?hu HIL.out ?_); (case hx => rfl); (case hu => rfl))
    | (go_at_call 63; with_reducible refine W4.out.mono ?_; rintro e w5 ⟨⟨g, c, rfl, hr⟩, hp, ho⟩))
  go_ret
  exact PostA.back HB4.out ⟨⟨g, c, rfl, hr⟩, hp, ho⟩
set_option maxRecDepth 100000 in
set_option maxHeartbeats 8000000 in
theorem breceiveW (P : BP) (o : List Int) (V : List Vn) (v : Value) (w : World) (h : BS w P [true, true] o V v 0) : Calls Tryz.prog 17 #[.pointer (some ⟨P.b, 0, none⟩), .int .u8 0, .string { data := #[1, 128, 194, 0, 0, 0, 2, 0, 0, 0, 0, 1, 77, 67, 120] }] w fun en w' => en = .returned (.slice none 0 0) ∧ BS w' P [true, true] o V v 1 ∧ Only P.b w w' := by
  obtain ⟨A, hA⟩ : ∃ A : Array Value, A = #[.int .u8 1, .int .u8 128, .int .u8 194, .int .u8 0, .int .u8 0, .int .u8 0, .int .u8 2, .int .u8 0, .int .u8 0, .int .u8 0, .int .u8 0, .int .u8 1, .bool false, .int .u8 0, .int .u16 0, .int .u16 19779, .string (bs [120])] := ⟨_, rfl⟩
  have TK : Hid (∀ w, Calls Tryz.prog 16 #[.string { data := #[1, 128, 194, 0, 0, 0, 2, 0, 0, 0, 0, 1, 77, 67, 120] }] w fun en w' => en = .returned (.tuple #[.agg A, .int .i64 0]) ∧ Below w.heap.size w w') := Lib.hid fun w => by rw [hA]; exact takeW w
  have hJ : ∀ (j : Nat) (v : Value), (#[.int .u8 1, .int .u8 128, .int .u8 194, .int .u8 0, .int .u8 0, .int .u8 0, .int .u8 2, .int .u8 0, .int .u8 0, .int .u8 0, .int .u8 0, .int .u8 1, .bool false, .int .u8 0, .int .u16 0, .int .u16 19779, .string (bs [120])] : Array Value)[j]? = some v → A[j]? = some v := fun j v h => by rw [hA]; exact h
  have hI : isFr A := by rw [hA]; exact isFr_W

  clear hA
  have HI := Lib.hid hI
  have HIZ := Lib.hid (frame_info hI)
  have HIL := Lib.hid (frame_infoL hI)
  have HO1 := Lib.hid hI.one
  have RO : Hid (Calls Tryz.prog 57 #[.pointer (some ⟨P.m, 0, none⟩), .int .u8 0] w fun en w' => en = .returned (.int .u8 5) ∧ w = w') := Lib.hid ((trole_host P.m P.g P.cap P.t 16 [true, true] 0 (by decide) w h.tr).mono fun e w' h => ⟨h.1, h.2.symm⟩)
  have c1 := h.c1
  have HH := Lib.hid h
  have EQ : ∀ W : World, (binOp .eql 41 (.agg #[.int .u8 1, .int .u8 128, .int .u8 194, .int .u8 0, .int .u8 0, .int .u8 0]) (.agg #[.int .u8 1, .int .u8 128, .int .u8 194, .int .u8 0, .int .u8 0, .int .u8 0])).run Tryz.prog W = .ok (.bool true) W := fun W => by kernel_rfl
  have OWN := own_any
  have HIF := Lib.hid hI
  clear h hI
  go_enter Tryz.func17, Tryz.ntmps17
  go_upto_region 3 with (go_at_call 57; with_reducible refine RO.out.mono ?_; rintro e wx ⟨rfl, rfl⟩)
  go_wp2_with fail
  with_reducible refine (TK.out _).mono ?_
  rintro en w1 ⟨rfl, hb1⟩
  have TH := Lib.hid (fr_there w1 HIF.out)
  go_upto_region 4 with ((with_reducible refine wpList_store_mid rfl 68 (.tmp 7) (.tmp 25) rfl w1.heap.size 0 A ?hx ?hy TH.out HIZ.out HO1.out ?_); (case hx => rfl); (case hy => rfl))
  have gf : GB 68 ((w1.alloc (.cells #[.int .u8 0, .int .u8 0, .int .u8 0, .int .u8 0, .int .u8 0, .int .u8 0, .int .u8 0, .int .u8 0, .int .u8 0, .int .u8 0, .int .u8 0, .int .u8 0, .bool false, .int .u8 0, .int .u16 0, .int .u16 0, .string { data := #[] }] 68)).setCells w1.heap.size 0 A.toList) w1.heap.size A := fr_stored w1 HIF.out
  have b2 : Below w1.heap.size w1 ((w1.alloc (.cells #[.int .u8 0, .int .u8 0, .int .u8 0, .int .u8 0, .int .u8 0, .int .u8 0, .int .u8 0, .int .u8 0, .int .u8 0, .int .u8 0, .int .u8 0, .int .u8 0, .bool false, .int .u8 0, .int .u16 0, .int .u16 0, .string { data := #[] }] 68)).setCells w1.heap.size 0 A.toList) := below_cells (Nat.le_refl _) _ _ _ ((Below.refl _ _).alloc (Nat.le_refl _) _)
  obtain ⟨z, hz⟩ : ∃ z, w1.heap.size = z := ⟨_, rfl⟩
  have hbz := hb1.trans (b2.mono hb1.size)
  rw [hz] at gf b2 hbz ⊢
  obtain ⟨w2, hw2⟩ : ∃ k, (w1.alloc (.cells #[.int .u8 0, .int .u8 0, .int .u8 0, .int .u8 0, .int .u8 0, .int .u8 0, .int .u8 0, .int .u8 0, .int .u8 0, .int .u8 0, .int .u8 0, .int .u8 0, .bool false, .int .u8 0, .int .u16 0, .int .u16 0, .string { data := #[] }] 68)).setCells z 0 A.toList = k := ⟨_, rfl⟩
  rw [hw2] at gf b2 hbz ⊢
  have HB2 := Lib.hid hbz
  have G2 := Lib.hid gf
  have H2 := Lib.hid (HH.out.later HB2.out)
  clear gf b2 hbz hw2 TH hb1 c1
  go_upto_region 6 with fail
  have l0 : ∀ K : Later w2, K.out.cell? ⟨z, 0, none⟩ = some (.int .u8 1) := fun K => (G2.out.later K.h).c 0 _ (hJ 0 _ rfl)
  have l1 : ∀ K : Later w2, K.out.cell? ⟨z, 1, none⟩ = some (.int .u8 128) := fun K => (G2.out.later K.h).c 1 _ (hJ 1 _ rfl)
  have l2 : ∀ K : Later w2, K.out.cell? ⟨z, 2, none⟩ = some (.int .u8 194) := fun K => (G2.out.later K.h).c 2 _ (hJ 2 _ rfl)
  have l3 : ∀ K : Later w2, K.out.cell? ⟨z, 3, none⟩ = some (.int .u8 0) := fun K => (G2.out.later K.h).c 3 _ (hJ 3 _ rfl)
  have l4 : ∀ K : Later w2, K.out.cell? ⟨z, 4, none⟩ = some (.int .u8 0) := fun K => (G2.out.later K.h).c 4 _ (hJ 4 _ rfl)
  have l5 : ∀ K : Later w2, K.out.cell? ⟨z, 5, none⟩ = some (.int .u8 0) := fun K => (G2.out.later K.h).c 5 _ (hJ 5 _ rfl)
  have l15 : ∀ K : Later w2, K.out.cell? ⟨z, 15, none⟩ = some (.int .u16 19779) := fun K => (G2.out.later K.h).c 15 _ (hJ 15 _ rfl)
  refine wp_region_later (by kernel_rfl) (by kernel_rfl) ?_
  repeat (go_big_quiet_step (first | (go_at_call 59; exact Calls.later (OWN _))))
  refine wpQuiet_nil ?_
  rintro _ ⟨K, rfl⟩
  clear l0 l1 l2 l3 l4 l5 l15 EQ
  have HB3 := Lib.hid (HB2.out.trans (K.h.mono HB2.out.size))
  have G3 := Lib.hid (G2.out.later K.h)
  have H3 := Lib.hid (H2.out.later K.h)
  obtain ⟨w3, hw3⟩ : ∃ z, K.out = z := ⟨_, rfl⟩
  rw [hw3] at HB3 G3 H3 ⊢
  clear hw3 K G2 H2 HB2
  have c16 : w3.cell? ⟨z, 16, none⟩ = some (.string (bs [120])) := G3.out.c 16 _ (hJ 16 _ rfl)
  have HE := Lib.hid (bhear0 P o V v w3 H3.out)
  go_wp2_with (go_at_call 60; with_reducible refine HE.out.mono ?_; rintro e w4 ⟨rfl, hs, ho⟩)
  go_ret
  exact ⟨rfl, hs, (below_only HB3.out).trans ho⟩
end Go.Proofs.YtpkkjbmgbgakdaaGreatDoor
