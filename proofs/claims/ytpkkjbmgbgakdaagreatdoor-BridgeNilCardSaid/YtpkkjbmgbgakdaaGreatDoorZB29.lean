/- ZB29: the texts NE, NF as one. -/
import Derived.Test.YtpkkjbmgbgakdaaGreatDoorZB28
import Derived.Deep.RegionHeld3
/- relay: the known frame goes out. -/
set_option linter.unusedVariables false
set_option linter.unusedSimpArgs false
namespace Go.Proofs.YtpkkjbmgbgakdaaGreatDoor
open Go.RowKit

set_option maxRecDepth 100000 in
set_option maxHeartbeats 4000000 in
theorem routA (r q vm f s : Nat) (o : List Int) (v : Value) (w : World) (h : RL w r q vm f s 2 o [(1, 3, 3)] v) :
    Calls Tryz.prog 159 #[.pointer (some ⟨r, 0, none⟩), .int .u8 1, .int .u16 1, .agg #[.int .u8 255, .int .u8 255, .int .u8 255, .int .u8 255, .int .u8 255, .int .u8 255, .int .u8 2, .int .u8 0, .int .u8 0, .int .u8 0, .int .u8 0, .int .u8 1, .bool false, .int .u8 0, .int .u16 0, .int .u16 2048, .string (bs [120])]] w fun en w' => en = .returned (.tuple #[.agg #[.int .u8 255, .int .u8 255, .int .u8 255, .int .u8 255, .int .u8 255, .int .u8 255, .int .u8 2, .int .u8 0, .int .u8 0, .int .u8 0, .int .u8 0, .int .u8 1, .bool false, .int .u8 0, .int .u16 0, .int .u16 2048, .string (bs [120])], .bool true]) ∧ Below w.heap.size w w' := by
  obtain ⟨A, hA⟩ : ∃ A : Array Value, A = #[.int .u8 255, .int .u8 255, .int .u8 255, .int .u8 255, .int .u8 255, .int .u8 255, .int .u8 2, .int .u8 0, .int .u8 0, .int .u8 0, .int .u8 0, .int .u8 1, .bool false, .int .u8 0, .int .u16 0, .int .u16 2048, .string (bs [120])] := ⟨_, rfl⟩
  have OUT : Hid (∀ W, RL W r q vm f s 2 o [(1, 3, 3)] v → Calls Tryz.prog 65 #[.pointer (some ⟨q, 0, none⟩), .int .u8 1, .int .u16 1, .agg A] W fun en w' => en = .returned (.tuple #[.agg A, .bool true]) ∧ Below W.heap.size W w') := Lib.hid fun W hW => by
    have h := vout_any q vm 2 o [(1, 3, 3)] 1 1 255 255 255 255 255 255 2 0 0 0 0 1 false 0 0 2048 [120] W hW.ts (by decide) (by decide) (by unfold wfF wfM; decide) (by decide)
    rw [show outF [(1, 3, 3)] 1 1 255 255 255 255 255 255 2 0 0 0 0 1 false 0 0 2048 [120] = (#[.int .u8 255, .int .u8 255, .int .u8 255, .int .u8 255, .int .u8 255, .int .u8 255, .int .u8 2, .int .u8 0, .int .u8 0, .int .u8 0, .int .u8 0, .int .u8 1, .bool false, .int .u8 0, .int .u16 0, .int .u16 2048, .string (bs [120])], true) by kernel_rfl] at h
    rw [hA]; exact h
  have hI : isFr A := by rw [hA]; exact isFr_A
  rw [← hA]
  clear hA
  have HI := Lib.hid hI
  have HIZ := Lib.hid (frame_info hI)
  have HIL := Lib.hid (frame_infoL hI)
  have HO1 := Lib.hid hI.one
  have HSZ := Lib.hid hI.size
  clear hI
  have hb := ((Below.refl w.heap.size w).alloc (Nat.le_refl _) (.cells A 68)).alloc (by simp) (.cells #[.int .u8 0, .int .u8 0, .int .u8 0, .int .u8 0, .int .u8 0, .int .u8 0, .int .u8 0, .int .u8 0, .int .u8 0, .int .u8 0, .int .u8 0, .int .u8 0, .bool false, .int .u8 0, .int .u16 0, .int .u16 0, .string { data := #[] }] 68)
  have g1 : GB 68 ((w.alloc (.cells A 68)).alloc (.cells #[.int .u8 0, .int .u8 0, .int .u8 0, .int .u8 0, .int .u8 0, .int .u8 0, .int .u8 0, .int .u8 0, .int .u8 0, .int .u8 0, .int .u8 0, .int .u8 0, .bool false, .int .u8 0, .int .u16 0, .int .u16 0, .string { data := #[] }] 68)) w.heap.size A := (GB.new 68 w A).later ((Below.refl _ _).alloc (Nat.le_refl _) _)
  have g2 : GB 68 ((w.alloc (.cells A 68)).alloc (.cells #[.int .u8 0, .int .u8 0, .int .u8 0, .int .u8 0, .int .u8 0, .int .u8 0, .int .u8 0, .int .u8 0, .int .u8 0, .int .u8 0, .int .u8 0, .int .u8 0, .bool false, .int .u8 0, .int .u16 0, .int .u16 0, .string { data := #[] }] 68)) (w.heap.size + 1) #[.int .u8 0, .int .u8 0, .int .u8 0, .int .u8 0, .int .u8 0, .int .u8 0, .int .u8 0, .int .u8 0, .int .u8 0, .int .u8 0, .int .u8 0, .int .u8 0, .bool false, .int .u8 0, .int .u16 0, .int .u16 0, .string { data := #[] }] := by
    have := GB.new 68 (w.alloc (.cells A 68)) #[.int .u8 0, .int .u8 0, .int .u8 0, .int .u8 0, .int .u8 0, .int .u8 0, .int .u8 0, .int .u8 0, .int .u8 0, .int .u8 0, .int .u8 0, .int .u8 0, .bool false, .int .u8 0, .int .u16 0, .int .u16 0, .string { data := #[] }]
    rwa [show (w.alloc (.cells A 68)).heap.size = w.heap.size + 1 by simp] at this
  have h0 := h.later hb
  obtain ⟨w0, hw0⟩ : ∃ z, (w.alloc (.cells A 68)).alloc (.cells #[.int .u8 0, .int .u8 0, .int .u8 0, .int .u8 0, .int .u8 0, .int .u8 0, .int .u8 0, .int .u8 0, .int .u8 0, .int .u8 0, .int .u8 0, .int .u8 0, .bool false, .int .u8 0, .int .u16 0, .int .u16 0, .string { data := #[] }] 68) = z := ⟨_, rfl⟩
  rw [hw0] at hb g1 g2 h0
  have dd := (Below.refl w0.heap.size w0).drew
  have HB := Lib.hid (hb.trans (dd.mono hb.size))
  have HR := Lib.hid (h0.later dd)
  have HG := Lib.hid (g1.later dd)
  have HZ := Lib.hid (g2.later dd)
  clear h hb h0 g1 g2
  have VL : Hid (Calls Tryz.prog 126 #[.pointer (some ⟨r, 0, none⟩)] w0.drew fun en w' => en = .returned (.pointer (some ⟨q, 0, none⟩)) ∧ w0.drew = w') := Lib.hid ((rvlans_any r _ v _ HR.out.c0 ⟨_, rfl⟩).mono (by rintro e w' ⟨rfl, rfl⟩; exact ⟨rfl, rfl⟩))
  go_enter Tryz.func159, Tryz.ntmps159
  go_upto_region 1 with fail
  clear hw0
  refine wp_region_held_drew (S := fun _ => True) (by kernel_rfl) trivial (fun hHeld => ?_)
  refine wpAnyH_take (i := 0) (v := ?_) rfl (by kernel_rfl) (by kernel_rfl) (by kernel_rfl) (fun _ _ _ h => h) (Or.inl ⟨by rfl, ?hy0⟩) (by assumption) ?_
  case hy0 => (intro w hSw; (try dsimp only at hSw); go_simp; try with_reducible rfl)
  try simp only [Act.put, List.setIfInBounds_toArray, List.set_cons_zero, List.set_cons_succ, List.getElem_toArray, List.getElem_cons_zero, List.getElem_cons_succ]
  refine wpAnyH_take (i := 2) (v := ?_) rfl (by kernel_rfl) (by kernel_rfl) (by kernel_rfl) (fun _ _ _ h => h) (Or.inl ⟨by rfl, ?hy2⟩) (by assumption) ?_
  case hy2 => (intro w hSw; (try dsimp only at hSw); go_simp; try with_reducible rfl)
  try simp only [Act.put, List.setIfInBounds_toArray, List.set_cons_zero, List.set_cons_succ, List.getElem_toArray, List.getElem_cons_zero, List.getElem_cons_succ]
  refine wpAnyH_take (i := 3) (v := ?_) rfl (by kernel_rfl) (by kernel_rfl) (by kernel_rfl) (fun _ _ _ h => h) (Or.inl ⟨by rfl, ?hy3⟩) (by assumption) ?_
  case hy3 => (intro w hSw; (try dsimp only at hSw); go_simp; try with_reducible rfl)
  try simp only [Act.put, List.setIfInBounds_toArray, List.set_cons_zero, List.set_cons_succ, List.getElem_toArray, List.getElem_cons_zero, List.getElem_cons_succ]
  refine wpAnyH_ready (rs := [1, 4]) (by kernel_rfl) (by simp) (AllReadyH.cons rfl (fun K hK => ?_) (AllReadyH.cons rfl (fun K hK => ?_) AllReadyH.nil))
  · (go_simp; go_at_call 126; (with_reducible refine VL.out.mono ?_); rintro en' wv ⟨rfl, rfl⟩; refine hK.out _ _ trivial (fun hHeld => ?_); clear hK K; try simp only [Act.put, List.setIfInBounds_toArray, List.set_cons_zero, List.set_cons_succ, List.getElem_toArray, List.getElem_cons_zero, List.getElem_cons_succ])
    refine wpAnyH_ready (rs := [4]) (by kernel_rfl) (by simp) (AllReadyH.cons rfl (fun K hK => ?_) AllReadyH.nil)
    (rw [if_pos (by rfl)]; refine wp_load_mid 68 (.tmp 7) rfl w.heap.size 0 rfl A.toList _ HG.out.range Tryz.underlying68 rfl HIL.out ?_; refine hK.out _ _ trivial (fun hHeld => ?_); clear hK K; try simp only [Act.put, List.setIfInBounds_toArray, List.set_cons_zero, List.set_cons_succ, List.getElem_toArray, List.getElem_cons_zero, List.getElem_cons_succ])
    refine wpAnyH_ready (rs := [5]) (by kernel_rfl) (by simp) (AllReadyH.cons rfl (fun K hK => ?_) AllReadyH.nil)
    (go_simp; go_at_call 65; (with_reducible refine (OUT.out _ HR.out).mono ?_); rintro en' w5 ⟨rfl, hb5⟩; have HZ5 := Lib.hid (HZ.out.later hb5); have HB5 := Lib.hid (HB.out.trans (hb5.mono HB.out.size)); clear hb5; refine hK.out _ _ trivial (fun hHeld => ?_); clear hK K; try simp only [Act.put, List.setIfInBounds_toArray, List.set_cons_zero, List.set_cons_succ, List.getElem_toArray, List.getElem_cons_zero, List.getElem_cons_succ])
    refine wpAnyH_take (i := 6) (v := ?_) rfl (by kernel_rfl) (by kernel_rfl) (by kernel_rfl) (fun _ _ _ h => h) (Or.inl ⟨by rfl, ?hy6⟩) (by assumption) ?_
    case hy6 => (intro w hSw; (try dsimp only at hSw); go_simp; try with_reducible rfl)
    try simp only [Act.put, List.setIfInBounds_toArray, List.set_cons_zero, List.set_cons_succ, List.getElem_toArray, List.getElem_cons_zero, List.getElem_cons_succ]
    refine wpAnyH_take (i := 7) (v := ?_) rfl (by kernel_rfl) (by kernel_rfl) (by kernel_rfl) (fun _ _ _ h => h) (Or.inl ⟨by rfl, ?hy7⟩) (by assumption) ?_
    case hy7 => (intro w hSw; (try dsimp only at hSw); go_simp; try with_reducible rfl)
    try simp only [Act.put, List.setIfInBounds_toArray, List.set_cons_zero, List.set_cons_succ, List.getElem_toArray, List.getElem_cons_zero, List.getElem_cons_succ]
    refine wpAnyH_ready (rs := [8]) (by kernel_rfl) (by simp) (AllReadyH.cons rfl (fun K hK => ?_) AllReadyH.nil)
    (rw [if_pos (by rfl)]; refine wp_store_mid 68 (.tmp 8) (.tmp 16) rfl _ 0 A rfl (by rfl) (HZ5.out.there (by rw [HSZ.out]; exact Nat.le_refl _)) HIZ.out HO1.out ?_; refine hK.out _ _ trivial (fun hHeld => ?_); clear hK K; try simp only [Act.put, List.setIfInBounds_toArray, List.set_cons_zero, List.set_cons_succ, List.getElem_toArray, List.getElem_cons_zero, List.getElem_cons_succ])
    refine wpAnyH_take (i := 9) (v := ?_) rfl (by kernel_rfl) (by kernel_rfl) (by kernel_rfl) (fun _ _ _ h => h) (Or.inl ⟨by rfl, ?hy9⟩) (by assumption) ?_
    case hy9 => (intro w hSw; (try dsimp only at hSw); go_simp; try with_reducible rfl)
    try simp only [Act.put, List.setIfInBounds_toArray, List.set_cons_zero, List.set_cons_succ, List.getElem_toArray, List.getElem_cons_zero, List.getElem_cons_succ]
    refine wpAnyH_done (by kernel_rfl) ?_ _
    go_wp2_with fail
    exact bodyPost_ret (v := .tuple #[.agg A, .bool true]) (res_two (p := 8) (u := 9) (d := _) rfl rfl Tryz.underlying68 _ _ (w.heap.size + 1) _ rfl (HZ5.out.store (by rw [HSZ.out]; rfl) HO1.out) HIZ.out) rfl ⟨rfl, below_cellsG (Nat.le_succ _) _ _ _ HB5.out⟩
  · (rw [if_pos (by rfl)]; refine wp_load_mid 68 (.tmp 7) rfl w.heap.size 0 rfl A.toList _ HG.out.range Tryz.underlying68 rfl HIL.out ?_; refine hK.out _ _ trivial (fun hHeld => ?_); clear hK K; try simp only [Act.put, List.setIfInBounds_toArray, List.set_cons_zero, List.set_cons_succ, List.getElem_toArray, List.getElem_cons_zero, List.getElem_cons_succ])
    refine wpAnyH_ready (rs := [1]) (by kernel_rfl) (by simp) (AllReadyH.cons rfl (fun K hK => ?_) AllReadyH.nil)
    (go_simp; go_at_call 126; (with_reducible refine VL.out.mono ?_); rintro en' wv ⟨rfl, rfl⟩; refine hK.out _ _ trivial (fun hHeld => ?_); clear hK K; try simp only [Act.put, List.setIfInBounds_toArray, List.set_cons_zero, List.set_cons_succ, List.getElem_toArray, List.getElem_cons_zero, List.getElem_cons_succ])
    refine wpAnyH_ready (rs := [5]) (by kernel_rfl) (by simp) (AllReadyH.cons rfl (fun K hK => ?_) AllReadyH.nil)
    (go_simp; go_at_call 65; (with_reducible refine (OUT.out _ HR.out).mono ?_); rintro en' w5 ⟨rfl, hb5⟩; have HZ5 := Lib.hid (HZ.out.later hb5); have HB5 := Lib.hid (HB.out.trans (hb5.mono HB.out.size)); clear hb5; refine hK.out _ _ trivial (fun hHeld => ?_); clear hK K; try simp only [Act.put, List.setIfInBounds_toArray, List.set_cons_zero, List.set_cons_succ, List.getElem_toArray, List.getElem_cons_zero, List.getElem_cons_succ])
    refine wpAnyH_take (i := 6) (v := ?_) rfl (by kernel_rfl) (by kernel_rfl) (by kernel_rfl) (fun _ _ _ h => h) (Or.inl ⟨by rfl, ?hy6⟩) (by assumption) ?_
    case hy6 => (intro w hSw; (try dsimp only at hSw); go_simp; try with_reducible rfl)
    try simp only [Act.put, List.setIfInBounds_toArray, List.set_cons_zero, List.set_cons_succ, List.getElem_toArray, List.getElem_cons_zero, List.getElem_cons_succ]
    refine wpAnyH_take (i := 7) (v := ?_) rfl (by kernel_rfl) (by kernel_rfl) (by kernel_rfl) (fun _ _ _ h => h) (Or.inl ⟨by rfl, ?hy7⟩) (by assumption) ?_
    case hy7 => (intro w hSw; (try dsimp only at hSw); go_simp; try with_reducible rfl)
    try simp only [Act.put, List.setIfInBounds_toArray, List.set_cons_zero, List.set_cons_succ, List.getElem_toArray, List.getElem_cons_zero, List.getElem_cons_succ]
    refine wpAnyH_ready (rs := [8]) (by kernel_rfl) (by simp) (AllReadyH.cons rfl (fun K hK => ?_) AllReadyH.nil)
    (rw [if_pos (by rfl)]; refine wp_store_mid 68 (.tmp 8) (.tmp 16) rfl _ 0 A rfl (by rfl) (HZ5.out.there (by rw [HSZ.out]; exact Nat.le_refl _)) HIZ.out HO1.out ?_; refine hK.out _ _ trivial (fun hHeld => ?_); clear hK K; try simp only [Act.put, List.setIfInBounds_toArray, List.set_cons_zero, List.set_cons_succ, List.getElem_toArray, List.getElem_cons_zero, List.getElem_cons_succ])
    refine wpAnyH_take (i := 9) (v := ?_) rfl (by kernel_rfl) (by kernel_rfl) (by kernel_rfl) (fun _ _ _ h => h) (Or.inl ⟨by rfl, ?hy9⟩) (by assumption) ?_
    case hy9 => (intro w hSw; (try dsimp only at hSw); go_simp; try with_reducible rfl)
    try simp only [Act.put, List.setIfInBounds_toArray, List.set_cons_zero, List.set_cons_succ, List.getElem_toArray, List.getElem_cons_zero, List.getElem_cons_succ]
    refine wpAnyH_done (by kernel_rfl) ?_ _
    go_wp2_with fail
    exact bodyPost_ret (v := .tuple #[.agg A, .bool true]) (res_two (p := 8) (u := 9) (d := _) rfl rfl Tryz.underlying68 _ _ (w.heap.size + 1) _ rfl (HZ5.out.store (by rw [HSZ.out]; rfl) HO1.out) HIZ.out) rfl ⟨rfl, below_cellsG (Nat.le_succ _) _ _ _ HB5.out⟩
end Go.Proofs.YtpkkjbmgbgakdaaGreatDoor

/- relay: by which ports the known frame goes. -/
set_option linter.unusedVariables false
set_option linter.unusedSimpArgs false
namespace Go.Proofs.YtpkkjbmgbgakdaaGreatDoor
open Go.RowKit

theorem cells1 {W : World} {B g cap : Nat} (h : Ow 9 enC 185 W B (.slice (some ⟨g, 0, none⟩) 1 cap) [0]) : ∀ i, i < 9 → W.cell? ⟨g, i, none⟩ = (enC 0)[i]? := fun i hi => by
  have h2 : W.ownsRow B 185 9 (.slice (some ⟨g, 0, none⟩) 1 cap) 1 ([0].flatMap enC) := h
  have := World.ownsRow.cellAt h2 i (by omega)
  rw [this]; rfl
set_option maxRecDepth 100000 in
set_option maxHeartbeats 4000000 in
theorem goesA (r q vm f s : Nat) (o : List Int) (w : World) (h : RL w r q vm f s 2 o [(1, 3, 3)] (.slice none 0 0)) :
    Calls Tryz.prog 156 #[.pointer (some ⟨r, 0, none⟩), .int .i64 0, .int .u16 1, .agg #[.int .u8 255, .int .u8 255, .int .u8 255, .int .u8 255, .int .u8 255, .int .u8 255, .int .u8 2, .int .u8 0, .int .u8 0, .int .u8 0, .int .u8 0, .int .u8 1, .bool false, .int .u8 0, .int .u16 0, .int .u16 2048, .string (bs [120])], .int .u8 3] w fun en w' => en = .returned (.int .u8 2) ∧ (∃ g cap, RL w' r q vm f s 2 o [(1, 3, 3)] (.slice (some ⟨g, 0, none⟩) 1 cap) ∧ w.heap.size ≤ g ∧ Ow 9 enC 185 w' w.heap.size (.slice (some ⟨g, 0, none⟩) 1 cap) [0]) ∧ Only f w w' := by
  have RS : Hid (∀ w, Calls Tryz.prog 125 #[.agg #[.int .u8 255, .int .u8 255, .int .u8 255, .int .u8 255, .int .u8 255, .int .u8 255]] w fun en w' => en = .returned (.bool false) ∧ Below w.heap.size w w') := Lib.hid fun w => reserved_any 255 255 255 255 255 255 w
  have hb := (Below.refl w.heap.size w).alloc (Nat.le_refl _) (.cells #[.int .u8 255, .int .u8 255, .int .u8 255, .int .u8 255, .int .u8 255, .int .u8 255, .int .u8 2, .int .u8 0, .int .u8 0, .int .u8 0, .int .u8 0, .int .u8 1, .bool false, .int .u8 0, .int .u16 0, .int .u16 2048, .string (bs [120])] 68)
  have g1 := GB.new 68 w #[.int .u8 255, .int .u8 255, .int .u8 255, .int .u8 255, .int .u8 255, .int .u8 255, .int .u8 2, .int .u8 0, .int .u8 0, .int .u8 0, .int .u8 0, .int .u8 1, .bool false, .int .u8 0, .int .u16 0, .int .u16 2048, .string (bs [120])]
  have h0 := h.later hb
  have hfl := h.ft.g.lt
  obtain ⟨w0, hw0⟩ : ∃ z, w.alloc (.cells #[.int .u8 255, .int .u8 255, .int .u8 255, .int .u8 255, .int .u8 255, .int .u8 255, .int .u8 2, .int .u8 0, .int .u8 0, .int .u8 0, .int .u8 0, .int .u8 1, .bool false, .int .u8 0, .int .u16 0, .int .u16 2048, .string (bs [120])] 68) = z := ⟨_, rfl⟩
  rw [hw0] at hb g1 h0
  have HB := Lib.hid hb
  have HR := Lib.hid h0
  have HG := Lib.hid g1
  have VL : Hid (Calls Tryz.prog 126 #[.pointer (some ⟨r, 0, none⟩)] w0 fun en w' => en = .returned (.pointer (some ⟨q, 0, none⟩)) ∧ w0 = w') := Lib.hid ((rvlans_any r _ (.slice none 0 0) w0 h0.c0 ⟨q, rfl⟩).mono fun e w' h => ⟨h.1, h.2.symm⟩)
  have BA : Hid (Calls Tryz.prog 34 #[.pointer (some ⟨r, 0, none⟩)] w0 fun en w' => en = .returned (.pointer (some ⟨f, 0, none⟩)) ∧ w0 = w') := Lib.hid ((rbase_any r _ (.slice none 0 0) w0 h0.c1 ⟨f, rfl⟩).mono fun e w' h => ⟨h.1, h.2.symm⟩)
  have c0 : w0.cell? ⟨w.heap.size, 0, none⟩ = some (.int .u8 255) := g1.c 0 _ rfl
  have c1 : w0.cell? ⟨w.heap.size, 1, none⟩ = some (.int .u8 255) := g1.c 1 _ rfl
  have c2 : w0.cell? ⟨w.heap.size, 2, none⟩ = some (.int .u8 255) := g1.c 2 _ rfl
  have c3 : w0.cell? ⟨w.heap.size, 3, none⟩ = some (.int .u8 255) := g1.c 3 _ rfl
  have c4 : w0.cell? ⟨w.heap.size, 4, none⟩ = some (.int .u8 255) := g1.c 4 _ rfl
  have c5 : w0.cell? ⟨w.heap.size, 5, none⟩ = some (.int .u8 255) := g1.c 5 _ rfl
  have HFL := Lib.hid hfl
  clear h hb g1 h0 hfl
  go_enter Tryz.func156, Tryz.ntmps156
  go_upto_region 1 with fail
  clear hw0
  go_upto_region 3 with (first
    | (go_at_call 126; with_reducible refine VL.out.mono ?_; rintro e wx ⟨rfl, rfl⟩)
    | (go_at_call 34; with_reducible refine BA.out.mono ?_; rintro e wx ⟨rfl, rfl⟩)
    | (go_at_call 125; with_reducible refine (RS.out _).mono ?_; rintro e w1 ⟨rfl, hb1⟩))
  have HB1 := Lib.hid (HB.out.trans (hb1.mono HB.out.size))
  have R1 := HR.out.later hb1
  have G1 := HG.out.later hb1
  have HLF := Lib.hid HG.out.lt
  clear hb1 c0 c1 c2 c3 c4 c5 VL BA RS HB HR
  have ME : Hid (Calls Tryz.prog 191 #[.pointer (some ⟨q, 0, none⟩), .int .u16 1] w1 fun en w' => en = .returned (.int .u8 3) ∧ w1 = w') := Lib.hid (vmembers_any q vm 2 o [(1, 3, 3)] 1 w1 R1.ts (by decide))
  have c6 : w1.cell? ⟨w.heap.size, 6, none⟩ = some (.int .u8 2) := G1.c 6 _ rfl
  have c7 : w1.cell? ⟨w.heap.size, 7, none⟩ = some (.int .u8 0) := G1.c 7 _ rfl
  have c8 : w1.cell? ⟨w.heap.size, 8, none⟩ = some (.int .u8 0) := G1.c 8 _ rfl
  have c9 : w1.cell? ⟨w.heap.size, 9, none⟩ = some (.int .u8 0) := G1.c 9 _ rfl
  have c10 : w1.cell? ⟨w.heap.size, 10, none⟩ = some (.int .u8 0) := G1.c 10 _ rfl
  have c11 : w1.cell? ⟨w.heap.size, 11, none⟩ = some (.int .u8 1) := G1.c 11 _ rfl
  have LE := Lib.hid (flearn_one f s w1 R1.ft)
  have R1H := Lib.hid R1
  have G1H := Lib.hid G1
  clear R1 G1
  go_upto_region 9 with (first
    | (go_at_call 191; with_reducible refine ME.out.mono ?_; rintro e wx ⟨rfl, rfl⟩)
    | (go_at_call 208; with_reducible refine LE.out.mono ?_; rintro e w2 ⟨v2, rfl, ft2, ow2, on2⟩))
  obtain ⟨g, cap, t, rfl, hg, hcp, -⟩ := ow2.ne (by decide)
  have G2 := G1H.out.only on2 (by have := HFL.out; omega)
  have d0 : w2.cell? ⟨w.heap.size, 0, none⟩ = some (.int .u8 255) := G2.c 0 _ rfl
  have d1 : w2.cell? ⟨w.heap.size, 1, none⟩ = some (.int .u8 255) := G2.c 1 _ rfl
  have d2 : w2.cell? ⟨w.heap.size, 2, none⟩ = some (.int .u8 255) := G2.c 2 _ rfl
  have d3 : w2.cell? ⟨w.heap.size, 3, none⟩ = some (.int .u8 255) := G2.c 3 _ rfl
  have d4 : w2.cell? ⟨w.heap.size, 4, none⟩ = some (.int .u8 255) := G2.c 4 _ rfl
  have d5 : w2.cell? ⟨w.heap.size, 5, none⟩ = some (.int .u8 255) := G2.c 5 _ rfl
  have LK := Lib.hid (flook_one f s g cap w2 ft2 (cells1 ow2))
  have R1 := R1H.out
  have HR2 : Hid (RL w2 r q vm f s 2 o [(1, 3, 3)] (.slice (some ⟨g, 0, none⟩) 1 cap)) := Lib.hid ⟨R1.g.only on2 R1.nr.2.2.1, R1.ts.blk (on2.block q R1.ts.tb.lt (by simpa using R1.nr.2.2.2.2.1)) (on2.block vm R1.ts.vm.lt (by simpa using R1.nr.2.2.2.2.2.2.1)), ft2, R1.nr⟩
  have HO2 := Lib.hid ow2
  have HN2 := Lib.hid ((below_only HB1.out).trans on2)
  have HG := Lib.hid hg
  clear ow2 ft2 on2 G2 R1 hg
  go_wp2_with (go_at_call 209; with_reducible refine LK.out.mono ?_; rintro e w3 ⟨rfl, hb3⟩)
  go_ret
  exact ⟨rfl, ⟨g, cap, HR2.out.later hb3, Nat.le_trans HB1.out.size HG.out, (HO2.out.later hb3).mono HB1.out.size⟩, HN2.out.trans (below_only hb3)⟩
end Go.Proofs.YtpkkjbmgbgakdaaGreatDoor
