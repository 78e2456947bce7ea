/- ZP55: the texts PA5, PA6, PA7, G10 as one. -/
import Derived.Test.YtlkdfofpnmpidaaGreatZP54
import Derived.OrdersHeld
import Derived.Test.YtlkdfofpnmpidaaGreatZP22
import Derived.Laws.StructEq
/- MepPair: begins. -/
set_option linter.unusedVariables false
set_option linter.unusedSimpArgs false
namespace Go.Proofs.YtlkdfofpnmpidaaGreat
open Go.RowKit

theorem pO_ok {lv iv k : Int} (hlv : 0 ≤ lv ∧ lv < 8) (hiv : iv = 4 ∨ iv = 5) (hk : k = 1 ∨ k = 2) : (pO lv iv k).Ok :=
  ⟨⟨by show 0 ≤ lv ∧ lv < 256; omega, by show 0 ≤ k ∧ k < 65536; omega, by show 0 ≤ iv ∧ iv < 256; omega, by show mdM.length ≤ 1000; rw [mdM_len]; decide⟩, pM_ok hk, ⟨show (0 : Int) ≤ 1 by decide, show (1 : Int) < 256 by decide⟩⟩
theorem newV_P {lv iv k : Int} (hlv : 0 ≤ lv ∧ lv < 8) (hiv : iv = 4 ∨ iv = 5) (hk : k = 1 ∨ k = 2) : newV (pO lv iv k).a [3 - k] = some [(3 - k, lastC iv, 0)] := by
  unfold newV
  rw [show mayC (pO lv iv k).a.lv (pO lv iv k).a.iv (pO lv iv k).a.mp (pO lv iv k).a.md = true from mayM hlv.2 hiv (by show 1 ≤ k ∧ k ≤ 8191; omega), if_neg (by simp)]
  unfold newGo
  rw [show mayC (pO lv iv k).a.lv (pO lv iv k).a.iv (3 - k) (pO lv iv k).a.md = true from mayM hlv.2 hiv (by omega)]
  have e : ((3 - k == (pO lv iv k).a.mp) || !true) = false := by
    show ((3 - k == k) || false) = false
    rw [Bool.or_false, beq_eq_false_iff_ne]; omega
  rw [e]
  rfl
/-- A point of the pair is made. -/
theorem pnew_any {lv iv k : Int} (hlv : 0 ≤ lv ∧ lv < 8) (hiv : iv = 4 ∨ iv = 5) (hk : k = 1 ∨ k = 2) (g : Nat) (w : World) (hc : w.cell? ⟨g, 0, none⟩ = some (.int .u16 (3 - k))) :
    Calls Tryz.prog 8 #[.agg #[.int .u8 lv, .int .u8 iv, .string (bs mdM), .int .u16 k, .slice (some ⟨g, 0, none⟩) 1 1, .int .u8 2, .int .u8 k, .int .u8 0, .int .u8 0, .int .u8 0, .int .u8 0, .int .u8 1]] w fun en w' =>
      ∃ x, en = .returned (.tuple #[.pointer (some ⟨x.p, 0, none⟩), .int .i64 0]) ∧ MM w' (pO lv iv k) (.slice (some ⟨g, 0, none⟩) 1 1) x (ms0 [(3 - k, lastC iv, 0)]) (.slice none 0 0) ∧ (w.heap.size ≤ x.p ∧ w.heap.size ≤ x.q ∧ w.heap.size ≤ x.m ∧ w.heap.size ≤ x.r) ∧ Below w.heap.size w w' := by
  refine (mnew_any (pO lv iv k) (pO_ok hlv hiv hk) (.slice (some ⟨g, 0, none⟩) 1 1) [3 - k] (by simp; omega) w (.inr ⟨⟨g, 0, none⟩, 1, rfl, .inr ⟨g, 0, rfl, fun j hj i hi => ?_⟩⟩) (by simp)).mono ?_
  · have hj0 : j = 0 := by simpa using hj
    have hi0 : i = 0 := by omega
    subst hj0 hi0
    exact hc
  · rintro en w' (⟨h | h | h, _⟩ | ⟨V, x, hV, -, -, he, hm, hl, hb⟩)
    · rw [newV_P hlv hiv hk] at h; cases h
    · exact absurd (show (1 : Int) ≤ 1 ∧ (1 : Int) ≤ 4 by decide) h
    · rw [show (pO lv iv k).mc = pM k from rfl, pM_host hk] at h; cases h
    · rw [newV_P hlv hiv hk] at hV; cases hV; exact ⟨x, he, hm, hl, hb⟩
theorem D_noneP {x : Mp} {B k : Nat} (lo : B ≤ x.p ∧ B ≤ x.q ∧ B ≤ x.m ∧ B ≤ x.r) (h : x.D (.slice none 0 0) k) : B ≤ k := by
  rcases h with rfl | rfl | rfl | rfl | h
  · exact lo.1
  · exact lo.2.1
  · exact lo.2.2.1
  · exact lo.2.2.2
  · cases h
set_option maxRecDepth 100000 in
set_option maxHeartbeats 16000000 in
theorem begins_any (lv iv : Int) (hlv : 0 ≤ lv ∧ lv < 8) (hiv : iv = 4 ∨ iv = 5) (w : World) : Calls Tryz.prog 22 #[.int .u8 lv, .int .u8 iv] w fun en w' => ∃ P x0 x1 v0 v1, en = .returned (.pointer (some ⟨P, 0, none⟩)) ∧ w.heap.size ≤ P ∧ PW w w' P (pO lv iv 1) (pO lv iv 2) v0 v1 x0 x1 (ms0 [(2, lastC iv, 0)]) (ms0 [(1, lastC iv, 0)]) (.slice none 0 0) (.slice none 0 0) := by
  have MD : Hid (∀ w, Calls Tryz.prog 26 #[] w fun en w' => en = .returned (.string (bs mdM)) ∧ Below w.heap.size w w') := Lib.hid maid20_any
  have NW1 : Hid (∀ (g : Nat) w, w.cell? ⟨g, 0, none⟩ = some (.int .u16 2) → Calls Tryz.prog 8 #[.agg #[.int .u8 lv, .int .u8 iv, .string (bs mdM), .int .u16 1, .slice (some ⟨g, 0, none⟩) 1 1, .int .u8 2, .int .u8 1, .int .u8 0, .int .u8 0, .int .u8 0, .int .u8 0, .int .u8 1]] w fun en w' =>
      ∃ x, en = .returned (.tuple #[.pointer (some ⟨x.p, 0, none⟩), .int .i64 0]) ∧ MM w' (pO lv iv 1) (.slice (some ⟨g, 0, none⟩) 1 1) x (ms0 [(2, lastC iv, 0)]) (.slice none 0 0) ∧ (w.heap.size ≤ x.p ∧ w.heap.size ≤ x.q ∧ w.heap.size ≤ x.m ∧ w.heap.size ≤ x.r) ∧ Below w.heap.size w w') := Lib.hid fun g w hc => pnew_any (k := 1) hlv hiv (by omega) g w hc
  have NW2 : Hid (∀ (g : Nat) w, w.cell? ⟨g, 0, none⟩ = some (.int .u16 1) → Calls Tryz.prog 8 #[.agg #[.int .u8 lv, .int .u8 iv, .string (bs mdM), .int .u16 2, .slice (some ⟨g, 0, none⟩) 1 1, .int .u8 2, .int .u8 2, .int .u8 0, .int .u8 0, .int .u8 0, .int .u8 0, .int .u8 1]] w fun en w' =>
      ∃ x, en = .returned (.tuple #[.pointer (some ⟨x.p, 0, none⟩), .int .i64 0]) ∧ MM w' (pO lv iv 2) (.slice (some ⟨g, 0, none⟩) 1 1) x (ms0 [(1, lastC iv, 0)]) (.slice none 0 0) ∧ (w.heap.size ≤ x.p ∧ w.heap.size ≤ x.q ∧ w.heap.size ≤ x.m ∧ w.heap.size ≤ x.r) ∧ Below w.heap.size w w') := Lib.hid fun g w hc => pnew_any (k := 2) hlv hiv (by omega) g w hc
  clear hlv hiv
  have z1 : IntKind.i64.wrap 1 = 1 := by decide
  have z2 : IntKind.i64.wrap 2 = 2 := by decide
  have z3 : IntKind.u16.wrap 1 = 1 := by decide
  have z4 : IntKind.u16.wrap 2 = 2 := by decide
  go_enter Tryz.func22, Tryz.ntmps22
  go_upto_region 2 with fail
  have G0 : Hid (GB 77 (w.alloc (.cells #[.pointer none, .pointer none, .int .u8 2, .int .u8 1, .int .u8 0, .int .u8 0, .int .u8 0, .int .u8 0, .int .u8 2, .int .u8 2, .int .u8 0, .int .u8 0, .int .u8 0, .int .u8 0] 77)) w.heap.size #[.pointer none, .pointer none, .int .u8 2, .int .u8 1, .int .u8 0, .int .u8 0, .int .u8 0, .int .u8 0, .int .u8 2, .int .u8 2, .int .u8 0, .int .u8 0, .int .u8 0, .int .u8 0]) := Lib.hid (GB.new _ _ _)
  have B0 : Hid (Below w.heap.size w (w.alloc (.cells #[.pointer none, .pointer none, .int .u8 2, .int .u8 1, .int .u8 0, .int .u8 0, .int .u8 0, .int .u8 0, .int .u8 2, .int .u8 2, .int .u8 0, .int .u8 0, .int .u8 0, .int .u8 0] 77))) := Lib.hid ((Below.refl _ _).alloc (Nat.le_refl _) _)
  obtain ⟨w0, hw0⟩ : ∃ k, w.alloc (.cells #[.pointer none, .pointer none, .int .u8 2, .int .u8 1, .int .u8 0, .int .u8 0, .int .u8 0, .int .u8 0, .int .u8 2, .int .u8 2, .int .u8 0, .int .u8 0, .int .u8 0, .int .u8 0] 77) = k := ⟨_, rfl⟩
  rw [hw0] at G0 B0 ⊢
  obtain ⟨P, hP⟩ : ∃ k, w.heap.size = k := ⟨_, rfl⟩
  have HP := Lib.hid hP
  rw [hP] at G0 ⊢
  clear hw0 hP
  go_wp2_with fail
  refine wp_loop_rounds 3 ?_
  rw [rounds_succ]
  go_upto_region 5 with fail
  go_cut [7, 8] (fun s7 s8 wx => ∃ (x : Mp) (v : Value), s7 = .pointer (some ⟨x.p, 0, none⟩) ∧ s8 = .int .i64 0 ∧ Hid (MM wx (pO lv iv 1) v x (ms0 [(2, lastC iv, 0)]) (.slice none 0 0) ∧ (w0.heap.size ≤ x.p ∧ w0.heap.size ≤ x.q ∧ w0.heap.size ≤ x.m ∧ w0.heap.size ≤ x.r) ∧ Below w0.heap.size w0 wx))
  case first =>
    have SX : Hid (∀ W, Below w0.heap.size w0 W → W.cell? ⟨P, 2, none⟩ = some (.int .u8 2) ∧ W.cell? ⟨P, 3, none⟩ = some (.int .u8 1) ∧ W.cell? ⟨P, 4, none⟩ = some (.int .u8 0) ∧ W.cell? ⟨P, 5, none⟩ = some (.int .u8 0) ∧ W.cell? ⟨P, 6, none⟩ = some (.int .u8 0) ∧ W.cell? ⟨P, 7, none⟩ = some (.int .u8 0)) := Lib.hid fun W hb => by
      have g := G0.out.later hb
      exact ⟨g.c 2 _ rfl, g.c 3 _ rfl, g.c 4 _ rfl, g.c 5 _ rfl, g.c 6 _ rfl, g.c 7 _ rfl⟩
    have BD : Below w0.heap.size w0 w0.drew := (Below.refl _ _).drew
    refine wp_region_held_drew (S := fun W => W.cell? ⟨P, 2, none⟩ = some (.int .u8 2) ∧ W.cell? ⟨P, 3, none⟩ = some (.int .u8 1) ∧ W.cell? ⟨P, 4, none⟩ = some (.int .u8 0) ∧ W.cell? ⟨P, 5, none⟩ = some (.int .u8 0) ∧ W.cell? ⟨P, 6, none⟩ = some (.int .u8 0) ∧ W.cell? ⟨P, 7, none⟩ = some (.int .u8 0)) (by kernel_rfl) (SX.out _ BD) (fun hHeld => ?_)
    refine wpAnyH_take (i := 0) (v := ?_) rfl (by kernel_rfl) (by kernel_rfl) (by kernel_rfl) (fun _ _ _ h => h) (Or.inl ⟨by rfl, ?hy0⟩) (by assumption) ?_
    case hy0 => (intro w hSw; (try dsimp only at hSw); go_simp; try with_reducible rfl)
    try simp only [Act.put, List.setIfInBounds_toArray, List.set_cons_zero, List.set_cons_succ, List.getElem_toArray, List.getElem_cons_zero, List.getElem_cons_succ]
    refine wpAnyH_take (i := 1) (v := ?_) rfl (by kernel_rfl) (by kernel_rfl) (by kernel_rfl) (fun _ _ _ h => h) (Or.inl ⟨by rfl, ?hy1⟩) (by assumption) ?_
    case hy1 => (intro w hSw; (try dsimp only at hSw); go_simp; try with_reducible rfl)
    try simp only [Act.put, List.setIfInBounds_toArray, List.set_cons_zero, List.set_cons_succ, List.getElem_toArray, List.getElem_cons_zero, List.getElem_cons_succ]
    refine wpAnyH_take (i := 3) (v := ?_) rfl (by kernel_rfl) (by kernel_rfl) (by kernel_rfl) (fun _ _ _ h => h) (Or.inl ⟨by rfl, ?hy3⟩) (by assumption) ?_
    case hy3 => (intro w hSw; (try dsimp only at hSw); go_simp; try with_reducible rfl)
    try simp only [Act.put, List.setIfInBounds_toArray, List.set_cons_zero, List.set_cons_succ, List.getElem_toArray, List.getElem_cons_zero, List.getElem_cons_succ]
    refine wpAnyH_take (i := 4) (v := ?_) rfl (by kernel_rfl) (by kernel_rfl) (by kernel_rfl) (fun _ _ _ h => h) (Or.inl ⟨by rfl, ?hy4⟩) (by assumption) ?_
    case hy4 => (intro w hSw; (try dsimp only at hSw); go_simp; try with_reducible rfl)
    try simp only [Act.put, List.setIfInBounds_toArray, List.set_cons_zero, List.set_cons_succ, List.getElem_toArray, List.getElem_cons_zero, List.getElem_cons_succ]
    refine wpAnyH_take (i := 5) (v := ?_) rfl (by kernel_rfl) (by kernel_rfl) (by kernel_rfl) (fun _ _ _ h => h) (Or.inl ⟨by rfl, ?hy5⟩) (by assumption) ?_
    case hy5 => (intro w hSw; (try dsimp only at hSw); go_simp; try with_reducible rfl)
    try simp only [Act.put, List.setIfInBounds_toArray, List.set_cons_zero, List.set_cons_succ, List.getElem_toArray, List.getElem_cons_zero, List.getElem_cons_succ]
    refine wpAnyH_take (i := 6) (v := ?_) rfl (by kernel_rfl) (by kernel_rfl) (by kernel_rfl) (fun _ _ _ h => h) (Or.inl ⟨by rfl, ?hy6⟩) (by assumption) ?_
    case hy6 => (intro w hSw; (try dsimp only at hSw); go_simp; try with_reducible rfl)
    try simp only [Act.put, List.setIfInBounds_toArray, List.set_cons_zero, List.set_cons_succ, List.getElem_toArray, List.getElem_cons_zero, List.getElem_cons_succ]
    refine wpAnyH_take (i := 7) (v := ?_) rfl (by kernel_rfl) (by kernel_rfl) (by kernel_rfl) (fun _ _ _ h => h) (Or.inl ⟨by rfl, ?hy7⟩) (by assumption) ?_
    case hy7 => (intro w hSw; (try dsimp only at hSw); go_simp; try with_reducible rfl)
    try simp only [Act.put, List.setIfInBounds_toArray, List.set_cons_zero, List.set_cons_succ, List.getElem_toArray, List.getElem_cons_zero, List.getElem_cons_succ]
    refine wpAnyH_take (i := 8) (v := ?_) rfl (by kernel_rfl) (by kernel_rfl) (by kernel_rfl) (fun _ _ _ h => h) (Or.inl ⟨by rfl, ?hy8⟩) (by assumption) ?_
    case hy8 => (intro w hSw; (try dsimp only at hSw); go_simp; try with_reducible rfl)
    try simp only [Act.put, List.setIfInBounds_toArray, List.set_cons_zero, List.set_cons_succ, List.getElem_toArray, List.getElem_cons_zero, List.getElem_cons_succ]
    refine wpAnyH_take (i := 10) (v := ?_) rfl (by kernel_rfl) (by kernel_rfl) (by kernel_rfl) (fun _ _ _ h => h) (Or.inl ⟨by rfl, ?hy10⟩) (by assumption) ?_
    case hy10 => (intro w hSw; (try dsimp only at hSw); go_simp; try with_reducible rfl)
    try simp only [Act.put, List.setIfInBounds_toArray, List.set_cons_zero, List.set_cons_succ, List.getElem_toArray, List.getElem_cons_zero, List.getElem_cons_succ]
    refine wpAnyH_take (i := 11) (v := ?_) rfl (by kernel_rfl) (by kernel_rfl) (by kernel_rfl) (fun _ _ _ h => h) (Or.inl ⟨by rfl, ?hy11⟩) (by assumption) ?_
    case hy11 => (intro w hSw; (try dsimp only at hSw); go_simp; try with_reducible rfl)
    try simp only [Act.put, List.setIfInBounds_toArray, List.set_cons_zero, List.set_cons_succ, List.getElem_toArray, List.getElem_cons_zero, List.getElem_cons_succ]
    refine wpAnyH_take (i := 12) (v := ?_) rfl (by kernel_rfl) (by kernel_rfl) (by kernel_rfl) (fun _ _ _ h => h) (Or.inl ⟨by rfl, ?hy12⟩) (by assumption) ?_
    case hy12 => (intro w hSw; (try dsimp only at hSw); go_simp; try with_reducible rfl)
    try simp only [Act.put, List.setIfInBounds_toArray, List.set_cons_zero, List.set_cons_succ, List.getElem_toArray, List.getElem_cons_zero, List.getElem_cons_succ]
    refine wpAnyH_take (i := 13) (v := ?_) rfl (by kernel_rfl) (by kernel_rfl) (by kernel_rfl) (fun _ _ _ h => h) (Or.inl ⟨by rfl, ?hy13⟩) (by assumption) ?_
    case hy13 => (intro w hSw; (try dsimp only at hSw); go_simp; try with_reducible rfl)
    try simp only [Act.put, List.setIfInBounds_toArray, List.set_cons_zero, List.set_cons_succ, List.getElem_toArray, List.getElem_cons_zero, List.getElem_cons_succ]
    refine wpAnyH_take (i := 14) (v := ?_) rfl (by kernel_rfl) (by kernel_rfl) (by kernel_rfl) (fun _ _ _ h => h) (Or.inl ⟨by rfl, ?hy14⟩) (by assumption) ?_
    case hy14 => (intro w hSw; (try dsimp only at hSw); go_simp; try with_reducible rfl)
    try simp only [Act.put, List.setIfInBounds_toArray, List.set_cons_zero, List.set_cons_succ, List.getElem_toArray, List.getElem_cons_zero, List.getElem_cons_succ]
    refine wpAnyH_take (i := 15) (v := ?_) rfl (by kernel_rfl) (by kernel_rfl) (by kernel_rfl) (fun _ _ _ h => h) (Or.inl ⟨by rfl, ?hy15⟩) (by assumption) ?_
    case hy15 => (intro w hSw; (try dsimp only at hSw); go_simp; try with_reducible rfl)
    try simp only [Act.put, List.setIfInBounds_toArray, List.set_cons_zero, List.set_cons_succ, List.getElem_toArray, List.getElem_cons_zero, List.getElem_cons_succ]
    refine wpAnyH_ready (rs := [2, 9]) (by kernel_rfl) (by simp) (AllReadyH.cons rfl (fun K hK => ?_) (AllReadyH.cons rfl (fun K hK => ?_) AllReadyH.nil))
    · (go_simp; go_at_call 26; (with_reducible refine (MD.out _).mono ?_); rintro en wm ⟨rfl, hb⟩; have B1 := Lib.hid (BD.trans hb); refine hK.out _ _ (SX.out _ B1.out) (fun hHeld => ?_); clear hK K hb; try simp only [Act.put, List.setIfInBounds_toArray, List.set_cons_zero, List.set_cons_succ, List.getElem_toArray, List.getElem_cons_zero, List.getElem_cons_succ])
      have B2 := Lib.hid (B1.out.trans (((Below.refl wm.heap.size wm).alloc (Nat.le_refl _) (.cells #[.int .u16 2] 22)).mono B1.out.size))
      have HC : Hid ((wm.alloc (.cells #[.int .u16 2] 22)).cell? ⟨wm.heap.size, 0, none⟩ = some (.int .u16 2)) := Lib.hid ((GB.new 22 wm #[.int .u16 2]).c 0 _ rfl)
      refine wpAnyH_ready (rs := [9]) (by kernel_rfl) (by simp) (AllReadyH.cons rfl (fun K hK => ?_) AllReadyH.nil)
      (go_simp; refine hK.out _ _ (SX.out _ B2.out) (fun hHeld => ?_); clear hK K; try simp only [Act.put, List.setIfInBounds_toArray, List.set_cons_zero, List.set_cons_succ, List.getElem_toArray, List.getElem_cons_zero, List.getElem_cons_succ])
      refine wpAnyH_take (i := 16) (v := ?_) rfl (by kernel_rfl) (by kernel_rfl) (by kernel_rfl) (fun _ _ _ h => h) (Or.inl ⟨by rfl, ?hy16⟩) (by assumption) ?_
      case hy16 => (intro w hSw; (try dsimp only at hSw); go_simp; try with_reducible rfl)
      try simp only [Act.put, List.setIfInBounds_toArray, List.set_cons_zero, List.set_cons_succ, List.getElem_toArray, List.getElem_cons_zero, List.getElem_cons_succ]
      refine wpAnyH_ready (rs := [17]) (by kernel_rfl) (by simp) (AllReadyH.cons rfl (fun K hK => ?_) AllReadyH.nil)
      (go_simp; go_at_call 8; (with_reducible refine (NW1.out wm.heap.size _ HC.out).mono ?_); rintro en wn ⟨x, rfl, hm, hl, hb⟩; have BN := Lib.hid (B2.out.trans (hb.mono B2.out.size)); have MN := Lib.hid (And.intro hm hl); refine hK.out _ _ (SX.out _ BN.out) (fun hHeld => ?_); clear hK K hm hl hb; try simp only [Act.put, List.setIfInBounds_toArray, List.set_cons_zero, List.set_cons_succ, List.getElem_toArray, List.getElem_cons_zero, List.getElem_cons_succ])
      refine wpAnyH_take (i := 18) (v := ?_) rfl (by kernel_rfl) (by kernel_rfl) (by kernel_rfl) (fun _ _ _ h => h) (Or.inl ⟨by rfl, ?hy18⟩) (by assumption) ?_
      case hy18 => (intro w hSw; (try dsimp only at hSw); go_simp; try with_reducible rfl)
      try simp only [Act.put, List.setIfInBounds_toArray, List.set_cons_zero, List.set_cons_succ, List.getElem_toArray, List.getElem_cons_zero, List.getElem_cons_succ]
      refine wpAnyH_take (i := 19) (v := ?_) rfl (by kernel_rfl) (by kernel_rfl) (by kernel_rfl) (fun _ _ _ h => h) (Or.inl ⟨by rfl, ?hy19⟩) (by assumption) ?_
      case hy19 => (intro w hSw; (try dsimp only at hSw); go_simp; try with_reducible rfl)
      try simp only [Act.put, List.setIfInBounds_toArray, List.set_cons_zero, List.set_cons_succ, List.getElem_toArray, List.getElem_cons_zero, List.getElem_cons_succ]
      refine wpAnyH_take (i := 20) (v := ?_) rfl (by kernel_rfl) (by kernel_rfl) (by kernel_rfl) (fun _ _ _ h => h) (Or.inl ⟨by rfl, ?hy20⟩) (by assumption) ?_
      case hy20 => (intro w hSw; (try dsimp only at hSw); go_simp; try with_reducible rfl)
      try simp only [Act.put, List.setIfInBounds_toArray, List.set_cons_zero, List.set_cons_succ, List.getElem_toArray, List.getElem_cons_zero, List.getElem_cons_succ]
      refine wpAnyH_take (i := 21) (v := ?_) rfl (by kernel_rfl) (by kernel_rfl) (by kernel_rfl) (fun _ _ _ h => h) (Or.inl ⟨by rfl, ?hy21⟩) (by assumption) ?_
      case hy21 => (intro w hSw; (try dsimp only at hSw); go_simp; try with_reducible rfl)
      try simp only [Act.put, List.setIfInBounds_toArray, List.set_cons_zero, List.set_cons_succ, List.getElem_toArray, List.getElem_cons_zero, List.getElem_cons_succ]
      refine wpAnyH_take (i := 22) (v := ?_) rfl (by kernel_rfl) (by kernel_rfl) (by kernel_rfl) (fun _ _ _ h => h) (Or.inl ⟨by rfl, ?hy22⟩) (by assumption) ?_
      case hy22 => (intro w hSw; (try dsimp only at hSw); go_simp; try with_reducible rfl)
      try simp only [Act.put, List.setIfInBounds_toArray, List.set_cons_zero, List.set_cons_succ, List.getElem_toArray, List.getElem_cons_zero, List.getElem_cons_succ]
      refine wpAnyH_done (by kernel_rfl) ?_ _
      clear hHeld
      go_wp2_with fail
      go_meet
      exact ⟨x, _, rfl, rfl, Lib.hid ⟨MN.out.1, (by have h1 := B2.out.size; have h2 := MN.out.2; omega), BN.out⟩⟩
    · (go_simp; have B1 := Lib.hid (BD.trans ((Below.refl w0.drew.heap.size w0.drew).alloc (Nat.le_refl _) (.cells #[.int .u16 2] 22))); refine hK.out _ _ (SX.out _ B1.out) (fun hHeld => ?_); clear hK K; try simp only [Act.put, List.setIfInBounds_toArray, List.set_cons_zero, List.set_cons_succ, List.getElem_toArray, List.getElem_cons_zero, List.getElem_cons_succ])
      refine wpAnyH_ready (rs := [2]) (by kernel_rfl) (by simp) (AllReadyH.cons rfl (fun K hK => ?_) AllReadyH.nil)
      (go_simp; go_at_call 26; (with_reducible refine (MD.out _).mono ?_); rintro en wm ⟨rfl, hb⟩; have B2 := Lib.hid (B1.out.trans (hb.mono B1.out.size)); have HC : Hid (wm.cell? ⟨w0.heap.size, 0, none⟩ = some (.int .u16 2)) := Lib.hid (((GB.new 22 w0.drew #[.int .u16 2]).later hb).c 0 _ rfl); refine hK.out _ _ (SX.out _ B2.out) (fun hHeld => ?_); clear hK K hb; try simp only [Act.put, List.setIfInBounds_toArray, List.set_cons_zero, List.set_cons_succ, List.getElem_toArray, List.getElem_cons_zero, List.getElem_cons_succ])
      refine wpAnyH_take (i := 16) (v := ?_) rfl (by kernel_rfl) (by kernel_rfl) (by kernel_rfl) (fun _ _ _ h => h) (Or.inl ⟨by rfl, ?hy16⟩) (by assumption) ?_
      case hy16 => (intro w hSw; (try dsimp only at hSw); go_simp; try with_reducible rfl)
      try simp only [Act.put, List.setIfInBounds_toArray, List.set_cons_zero, List.set_cons_succ, List.getElem_toArray, List.getElem_cons_zero, List.getElem_cons_succ]
      refine wpAnyH_ready (rs := [17]) (by kernel_rfl) (by simp) (AllReadyH.cons rfl (fun K hK => ?_) AllReadyH.nil)
      (go_simp; go_at_call 8; (with_reducible refine (NW1.out w0.heap.size _ HC.out).mono ?_); rintro en wn ⟨x, rfl, hm, hl, hb⟩; have BN := Lib.hid (B2.out.trans (hb.mono B2.out.size)); have MN := Lib.hid (And.intro hm hl); refine hK.out _ _ (SX.out _ BN.out) (fun hHeld => ?_); clear hK K hm hl hb; try simp only [Act.put, List.setIfInBounds_toArray, List.set_cons_zero, List.set_cons_succ, List.getElem_toArray, List.getElem_cons_zero, List.getElem_cons_succ])
      refine wpAnyH_take (i := 18) (v := ?_) rfl (by kernel_rfl) (by kernel_rfl) (by kernel_rfl) (fun _ _ _ h => h) (Or.inl ⟨by rfl, ?hy18⟩) (by assumption) ?_
      case hy18 => (intro w hSw; (try dsimp only at hSw); go_simp; try with_reducible rfl)
      try simp only [Act.put, List.setIfInBounds_toArray, List.set_cons_zero, List.set_cons_succ, List.getElem_toArray, List.getElem_cons_zero, List.getElem_cons_succ]
      refine wpAnyH_take (i := 19) (v := ?_) rfl (by kernel_rfl) (by kernel_rfl) (by kernel_rfl) (fun _ _ _ h => h) (Or.inl ⟨by rfl, ?hy19⟩) (by assumption) ?_
      case hy19 => (intro w hSw; (try dsimp only at hSw); go_simp; try with_reducible rfl)
      try simp only [Act.put, List.setIfInBounds_toArray, List.set_cons_zero, List.set_cons_succ, List.getElem_toArray, List.getElem_cons_zero, List.getElem_cons_succ]
      refine wpAnyH_take (i := 20) (v := ?_) rfl (by kernel_rfl) (by kernel_rfl) (by kernel_rfl) (fun _ _ _ h => h) (Or.inl ⟨by rfl, ?hy20⟩) (by assumption) ?_
      case hy20 => (intro w hSw; (try dsimp only at hSw); go_simp; try with_reducible rfl)
      try simp only [Act.put, List.setIfInBounds_toArray, List.set_cons_zero, List.set_cons_succ, List.getElem_toArray, List.getElem_cons_zero, List.getElem_cons_succ]
      refine wpAnyH_take (i := 21) (v := ?_) rfl (by kernel_rfl) (by kernel_rfl) (by kernel_rfl) (fun _ _ _ h => h) (Or.inl ⟨by rfl, ?hy21⟩) (by assumption) ?_
      case hy21 => (intro w hSw; (try dsimp only at hSw); go_simp; try with_reducible rfl)
      try simp only [Act.put, List.setIfInBounds_toArray, List.set_cons_zero, List.set_cons_succ, List.getElem_toArray, List.getElem_cons_zero, List.getElem_cons_succ]
      refine wpAnyH_take (i := 22) (v := ?_) rfl (by kernel_rfl) (by kernel_rfl) (by kernel_rfl) (fun _ _ _ h => h) (Or.inl ⟨by rfl, ?hy22⟩) (by assumption) ?_
      case hy22 => (intro w hSw; (try dsimp only at hSw); go_simp; try with_reducible rfl)
      try simp only [Act.put, List.setIfInBounds_toArray, List.set_cons_zero, List.set_cons_succ, List.getElem_toArray, List.getElem_cons_zero, List.getElem_cons_succ]
      refine wpAnyH_done (by kernel_rfl) ?_ _
      clear hHeld
      go_wp2_with fail
      go_meet
      exact ⟨x, _, rfl, rfl, Lib.hid ⟨MN.out.1, (by have h1 := B2.out.size; have h2 := MN.out.2; omega), BN.out⟩⟩
  case rest =>
    obtain ⟨x0, v0, rfl, rfl, H0⟩ := hcut
    have G1 := Lib.hid (G0.out.later H0.out.2.2)
    have f0 := G1.out.fr 0
    have c0 := G1.out.c 0 _ rfl
    have hP0 := G0.out.lt
    have G2 : Hid (GB 77 (wc.setCell ⟨P, 0, none⟩ (.pointer (some ⟨x0.p, 0, none⟩))) P #[.pointer (some ⟨x0.p, 0, none⟩), .pointer none, .int .u8 2, .int .u8 1, .int .u8 0, .int .u8 0, .int .u8 0, .int .u8 0, .int .u8 2, .int .u8 2, .int .u8 0, .int .u8 0, .int .u8 0, .int .u8 0]) := Lib.hid (G1.out.set 0 _)
    have M2 : Hid (MM (wc.setCell ⟨P, 0, none⟩ (.pointer (some ⟨x0.p, 0, none⟩))) (pO lv iv 1) v0 x0 (ms0 [(2, lastC iv, 0)]) (.slice none 0 0)) := Lib.hid (H0.out.1.fr (Fr.set (D := fun k => k = P) rfl _ _) (fun k hk e => by have := D_noneP H0.out.2.1 hk; omega))
    have B2 : Hid (Below w.heap.size w (wc.setCell ⟨P, 0, none⟩ (.pointer (some ⟨x0.p, 0, none⟩)))) := Lib.hid (below_set (B0.out.trans (H0.out.2.2.mono B0.out.size)) (Nat.le_of_eq HP.out) _)
    have L0 : Hid (P < w0.heap.size ∧ w0.heap.size ≤ x0.p ∧ w0.heap.size ≤ x0.q ∧ w0.heap.size ≤ x0.m ∧ w0.heap.size ≤ x0.r) := Lib.hid ⟨hP0, H0.out.2.1⟩
    go_upto_region 4 with fail
    obtain ⟨w2, hw2⟩ : ∃ k, wc.setCell ⟨P, 0, none⟩ (.pointer (some ⟨x0.p, 0, none⟩)) = k := ⟨_, rfl⟩
    rw [hw2] at G2 M2 B2 ⊢
    clear hw2 c0 f0 hP0 G1 H0 G0 B0 NW1
    go_wp2_with fail
    rw [rounds_succ]
    go_upto_region 5 with fail
    go_cut [7, 8] (fun s7 s8 wx => ∃ (x : Mp) (v : Value), s7 = .pointer (some ⟨x.p, 0, none⟩) ∧ s8 = .int .i64 0 ∧ Hid (MM wx (pO lv iv 2) v x (ms0 [(1, lastC iv, 0)]) (.slice none 0 0) ∧ (w2.heap.size ≤ x.p ∧ w2.heap.size ≤ x.q ∧ w2.heap.size ≤ x.m ∧ w2.heap.size ≤ x.r) ∧ Below w2.heap.size w2 wx))
    case first =>
      have SX : Hid (∀ W, Below w2.heap.size w2 W → W.cell? ⟨P, 8, none⟩ = some (.int .u8 2) ∧ W.cell? ⟨P, 9, none⟩ = some (.int .u8 2) ∧ W.cell? ⟨P, 10, none⟩ = some (.int .u8 0) ∧ W.cell? ⟨P, 11, none⟩ = some (.int .u8 0) ∧ W.cell? ⟨P, 12, none⟩ = some (.int .u8 0) ∧ W.cell? ⟨P, 13, none⟩ = some (.int .u8 0)) := Lib.hid fun W hb => by
        have g := G2.out.later hb
        exact ⟨g.c 8 _ rfl, g.c 9 _ rfl, g.c 10 _ rfl, g.c 11 _ rfl, g.c 12 _ rfl, g.c 13 _ rfl⟩
      have BD : Below w2.heap.size w2 w2.drew := (Below.refl _ _).drew
      refine wp_region_held_drew (S := fun W => W.cell? ⟨P, 8, none⟩ = some (.int .u8 2) ∧ W.cell? ⟨P, 9, none⟩ = some (.int .u8 2) ∧ W.cell? ⟨P, 10, none⟩ = some (.int .u8 0) ∧ W.cell? ⟨P, 11, none⟩ = some (.int .u8 0) ∧ W.cell? ⟨P, 12, none⟩ = some (.int .u8 0) ∧ W.cell? ⟨P, 13, none⟩ = some (.int .u8 0)) (by kernel_rfl) (SX.out _ BD) (fun hHeld => ?_)
      refine wpAnyH_take (i := 0) (v := ?_) rfl (by kernel_rfl) (by kernel_rfl) (by kernel_rfl) (fun _ _ _ h => h) (Or.inl ⟨by rfl, ?hy0⟩) (by assumption) ?_
      case hy0 => (intro w hSw; (try dsimp only at hSw); go_simp; try with_reducible rfl)
      try simp only [Act.put, List.setIfInBounds_toArray, List.set_cons_zero, List.set_cons_succ, List.getElem_toArray, List.getElem_cons_zero, List.getElem_cons_succ]
      refine wpAnyH_take (i := 1) (v := ?_) rfl (by kernel_rfl) (by kernel_rfl) (by kernel_rfl) (fun _ _ _ h => h) (Or.inl ⟨by rfl, ?hy1⟩) (by assumption) ?_
      case hy1 => (intro w hSw; (try dsimp only at hSw); go_simp; try with_reducible rfl)
      try simp only [Act.put, List.setIfInBounds_toArray, List.set_cons_zero, List.set_cons_succ, List.getElem_toArray, List.getElem_cons_zero, List.getElem_cons_succ]
      refine wpAnyH_take (i := 3) (v := ?_) rfl (by kernel_rfl) (by kernel_rfl) (by kernel_rfl) (fun _ _ _ h => h) (Or.inl ⟨by rfl, ?hy3⟩) (by assumption) ?_
      case hy3 => (intro w hSw; (try dsimp only at hSw); go_simp; try with_reducible rfl)
      try simp only [Act.put, List.setIfInBounds_toArray, List.set_cons_zero, List.set_cons_succ, List.getElem_toArray, List.getElem_cons_zero, List.getElem_cons_succ]
      refine wpAnyH_take (i := 4) (v := ?_) rfl (by kernel_rfl) (by kernel_rfl) (by kernel_rfl) (fun _ _ _ h => h) (Or.inl ⟨by rfl, ?hy4⟩) (by assumption) ?_
      case hy4 => (intro w hSw; (try dsimp only at hSw); go_simp; try with_reducible rfl)
      try simp only [Act.put, List.setIfInBounds_toArray, List.set_cons_zero, List.set_cons_succ, List.getElem_toArray, List.getElem_cons_zero, List.getElem_cons_succ]
      refine wpAnyH_take (i := 5) (v := ?_) rfl (by kernel_rfl) (by kernel_rfl) (by kernel_rfl) (fun _ _ _ h => h) (Or.inl ⟨by rfl, ?hy5⟩) (by assumption) ?_
      case hy5 => (intro w hSw; (try dsimp only at hSw); go_simp; try with_reducible rfl)
      try simp only [Act.put, List.setIfInBounds_toArray, List.set_cons_zero, List.set_cons_succ, List.getElem_toArray, List.getElem_cons_zero, List.getElem_cons_succ]
      refine wpAnyH_take (i := 6) (v := ?_) rfl (by kernel_rfl) (by kernel_rfl) (by kernel_rfl) (fun _ _ _ h => h) (Or.inl ⟨by rfl, ?hy6⟩) (by assumption) ?_
      case hy6 => (intro w hSw; (try dsimp only at hSw); go_simp; try with_reducible rfl)
      try simp only [Act.put, List.setIfInBounds_toArray, List.set_cons_zero, List.set_cons_succ, List.getElem_toArray, List.getElem_cons_zero, List.getElem_cons_succ]
      refine wpAnyH_take (i := 7) (v := ?_) rfl (by kernel_rfl) (by kernel_rfl) (by kernel_rfl) (fun _ _ _ h => h) (Or.inl ⟨by rfl, ?hy7⟩) (by assumption) ?_
      case hy7 => (intro w hSw; (try dsimp only at hSw); go_simp; try with_reducible rfl)
      try simp only [Act.put, List.setIfInBounds_toArray, List.set_cons_zero, List.set_cons_succ, List.getElem_toArray, List.getElem_cons_zero, List.getElem_cons_succ]
      refine wpAnyH_take (i := 8) (v := ?_) rfl (by kernel_rfl) (by kernel_rfl) (by kernel_rfl) (fun _ _ _ h => h) (Or.inl ⟨by rfl, ?hy8⟩) (by assumption) ?_
      case hy8 => (intro w hSw; (try dsimp only at hSw); go_simp; try with_reducible rfl)
      try simp only [Act.put, List.setIfInBounds_toArray, List.set_cons_zero, List.set_cons_succ, List.getElem_toArray, List.getElem_cons_zero, List.getElem_cons_succ]
      refine wpAnyH_take (i := 10) (v := ?_) rfl (by kernel_rfl) (by kernel_rfl) (by kernel_rfl) (fun _ _ _ h => h) (Or.inl ⟨by rfl, ?hy10⟩) (by assumption) ?_
      case hy10 => (intro w hSw; (try dsimp only at hSw); go_simp; try with_reducible rfl)
      try simp only [Act.put, List.setIfInBounds_toArray, List.set_cons_zero, List.set_cons_succ, List.getElem_toArray, List.getElem_cons_zero, List.getElem_cons_succ]
      refine wpAnyH_take (i := 11) (v := ?_) rfl (by kernel_rfl) (by kernel_rfl) (by kernel_rfl) (fun _ _ _ h => h) (Or.inl ⟨by rfl, ?hy11⟩) (by assumption) ?_
      case hy11 => (intro w hSw; (try dsimp only at hSw); go_simp; try with_reducible rfl)
      try simp only [Act.put, List.setIfInBounds_toArray, List.set_cons_zero, List.set_cons_succ, List.getElem_toArray, List.getElem_cons_zero, List.getElem_cons_succ]
      refine wpAnyH_take (i := 12) (v := ?_) rfl (by kernel_rfl) (by kernel_rfl) (by kernel_rfl) (fun _ _ _ h => h) (Or.inl ⟨by rfl, ?hy12⟩) (by assumption) ?_
      case hy12 => (intro w hSw; (try dsimp only at hSw); go_simp; try with_reducible rfl)
      try simp only [Act.put, List.setIfInBounds_toArray, List.set_cons_zero, List.set_cons_succ, List.getElem_toArray, List.getElem_cons_zero, List.getElem_cons_succ]
      refine wpAnyH_take (i := 13) (v := ?_) rfl (by kernel_rfl) (by kernel_rfl) (by kernel_rfl) (fun _ _ _ h => h) (Or.inl ⟨by rfl, ?hy13⟩) (by assumption) ?_
      case hy13 => (intro w hSw; (try dsimp only at hSw); go_simp; try with_reducible rfl)
      try simp only [Act.put, List.setIfInBounds_toArray, List.set_cons_zero, List.set_cons_succ, List.getElem_toArray, List.getElem_cons_zero, List.getElem_cons_succ]
      refine wpAnyH_take (i := 14) (v := ?_) rfl (by kernel_rfl) (by kernel_rfl) (by kernel_rfl) (fun _ _ _ h => h) (Or.inl ⟨by rfl, ?hy14⟩) (by assumption) ?_
      case hy14 => (intro w hSw; (try dsimp only at hSw); go_simp; try with_reducible rfl)
      try simp only [Act.put, List.setIfInBounds_toArray, List.set_cons_zero, List.set_cons_succ, List.getElem_toArray, List.getElem_cons_zero, List.getElem_cons_succ]
      refine wpAnyH_take (i := 15) (v := ?_) rfl (by kernel_rfl) (by kernel_rfl) (by kernel_rfl) (fun _ _ _ h => h) (Or.inl ⟨by rfl, ?hy15⟩) (by assumption) ?_
      case hy15 => (intro w hSw; (try dsimp only at hSw); go_simp; try with_reducible rfl)
      try simp only [Act.put, List.setIfInBounds_toArray, List.set_cons_zero, List.set_cons_succ, List.getElem_toArray, List.getElem_cons_zero, List.getElem_cons_succ]
      refine wpAnyH_ready (rs := [2, 9]) (by kernel_rfl) (by simp) (AllReadyH.cons rfl (fun K hK => ?_) (AllReadyH.cons rfl (fun K hK => ?_) AllReadyH.nil))
      · (go_simp; go_at_call 26; (with_reducible refine (MD.out _).mono ?_); rintro en wm ⟨rfl, hb⟩; have B1 := Lib.hid (BD.trans hb); refine hK.out _ _ (SX.out _ B1.out) (fun hHeld => ?_); clear hK K hb; try simp only [Act.put, List.setIfInBounds_toArray, List.set_cons_zero, List.set_cons_succ, List.getElem_toArray, List.getElem_cons_zero, List.getElem_cons_succ])
        have B2 := Lib.hid (B1.out.trans (((Below.refl wm.heap.size wm).alloc (Nat.le_refl _) (.cells #[.int .u16 1] 22)).mono B1.out.size))
        have HC : Hid ((wm.alloc (.cells #[.int .u16 1] 22)).cell? ⟨wm.heap.size, 0, none⟩ = some (.int .u16 1)) := Lib.hid ((GB.new 22 wm #[.int .u16 1]).c 0 _ rfl)
        refine wpAnyH_ready (rs := [9]) (by kernel_rfl) (by simp) (AllReadyH.cons rfl (fun K hK => ?_) AllReadyH.nil)
        (go_simp; refine hK.out _ _ (SX.out _ B2.out) (fun hHeld => ?_); clear hK K; try simp only [Act.put, List.setIfInBounds_toArray, List.set_cons_zero, List.set_cons_succ, List.getElem_toArray, List.getElem_cons_zero, List.getElem_cons_succ])
        refine wpAnyH_take (i := 16) (v := ?_) rfl (by kernel_rfl) (by kernel_rfl) (by kernel_rfl) (fun _ _ _ h => h) (Or.inl ⟨by rfl, ?hy16⟩) (by assumption) ?_
        case hy16 => (intro w hSw; (try dsimp only at hSw); go_simp; try with_reducible rfl)
        try simp only [Act.put, List.setIfInBounds_toArray, List.set_cons_zero, List.set_cons_succ, List.getElem_toArray, List.getElem_cons_zero, List.getElem_cons_succ]
        refine wpAnyH_ready (rs := [17]) (by kernel_rfl) (by simp) (AllReadyH.cons rfl (fun K hK => ?_) AllReadyH.nil)
        (go_simp; go_at_call 8; (with_reducible refine (NW2.out wm.heap.size _ HC.out).mono ?_); rintro en wn ⟨x, rfl, hm, hl, hb⟩; have BN := Lib.hid (B2.out.trans (hb.mono B2.out.size)); have MN := Lib.hid (And.intro hm hl); refine hK.out _ _ (SX.out _ BN.out) (fun hHeld => ?_); clear hK K hm hl hb; try simp only [Act.put, List.setIfInBounds_toArray, List.set_cons_zero, List.set_cons_succ, List.getElem_toArray, List.getElem_cons_zero, List.getElem_cons_succ])
        refine wpAnyH_take (i := 18) (v := ?_) rfl (by kernel_rfl) (by kernel_rfl) (by kernel_rfl) (fun _ _ _ h => h) (Or.inl ⟨by rfl, ?hy18⟩) (by assumption) ?_
        case hy18 => (intro w hSw; (try dsimp only at hSw); go_simp; try with_reducible rfl)
        try simp only [Act.put, List.setIfInBounds_toArray, List.set_cons_zero, List.set_cons_succ, List.getElem_toArray, List.getElem_cons_zero, List.getElem_cons_succ]
        refine wpAnyH_take (i := 19) (v := ?_) rfl (by kernel_rfl) (by kernel_rfl) (by kernel_rfl) (fun _ _ _ h => h) (Or.inl ⟨by rfl, ?hy19⟩) (by assumption) ?_
        case hy19 => (intro w hSw; (try dsimp only at hSw); go_simp; try with_reducible rfl)
        try simp only [Act.put, List.setIfInBounds_toArray, List.set_cons_zero, List.set_cons_succ, List.getElem_toArray, List.getElem_cons_zero, List.getElem_cons_succ]
        refine wpAnyH_take (i := 20) (v := ?_) rfl (by kernel_rfl) (by kernel_rfl) (by kernel_rfl) (fun _ _ _ h => h) (Or.inl ⟨by rfl, ?hy20⟩) (by assumption) ?_
        case hy20 => (intro w hSw; (try dsimp only at hSw); go_simp; try with_reducible rfl)
        try simp only [Act.put, List.setIfInBounds_toArray, List.set_cons_zero, List.set_cons_succ, List.getElem_toArray, List.getElem_cons_zero, List.getElem_cons_succ]
        refine wpAnyH_take (i := 21) (v := ?_) rfl (by kernel_rfl) (by kernel_rfl) (by kernel_rfl) (fun _ _ _ h => h) (Or.inl ⟨by rfl, ?hy21⟩) (by assumption) ?_
        case hy21 => (intro w hSw; (try dsimp only at hSw); go_simp; try with_reducible rfl)
        try simp only [Act.put, List.setIfInBounds_toArray, List.set_cons_zero, List.set_cons_succ, List.getElem_toArray, List.getElem_cons_zero, List.getElem_cons_succ]
        refine wpAnyH_take (i := 22) (v := ?_) rfl (by kernel_rfl) (by kernel_rfl) (by kernel_rfl) (fun _ _ _ h => h) (Or.inl ⟨by rfl, ?hy22⟩) (by assumption) ?_
        case hy22 => (intro w hSw; (try dsimp only at hSw); go_simp; try with_reducible rfl)
        try simp only [Act.put, List.setIfInBounds_toArray, List.set_cons_zero, List.set_cons_succ, List.getElem_toArray, List.getElem_cons_zero, List.getElem_cons_succ]
        refine wpAnyH_done (by kernel_rfl) ?_ _
        clear hHeld
        go_wp2_with fail
        go_meet
        exact ⟨x, _, rfl, rfl, Lib.hid ⟨MN.out.1, (by have h1 := B2.out.size; have h2 := MN.out.2; omega), BN.out⟩⟩
      · (go_simp; have B1 := Lib.hid (BD.trans ((Below.refl w2.drew.heap.size w2.drew).alloc (Nat.le_refl _) (.cells #[.int .u16 1] 22))); refine hK.out _ _ (SX.out _ B1.out) (fun hHeld => ?_); clear hK K; try simp only [Act.put, List.setIfInBounds_toArray, List.set_cons_zero, List.set_cons_succ, List.getElem_toArray, List.getElem_cons_zero, List.getElem_cons_succ])
        refine wpAnyH_ready (rs := [2]) (by kernel_rfl) (by simp) (AllReadyH.cons rfl (fun K hK => ?_) AllReadyH.nil)
        (go_simp; go_at_call 26; (with_reducible refine (MD.out _).mono ?_); rintro en wm ⟨rfl, hb⟩; have B2 := Lib.hid (B1.out.trans (hb.mono B1.out.size)); have HC : Hid (wm.cell? ⟨w2.heap.size, 0, none⟩ = some (.int .u16 1)) := Lib.hid (((GB.new 22 w2.drew #[.int .u16 1]).later hb).c 0 _ rfl); refine hK.out _ _ (SX.out _ B2.out) (fun hHeld => ?_); clear hK K hb; try simp only [Act.put, List.setIfInBounds_toArray, List.set_cons_zero, List.set_cons_succ, List.getElem_toArray, List.getElem_cons_zero, List.getElem_cons_succ])
        refine wpAnyH_take (i := 16) (v := ?_) rfl (by kernel_rfl) (by kernel_rfl) (by kernel_rfl) (fun _ _ _ h => h) (Or.inl ⟨by rfl, ?hy16⟩) (by assumption) ?_
        case hy16 => (intro w hSw; (try dsimp only at hSw); go_simp; try with_reducible rfl)
        try simp only [Act.put, List.setIfInBounds_toArray, List.set_cons_zero, List.set_cons_succ, List.getElem_toArray, List.getElem_cons_zero, List.getElem_cons_succ]
        refine wpAnyH_ready (rs := [17]) (by kernel_rfl) (by simp) (AllReadyH.cons rfl (fun K hK => ?_) AllReadyH.nil)
        (go_simp; go_at_call 8; (with_reducible refine (NW2.out w2.heap.size _ HC.out).mono ?_); rintro en wn ⟨x, rfl, hm, hl, hb⟩; have BN := Lib.hid (B2.out.trans (hb.mono B2.out.size)); have MN := Lib.hid (And.intro hm hl); refine hK.out _ _ (SX.out _ BN.out) (fun hHeld => ?_); clear hK K hm hl hb; try simp only [Act.put, List.setIfInBounds_toArray, List.set_cons_zero, List.set_cons_succ, List.getElem_toArray, List.getElem_cons_zero, List.getElem_cons_succ])
        refine wpAnyH_take (i := 18) (v := ?_) rfl (by kernel_rfl) (by kernel_rfl) (by kernel_rfl) (fun _ _ _ h => h) (Or.inl ⟨by rfl, ?hy18⟩) (by assumption) ?_
        case hy18 => (intro w hSw; (try dsimp only at hSw); go_simp; try with_reducible rfl)
        try simp only [Act.put, List.setIfInBounds_toArray, List.set_cons_zero, List.set_cons_succ, List.getElem_toArray, List.getElem_cons_zero, List.getElem_cons_succ]
        refine wpAnyH_take (i := 19) (v := ?_) rfl (by kernel_rfl) (by kernel_rfl) (by kernel_rfl) (fun _ _ _ h => h) (Or.inl ⟨by rfl, ?hy19⟩) (by assumption) ?_
        case hy19 => (intro w hSw; (try dsimp only at hSw); go_simp; try with_reducible rfl)
        try simp only [Act.put, List.setIfInBounds_toArray, List.set_cons_zero, List.set_cons_succ, List.getElem_toArray, List.getElem_cons_zero, List.getElem_cons_succ]
        refine wpAnyH_take (i := 20) (v := ?_) rfl (by kernel_rfl) (by kernel_rfl) (by kernel_rfl) (fun _ _ _ h => h) (Or.inl ⟨by rfl, ?hy20⟩) (by assumption) ?_
        case hy20 => (intro w hSw; (try dsimp only at hSw); go_simp; try with_reducible rfl)
        try simp only [Act.put, List.setIfInBounds_toArray, List.set_cons_zero, List.set_cons_succ, List.getElem_toArray, List.getElem_cons_zero, List.getElem_cons_succ]
        refine wpAnyH_take (i := 21) (v := ?_) rfl (by kernel_rfl) (by kernel_rfl) (by kernel_rfl) (fun _ _ _ h => h) (Or.inl ⟨by rfl, ?hy21⟩) (by assumption) ?_
        case hy21 => (intro w hSw; (try dsimp only at hSw); go_simp; try with_reducible rfl)
        try simp only [Act.put, List.setIfInBounds_toArray, List.set_cons_zero, List.set_cons_succ, List.getElem_toArray, List.getElem_cons_zero, List.getElem_cons_succ]
        refine wpAnyH_take (i := 22) (v := ?_) rfl (by kernel_rfl) (by kernel_rfl) (by kernel_rfl) (fun _ _ _ h => h) (Or.inl ⟨by rfl, ?hy22⟩) (by assumption) ?_
        case hy22 => (intro w hSw; (try dsimp only at hSw); go_simp; try with_reducible rfl)
        try simp only [Act.put, List.setIfInBounds_toArray, List.set_cons_zero, List.set_cons_succ, List.getElem_toArray, List.getElem_cons_zero, List.getElem_cons_succ]
        refine wpAnyH_done (by kernel_rfl) ?_ _
        clear hHeld
        go_wp2_with fail
        go_meet
        exact ⟨x, _, rfl, rfl, Lib.hid ⟨MN.out.1, (by have h1 := B2.out.size; have h2 := MN.out.2; omega), BN.out⟩⟩
    case rest =>
      obtain ⟨x1, v1, rfl, rfl, H1⟩ := hcut
      have G3 := Lib.hid (G2.out.later H1.out.2.2)
      have f1 := G3.out.fr 1
      have c1 := G3.out.c 1 _ rfl
      have B3 := Lib.hid (B2.out.trans (H1.out.2.2.mono B2.out.size))
      have M3 := Lib.hid (M2.out.later H1.out.2.2)
      have hlt := M2.out
      have hpz := G2.out.lt
      have R3 : Hid (PW w (wc.setCell ⟨P, 1, none⟩ (.pointer (some ⟨x1.p, 0, none⟩))) P (pO lv iv 1) (pO lv iv 2) v0 v1 x0 x1 (ms0 [(2, lastC iv, 0)]) (ms0 [(1, lastC iv, 0)]) (.slice none 0 0) (.slice none 0 0)) := Lib.hid (by
        have hp := HP.out
        have hs := B2.out.size
        have h0 := L0.out
        refine ⟨G3.out.set 1 _, M3.out.fr (Fr.set (D := fun k => k = P) rfl _ _) (fun k hk e => ?_), H1.out.1.fr (Fr.set (D := fun k => k = P) rfl _ _) (fun k hk e => ?_), fun k hk hk1 => ?_, fun hk => ?_, fun hk => ?_, fun k hk => ?_, fun k hk => ?_, below_set B3.out (Nat.le_of_eq HP.out) _⟩
        · have := D_noneP h0.2 hk; omega
        · have := D_noneP H1.out.2.1 hk; omega
        · have a1 := D_noneP H1.out.2.1 hk1
          have a2 := hlt.ltD hk
          omega
        · have := D_noneP h0.2 hk; omega
        · have := D_noneP H1.out.2.1 hk; omega
        · have := D_noneP h0.2 hk; omega
        · have := D_noneP H1.out.2.1 hk; omega)
      go_upto_region 4 with fail
      obtain ⟨w3, hw3⟩ : ∃ k, wc.setCell ⟨P, 1, none⟩ (.pointer (some ⟨x1.p, 0, none⟩)) = k := ⟨_, rfl⟩
      rw [hw3] at R3 ⊢
      clear hw3 c1 f1 hlt hpz G3 H1 G2 B2 B3 M3 M2 NW2
      go_wp2_with fail
      rw [rounds_succ]
      go_wp2_with fail
      go_ret
      exact ⟨P, x0, x1, v0, v1, rfl, Nat.le_of_eq HP.out, R3.out⟩
end Go.Proofs.YtlkdfofpnmpidaaGreat

/- MepPair: both tick, and what they send comes. -/
set_option linter.unusedVariables false
set_option linter.unusedSimpArgs false
namespace Go.Proofs.YtlkdfofpnmpidaaGreat
open Go.RowKit

section
variable {w0 W W' : World} {P : Nat} {o0 o1 : Ow20} {v0 v1 : Value} {x0 x1 : Mp} {s0 s1 : Ms} {y0 y1 : Value}
theorem PW.tick0 (h : PW w0 W P o0 o1 v0 v1 x0 x1 s0 s1 y0 y1) (ho : o0.Ok) (hlv : o0.a.lv < 8) (hs : s0.Ok) {u : Ms} {l : List Sn} {e : Int} (ht : tickM o0 s0 = (u, l, e)) :
    Calls Tryz.prog 11 #[.pointer (some ⟨x0.p, 0, none⟩)] W fun en w' => ∃ v, en = .returned (.tuple #[v, .int .u8 e]) ∧ Ow 7 snC 55 w' W.heap.size v l ∧ PW w0 w' P o0 o1 v0 v1 x0 x1 u s1 y0 y1 ∧ PF x0 x1 y0 y1 y0 y1 W w' := by
  have H := mtick_any o0 ho hlv v0 x0 s0 y0 W h.m0 hs
  rw [ht] at H
  exact H.mono fun en w' ⟨v, he, hv, hm, hf⟩ => ⟨v, he, hv, (h.st0 hm hf (.refl _ _)).1, (h.st0 hm hf (.refl _ _)).2⟩
theorem PW.tick1 (h : PW w0 W P o0 o1 v0 v1 x0 x1 s0 s1 y0 y1) (ho : o1.Ok) (hlv : o1.a.lv < 8) (hs : s1.Ok) {u : Ms} {l : List Sn} {e : Int} (ht : tickM o1 s1 = (u, l, e)) :
    Calls Tryz.prog 11 #[.pointer (some ⟨x1.p, 0, none⟩)] W fun en w' => ∃ v, en = .returned (.tuple #[v, .int .u8 e]) ∧ Ow 7 snC 55 w' W.heap.size v l ∧ PW w0 w' P o0 o1 v0 v1 x0 x1 s0 u y0 y1 ∧ PF x0 x1 y0 y1 y0 y1 W w' := by
  have H := mtick_any o1 ho hlv v1 x1 s1 y1 W h.m1 hs
  rw [ht] at H
  exact H.mono fun en w' ⟨v, he, hv, hm, hf⟩ => ⟨v, he, hv, (h.st1 hm hf (.refl _ _)).1, (h.st1 hm hf (.refl _ _)).2⟩
/-- A row above all of theirs. -/
theorem PW.above (h : PW w0 W P o0 o1 v0 v1 x0 x1 s0 s1 y0 y1) {E : TypeId} {v : Value} {l : List Sn} (hv : Ow 7 snC E W' W.heap.size v l) (g o' n c : Nat) (e : v = .slice (some ⟨g, o', none⟩) n c) : ¬ x0.D y0 g ∧ ¬ x1.D y1 g := by
  subst e
  have hlt := (hv.lt (g := g) (by simp [Value.ownBlock])).1
  exact ⟨fun e => by have := h.m0.ltD e; omega, fun e => by have := h.m1.ltD e; omega⟩
theorem PF.qcell {z0 z1 : Value} (h : PF x0 x1 y0 y1 z0 z1 W W') {Q : Nat} (hn : ¬ x0.D y0 Q ∧ ¬ x1.D y1 Q) {u : Value} (hq : W.cell? ⟨Q, 0, none⟩ = some u) : W'.cell? ⟨Q, 0, none⟩ = some u := by
  rw [← hq]
  simp only [World.cell?, h.fr.block Q (World.block_lt_of_cell? W _ hq) (fun e => e.elim hn.1 hn.2)]
end
set_option maxRecDepth 100000 in
set_option maxHeartbeats 16000000 in
theorem all_any (o0 o1 : Ow20) (ho0 : o0.Ok) (hv0 : o0.a.lv < 8) (ho1 : o1.Ok) (hv1 : o1.a.lv < 8) (v0 v1 : Value) (x0 x1 : Mp) (P Q : Nat) (w0 : World) (lost : Bool) (s0 s1 t0 t1 : Ms) (y0 y1 : Value) (w : World)
    (hA : AllR o0 o1 lost s0 s1 t0 t1) (hP : PW w0 w P o0 o1 v0 v1 x0 x1 s0 s1 y0 y1) (hQ : w.cell? ⟨Q, 0, none⟩ = some (.pointer (some ⟨P, 0, none⟩))) (hn : ¬ x0.D y0 Q ∧ ¬ x1.D y1 Q) :
    Calls Tryz.prog 23 #[.bool lost, .pointer (some ⟨Q, 0, none⟩)] w fun en w' => en = .returned (.tuple #[]) ∧ ∃ z0 z1, PW w0 w' P o0 o1 v0 v1 x0 x1 t0 t1 z0 z1 ∧ PF x0 x1 y0 y1 z0 z1 w w' := by
  obtain ⟨hok0, u0, l0, e0, m0, m1, u1, l1, e1, ht0, hl0, hx, hok1, ht1, hl1, hx1⟩ := hA
  have TK0 := Lib.hid (hP.tick0 ho0 hv0 hok0 ht0)
  have TK1 : Hid (∀ W z0 z1, PW w0 W P o0 o1 v0 v1 x0 x1 m0 m1 z0 z1 → Calls Tryz.prog 11 #[.pointer (some ⟨x1.p, 0, none⟩)] W fun en w' => ∃ v, en = .returned (.tuple #[v, .int .u8 e1]) ∧ Ow 7 snC 55 w' W.heap.size v l1 ∧ PW w0 w' P o0 o1 v0 v1 x0 x1 m0 u1 z0 z1 ∧ PF x0 x1 z0 z1 z0 z1 W w') := Lib.hid fun W z0 z1 h => h.tick1 ho1 hv1 hok1 ht1
  have CM0 : Hid (lost = false → ∀ W z0 z1 v, PW w0 W P o0 o1 v0 v1 x0 x1 u0 s1 z0 z1 → Rw 7 snC W v l0 → (∀ g o' n c, v = .slice (some ⟨g, o', none⟩) n c → ¬ x0.D z0 g ∧ ¬ x1.D z1 g) → Calls Tryz.prog 24 #[.pointer (some ⟨P, 0, none⟩), .int .i64 0, v] W fun en w' => en = .returned (.tuple #[]) ∧ ∃ y0 y1, PW w0 w' P o0 o1 v0 v1 x0 x1 m0 m1 y0 y1 ∧ PF x0 x1 z0 z1 y0 y1 W w') := Lib.hid fun hl W z0 z1 v h1 h2 h3 => by
    rw [hl] at hx
    exact comes_any o0 o1 ho0 hv0 ho1 hv1 v0 v1 x0 x1 P w0 false l0 u0 s1 m0 m1 z0 z1 v W hx hl0 h2 h3 h1
  have CM1 : Hid (∀ W z0 z1 v, PW w0 W P o0 o1 v0 v1 x0 x1 m0 u1 z0 z1 → Rw 7 snC W v l1 → (∀ g o' n c, v = .slice (some ⟨g, o', none⟩) n c → ¬ x0.D z0 g ∧ ¬ x1.D z1 g) → Calls Tryz.prog 24 #[.pointer (some ⟨P, 0, none⟩), .int .i64 1, v] W fun en w' => en = .returned (.tuple #[]) ∧ ∃ y0 y1, PW w0 w' P o0 o1 v0 v1 x0 x1 t0 t1 y0 y1 ∧ PF x0 x1 z0 z1 y0 y1 W w') := Lib.hid fun W z0 z1 v h1 h2 h3 =>
    comes_any o0 o1 ho0 hv0 ho1 hv1 v0 v1 x0 x1 P w0 true l1 m0 u1 t0 t1 z0 z1 v W hx1 hl1 h2 h3 h1
  have LT : Hid (lost = true → m0 = u0 ∧ m1 = s1) := Lib.hid fun hl => by rw [hl] at hx; exact hx
  have HP := Lib.hid hP
  have HQ := Lib.hid (And.intro hn hQ)
  clear hok0 ht0 hl0 hx hok1 ht1 hl1 hx1 hn ho0 hv0 ho1 hv1
  have c0 : w.cell? ⟨P, 0, none⟩ = some (.pointer (some ⟨x0.p, 0, none⟩)) := hP.gb.c 0 _ rfl
  clear hP
  go_enter Tryz.func23, Tryz.ntmps23
  go_wp2_with fail
  refine wp_loop_rounds 3 ?_
  rw [rounds_succ]
  go_upto_region 4 with (go_at_call 11; (with_reducible refine TK0.out.mono ?_); rintro en wa ⟨v, rfl, hv, hp, hf⟩; have U1 := Lib.hid hv; have P1 := Lib.hid hp; have F1 := Lib.hid hf; clear hv hp hf)
  have q1 := F1.out.qcell HQ.out.1 hQ
  have N1 := Lib.hid (HP.out.above U1.out)
  clear c0 hQ
  cases lost
  case true =>
    obtain ⟨rfl, rfl⟩ := LT.out rfl
    have P2 := Lib.hid P1.out
    have F2 := Lib.hid F1.out
    clear CM0 q1
    go_wp2_with fail
    clear U1 P1 N1
    rw [rounds_succ]
    have q2 := F2.out.qcell HQ.out.1 HQ.out.2
    have c1 := (show ∀ W s0 s1 z0 z1, PW w0 W P o0 o1 v0 v1 x0 x1 s0 s1 z0 z1 → W.cell? ⟨P, 1, none⟩ = some (.pointer (some ⟨x1.p, 0, none⟩)) from fun W _ _ _ _ h => h.gb.c 1 _ rfl) _ _ _ _ _ P2.out
    have TT := Lib.hid (TK1.out _ _ _ P2.out)
    go_upto_region 4 with (go_at_call 11; (with_reducible refine TT.out.mono ?_); rintro en wc ⟨v2, rfl, hv, hp, hf⟩; have U3 := Lib.hid hv; have P3 := Lib.hid hp; have F3 := Lib.hid (F2.out.trans hf); clear hv hp hf)
    have q3 := F3.out.qcell HQ.out.1 HQ.out.2
    have N3 := Lib.hid (P2.out.above U3.out)
    have CC := Lib.hid (CM1.out _ _ _ _ P3.out (U3.out.rw snC_len) N3.out)
    clear q2 c1
    go_wp2_with (go_at_call 24; (with_reducible refine CC.out.mono ?_); rintro en wd ⟨rfl, z0, z1, hp, hf⟩; have P4 := Lib.hid hp; have F4 := Lib.hid (F3.out.trans hf); clear hp hf)
    rw [rounds_succ]
    go_wp2_with fail
    go_end0
    exact ⟨rfl, z0, z1, P4.out, F4.out⟩
  case false =>
    have C0 := Lib.hid (CM0.out rfl _ _ _ _ P1.out (U1.out.rw snC_len) N1.out)
    clear CM0
    go_wp2_with (go_at_call 24; (with_reducible refine C0.out.mono ?_); rintro en wb ⟨rfl, z0, z1, hp, hf⟩; have P2 := Lib.hid hp; have F2 := Lib.hid (F1.out.trans hf); clear hp hf)
    clear C0 q1
    clear U1 P1 N1
    rw [rounds_succ]
    have q2 := F2.out.qcell HQ.out.1 HQ.out.2
    have c1 := (show ∀ W s0 s1 z0 z1, PW w0 W P o0 o1 v0 v1 x0 x1 s0 s1 z0 z1 → W.cell? ⟨P, 1, none⟩ = some (.pointer (some ⟨x1.p, 0, none⟩)) from fun W _ _ _ _ h => h.gb.c 1 _ rfl) _ _ _ _ _ P2.out
    have TT := Lib.hid (TK1.out _ _ _ P2.out)
    go_upto_region 4 with (go_at_call 11; (with_reducible refine TT.out.mono ?_); rintro en wc ⟨v2, rfl, hv, hp, hf⟩; have U3 := Lib.hid hv; have P3 := Lib.hid hp; have F3 := Lib.hid (F2.out.trans hf); clear hv hp hf)
    have q3 := F3.out.qcell HQ.out.1 HQ.out.2
    have N3 := Lib.hid (P2.out.above U3.out)
    have CC := Lib.hid (CM1.out _ _ _ _ P3.out (U3.out.rw snC_len) N3.out)
    clear q2 c1
    go_wp2_with (go_at_call 24; (with_reducible refine CC.out.mono ?_); rintro en wd ⟨rfl, z0, z1, hp, hf⟩; have P4 := Lib.hid hp; have F4 := Lib.hid (F3.out.trans hf); clear hp hf)
    rw [rounds_succ]
    go_wp2_with fail
    go_end0
    exact ⟨rfl, z0, z1, P4.out, F4.out⟩
end Go.Proofs.YtlkdfofpnmpidaaGreat

/- MepPair: the pair, and the variable that holds it; what the points are asked. -/
set_option linter.unusedVariables false
set_option linter.unusedSimpArgs false
namespace Go.Proofs.YtlkdfofpnmpidaaGreat
open Go.RowKit

/-- The pair, and the variable's box. -/
structure PQ (w W : World) (P Q : Nat) (o0 o1 : Ow20) (v0 v1 : Value) (x0 x1 : Mp) (s0 s1 : Ms) (y0 y1 : Value) : Prop where
  pw : PW w W P o0 o1 v0 v1 x0 x1 s0 s1 y0 y1
  q : W.cell? ⟨Q, 0, none⟩ = some (.pointer (some ⟨P, 0, none⟩))
  n : ¬ x0.D y0 Q ∧ ¬ x1.D y1 Q
  ql : w.heap.size ≤ P
section
variable {w W W' : World} {P Q : Nat} {o0 o1 : Ow20} {v0 v1 : Value} {x0 x1 : Mp} {s0 s1 t0 t1 : Ms} {y0 y1 z0 z1 : Value}
theorem PQ.later (h : PQ w W P Q o0 o1 v0 v1 x0 x1 s0 s1 y0 y1) (hb : Below W.heap.size W W') : PQ w W' P Q o0 o1 v0 v1 x0 x1 s0 s1 y0 y1 :=
  ⟨h.pw.later hb, (hb.cell (World.block_lt_of_cell? W _ h.q)).trans h.q, h.n, h.ql⟩
theorem PQ.drew (h : PQ w W P Q o0 o1 v0 v1 x0 x1 s0 s1 y0 y1) : PQ w W.drew P Q o0 o1 v0 v1 x0 x1 s0 s1 y0 y1 := h.later (Below.refl _ _).drew
theorem PQ.step (h : PQ w W P Q o0 o1 v0 v1 x0 x1 s0 s1 y0 y1) (hp : PW w W' P o0 o1 v0 v1 x0 x1 t0 t1 z0 z1) (hf : PF x0 x1 y0 y1 z0 z1 W W') : PQ w W' P Q o0 o1 v0 v1 x0 x1 t0 t1 z0 z1 := by
  have hlt : Q < W.heap.size := World.block_lt_of_cell? W _ h.q
  refine ⟨hp, hf.qcell h.n h.q, ⟨fun e => ?_, fun e => ?_⟩, h.ql⟩
  · rcases hf.g0.d e with e | e
    · exact h.n.1 e
    · exact absurd hlt (by omega)
  · rcases hf.g1.d e with e | e
    · exact h.n.2 e
    · exact absurd hlt (by omega)
theorem PQ.all (h : PQ w W P Q o0 o1 v0 v1 x0 x1 s0 s1 y0 y1) (ho0 : o0.Ok) (hv0 : o0.a.lv < 8) (ho1 : o1.Ok) (hv1 : o1.a.lv < 8) (lost : Bool) (ha : AllR o0 o1 lost s0 s1 t0 t1) :
    Calls Tryz.prog 23 #[.bool lost, .pointer (some ⟨Q, 0, none⟩)] W fun en w' => en = .returned (.tuple #[]) ∧ ∃ z0 z1, PQ w w' P Q o0 o1 v0 v1 x0 x1 t0 t1 z0 z1 :=
  (all_any o0 o1 ho0 hv0 ho1 hv1 v0 v1 x0 x1 P Q w lost s0 s1 t0 t1 y0 y1 W ha h.pw h.q h.n).mono fun en w' ⟨he, z0, z1, hp, hf⟩ => ⟨he, z0, z1, h.step hp hf⟩
theorem PQ.comes (h : PQ w W P Q o0 o1 v0 v1 x0 x1 s0 s1 y0 y1) (ho0 : o0.Ok) (hv0 : o0.a.lv < 8) (ho1 : o1.Ok) (hv1 : o1.a.lv < 8) (x : Sn) (u : Value) (hE : Exch o0 o1 20 false [x] s0 s1 t0 t1) (hu : Rw 7 snC W u [x])
    (hg : ∀ g o' n c, u = .slice (some ⟨g, o', none⟩) n c → ¬ x0.D y0 g ∧ ¬ x1.D y1 g) :
    Calls Tryz.prog 24 #[.pointer (some ⟨P, 0, none⟩), .int .i64 0, u] W fun en w' => en = .returned (.tuple #[]) ∧ ∃ z0 z1, PQ w w' P Q o0 o1 v0 v1 x0 x1 t0 t1 z0 z1 :=
  (comes_any o0 o1 ho0 hv0 ho1 hv1 v0 v1 x0 x1 P w false [x] s0 s1 t0 t1 y0 y1 u W hE (by simp) hu hg h.pw).mono fun en w' ⟨he, z0, z1, hp, hf⟩ => ⟨he, z0, z1, h.step hp hf⟩
theorem PQ.state0 (h : PQ w W P Q o0 o1 v0 v1 x0 x1 s0 s1 y0 y1) (hw : s0.way.length ≤ 1000) : Calls Tryz.prog 21 #[.pointer (some ⟨x0.p, 0, none⟩)] W fun en w' => ∃ vl vr vw,
    en = .returned (.agg #[vl, vr, .int .u8 (wstM s0), .int .u8 s0.al.td, .int .u64 s0.bad, .int .u32 s0.lp, .int .i64 s0.rep, .int .i64 s0.ali, .int .u32 s0.tr, vw]) ∧
    Rw 1 u1 w' vl (thoseV isL s0.V) ∧ Rw 1 u1 w' vr (thoseV isR s0.V) ∧ Rw 17 rqC w' vw s0.way ∧ PQ w w' P Q o0 o1 v0 v1 x0 x1 s0 s1 y0 y1 ∧ Below W.heap.size W w' :=
  (mstate_any o0 v0 x0 s0 y0 hw W h.pw.m0).mono fun en w' ⟨vl, vr, vw, he, h1, h2, h3, hm, hb⟩ => ⟨vl, vr, vw, he, h1, h2, h3, h.later hb, hb⟩
theorem PQ.state1 (h : PQ w W P Q o0 o1 v0 v1 x0 x1 s0 s1 y0 y1) (hw : s1.way.length ≤ 1000) : Calls Tryz.prog 21 #[.pointer (some ⟨x1.p, 0, none⟩)] W fun en w' => ∃ vl vr vw,
    en = .returned (.agg #[vl, vr, .int .u8 (wstM s1), .int .u8 s1.al.td, .int .u64 s1.bad, .int .u32 s1.lp, .int .i64 s1.rep, .int .i64 s1.ali, .int .u32 s1.tr, vw]) ∧
    Rw 1 u1 w' vl (thoseV isL s1.V) ∧ Rw 1 u1 w' vr (thoseV isR s1.V) ∧ Rw 17 rqC w' vw s1.way ∧ PQ w w' P Q o0 o1 v0 v1 x0 x1 s0 s1 y0 y1 ∧ Below W.heap.size W w' :=
  (mstate_any o1 v1 x1 s1 y1 hw W h.pw.m1).mono fun en w' ⟨vl, vr, vw, he, h1, h2, h3, hm, hb⟩ => ⟨vl, vr, vw, he, h1, h2, h3, h.later hb, hb⟩
theorem PQ.loop (h : PQ w W P Q o0 o1 v0 v1 x0 x1 s0 s1 y0 y1) (ho0 : o0.Ok) (hs : 0 ≤ s0.lp ∧ s0.lp < 1000000) (ds : Mc) (hds : ds.Ok) (d : List UInt8) (hd : d.length ≤ 64) {u : Ms} {x : Sn} {e : Int} (hr : loopM o0 s0 ds d = (u, x, e)) :
    Calls Tryz.prog 14 #[.pointer (some ⟨x0.p, 0, none⟩), .agg #[.int .u8 ds.a, .int .u8 ds.b, .int .u8 ds.c, .int .u8 ds.d, .int .u8 ds.e, .int .u8 ds.f], .string (bs d)] W fun en w' => ∃ z0, en = .returned (.tuple #[.agg (snC x).toArray, .int .i64 e]) ∧ PQ w w' P Q o0 o1 v0 v1 x0 x1 u s1 z0 y1 ∧ Fr (x0.D y0) W w' ∧ ∀ k, x0.D z0 k → x0.D y0 k := by
  have H := mloop_any o0 ho0 v0 x0 s0 y0 hs ds hds d (by unfold maxLen; omega) W h.pw.m0
  rw [hr] at H
  exact H.mono fun en w' ⟨he, hm, hf⟩ => ⟨y0, he, h.step (h.pw.st0 hm hf (.refl _ _)).1 (h.pw.st0 hm hf (.refl _ _)).2, hf, fun _ e => e⟩
theorem PQ.trace (h : PQ w W P Q o0 o1 v0 v1 x0 x1 s0 s1 y0 y1) (ho0 : o0.Ok) (hv0 : o0.a.lv < 8) (hs : 0 ≤ s0.tr ∧ s0.tr < 1000000) (ds : Mc) (hds : ds.Ok) (tl : Int) (ht : 0 ≤ tl ∧ tl < 256) {u : Ms} {x : Sn} {e : Int} (hr : traceM o0 s0 ds tl = (u, x, e)) :
    Calls Tryz.prog 16 #[.pointer (some ⟨x0.p, 0, none⟩), .agg #[.int .u8 ds.a, .int .u8 ds.b, .int .u8 ds.c, .int .u8 ds.d, .int .u8 ds.e, .int .u8 ds.f], .int .u8 tl] W fun en w' => ∃ z0, en = .returned (.tuple #[.agg (snC x).toArray, .int .i64 e]) ∧ PQ w w' P Q o0 o1 v0 v1 x0 x1 u s1 z0 y1 ∧ Fr (x0.D y0) W w' ∧ ∀ k, x0.D z0 k → x0.D y0 k := by
  have H := mtrace_any o0 ho0 hv0 v0 x0 s0 y0 hs ds hds tl ht W h.pw.m0
  rw [hr] at H
  exact H.mono fun en w' ⟨he, ⟨z0, hm, hg⟩, hf⟩ => ⟨z0, he, h.step (h.pw.st0 hm hf (fun g e => .inl (hg g e))).1 (h.pw.st0 hm hf (fun g e => .inl (hg g e))).2, hf, fun k hk => by
    rcases hk with e | e | e | e | e
    · exact .inl e
    · exact .inr (.inl e)
    · exact .inr (.inr (.inl e))
    · exact .inr (.inr (.inr (.inl e)))
    · exact .inr (.inr (.inr (.inr (hg k e))))⟩
theorem FrCellsP {D : Nat → Prop} {t : Nat} (ht : D t) : ∀ (vs : List Value) (o : Nat) (W : World), Fr D W (W.setCells t o vs)
  | [], _, _ => Fr.refl _ _
  | u :: r, o, W => (Fr.set ht o u).trans (FrCellsP ht r (o + 1) _)
/-- A box of one's own is written. -/
theorem PQ.box (h : PQ w W P Q o0 o1 v0 v1 x0 x1 s0 s1 y0 y1) {q : Nat} (h0 : ¬ x0.D y0 q) (h1 : ¬ x1.D y1 q) (hP : P ≠ q) (hQ : Q ≠ q) (hb : w.heap.size ≤ q) (L : List Value) : PQ w (W.setCells q 0 L) P Q o0 o1 v0 v1 x0 x1 s0 s1 y0 y1 := by
  have hf : Fr (fun k => k = q) W (W.setCells q 0 L) := FrCellsP (D := fun k => k = q) rfl _ _ _
  have hp := h.pw
  refine ⟨⟨hp.gb.fr' hf hP, hp.m0.fr hf (fun k hk e => h0 (e ▸ hk)), hp.m1.fr hf (fun k hk e => h1 (e ▸ hk)), hp.ap, hp.n0, hp.n1, hp.lo0, hp.lo1, below_cellsG hb _ _ _ hp.bel⟩, ?_, h.n, h.ql⟩
  have hq := h.q
  rw [← hq]
  simp only [World.cell?, hf.block Q (World.block_lt_of_cell? W _ hq) hQ]
theorem PQ.c0 (h : PQ w W P Q o0 o1 v0 v1 x0 x1 s0 s1 y0 y1) : W.cell? ⟨P, 0, none⟩ = some (.pointer (some ⟨x0.p, 0, none⟩)) ∧ W.cell? ⟨P, 1, none⟩ = some (.pointer (some ⟨x1.p, 0, none⟩)) ∧ W.cell? ⟨Q, 0, none⟩ = some (.pointer (some ⟨P, 0, none⟩)) := ⟨h.pw.gb.c 0 _ rfl, h.pw.gb.c 1 _ rfl, h.q⟩
theorem PQ.above (h : PQ w W P Q o0 o1 v0 v1 x0 x1 s0 s1 y0 y1) (g o' n c : Nat) (e : Value.slice (some ⟨W.heap.size, 0, none⟩) 1 1 = .slice (some ⟨g, o', none⟩) n c) : ¬ x0.D y0 g ∧ ¬ x1.D y1 g := by
  cases e
  exact ⟨fun e => Nat.lt_irrefl _ (h.pw.m0.ltD e), fun e => Nat.lt_irrefl _ (h.pw.m1.ltD e)⟩
end
theorem info_smP : (Tryz.prog.info? 55).map (·.size) = some 7 := by kernel_rfl
theorem snA_oneP (x : Sn) : (snC x).toArray.all (·.oneCell') = true := by simp [snC, Value.oneCell']
theorem sent7P {T : TypeId} {W : World} {C : Nat} {y : Sn} (h : GB T W C (snC y).toArray) : W.cell? ⟨C, 0, none⟩ = some (.int .u8 y.m.a) ∧ W.cell? ⟨C, 1, none⟩ = some (.int .u8 y.m.b) ∧ W.cell? ⟨C, 2, none⟩ = some (.int .u8 y.m.c) ∧ W.cell? ⟨C, 3, none⟩ = some (.int .u8 y.m.d) ∧ W.cell? ⟨C, 4, none⟩ = some (.int .u8 y.m.e) ∧ W.cell? ⟨C, 5, none⟩ = some (.int .u8 y.m.f) ∧ W.cell? ⟨C, 6, none⟩ = some (.string (bs y.d)) :=
  ⟨h.c 0 _ rfl, h.c 1 _ rfl, h.c 2 _ rfl, h.c 3 _ rfl, h.c 4 _ rfl, h.c 5 _ rfl, h.c 6 _ rfl⟩
theorem Rw.oneU {W : World} {v : Value} {k : Int} (h : Rw 1 u1 W v [k]) : ∃ b off c, v = .slice (some ⟨b, off, none⟩) 1 c ∧ W.cell? ⟨b, off, none⟩ = some (.int .u16 k) := by
  obtain ⟨a, c, rfl, h2 | ⟨b, off, rfl, h2⟩⟩ := h.shape
  · cases h2
  · exact ⟨b, off, c, rfl, h2 0 (by simp) 0 (by decide)⟩
theorem wpQuiet_loadP {P : Program} {ops : Array Oper} {C : World → Prop} {Q : Act → Prop} {o : Oper} {rest : List Oper} {a : Act} (ty : TypeId) (x : Operand) (b off : Nat) (A : Array Value) (hw : Region.wanted o (yielded ops a.tmps) = true) (ho : o.op = .load ty x)
    (hx : a.eval x = .pointer (some ⟨b, off, none⟩)) (hl : ∀ w, C w → (Instr.loadAt ty (.pointer (some ⟨b, off, none⟩))).run P w = .ok (.agg A) w) (h : wpQuiet P ops C Q rest (a.put o.dst (.agg A))) : wpQuiet P ops C Q (o :: rest) a := by
  rw [wpQuiet, if_pos hw]
  refine ⟨.agg A, fun w hc => ?_, h⟩
  unfold Oper.quietAt execOp
  simp only [ho, hx, Sem.run_bind, hl w hc, Result.andThen_ok, Sem.run_pure]
  exact ⟨rfl, rfl⟩
theorem Rw.oneR {W : World} {v : Value} {r : Rp} (h : Rw 17 rqC W v [r]) : ∃ b off c, v = .slice (some ⟨b, off, none⟩) 1 c ∧ W.rangeAt b off (rqC r) := by
  obtain ⟨a, c, rfl, h2 | ⟨b, off, rfl, h2⟩⟩ := h.shape
  · cases h2
  · refine ⟨b, off, c, rfl, fun i u hu => ?_⟩
    have hi : i < 17 := (rqC_len r) ▸ (List.getElem?_eq_some_iff.1 hu).1
    have := h2 0 (by simp) i hi
    simp only [Nat.zero_mul, Nat.add_zero, List.getElem_cons_zero] at this
    rw [this]; exact hu
/-- What holds behind so many ticks of the first loop. -/
def J1 (iv : Int) (j : Nat) (s0 s1 : Ms) : Prop := (j = 0 ∧ s0 = ms0 [(2, lastC iv, 0)] ∧ s1 = ms0 [(1, lastC iv, 0)]) ∨ ∃ f, Inv1 iv j ex0 ex0 f s0 s1
theorem J1.step {lv iv : Int} (hlv : 0 ≤ lv ∧ lv < 8) (hiv : iv = 4 ∨ iv = 5) {j : Nat} (hj : j < 900) {s0 s1 : Ms} (h : J1 iv j s0 s1) : ∃ t0 t1, AllR (pO lv iv 1) (pO lv iv 2) false s0 s1 t0 t1 ∧ ∃ f, Inv1 iv ((j + 1 : Nat) : Int) ex0 ex0 f t0 t1 := by
  rcases h with ⟨rfl, rfl, rfl⟩ | ⟨f, h⟩
  · obtain ⟨f, t0, t1, a, b⟩ := first_step hlv hiv
    exact ⟨t0, t1, a, f, b⟩
  · obtain ⟨f', t0, t1, a, b⟩ := inv1_step hlv hiv ex0_ok ex0_ok (by omega) h
    exact ⟨t0, t1, a, f', by rw [Int.natCast_add]; exact b⟩
theorem PX.askedA {l r f Q : Int} {dt : List UInt8} {s : Ms} (h : PX 2 l r f Q ex0 s) : PX 2 l r f Q (1, dt, 0, 0, 0, []) { s with lp := 1, dat := dt, rep := 0, ali := 0 } :=
  ⟨h.V, h.k0, h.l0, h.bd, h.cr, h.al, h.lf, h.f0, h.sq, h.q0, h.bad, rfl, rfl, rfl, rfl, h.tr, h.way⟩
theorem PX.askedB {l r f Q : Int} {dt : List UInt8} {s : Ms} (h : PX 2 l r f Q ex0 s) : PX 2 l r f Q (1, dt, 1, 1, 1, []) { s with lp := 1, dat := dt, rep := 1, ali := 1, tr := 1, way := [] } :=
  ⟨h.V, h.k0, h.l0, h.bd, h.cr, h.al, h.lf, h.f0, h.sq, h.q0, h.bad, rfl, rfl, rfl, rfl, rfl, rfl⟩
theorem exA_ok {dt : List UInt8} (hd : dt.length ≤ 64) : ExOk (1, dt, 0, 0, 0, []) := ⟨show (0 : Int) ≤ 1 ∧ (1 : Int) ≤ 1000 by decide, by show dt.length ≤ 1000; omega, show (0 : Int) ≤ 0 ∧ (0 : Int) ≤ 1000 by decide, show (0 : Int) ≤ 0 ∧ (0 : Int) ≤ 1000 by decide, show (0 : Int) ≤ 0 ∧ (0 : Int) ≤ 1000 by decide, Nat.zero_le _, fun r hr => by cases hr⟩
theorem exB_ok {dt : List UInt8} (hd : dt.length ≤ 64) : ExOk (1, dt, 1, 1, 1, []) := ⟨show (0 : Int) ≤ 1 ∧ (1 : Int) ≤ 1000 by decide, by show dt.length ≤ 1000; omega, show (0 : Int) ≤ 1 ∧ (1 : Int) ≤ 1000 by decide, show (0 : Int) ≤ 1 ∧ (1 : Int) ≤ 1000 by decide, show (0 : Int) ≤ 1 ∧ (1 : Int) ≤ 1000 by decide, Nat.zero_le _, fun r hr => by cases hr⟩
/-- The two questions, and what becomes of them. -/
structure Asked (lv iv tl : Int) (d : List UInt8) (f Q : Int) (s0 s1 s0a s0b s0c s0d : Ms) (X Y : Sn) : Prop where
  lp : s0.lp = 0
  la : loopM (pO lv iv 1) s0 (pM 2) d = (s0a, X, 0)
  ea : Exch (pO lv iv 1) (pO lv iv 2) 20 false [X] s0a s1 s0b s1
  tr : s0b.tr = 0
  lt : traceM (pO lv iv 1) s0b (pM 2) tl = (s0c, Y, 0)
  et : Exch (pO lv iv 1) (pO lv iv 2) 20 false [Y] s0c s1 s0d s1
  inv : Inv1 iv Q (exE lv tl d) ex0 f s0d s1
theorem trcG_okP {lv : Int} (h : 0 ≤ lv ∧ lv < 8) : (trcG lv).Ok := ⟨⟨show (0 : Int) ≤ 1 by decide, show (1 : Int) < 256 by decide⟩, ⟨show (0 : Int) ≤ 128 by decide, show (128 : Int) < 256 by decide⟩, ⟨show (0 : Int) ≤ 194 by decide, show (194 : Int) < 256 by decide⟩, ⟨show (0 : Int) ≤ 0 by decide, show (0 : Int) < 256 by decide⟩, ⟨show (0 : Int) ≤ 0 by decide, show (0 : Int) < 256 by decide⟩, by show 0 ≤ 56 + lv ∧ 56 + lv < 256; omega⟩
theorem Inv1.asked {lv iv tl f Q : Int} {d : List UInt8} {s0 s1 : Ms} (hlv : 0 ≤ lv ∧ lv < 8) (hd : d.length ≤ 64) (ht : 1 ≤ tl ∧ tl < 256) (h : Inv1 iv Q ex0 ex0 f s0 s1) : ∃ s0a s0b s0c s0d X Y, Asked lv iv tl d f Q s0 s1 s0a s0b s0c s0d X Y := by
  obtain ⟨hf, h0, h1⟩ := h
  have hlp : s0.lp = 0 := h0.lp
  have htr : s0.tr = 0 := h0.tr
  obtain ⟨dA, dB, a1, a2, a3, a4, a5⟩ := loop_msg (iv := iv) hlv hd (s1 := s1) hlp
  obtain ⟨dC, dD, b1, b2, b3, b4, b5⟩ := trace_msg (lv := lv) (iv := iv) (s0 := { s0 with lp := 1, dat := d, rep := 1, ali := 1 }) (s1 := s1) hlv ht htr
  have o1 := h1.ok ex0_ok
  have oA := (h0.askedA (dt := d)).ok (exA_ok hd)
  have oB := (h0.askedB (dt := d)).ok (exB_ok hd)
  exact ⟨_, _, _, _, _, _, ⟨hlp, a1, .to1 19 _ _ _ _ _ _ _ o1 (pM_ok (.inr rfl)) a2 a4 (by simp) (.to0 18 _ _ _ _ _ _ _ oA (pM_ok (.inl rfl)) a3 a5 (by simp) (.done ..)), htr, b1, .to1 19 _ _ _ _ _ _ _ o1 (trcG_okP hlv) b2 b4 (by simp) (.to0 18 _ _ _ _ _ _ _ oB (pM_ok (.inl rfl)) b3 b5 (by simp) (.done ..)), hf, h0.asked, h1⟩⟩
end Go.Proofs.YtlkdfofpnmpidaaGreat

/- ltm: a trace, a reply, equals itself. -/
set_option linter.unusedVariables false
namespace Go.Proofs.YtlkdfofpnmpidaaGreat
open Go.RowKit

theorem gp_part (t : TypeId) (hs : ∀ w : World, (isAgg t).run Tryz.prog w = .ok false w) (cs : Array Value) (k : Nat) (v : Value) (w : World) (h : cs[k]? = some v) : (part t cs k).run Tryz.prog w = .ok v w := by
  simp [part, hs, h]
theorem gp_step (d : Nat) (xs ys : Array Value) (f : Field) (fs : List Field) (w : World) (u v : Value) (hn : f.name ≠ "_") (h1 : (part f.type xs f.offset).run Tryz.prog w = .ok u w) (h2 : (part f.type ys f.offset).run Tryz.prog w = .ok v w)
    (h3 : (Op.equalIn d f.type u v).run Tryz.prog w = .ok true w) : (Op.eqFields d xs ys (f :: fs)).run Tryz.prog w = (Op.eqFields d xs ys fs).run Tryz.prog w := by
  rw [Op.eqFields, if_pos hn]
  simp [Sem.run_bind, h1, h2, h3, Sem.run_ite]
theorem equalIn_macS (d : Nat) (m : Mc) (w : World) : (Op.equalIn (d + 2) 25 (.agg #[.int .u8 m.a, .int .u8 m.b, .int .u8 m.c, .int .u8 m.d, .int .u8 m.e, .int .u8 m.f]) (.agg #[.int .u8 m.a, .int .u8 m.b, .int .u8 m.c, .int .u8 m.d, .int .u8 m.e, .int .u8 m.f])).run Tryz.prog w = .ok true w := by
  rw [equalIn_macG]; simp
set_option maxRecDepth 100000 in
theorem run_equalIn_rp (d : Nat) (x : Rp) (w : World) : (Op.equalIn (d + 5) 81 (.agg #[.int .u8 x.lv, .int .u32 x.nm, .int .u8 x.tl, .bool x.st, .bool x.en, .int .u8 x.mi.a, .int .u8 x.mi.b, .int .u8 x.mi.c, .int .u8 x.mi.d, .int .u8 x.mi.e, .int .u8 x.mi.f, .int .u8 x.mo.a, .int .u8 x.mo.b, .int .u8 x.mo.c, .int .u8 x.mo.d, .int .u8 x.mo.e, .int .u8 x.mo.f]) (.agg #[.int .u8 x.lv, .int .u32 x.nm, .int .u8 x.tl, .bool x.st, .bool x.en, .int .u8 x.mi.a, .int .u8 x.mi.b, .int .u8 x.mi.c, .int .u8 x.mi.d, .int .u8 x.mi.e, .int .u8 x.mi.f, .int .u8 x.mo.a, .int .u8 x.mo.b, .int .u8 x.mo.c, .int .u8 x.mo.d, .int .u8 x.mo.e, .int .u8 x.mo.f])).run Tryz.prog w = .ok true w := by
  have hb : ∀ w, (isAgg 4).run Tryz.prog w = .ok false w := fun w => by kernel_rfl
  have h8 : ∀ w, (isAgg 5).run Tryz.prog w = .ok false w := fun w => by kernel_rfl
  have h32 : ∀ w, (isAgg 41).run Tryz.prog w = .ok false w := fun w => by kernel_rfl
  have p0 : (part 5 #[.int .u8 x.lv, .int .u32 x.nm, .int .u8 x.tl, .bool x.st, .bool x.en, .int .u8 x.mi.a, .int .u8 x.mi.b, .int .u8 x.mi.c, .int .u8 x.mi.d, .int .u8 x.mi.e, .int .u8 x.mi.f, .int .u8 x.mo.a, .int .u8 x.mo.b, .int .u8 x.mo.c, .int .u8 x.mo.d, .int .u8 x.mo.e, .int .u8 x.mo.f] 0).run Tryz.prog w = .ok (.int .u8 x.lv) w := gp_part _ h8 _ 0 _ w rfl
  have p1 : (part 41 #[.int .u8 x.lv, .int .u32 x.nm, .int .u8 x.tl, .bool x.st, .bool x.en, .int .u8 x.mi.a, .int .u8 x.mi.b, .int .u8 x.mi.c, .int .u8 x.mi.d, .int .u8 x.mi.e, .int .u8 x.mi.f, .int .u8 x.mo.a, .int .u8 x.mo.b, .int .u8 x.mo.c, .int .u8 x.mo.d, .int .u8 x.mo.e, .int .u8 x.mo.f] 1).run Tryz.prog w = .ok (.int .u32 x.nm) w := gp_part _ h32 _ 1 _ w rfl
  have p2 : (part 5 #[.int .u8 x.lv, .int .u32 x.nm, .int .u8 x.tl, .bool x.st, .bool x.en, .int .u8 x.mi.a, .int .u8 x.mi.b, .int .u8 x.mi.c, .int .u8 x.mi.d, .int .u8 x.mi.e, .int .u8 x.mi.f, .int .u8 x.mo.a, .int .u8 x.mo.b, .int .u8 x.mo.c, .int .u8 x.mo.d, .int .u8 x.mo.e, .int .u8 x.mo.f] 2).run Tryz.prog w = .ok (.int .u8 x.tl) w := gp_part _ h8 _ 2 _ w rfl
  have p3 : (part 4 #[.int .u8 x.lv, .int .u32 x.nm, .int .u8 x.tl, .bool x.st, .bool x.en, .int .u8 x.mi.a, .int .u8 x.mi.b, .int .u8 x.mi.c, .int .u8 x.mi.d, .int .u8 x.mi.e, .int .u8 x.mi.f, .int .u8 x.mo.a, .int .u8 x.mo.b, .int .u8 x.mo.c, .int .u8 x.mo.d, .int .u8 x.mo.e, .int .u8 x.mo.f] 3).run Tryz.prog w = .ok (.bool x.st) w := gp_part _ hb _ 3 _ w rfl
  have p4 : (part 4 #[.int .u8 x.lv, .int .u32 x.nm, .int .u8 x.tl, .bool x.st, .bool x.en, .int .u8 x.mi.a, .int .u8 x.mi.b, .int .u8 x.mi.c, .int .u8 x.mi.d, .int .u8 x.mi.e, .int .u8 x.mi.f, .int .u8 x.mo.a, .int .u8 x.mo.b, .int .u8 x.mo.c, .int .u8 x.mo.d, .int .u8 x.mo.e, .int .u8 x.mo.f] 4).run Tryz.prog w = .ok (.bool x.en) w := gp_part _ hb _ 4 _ w rfl
  have p5 : (part 25 #[.int .u8 x.lv, .int .u32 x.nm, .int .u8 x.tl, .bool x.st, .bool x.en, .int .u8 x.mi.a, .int .u8 x.mi.b, .int .u8 x.mi.c, .int .u8 x.mi.d, .int .u8 x.mi.e, .int .u8 x.mi.f, .int .u8 x.mo.a, .int .u8 x.mo.b, .int .u8 x.mo.c, .int .u8 x.mo.d, .int .u8 x.mo.e, .int .u8 x.mo.f] 5).run Tryz.prog w = .ok (.agg #[.int .u8 x.mi.a, .int .u8 x.mi.b, .int .u8 x.mi.c, .int .u8 x.mi.d, .int .u8 x.mi.e, .int .u8 x.mi.f]) w := by kernel_rfl
  have p6 : (part 25 #[.int .u8 x.lv, .int .u32 x.nm, .int .u8 x.tl, .bool x.st, .bool x.en, .int .u8 x.mi.a, .int .u8 x.mi.b, .int .u8 x.mi.c, .int .u8 x.mi.d, .int .u8 x.mi.e, .int .u8 x.mi.f, .int .u8 x.mo.a, .int .u8 x.mo.b, .int .u8 x.mo.c, .int .u8 x.mo.d, .int .u8 x.mo.e, .int .u8 x.mo.f] 11).run Tryz.prog w = .ok (.agg #[.int .u8 x.mo.a, .int .u8 x.mo.b, .int .u8 x.mo.c, .int .u8 x.mo.d, .int .u8 x.mo.e, .int .u8 x.mo.f]) w := by kernel_rfl
  rw [run_equalIn_struct w (d + 4) 81 _ _ (by kernel_rfl) (by kernel_rfl)]
  simp only [Program.fieldsOf, Tryz.underlying81]
  refine Eq.trans (gp_step _ _ _ _ _ w ?u0 ?v0 ?n0 ?a0 ?b0 ?c0) ?_
  case a0 => exact p0
  case b0 => exact p0
  case c0 => exact (run_equalIn_int w _ _ .u8 .u8 x.lv x.lv Tryz.underlying5).trans (by simp)
  case n0 => decide
  refine Eq.trans (gp_step _ _ _ _ _ w ?u1 ?v1 ?n1 ?a1 ?b1 ?c1) ?_
  case a1 => exact p1
  case b1 => exact p1
  case c1 => exact (run_equalIn_int w _ _ .u32 .u32 x.nm x.nm Tryz.underlying41).trans (by simp)
  case n1 => decide
  refine Eq.trans (gp_step _ _ _ _ _ w ?u2 ?v2 ?n2 ?a2 ?b2 ?c2) ?_
  case a2 => exact p2
  case b2 => exact p2
  case c2 => exact (run_equalIn_int w _ _ .u8 .u8 x.tl x.tl Tryz.underlying5).trans (by simp)
  case n2 => decide
  refine Eq.trans (gp_step _ _ _ _ _ w ?u3 ?v3 ?n3 ?a3 ?b3 ?c3) ?_
  case a3 => exact p3
  case b3 => exact p3
  case c3 => exact (run_equalIn_bool' w _ _ x.st x.st Tryz.underlying4).trans (by simp)
  case n3 => decide
  refine Eq.trans (gp_step _ _ _ _ _ w ?u4 ?v4 ?n4 ?a4 ?b4 ?c4) ?_
  case a4 => exact p4
  case b4 => exact p4
  case c4 => exact (run_equalIn_bool' w _ _ x.en x.en Tryz.underlying4).trans (by simp)
  case n4 => decide
  refine Eq.trans (gp_step _ _ _ _ _ w ?u5 ?v5 ?n5 ?a5 ?b5 ?c5) ?_
  case a5 => exact p5
  case b5 => exact p5
  case c5 => exact equalIn_macS _ x.mi w
  case n5 => decide
  refine Eq.trans (gp_step _ _ _ _ _ w ?u6 ?v6 ?n6 ?a6 ?b6 ?c6) ?_
  case a6 => exact p6
  case b6 => exact p6
  case c6 => exact equalIn_macS _ x.mo w
  case n6 => decide
  rfl
theorem run_eql_rp (x : Rp) (w : World) : (binOp .eql 81 (.agg #[.int .u8 x.lv, .int .u32 x.nm, .int .u8 x.tl, .bool x.st, .bool x.en, .int .u8 x.mi.a, .int .u8 x.mi.b, .int .u8 x.mi.c, .int .u8 x.mi.d, .int .u8 x.mi.e, .int .u8 x.mi.f, .int .u8 x.mo.a, .int .u8 x.mo.b, .int .u8 x.mo.c, .int .u8 x.mo.d, .int .u8 x.mo.e, .int .u8 x.mo.f]) (.agg #[.int .u8 x.lv, .int .u32 x.nm, .int .u8 x.tl, .bool x.st, .bool x.en, .int .u8 x.mi.a, .int .u8 x.mi.b, .int .u8 x.mi.c, .int .u8 x.mi.d, .int .u8 x.mi.e, .int .u8 x.mi.f, .int .u8 x.mo.a, .int .u8 x.mo.b, .int .u8 x.mo.c, .int .u8 x.mo.d, .int .u8 x.mo.e, .int .u8 x.mo.f])).run Tryz.prog w = .ok (.bool true) w := by
  rw [run_eql_struct, run_equalIn_rp 9995]; rfl
theorem run_neq_rp (x : Rp) (w : World) : (binOp .neq 81 (.agg #[.int .u8 x.lv, .int .u32 x.nm, .int .u8 x.tl, .bool x.st, .bool x.en, .int .u8 x.mi.a, .int .u8 x.mi.b, .int .u8 x.mi.c, .int .u8 x.mi.d, .int .u8 x.mi.e, .int .u8 x.mi.f, .int .u8 x.mo.a, .int .u8 x.mo.b, .int .u8 x.mo.c, .int .u8 x.mo.d, .int .u8 x.mo.e, .int .u8 x.mo.f]) (.agg #[.int .u8 x.lv, .int .u32 x.nm, .int .u8 x.tl, .bool x.st, .bool x.en, .int .u8 x.mi.a, .int .u8 x.mi.b, .int .u8 x.mi.c, .int .u8 x.mi.d, .int .u8 x.mi.e, .int .u8 x.mi.f, .int .u8 x.mo.a, .int .u8 x.mo.b, .int .u8 x.mo.c, .int .u8 x.mo.d, .int .u8 x.mo.e, .int .u8 x.mo.f])).run Tryz.prog w = .ok (.bool false) w := by
  rw [run_neq_struct, run_equalIn_rp 9995]; rfl
theorem eqGuard_rp : Tryz.prog.eqGuardType Tryz.prog.depth 81 = false := by kernel_rfl
set_option maxRecDepth 100000 in
theorem run_equalIn_tr (d : Nat) (x : Tr) (w : World) : (Op.equalIn (d + 5) 132 (.agg #[.int .u8 x.lv, .int .u32 x.nm, .int .u8 x.tl, .int .u8 x.fr.a, .int .u8 x.fr.b, .int .u8 x.fr.c, .int .u8 x.fr.d, .int .u8 x.fr.e, .int .u8 x.fr.f, .int .u8 x.tt.a, .int .u8 x.tt.b, .int .u8 x.tt.c, .int .u8 x.tt.d, .int .u8 x.tt.e, .int .u8 x.tt.f]) (.agg #[.int .u8 x.lv, .int .u32 x.nm, .int .u8 x.tl, .int .u8 x.fr.a, .int .u8 x.fr.b, .int .u8 x.fr.c, .int .u8 x.fr.d, .int .u8 x.fr.e, .int .u8 x.fr.f, .int .u8 x.tt.a, .int .u8 x.tt.b, .int .u8 x.tt.c, .int .u8 x.tt.d, .int .u8 x.tt.e, .int .u8 x.tt.f])).run Tryz.prog w = .ok true w := by
  have h8 : ∀ w, (isAgg 5).run Tryz.prog w = .ok false w := fun w => by kernel_rfl
  have h32 : ∀ w, (isAgg 41).run Tryz.prog w = .ok false w := fun w => by kernel_rfl
  have p0 : (part 5 #[.int .u8 x.lv, .int .u32 x.nm, .int .u8 x.tl, .int .u8 x.fr.a, .int .u8 x.fr.b, .int .u8 x.fr.c, .int .u8 x.fr.d, .int .u8 x.fr.e, .int .u8 x.fr.f, .int .u8 x.tt.a, .int .u8 x.tt.b, .int .u8 x.tt.c, .int .u8 x.tt.d, .int .u8 x.tt.e, .int .u8 x.tt.f] 0).run Tryz.prog w = .ok (.int .u8 x.lv) w := gp_part _ h8 _ 0 _ w rfl
  have p1 : (part 41 #[.int .u8 x.lv, .int .u32 x.nm, .int .u8 x.tl, .int .u8 x.fr.a, .int .u8 x.fr.b, .int .u8 x.fr.c, .int .u8 x.fr.d, .int .u8 x.fr.e, .int .u8 x.fr.f, .int .u8 x.tt.a, .int .u8 x.tt.b, .int .u8 x.tt.c, .int .u8 x.tt.d, .int .u8 x.tt.e, .int .u8 x.tt.f] 1).run Tryz.prog w = .ok (.int .u32 x.nm) w := gp_part _ h32 _ 1 _ w rfl
  have p2 : (part 5 #[.int .u8 x.lv, .int .u32 x.nm, .int .u8 x.tl, .int .u8 x.fr.a, .int .u8 x.fr.b, .int .u8 x.fr.c, .int .u8 x.fr.d, .int .u8 x.fr.e, .int .u8 x.fr.f, .int .u8 x.tt.a, .int .u8 x.tt.b, .int .u8 x.tt.c, .int .u8 x.tt.d, .int .u8 x.tt.e, .int .u8 x.tt.f] 2).run Tryz.prog w = .ok (.int .u8 x.tl) w := gp_part _ h8 _ 2 _ w rfl
  have p3 : (part 25 #[.int .u8 x.lv, .int .u32 x.nm, .int .u8 x.tl, .int .u8 x.fr.a, .int .u8 x.fr.b, .int .u8 x.fr.c, .int .u8 x.fr.d, .int .u8 x.fr.e, .int .u8 x.fr.f, .int .u8 x.tt.a, .int .u8 x.tt.b, .int .u8 x.tt.c, .int .u8 x.tt.d, .int .u8 x.tt.e, .int .u8 x.tt.f] 3).run Tryz.prog w = .ok (.agg #[.int .u8 x.fr.a, .int .u8 x.fr.b, .int .u8 x.fr.c, .int .u8 x.fr.d, .int .u8 x.fr.e, .int .u8 x.fr.f]) w := by kernel_rfl
  have p4 : (part 25 #[.int .u8 x.lv, .int .u32 x.nm, .int .u8 x.tl, .int .u8 x.fr.a, .int .u8 x.fr.b, .int .u8 x.fr.c, .int .u8 x.fr.d, .int .u8 x.fr.e, .int .u8 x.fr.f, .int .u8 x.tt.a, .int .u8 x.tt.b, .int .u8 x.tt.c, .int .u8 x.tt.d, .int .u8 x.tt.e, .int .u8 x.tt.f] 9).run Tryz.prog w = .ok (.agg #[.int .u8 x.tt.a, .int .u8 x.tt.b, .int .u8 x.tt.c, .int .u8 x.tt.d, .int .u8 x.tt.e, .int .u8 x.tt.f]) w := by kernel_rfl
  rw [run_equalIn_struct w (d + 4) 132 _ _ (by kernel_rfl) (by kernel_rfl)]
  simp only [Program.fieldsOf, Tryz.underlying132]
  refine Eq.trans (gp_step _ _ _ _ _ w ?u0 ?v0 ?n0 ?a0 ?b0 ?c0) ?_
  case a0 => exact p0
  case b0 => exact p0
  case c0 => exact (run_equalIn_int w _ _ .u8 .u8 x.lv x.lv Tryz.underlying5).trans (by simp)
  case n0 => decide
  refine Eq.trans (gp_step _ _ _ _ _ w ?u1 ?v1 ?n1 ?a1 ?b1 ?c1) ?_
  case a1 => exact p1
  case b1 => exact p1
  case c1 => exact (run_equalIn_int w _ _ .u32 .u32 x.nm x.nm Tryz.underlying41).trans (by simp)
  case n1 => decide
  refine Eq.trans (gp_step _ _ _ _ _ w ?u2 ?v2 ?n2 ?a2 ?b2 ?c2) ?_
  case a2 => exact p2
  case b2 => exact p2
  case c2 => exact (run_equalIn_int w _ _ .u8 .u8 x.tl x.tl Tryz.underlying5).trans (by simp)
  case n2 => decide
  refine Eq.trans (gp_step _ _ _ _ _ w ?u3 ?v3 ?n3 ?a3 ?b3 ?c3) ?_
  case a3 => exact p3
  case b3 => exact p3
  case c3 => exact equalIn_macS _ x.fr w
  case n3 => decide
  refine Eq.trans (gp_step _ _ _ _ _ w ?u4 ?v4 ?n4 ?a4 ?b4 ?c4) ?_
  case a4 => exact p4
  case b4 => exact p4
  case c4 => exact equalIn_macS _ x.tt w
  case n4 => decide
  rfl
theorem run_eql_tr (x : Tr) (w : World) : (binOp .eql 132 (.agg #[.int .u8 x.lv, .int .u32 x.nm, .int .u8 x.tl, .int .u8 x.fr.a, .int .u8 x.fr.b, .int .u8 x.fr.c, .int .u8 x.fr.d, .int .u8 x.fr.e, .int .u8 x.fr.f, .int .u8 x.tt.a, .int .u8 x.tt.b, .int .u8 x.tt.c, .int .u8 x.tt.d, .int .u8 x.tt.e, .int .u8 x.tt.f]) (.agg #[.int .u8 x.lv, .int .u32 x.nm, .int .u8 x.tl, .int .u8 x.fr.a, .int .u8 x.fr.b, .int .u8 x.fr.c, .int .u8 x.fr.d, .int .u8 x.fr.e, .int .u8 x.fr.f, .int .u8 x.tt.a, .int .u8 x.tt.b, .int .u8 x.tt.c, .int .u8 x.tt.d, .int .u8 x.tt.e, .int .u8 x.tt.f])).run Tryz.prog w = .ok (.bool true) w := by
  rw [run_eql_struct, run_equalIn_tr 9995]; rfl
theorem run_neq_tr (x : Tr) (w : World) : (binOp .neq 132 (.agg #[.int .u8 x.lv, .int .u32 x.nm, .int .u8 x.tl, .int .u8 x.fr.a, .int .u8 x.fr.b, .int .u8 x.fr.c, .int .u8 x.fr.d, .int .u8 x.fr.e, .int .u8 x.fr.f, .int .u8 x.tt.a, .int .u8 x.tt.b, .int .u8 x.tt.c, .int .u8 x.tt.d, .int .u8 x.tt.e, .int .u8 x.tt.f]) (.agg #[.int .u8 x.lv, .int .u32 x.nm, .int .u8 x.tl, .int .u8 x.fr.a, .int .u8 x.fr.b, .int .u8 x.fr.c, .int .u8 x.fr.d, .int .u8 x.fr.e, .int .u8 x.fr.f, .int .u8 x.tt.a, .int .u8 x.tt.b, .int .u8 x.tt.c, .int .u8 x.tt.d, .int .u8 x.tt.e, .int .u8 x.tt.f])).run Tryz.prog w = .ok (.bool false) w := by
  rw [run_neq_struct, run_equalIn_tr 9995]; rfl
theorem eqGuard_tr : Tryz.prog.eqGuardType Tryz.prog.depth 132 = false := by kernel_rfl
end Go.Proofs.YtlkdfofpnmpidaaGreat
