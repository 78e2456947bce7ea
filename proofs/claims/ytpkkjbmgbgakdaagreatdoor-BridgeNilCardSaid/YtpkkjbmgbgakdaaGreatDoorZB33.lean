/- ZB33: the texts NK, NL as one. -/
import Derived.Test.YtpkkjbmgbgakdaaGreatDoorZB32
/- bridge: Do, for the commands on VLANs. -/
set_option linter.unusedVariables false
set_option linter.unusedSimpArgs false
namespace Go.Proofs.YtpkkjbmgbgakdaaGreatDoor
open Go.RowKit

set_option maxRecDepth 100000 in
set_option maxHeartbeats 8000000 in
theorem bdo_table (b : Nat) (A : Array Value) (d : Int) (hA0 : A[0]? = some (.int .u8 d)) (hsz : A.size = 27) (hd : 0 ≤ d ∧ d < 256) (hn : ∀ z : DataW Unit, dsD.atKey (.int .u8 d) z = .lit (.int .i64 (97 : Nat))) (Q : World → Prop) (w : World)
    (HC : ∀ W, Below w.heap.size w W → Calls Tryz.prog 97 #[.pointer (some ⟨b, 0, none⟩), .agg A] W fun en w' => en = .returned (.tuple #[.slice none 0 0, .int .i64 0, .int .i64 0]) ∧ Q w') :
    Calls Tryz.prog 13 #[.pointer (some ⟨b, 0, none⟩), .agg A] w fun en w' => en = .returned (.tuple #[.slice none 0 0, .int .i64 0, .int .i64 0]) ∧ Q w' := by
  have hb := (Below.refl w.heap.size w).alloc (Nat.le_refl _) (.cells A 64)
  have g1 := GB.new 64 w A
  obtain ⟨w0, hw0⟩ : ∃ z, w.alloc (.cells A 64) = z := ⟨_, rfl⟩
  rw [hw0] at hb g1
  have dd := (Below.refl w0.heap.size w0).drew
  have HB := Lib.hid (hb.trans (dd.mono hb.size))
  have HG := Lib.hid (g1.later dd)
  have HIL : Hid ((Tryz.prog.info? 64).map (·.size) = some A.toList.length) := Lib.hid (by rw [Array.length_toList, hsz]; kernel_rfl)
  have HC := Lib.hid HC
  have c0 : w0.drew.cell? ⟨w.heap.size, 0, none⟩ = some (.int .u8 d) := HG.out.c 0 _ hA0
  have HL : Hid (∀ W q, DMap W q → (Instr.lookup 133 (.map (some q)) (.int .u8 d) true).run Tryz.prog W = .ok (.tuple #[.func (.func 97) #[] #[], .bool true]) W) := Lib.hid fun W q h => dmap_look h d hd _ hn
  clear hb g1 hn hA0 hsz
  go_enter Tryz.func13, Tryz.ntmps13
  go_upto_region 3 with fail
  clear hw0
  refine wp_region_held_drew (S := fun W => W.cell? ⟨w.heap.size, 0, none⟩ = some (.int .u8 d)) (by kernel_rfl) c0 (fun hHeld => ?_)
  refine wpAnyH_take (i := 1) (v := ?_) rfl (by kernel_rfl) (by kernel_rfl) (by kernel_rfl) (fun _ _ _ h => h) (Or.inl ⟨by rfl, ?hy1⟩) (by assumption) ?_
  case hy1 => (intro w hSw; (try dsimp only at hSw); go_simp; try with_reducible rfl)
  try simp only [Act.put, List.setIfInBounds_toArray, List.set_cons_zero, List.set_cons_succ, List.getElem_toArray, List.getElem_cons_zero, List.getElem_cons_succ]
  refine wpAnyH_take (i := 2) (v := ?_) rfl (by kernel_rfl) (by kernel_rfl) (by kernel_rfl) (fun _ _ _ h => h) (Or.inl ⟨by rfl, ?hy2⟩) (by assumption) ?_
  case hy2 => (intro w hSw; (try dsimp only at hSw); go_simp; try with_reducible rfl)
  try simp only [Act.put, List.setIfInBounds_toArray, List.set_cons_zero, List.set_cons_succ, List.getElem_toArray, List.getElem_cons_zero, List.getElem_cons_succ]
  refine wpAnyH_ready (rs := [0]) (by kernel_rfl) (by simp) (AllReadyH.cons rfl (fun K hK => ?_) AllReadyH.nil)
  (go_simp; go_at_call 40; refine (does_any _).mono ?_; rintro en' w1 ⟨mp, rfl, hm1, hb1⟩; have c1 := (hb1.cell (World.block_lt_of_cell? _ _ c0)).trans c0; have HM1 := Lib.hid hm1; have HB1 := Lib.hid (HB.out.trans (hb1.mono HB.out.size)); have HG1 := Lib.hid (HG.out.later hb1); clear hb1 hm1; refine hK.out _ _ c1 (fun hHeld => ?_); clear hK K; try simp only [Act.put, List.setIfInBounds_toArray, List.set_cons_zero, List.set_cons_succ, List.getElem_toArray, List.getElem_cons_zero, List.getElem_cons_succ])
  have LK := HL.out _ _ HM1.out
  refine wpAnyH_ready (rs := [3]) (by kernel_rfl) (by simp) (AllReadyH.cons rfl (fun K hK => ?_) AllReadyH.nil)
  (go_simp; refine hK.out _ _ c1 (fun hHeld => ?_); clear hK K; try simp only [Act.put, List.setIfInBounds_toArray, List.set_cons_zero, List.set_cons_succ, List.getElem_toArray, List.getElem_cons_zero, List.getElem_cons_succ])
  refine wpAnyH_take (i := 4) (v := ?_) rfl (by kernel_rfl) (by kernel_rfl) (by kernel_rfl) (fun _ _ _ h => h) (Or.inl ⟨by rfl, ?hy4⟩) (by assumption) ?_
  case hy4 => (intro w hSw; (try dsimp only at hSw); go_simp; try with_reducible rfl)
  try simp only [Act.put, List.setIfInBounds_toArray, List.set_cons_zero, List.set_cons_succ, List.getElem_toArray, List.getElem_cons_zero, List.getElem_cons_succ]
  refine wpAnyH_take (i := 5) (v := ?_) rfl (by kernel_rfl) (by kernel_rfl) (by kernel_rfl) (fun _ _ _ h => h) (Or.inl ⟨by rfl, ?hy5⟩) (by assumption) ?_
  case hy5 => (intro w hSw; (try dsimp only at hSw); go_simp; try with_reducible rfl)
  try simp only [Act.put, List.setIfInBounds_toArray, List.set_cons_zero, List.set_cons_succ, List.getElem_toArray, List.getElem_cons_zero, List.getElem_cons_succ]
  refine wpAnyH_take (i := 6) (v := ?_) rfl (by kernel_rfl) (by kernel_rfl) (by kernel_rfl) (fun _ _ _ h => h) (Or.inl ⟨by rfl, ?hy6⟩) (by assumption) ?_
  case hy6 => (intro w hSw; (try dsimp only at hSw); go_simp; try with_reducible rfl)
  try simp only [Act.put, List.setIfInBounds_toArray, List.set_cons_zero, List.set_cons_succ, List.getElem_toArray, List.getElem_cons_zero, List.getElem_cons_succ]
  refine wpAnyH_take (i := 7) (v := ?_) rfl (by kernel_rfl) (by kernel_rfl) (by kernel_rfl) (fun _ _ _ h => h) (Or.inl ⟨by rfl, ?hy7⟩) (by assumption) ?_
  case hy7 => (intro w hSw; (try dsimp only at hSw); go_simp; try with_reducible rfl)
  try simp only [Act.put, List.setIfInBounds_toArray, List.set_cons_zero, List.set_cons_succ, List.getElem_toArray, List.getElem_cons_zero, List.getElem_cons_succ]
  refine wpAnyH_take (i := 8) (v := ?_) rfl (by kernel_rfl) (by kernel_rfl) (by kernel_rfl) (fun _ _ _ h => h) (Or.inl ⟨by rfl, ?hy8⟩) (by assumption) ?_
  case hy8 => (intro w hSw; (try dsimp only at hSw); go_simp; try with_reducible rfl)
  try simp only [Act.put, List.setIfInBounds_toArray, List.set_cons_zero, List.set_cons_succ, List.getElem_toArray, List.getElem_cons_zero, List.getElem_cons_succ]
  refine wpAnyH_done (by kernel_rfl) ?_ _
  have TC := Lib.hid (HC.out w1 HB1.out)
  go_wp2_with (first
    | ((with_reducible refine wpList_load_mid rfl 64 (.tmp 3) rfl w.heap.size 0 ?hx A.toList _ HG1.out.range Tryz.underlying64 ?hu HIL.out ?_); (case hx => rfl); (case hu => rfl))
    | (go_at_call 97; with_reducible refine TC.out.mono ?_; rintro e w2 ⟨rfl, hq⟩))
  refine bodyPost_ret (v := .tuple #[.slice none 0 0, .int .i64 0, .int .i64 0]) (by simp [results, Tryz.results13, go_sem]) rfl ⟨rfl, hq⟩
end Go.Proofs.YtpkkjbmgbgakdaaGreatDoor

/- bridge: the known frame goes out by a wire. -/
set_option linter.unusedVariables false
set_option linter.unusedSimpArgs false
namespace Go.Proofs.YtpkkjbmgbgakdaaGreatDoor
open Go.RowKit

theorem execLoad {e : Operand → Value} {o : Oper} {ty : TypeId} {x : Operand} {b : Nat} {A : Array Value} {W : World} (ho : o.op = .load ty x) (hx : e x = .pointer (some ⟨b, 0, none⟩)) (hl : (Instr.loadAt ty (.pointer (some ⟨b, 0, none⟩))).run Tryz.prog W = .ok (.agg A) W) : (execOp e o).run Tryz.prog W = .ok (.value (.agg A)) W := by
  unfold execOp
  simp only [ho, hx, Sem.run_bind, hl, Result.andThen_ok, Sem.run_pure]
theorem GB.loadAt {T : TypeId} {W : World} {b : Nat} {A : Array Value} {d : TypeDesc} (h : GB T W b A) (hu : Tryz.prog.underlying T = some d) (hd : d.isRow = true) (hi : (Tryz.prog.info? T).map (·.size) = some A.toList.length) : (Instr.loadAt T (.pointer (some ⟨b, 0, none⟩))).run Tryz.prog W = .ok (.agg A) W := by
  have := run_loadAt_mid (P := Tryz.prog) W b 0 T A.toList _ h.range hu hd hi
  simpa using this
/-- What is sent: the known frame, by port 1. -/
def stC (_ : Unit) : List Value := [.int .u8 1, .string { data := #[255, 255, 255, 255, 255, 255, 2, 0, 0, 0, 0, 1, 8, 0, 120] }]
theorem stC_len (x : Unit) : (stC x).length = 2 := rfl
theorem stC_one (x : Unit) : ∀ u ∈ stC x, u.oneCell' = true := by
  intro u hu
  simp [stC] at hu
  rcases hu with rfl | rfl <;> rfl
set_option maxRecDepth 100000 in
set_option maxHeartbeats 8000000 in
theorem bwireA (P : BP) (U : List Bool) (o : List Int) (v : Value) (dr : Int) (w : World) (h : BS w P U o [(1, 3, 3)] v dr) : Calls Tryz.prog 96 #[.pointer (some ⟨P.b, 0, none⟩), .int .u8 1, .int .u16 1, .agg #[.int .u8 255, .int .u8 255, .int .u8 255, .int .u8 255, .int .u8 255, .int .u8 255, .int .u8 2, .int .u8 0, .int .u8 0, .int .u8 0, .int .u8 0, .int .u8 1, .bool false, .int .u8 0, .int .u16 0, .int .u16 2048, .string (bs [120])]] w fun en w' => ∃ g, en = .returned (.slice (some ⟨g, 0, none⟩) 1 1) ∧ Rw 2 stC w' (.slice (some ⟨g, 0, none⟩) 1 1) [()] ∧ w.heap.size ≤ g ∧ Below w.heap.size w w' := by
  obtain ⟨A, hA⟩ : ∃ A : Array Value, A = #[.int .u8 255, .int .u8 255, .int .u8 255, .int .u8 255, .int .u8 255, .int .u8 255, .int .u8 2, .int .u8 0, .int .u8 0, .int .u8 0, .int .u8 0, .int .u8 1, .bool false, .int .u8 0, .int .u16 0, .int .u16 2048, .string (bs [120])] := ⟨_, rfl⟩
  have OUT : Hid (∀ W, BS W P U o [(1, 3, 3)] v dr → Calls Tryz.prog 159 #[.pointer (some ⟨P.r, 0, none⟩), .int .u8 1, .int .u16 1, .agg A] W fun en w' => en = .returned (.tuple #[.agg A, .bool true]) ∧ Below W.heap.size W w') := Lib.hid fun W hW => by
    rw [hA]; exact routA P.r P.q P.vm P.f P.s o v W hW.rl
  have PUT : Hid (∀ w, Calls Tryz.prog 81 #[.agg A] w fun en w' => en = .returned (.tuple #[.string { data := #[255, 255, 255, 255, 255, 255, 2, 0, 0, 0, 0, 1, 8, 0, 120] }, .int .i64 0]) ∧ Below w.heap.size w w') := Lib.hid fun w => by rw [hA]; exact putA w
  have hI : isFr A := by rw [hA]; exact isFr_A
  rw [← hA]
  clear hA
  have HIZ := Lib.hid (frame_info hI)
  have HIL := Lib.hid (frame_infoL hI)
  have HO1 := Lib.hid hI.one
  have HSZ := Lib.hid hI.size
  clear hI
  have hb := (Below.refl w.heap.size w).alloc (Nat.le_refl _) (.cells A 68)
  have g1 := GB.new 68 w A
  have h0 := h.later hb
  obtain ⟨w0, hw0⟩ : ∃ z, w.alloc (.cells A 68) = z := ⟨_, rfl⟩
  rw [hw0] at hb g1 h0
  have HB := Lib.hid hb
  have SX : Hid (∀ W, Below w0.heap.size w0 W → GB 68 W w.heap.size A ∧ W.cell? ⟨P.b, 2, none⟩ = some (.pointer (some ⟨P.r, 0, none⟩))) := Lib.hid fun W hb => ⟨g1.later hb, (h0.later hb).c2⟩
  have HS : Hid (∀ W, Below w0.heap.size w0 W → BS W P U o [(1, 3, 3)] v dr) := Lib.hid fun W hb => h0.later hb
  have BD : Below w0.heap.size w0 w0.drew := (Below.refl _ _).drew
  clear h hb g1 h0
  go_enter Tryz.func96, Tryz.ntmps96
  go_upto_region 1 with fail
  clear hw0
  go_cut [9, 10] (fun s9 s10 wx => ∃ z, s9 = .pointer (some ⟨z, 0, none⟩) ∧ s10 = .bool true ∧ Hid (GB 68 wx z A ∧ w.heap.size ≤ z ∧ Below w.heap.size w wx))
  case first =>
    refine wp_region_held_drew (S := fun W => GB 68 W w.heap.size A ∧ W.cell? ⟨P.b, 2, none⟩ = some (.pointer (some ⟨P.r, 0, none⟩))) (by kernel_rfl) (SX.out _ BD) (fun hHeld => ?_)
    refine wpAnyH_take (i := 0) (v := ?_) rfl (by kernel_rfl) (by kernel_rfl) (by kernel_rfl) (fun _ _ _ h => h) (Or.inl ⟨by rfl, ?hy0⟩) (by assumption) ?_
    case hy0 => (intro w hSw; (try dsimp only at hSw); go_simp; try with_reducible rfl)
    try simp only [Act.put, List.setIfInBounds_toArray, List.set_cons_zero, List.set_cons_succ, List.getElem_toArray, List.getElem_cons_zero, List.getElem_cons_succ]
    refine wpAnyH_take (i := 1) (v := ?_) rfl (by kernel_rfl) (by kernel_rfl) (by kernel_rfl) (fun _ _ _ h => h) (Or.inl ⟨by rfl, ?hy1⟩) (by assumption) ?_
    case hy1 => (intro w hSw; (try dsimp only at hSw); go_simp; try with_reducible rfl)
    try simp only [Act.put, List.setIfInBounds_toArray, List.set_cons_zero, List.set_cons_succ, List.getElem_toArray, List.getElem_cons_zero, List.getElem_cons_succ]
    refine wpAnyH_take (i := 2) (v := ?_) rfl (by kernel_rfl) (by kernel_rfl) (by kernel_rfl) (fun _ _ _ h => h) (Or.inl ⟨by rfl, ?hy2⟩) (by assumption) ?_
    case hy2 => (intro w hSw; (try dsimp only at hSw); go_simp; try with_reducible rfl)
    try simp only [Act.put, List.setIfInBounds_toArray, List.set_cons_zero, List.set_cons_succ, List.getElem_toArray, List.getElem_cons_zero, List.getElem_cons_succ]
    refine wpAnyH_take (i := 3) (v := ?_) rfl (by kernel_rfl) (by kernel_rfl) (by kernel_rfl) (fun _ _ _ h => h) (Or.inl ⟨by rfl, ?hy3⟩) (by assumption) ?_
    case hy3 => (intro w hSw; (try dsimp only at hSw); go_simp; try with_reducible rfl)
    try simp only [Act.put, List.setIfInBounds_toArray, List.set_cons_zero, List.set_cons_succ, List.getElem_toArray, List.getElem_cons_zero, List.getElem_cons_succ]
    refine wpAnyH_take (i := 4) (v := ?_) rfl (by kernel_rfl) (by kernel_rfl) (by kernel_rfl) (fun _ _ _ h => h) (Or.inl ⟨by rfl, ?hy4⟩) (by assumption) ?_
    case hy4 => (intro w hSw; (try dsimp only at hSw); go_simp; try with_reducible rfl)
    try simp only [Act.put, List.setIfInBounds_toArray, List.set_cons_zero, List.set_cons_succ, List.getElem_toArray, List.getElem_cons_zero, List.getElem_cons_succ]
    refine wpAnyH_take (i := 5) (v := ?_) rfl (by kernel_rfl) (by kernel_rfl) (by kernel_rfl) (fun _ _ _ h => h) (Or.inl ⟨by rfl, ?hy5⟩) (by assumption) ?_
    case hy5 => (intro w hSw; (try dsimp only at hSw); go_simp; try with_reducible rfl)
    try simp only [Act.put, List.setIfInBounds_toArray, List.set_cons_zero, List.set_cons_succ, List.getElem_toArray, List.getElem_cons_zero, List.getElem_cons_succ]
    refine wpAnyH_take (i := 6) (v := .agg A) rfl (by kernel_rfl) (by kernel_rfl) (by kernel_rfl) (fun _ _ _ h => h) (Or.inl ⟨by rfl, ?hy6⟩) (by assumption) ?_
    case hy6 => (intro W hSw; exact execLoad rfl rfl (hSw.1.loadAt Tryz.underlying68 rfl HIL.out))
    try simp only [Act.put, List.setIfInBounds_toArray, List.set_cons_zero, List.set_cons_succ, List.getElem_toArray, List.getElem_cons_zero, List.getElem_cons_succ]
    refine wpAnyH_ready (rs := [7, 11]) (by kernel_rfl) (by simp) (AllReadyH.cons rfl (fun K hK => ?_) (AllReadyH.cons rfl (fun K hK => ?_) AllReadyH.nil))
    · (go_simp; go_at_call 159; (with_reducible refine (OUT.out _ (HS.out _ BD)).mono ?_); rintro en w5 ⟨rfl, hb⟩; have B5 := Lib.hid (BD.trans hb); refine hK.out _ _ (SX.out _ B5.out) (fun hHeld => ?_); clear hK K hb; try simp only [Act.put, List.setIfInBounds_toArray, List.set_cons_zero, List.set_cons_succ, List.getElem_toArray, List.getElem_cons_zero, List.getElem_cons_succ])
      refine wpAnyH_take (i := 8) (v := ?_) rfl (by kernel_rfl) (by kernel_rfl) (by kernel_rfl) (fun _ _ _ h => h) (Or.inl ⟨by rfl, ?hy8⟩) (by assumption) ?_
      case hy8 => (intro w hSw; (try dsimp only at hSw); go_simp; try with_reducible rfl)
      try simp only [Act.put, List.setIfInBounds_toArray, List.set_cons_zero, List.set_cons_succ, List.getElem_toArray, List.getElem_cons_zero, List.getElem_cons_succ]
      refine wpAnyH_take (i := 9) (v := ?_) rfl (by kernel_rfl) (by kernel_rfl) (by kernel_rfl) (fun _ _ _ h => h) (Or.inl ⟨by rfl, ?hy9⟩) (by assumption) ?_
      case hy9 => (intro w hSw; (try dsimp only at hSw); go_simp; try with_reducible rfl)
      try simp only [Act.put, List.setIfInBounds_toArray, List.set_cons_zero, List.set_cons_succ, List.getElem_toArray, List.getElem_cons_zero, List.getElem_cons_succ]
      refine wpAnyH_take (i := 10) (v := ?_) rfl (by kernel_rfl) (by kernel_rfl) (by kernel_rfl) (fun _ _ _ h => h) (Or.inl ⟨by rfl, ?hy10⟩) (by assumption) ?_
      case hy10 => (intro w hSw; (try dsimp only at hSw); go_simp; try with_reducible rfl)
      try simp only [Act.put, List.setIfInBounds_toArray, List.set_cons_zero, List.set_cons_succ, List.getElem_toArray, List.getElem_cons_zero, List.getElem_cons_succ]
      have HZ5 := Lib.hid (GB.new 68 w5 #[.int .u8 0, .int .u8 0, .int .u8 0, .int .u8 0, .int .u8 0, .int .u8 0, .int .u8 0, .int .u8 0, .int .u8 0, .int .u8 0, .int .u8 0, .int .u8 0, .bool false, .int .u8 0, .int .u16 0, .int .u16 0, .string { data := #[] }])
      have B6 := Lib.hid (B5.out.trans (((Below.refl w5.heap.size w5).alloc (Nat.le_refl _) (.cells #[.int .u8 0, .int .u8 0, .int .u8 0, .int .u8 0, .int .u8 0, .int .u8 0, .int .u8 0, .int .u8 0, .int .u8 0, .int .u8 0, .int .u8 0, .int .u8 0, .bool false, .int .u8 0, .int .u16 0, .int .u16 0, .string { data := #[] }] 68)).mono B5.out.size))
      refine wpAnyH_ready (rs := [11]) (by kernel_rfl) (by simp) (AllReadyH.cons rfl (fun K hK => ?_) AllReadyH.nil)
      (go_simp; refine hK.out _ _ (SX.out _ B6.out) (fun hHeld => ?_); clear hK K; try simp only [Act.put, List.setIfInBounds_toArray, List.set_cons_zero, List.set_cons_succ, List.getElem_toArray, List.getElem_cons_zero, List.getElem_cons_succ])
      have HL := Lib.hid (show w0.heap.size ≤ w5.heap.size from B5.out.size)
      refine wpAnyH_ready (rs := [12]) (by kernel_rfl) (by simp) (AllReadyH.cons rfl (fun K hK => ?_) AllReadyH.nil)
      (rw [if_pos (by rfl)]; refine wp_store_mid 68 (.tmp 9) (.tmp 22) rfl _ 0 A rfl (by rfl) (HZ5.out.there (by rw [HSZ.out]; exact Nat.le_refl _)) HIZ.out HO1.out ?_; refine hK.out _ _ (SX.out _ (below_cellsG HL.out _ _ _ B6.out)) (fun hHeld => ?_); clear hK K; try simp only [Act.put, List.setIfInBounds_toArray, List.set_cons_zero, List.set_cons_succ, List.getElem_toArray, List.getElem_cons_zero, List.getElem_cons_succ])
      refine wpAnyH_take (i := 13) (v := ?_) rfl (by kernel_rfl) (by kernel_rfl) (by kernel_rfl) (fun _ _ _ h => h) (Or.inl ⟨by rfl, ?hy13⟩) (by assumption) ?_
      case hy13 => (intro w hSw; (try dsimp only at hSw); go_simp; try with_reducible rfl)
      try simp only [Act.put, List.setIfInBounds_toArray, List.set_cons_zero, List.set_cons_succ, List.getElem_toArray, List.getElem_cons_zero, List.getElem_cons_succ]
      refine wpAnyH_done (by kernel_rfl) ?_ _
      go_wp2_with fail
      go_meet
      exact ⟨_, rfl, rfl, Lib.hid ⟨HZ5.out.store (by rw [HSZ.out]; rfl) HO1.out, Nat.le_trans HB.out.size HL.out, HB.out.trans ((below_cellsG HL.out _ _ _ B6.out).mono HB.out.size)⟩⟩
    · have B6 : Hid (Below w0.heap.size w0 (w0.alloc (.cells #[.int .u8 0, .int .u8 0, .int .u8 0, .int .u8 0, .int .u8 0, .int .u8 0, .int .u8 0, .int .u8 0, .int .u8 0, .int .u8 0, .int .u8 0, .int .u8 0, .bool false, .int .u8 0, .int .u16 0, .int .u16 0, .string { data := #[] }] 68)).drew) := Lib.hid (((Below.refl w0.heap.size w0).alloc (Nat.le_refl _) (.cells #[.int .u8 0, .int .u8 0, .int .u8 0, .int .u8 0, .int .u8 0, .int .u8 0, .int .u8 0, .int .u8 0, .int .u8 0, .int .u8 0, .int .u8 0, .int .u8 0, .bool false, .int .u8 0, .int .u16 0, .int .u16 0, .string { data := #[] }] 68)).drew)
      have Z5 : GB 68 (w0.alloc (.cells #[.int .u8 0, .int .u8 0, .int .u8 0, .int .u8 0, .int .u8 0, .int .u8 0, .int .u8 0, .int .u8 0, .int .u8 0, .int .u8 0, .int .u8 0, .int .u8 0, .bool false, .int .u8 0, .int .u16 0, .int .u16 0, .string { data := #[] }] 68)).drew w0.heap.size #[.int .u8 0, .int .u8 0, .int .u8 0, .int .u8 0, .int .u8 0, .int .u8 0, .int .u8 0, .int .u8 0, .int .u8 0, .int .u8 0, .int .u8 0, .int .u8 0, .bool false, .int .u8 0, .int .u16 0, .int .u16 0, .string { data := #[] }] := (GB.new 68 w0 #[.int .u8 0, .int .u8 0, .int .u8 0, .int .u8 0, .int .u8 0, .int .u8 0, .int .u8 0, .int .u8 0, .int .u8 0, .int .u8 0, .int .u8 0, .int .u8 0, .bool false, .int .u8 0, .int .u16 0, .int .u16 0, .string { data := #[] }]).drew
      (go_simp; refine hK.out _ _ (SX.out _ B6.out) (fun hHeld => ?_); clear hK K; try simp only [Act.put, List.setIfInBounds_toArray, List.set_cons_zero, List.set_cons_succ, List.getElem_toArray, List.getElem_cons_zero, List.getElem_cons_succ])
      refine wpAnyH_ready (rs := [7]) (by kernel_rfl) (by simp) (AllReadyH.cons rfl (fun K hK => ?_) AllReadyH.nil)
      (go_simp; go_at_call 159; (with_reducible refine (OUT.out _ (HS.out _ B6.out)).mono ?_); rintro en w5 ⟨rfl, hb⟩; have B5 := Lib.hid (B6.out.trans (hb.mono B6.out.size)); have HZ5 := Lib.hid (Z5.later hb); refine hK.out _ _ (SX.out _ B5.out) (fun hHeld => ?_); clear hK K hb; try simp only [Act.put, List.setIfInBounds_toArray, List.set_cons_zero, List.set_cons_succ, List.getElem_toArray, List.getElem_cons_zero, List.getElem_cons_succ])
      refine wpAnyH_take (i := 8) (v := ?_) rfl (by kernel_rfl) (by kernel_rfl) (by kernel_rfl) (fun _ _ _ h => h) (Or.inl ⟨by rfl, ?hy8⟩) (by assumption) ?_
      case hy8 => (intro w hSw; (try dsimp only at hSw); go_simp; try with_reducible rfl)
      try simp only [Act.put, List.setIfInBounds_toArray, List.set_cons_zero, List.set_cons_succ, List.getElem_toArray, List.getElem_cons_zero, List.getElem_cons_succ]
      refine wpAnyH_take (i := 9) (v := ?_) rfl (by kernel_rfl) (by kernel_rfl) (by kernel_rfl) (fun _ _ _ h => h) (Or.inl ⟨by rfl, ?hy9⟩) (by assumption) ?_
      case hy9 => (intro w hSw; (try dsimp only at hSw); go_simp; try with_reducible rfl)
      try simp only [Act.put, List.setIfInBounds_toArray, List.set_cons_zero, List.set_cons_succ, List.getElem_toArray, List.getElem_cons_zero, List.getElem_cons_succ]
      refine wpAnyH_take (i := 10) (v := ?_) rfl (by kernel_rfl) (by kernel_rfl) (by kernel_rfl) (fun _ _ _ h => h) (Or.inl ⟨by rfl, ?hy10⟩) (by assumption) ?_
      case hy10 => (intro w hSw; (try dsimp only at hSw); go_simp; try with_reducible rfl)
      try simp only [Act.put, List.setIfInBounds_toArray, List.set_cons_zero, List.set_cons_succ, List.getElem_toArray, List.getElem_cons_zero, List.getElem_cons_succ]
      refine wpAnyH_ready (rs := [12]) (by kernel_rfl) (by simp) (AllReadyH.cons rfl (fun K hK => ?_) AllReadyH.nil)
      (rw [if_pos (by rfl)]; refine wp_store_mid 68 (.tmp 9) (.tmp 22) rfl _ 0 A rfl (by rfl) (HZ5.out.there (by rw [HSZ.out]; exact Nat.le_refl _)) HIZ.out HO1.out ?_; refine hK.out _ _ (SX.out _ (below_cellsG (Nat.le_refl _) _ _ _ B5.out)) (fun hHeld => ?_); clear hK K; try simp only [Act.put, List.setIfInBounds_toArray, List.set_cons_zero, List.set_cons_succ, List.getElem_toArray, List.getElem_cons_zero, List.getElem_cons_succ])
      refine wpAnyH_take (i := 13) (v := ?_) rfl (by kernel_rfl) (by kernel_rfl) (by kernel_rfl) (fun _ _ _ h => h) (Or.inl ⟨by rfl, ?hy13⟩) (by assumption) ?_
      case hy13 => (intro w hSw; (try dsimp only at hSw); go_simp; try with_reducible rfl)
      try simp only [Act.put, List.setIfInBounds_toArray, List.set_cons_zero, List.set_cons_succ, List.getElem_toArray, List.getElem_cons_zero, List.getElem_cons_succ]
      refine wpAnyH_done (by kernel_rfl) ?_ _
      go_wp2_with fail
      go_meet
      exact ⟨_, rfl, rfl, Lib.hid ⟨HZ5.out.store (by rw [HSZ.out]; rfl) HO1.out, HB.out.size, HB.out.trans ((below_cellsG (Nat.le_refl _) _ _ _ B5.out).mono HB.out.size)⟩⟩
  case rest =>
    obtain ⟨z, rfl, rfl, hcut⟩ := hcut
    go_wp2_with (first
      | ((with_reducible refine wpList_load_mid rfl 68 (.tmp 9) rfl z 0 ?hx A.toList _ hcut.out.1.range Tryz.underlying68 ?hu HIL.out ?_); (case hx => rfl); (case hu => rfl))
      | (go_at_call 81; with_reducible refine (PUT.out _).mono ?_; rintro e w7 ⟨rfl, hb7⟩))
    have hba := (Below.refl w7.heap.size w7).alloc (Nat.le_refl _) (.cells #[.int .u8 1, .string { data := #[255, 255, 255, 255, 255, 255, 2, 0, 0, 0, 0, 1, 8, 0, 120] }] 93)
    go_ret
    have hbz := hcut.out.2.2.trans (hb7.mono hcut.out.2.2.size)
    exact ⟨_, rfl, (Ow.lit (E := 93) stC_len w7 0 () #[.int .u8 1, .string { data := #[255, 255, 255, 255, 255, 255, 2, 0, 0, 0, 0, 1, 8, 0, 120] }] rfl (Nat.zero_le _)).rw stC_len, hbz.size, hbz.trans (hba.mono hbz.size)⟩
end Go.Proofs.YtpkkjbmgbgakdaaGreatDoor
