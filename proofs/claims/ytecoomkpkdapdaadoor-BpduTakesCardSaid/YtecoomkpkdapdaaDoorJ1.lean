/- bpdu: the walk of BpduTakes. -/
import Derived.Test.YtecoomkpkdapdaaDoorJ0
import Derived.Test.YtecoomkpkdapdaaDoorH7
set_option linter.unusedVariables false
namespace Go.Proofs.YtecoomkpkdapdaaDoor
open Go.RowKit

structure J1S (w W : World) (p q : Nat) (A : Array Value) : Prop where
  g1 : GB 33 W p A
  g2 : GB 27 W q A
  bel : Below w.heap.size w W
theorem J1S.later {w W W' : World} {p q : Nat} {A : Array Value} (h : J1S w W p q A) (hb : Below W.heap.size W W') : J1S w W' p q A := ⟨h.g1.later hb, h.g2.later hb, h.bel.trans (hb.mono h.bel.size)⟩
theorem J1S.drew {w W : World} {p q : Nat} {A : Array Value} (h : J1S w W p q A) : J1S w W.drew p q A := h.later (Below.refl _ _).drew
theorem J1S.sat {w W : World} {p q : Nat} {A : Array Value} (h : J1S w W p q A) : W.rangeAt p 0 A.toList ∧ W.rangeAt q 0 A.toList := ⟨h.g1.range, h.g2.range⟩
set_option maxRecDepth 100000 in
set_option maxHeartbeats 8000000 in
theorem BpduTakes_walk (t : ByteArray) (w : World) (ht : t.size ≤ maxLen) : Calls Tryd.prog 4 #[.string t] w fun en w' => en = .returned (.bool true) ∧ Below w.heap.size w w' := by
  unfold maxLen at ht
  have WK := Lib.hid wakes05_any
  by_cases h1 : 2000 < t.size
  · go_enter Tryd.func4, Tryd.ntmps4
    go_wp2_with fail
    with_reducible refine (WK.out _).mono ?_
    rintro en w1 ⟨rfl, hb⟩
    go_wp2
    go_ret
    exact ⟨rfl, hb⟩
  obtain ⟨s, rfl⟩ : ∃ l, t = bs l := ⟨_, bs_of t⟩
  rw [bs_size] at h1 ht
  have hsz := bs_size s
  obtain ⟨b, e, hT⟩ : ∃ b e, tkB s = (b, e) := ⟨_, _, rfl⟩
  obtain ⟨A, hA⟩ : ∃ A : Array Value, A = #[.int .u64 b.rt, .int .u32 b.co, .int .u64 b.br, .int .u8 b.po, .int .u8 b.ho, .int .u64 b.ve, .int .u8 b.ro, .bool b.pr, .bool b.ag, .bool b.tp, .int .u64 b.ec] := ⟨_, rfl⟩
  have T1 : Hid (∀ w, Calls Tryd.prog 12 #[.string (bs s)] w fun en w' => en = .returned (.tuple #[.agg A, .int .i64 e]) ∧ Below w.heap.size w w') := Lib.hid fun w => by
    have h := btake_any s w (by omega)
    rw [hT] at h; rw [hA]; exact h
  have T2 : Hid (∀ w, Calls Tryd.prog 13 #[.string (bs s)] w fun en w' => en = .returned (.tuple #[.agg A, .int .i64 e]) ∧ Below w.heap.size w w') := Lib.hid fun w => by
    have h := refTake05_all s w (by omega)
    rw [hT] at h; rw [hA]; exact h
  have O1 : Hid (∀ w, Calls Tryd.prog 8 #[.agg A] w fun en w' => en = .returned (.agg A) ∧ Below w.heap.size w w') := Lib.hid (by rw [hA]; exact fun w => of05_any b w)
  have eqA : ∀ w : World, (binOp .eql 33 (.agg A) (.agg A)).run Tryd.prog w = .ok (.bool true) w := by
    intro w; rw [hA, run_eql_bp, (beqB_iff b b).2 rfl]
  have hg := eqGuard_bp
  have hs : A.size = 11 := by rw [hA]; rfl
  have o1 : A.all (·.oneCell') = true := by rw [hA]; simp [Value.oneCell']
  have HI : Hid ((Tryd.prog.info? 33).map (·.size) = some A.size) := Lib.hid (by rw [hs]; kernel_rfl)
  have HIL : Hid ((Tryd.prog.info? 33).map (·.size) = some A.toList.length) := Lib.hid (by rw [Array.length_toList]; exact HI.out)
  have HJ : Hid ((Tryd.prog.info? 27).map (·.size) = some A.size) := Lib.hid (by rw [hs]; kernel_rfl)
  have HJL : Hid ((Tryd.prog.info? 27).map (·.size) = some A.toList.length) := Lib.hid (by rw [Array.length_toList]; exact HJ.out)
  have OC := Lib.hid o1
  have HS := Lib.hid hs
  clear hT hA hs o1
  go_enter Tryd.func4, Tryd.ntmps4
  go_wp2_with fail
  with_reducible refine (T1.out _).mono ?_
  rintro en w1 ⟨rfl, hb1⟩
  have HB1 := Lib.hid hb1
  clear hb1 T1
  have gz := GB.new 33 w1 #[.int .u64 0, .int .u32 0, .int .u64 0, .int .u8 0, .int .u8 0, .int .u64 0, .int .u8 0, .bool false, .bool false, .bool false, .int .u64 0]
  have TH := Lib.hid (gz.there (n := A.size) (Nat.le_of_eq HS.out))
  go_upto_region 4 with ((with_reducible refine wpList_store_mid rfl 33 (.tmp 3) (.tmp 14) rfl w1.heap.size 0 A ?hx ?hy TH.out HI.out OC.out ?_); (case hx => rfl); (case hy => rfl))
  have g1 := gz.store (A := A) HS.out.symm OC.out
  have hbz : Below w1.heap.size w1 ((w1.alloc (.cells #[.int .u64 0, .int .u32 0, .int .u64 0, .int .u8 0, .int .u8 0, .int .u64 0, .int .u8 0, .bool false, .bool false, .bool false, .int .u64 0] 33)).setCells w1.heap.size 0 A.toList) := below_cellsG (Nat.le_refl _) _ _ _ ((Below.refl _ _).alloc (Nat.le_refl _) _)
  obtain ⟨p, hp⟩ : ∃ k, w1.heap.size = k := ⟨_, rfl⟩
  obtain ⟨w2, hw2⟩ : ∃ k, (w1.alloc (.cells #[.int .u64 0, .int .u32 0, .int .u64 0, .int .u8 0, .int .u8 0, .int .u64 0, .int .u8 0, .bool false, .bool false, .bool false, .int .u64 0] 33)).setCells w1.heap.size 0 A.toList = k := ⟨_, rfl⟩
  have HB2 := Lib.hid (HB1.out.trans (hbz.mono HB1.out.size))
  rw [hp] at hw2
  rw [hp, hw2] at g1 HB2 ⊢
  have G1 := Lib.hid g1
  clear gz TH hw2 hp g1 hbz HB1
  go_wp2_with fail
  with_reducible refine (T2.out _).mono ?_
  rintro en w3 ⟨rfl, hb3⟩
  have G3 := Lib.hid (G1.out.later hb3)
  have HB3 := Lib.hid (HB2.out.trans (hb3.mono HB2.out.size))
  clear hb3 T2 G1 HB2
  have gz := GB.new 27 w3 #[.int .u64 0, .int .u32 0, .int .u64 0, .int .u8 0, .int .u8 0, .int .u64 0, .int .u8 0, .bool false, .bool false, .bool false, .int .u64 0]
  have TH := Lib.hid (gz.there (n := A.size) (Nat.le_of_eq HS.out))
  go_upto_region 5 with ((with_reducible refine wpList_store_mid rfl 27 (.tmp 5) (.tmp 19) rfl w3.heap.size 0 A ?hx ?hy TH.out HJ.out OC.out ?_); (case hx => rfl); (case hy => rfl))
  have g2 := gz.store (A := A) HS.out.symm OC.out
  have hbz : Below w3.heap.size w3 ((w3.alloc (.cells #[.int .u64 0, .int .u32 0, .int .u64 0, .int .u8 0, .int .u8 0, .int .u64 0, .int .u8 0, .bool false, .bool false, .bool false, .int .u64 0] 27)).setCells w3.heap.size 0 A.toList) := below_cellsG (Nat.le_refl _) _ _ _ ((Below.refl _ _).alloc (Nat.le_refl _) _)
  have T0 : J1S w ((w3.alloc (.cells #[.int .u64 0, .int .u32 0, .int .u64 0, .int .u8 0, .int .u8 0, .int .u64 0, .int .u8 0, .bool false, .bool false, .bool false, .int .u64 0] 27)).setCells w3.heap.size 0 A.toList) p w3.heap.size A := ⟨G3.out.later hbz, g2, HB3.out.trans (hbz.mono HB3.out.size)⟩
  obtain ⟨q, hq⟩ : ∃ k, w3.heap.size = k := ⟨_, rfl⟩
  obtain ⟨w4, hw4⟩ : ∃ k, (w3.alloc (.cells #[.int .u64 0, .int .u32 0, .int .u64 0, .int .u8 0, .int .u8 0, .int .u64 0, .int .u8 0, .bool false, .bool false, .bool false, .int .u64 0] 27)).setCells w3.heap.size 0 A.toList = k := ⟨_, rfl⟩
  rw [hq] at hw4
  rw [hq, hw4] at T0
  rw [hq, hw4]
  have T := Lib.hid T0
  clear gz TH hw4 hq g2 hbz G3 HB3 T0
  go_wp2_with fail
  have T := Lib.hid T.out.drew
  refine wp_region_held_drew (S := fun W => W.rangeAt p 0 A.toList ∧ W.rangeAt q 0 A.toList) (by kernel_rfl) T.out.sat (fun hHeld => ?_)
  refine wpAnyH_take (i := 0) (v := .agg A.toList.toArray) rfl (by kernel_rfl) (by kernel_rfl) (by kernel_rfl) (fun _ _ _ h => h) (yieldsIf_load_mid (by rfl) 33 (.tmp 3) rfl p 0 rfl A.toList _ (fun w h => h.1) Tryd.underlying33 rfl HIL.out) (by assumption) ?_
  try simp only [Act.put, List.setIfInBounds_toArray, List.set_cons_zero, List.set_cons_succ, List.toArray_toList, List.getElem_toArray, List.getElem_cons_zero, List.getElem_cons_succ]
  refine wpAnyH_take (i := 1) (v := .agg A.toList.toArray) rfl (by kernel_rfl) (by kernel_rfl) (by kernel_rfl) (fun _ _ _ h => h) (yieldsIf_load_mid (by rfl) 27 (.tmp 5) rfl q 0 rfl A.toList _ (fun w h => h.2) Tryd.underlying27 rfl HJL.out) (by assumption) ?_
  try simp only [Act.put, List.setIfInBounds_toArray, List.set_cons_zero, List.set_cons_succ, List.toArray_toList, List.getElem_toArray, List.getElem_cons_zero, List.getElem_cons_succ]
  refine wpAnyH_ready (rs := [2]) (by kernel_rfl) (by simp) (AllReadyH.cons rfl (fun K hK => ?_) AllReadyH.nil)
  (go_simp; go_at_call 8; (with_reducible refine (O1.out _).mono ?_); rintro en' wx2 ⟨rfl, ho_⟩; have T := Lib.hid (T.out.later ho_); clear ho_; refine hK.out _ _ T.out.sat (fun hHeld => ?_); clear hK K; try simp only [Act.put, List.setIfInBounds_toArray, List.set_cons_zero, List.set_cons_succ, List.getElem_toArray, List.getElem_cons_zero, List.getElem_cons_succ])
  refine wpAnyH_take (i := 3) (v := ?_) rfl (by kernel_rfl) (by kernel_rfl) (by kernel_rfl) (fun _ _ _ h => h) (Or.inl ⟨by rfl, ?hy3⟩) (by assumption) ?_
  case hy3 => (intro w hSw; (try dsimp only at hSw); go_simp; try with_reducible rfl)
  try simp only [Act.put, List.setIfInBounds_toArray, List.set_cons_zero, List.set_cons_succ, List.getElem_toArray, List.getElem_cons_zero, List.getElem_cons_succ]
  refine wpAnyH_take (i := 4) (v := ?_) rfl (by kernel_rfl) (by kernel_rfl) (by kernel_rfl) (fun _ _ _ h => h) (Or.inl ⟨by rfl, ?hy4⟩) (by assumption) ?_
  case hy4 => (intro w hSw; (try dsimp only at hSw); go_simp; try with_reducible rfl)
  try simp only [Act.put, List.setIfInBounds_toArray, List.set_cons_zero, List.set_cons_succ, List.getElem_toArray, List.getElem_cons_zero, List.getElem_cons_succ]
  refine wpAnyH_take (i := 5) (v := ?_) rfl (by kernel_rfl) (by kernel_rfl) (by kernel_rfl) (fun _ _ _ h => h) (Or.inl ⟨by rfl, ?hy5⟩) (by assumption) ?_
  case hy5 => (intro w hSw; (try dsimp only at hSw); go_simp; try with_reducible rfl)
  try simp only [Act.put, List.setIfInBounds_toArray, List.set_cons_zero, List.set_cons_succ, List.getElem_toArray, List.getElem_cons_zero, List.getElem_cons_succ]
  refine wpAnyH_take (i := 6) (v := ?_) rfl (by kernel_rfl) (by kernel_rfl) (by kernel_rfl) (fun _ _ _ h => h) (Or.inl ⟨by rfl, ?hy6⟩) (by assumption) ?_
  case hy6 => (intro w hSw; (try dsimp only at hSw); go_simp; try with_reducible rfl)
  try simp only [Act.put, List.setIfInBounds_toArray, List.set_cons_zero, List.set_cons_succ, List.getElem_toArray, List.getElem_cons_zero, List.getElem_cons_succ]
  refine wpAnyH_take (i := 7) (v := ?_) rfl (by kernel_rfl) (by kernel_rfl) (by kernel_rfl) (fun _ _ _ h => h) (Or.inl ⟨by rfl, ?hy7⟩) (by assumption) ?_
  case hy7 => (intro w hSw; (try dsimp only at hSw); go_simp; try with_reducible rfl)
  try simp only [Act.put, List.setIfInBounds_toArray, List.set_cons_zero, List.set_cons_succ, List.getElem_toArray, List.getElem_cons_zero, List.getElem_cons_succ]
  refine wpAnyH_take (i := 8) (v := ?_) rfl (by kernel_rfl) (by kernel_rfl) (by kernel_rfl) (fun _ _ _ h => h) (Or.inl ⟨by rfl, ?hy8⟩) (by assumption) ?_
  case hy8 => (intro w hSw; (try dsimp only at hSw); go_simp; try with_reducible rfl)
  try simp only [Act.put, List.setIfInBounds_toArray, List.set_cons_zero, List.set_cons_succ, List.getElem_toArray, List.getElem_cons_zero, List.getElem_cons_succ]
  refine wpAnyH_take (i := 9) (v := ?_) rfl (by kernel_rfl) (by kernel_rfl) (by kernel_rfl) (fun _ _ _ h => h) (Or.inl ⟨by rfl, ?hy9⟩) (by assumption) ?_
  case hy9 => (intro w hSw; (try dsimp only at hSw); go_simp; try with_reducible rfl)
  try simp only [Act.put, List.setIfInBounds_toArray, List.set_cons_zero, List.set_cons_succ, List.getElem_toArray, List.getElem_cons_zero, List.getElem_cons_succ]
  refine wpAnyH_ready (rs := [10]) (by kernel_rfl) (by simp) (AllReadyH.cons rfl (fun K hK => ?_) AllReadyH.nil)
  (go_simp; go_at_call 10; (with_reducible refine (WK.out _).mono ?_); rintro en' wx10 ⟨rfl, ho_⟩; have T := Lib.hid (T.out.later ho_); clear ho_; refine hK.out _ _ T.out.sat (fun hHeld => ?_); clear hK K; try simp only [Act.put, List.setIfInBounds_toArray, List.set_cons_zero, List.set_cons_succ, List.getElem_toArray, List.getElem_cons_zero, List.getElem_cons_succ])
  refine wpAnyH_take (i := 11) (v := ?_) rfl (by kernel_rfl) (by kernel_rfl) (by kernel_rfl) (fun _ _ _ h => h) (Or.inl ⟨by rfl, ?hy11⟩) (by assumption) ?_
  case hy11 => (intro w hSw; (try dsimp only at hSw); go_simp; try with_reducible rfl)
  try simp only [Act.put, List.setIfInBounds_toArray, List.set_cons_zero, List.set_cons_succ, List.getElem_toArray, List.getElem_cons_zero, List.getElem_cons_succ]
  refine wpAnyH_take (i := 12) (v := ?_) rfl (by kernel_rfl) (by kernel_rfl) (by kernel_rfl) (fun _ _ _ h => h) (Or.inl ⟨by rfl, ?hy12⟩) (by assumption) ?_
  case hy12 => (intro w hSw; (try dsimp only at hSw); go_simp; try with_reducible rfl)
  try simp only [Act.put, List.setIfInBounds_toArray, List.set_cons_zero, List.set_cons_succ, List.getElem_toArray, List.getElem_cons_zero, List.getElem_cons_succ]
  refine wpAnyH_done (by kernel_rfl) ?_ _
  go_wp2_with fail
  go_ret
  exact ⟨rfl, T.out.bel⟩
end Go.Proofs.YtecoomkpkdapdaaDoor
