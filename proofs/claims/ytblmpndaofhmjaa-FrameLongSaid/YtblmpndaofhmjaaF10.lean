/- frame: the known frames. -/
import Derived.Test.YtblmpndaofhmjaaF9
import Derived.Test.YtblmpndaofhmjaaF7
set_option linter.unusedVariables false
namespace Go.Proofs.Ytblmpndaofhmjaa
open Go.RowKit

/-- A frame's cells, its numbers in their bounds. -/
def Fr (A : Array Value) : Prop := ∃ x0 x1 x2 x3 x4 x5 x6 x7 x8 x9 x10 x11 xt xp xv xy xd, A = #[.int .u8 x0, .int .u8 x1, .int .u8 x2, .int .u8 x3, .int .u8 x4, .int .u8 x5, .int .u8 x6, .int .u8 x7, .int .u8 x8, .int .u8 x9, .int .u8 x10, .int .u8 x11, .bool xt, .int .u8 xp, .int .u16 xv, .int .u16 xy, .string (bs xd)] ∧ wfF x0 x1 x2 x3 x4 x5 x6 x7 x8 x9 x10 x11 xp xv xy ∧ xd.length ≤ maxLen
theorem Fr.is {A : Array Value} (h : Fr A) : isFr A := by
  obtain ⟨x0, x1, x2, x3, x4, x5, x6, x7, x8, x9, x10, x11, xt, xp, xv, xy, xd, h, _⟩ := h
  exact ⟨x0, x1, x2, x3, x4, x5, x6, x7, x8, x9, x10, x11, xt, xp, xv, xy, xd, h⟩
theorem isFr.size {A : Array Value} (h : isFr A) : A.size = 17 := by
  obtain ⟨x0, x1, x2, x3, x4, x5, x6, x7, x8, x9, x10, x11, xt, xp, xv, xy, xd, rfl⟩ := h; rfl
theorem isFr.one {A : Array Value} (h : isFr A) : A.all (·.oneCell') = true := by
  obtain ⟨x0, x1, x2, x3, x4, x5, x6, x7, x8, x9, x10, x11, xt, xp, xv, xy, xd, rfl⟩ := h
  simp [Value.oneCell']
theorem frame_info {A : Array Value} (h : isFr A) : (Try.prog.info? 51).map (·.size) = some A.size := by rw [h.size]; kernel_rfl
theorem frame_infoL {A : Array Value} (h : isFr A) : (Try.prog.info? 51).map (·.size) = some A.toList.length := by rw [Array.length_toList, h.size]; kernel_rfl
theorem fr_there (W : World) {A : Array Value} (h : isFr A) : (W.alloc (.cells #[.int .u8 0, .int .u8 0, .int .u8 0, .int .u8 0, .int .u8 0, .int .u8 0, .int .u8 0, .int .u8 0, .int .u8 0, .int .u8 0, .int .u8 0, .int .u8 0, .bool false, .int .u8 0, .int .u16 0, .int .u16 0, .string { data := #[] }] 51)).there W.heap.size 0 A.size := (FB.new W frZ).there (by rw [h.size]; exact Nat.le_refl _)
theorem fr_stored (W : World) {A : Array Value} (h : isFr A) : FB ((W.alloc (.cells #[.int .u8 0, .int .u8 0, .int .u8 0, .int .u8 0, .int .u8 0, .int .u8 0, .int .u8 0, .int .u8 0, .int .u8 0, .int .u8 0, .int .u8 0, .int .u8 0, .bool false, .int .u8 0, .int .u16 0, .int .u16 0, .string { data := #[] }] 51)).setCells W.heap.size 0 A.toList) W.heap.size A := (FB.new W frZ).store (by rw [h.size]; rfl) h.one
theorem fr_load {W : World} {b : Nat} {A : Array Value} (h : FB W b A) (hf : isFr A) (k : Later W) : (Instr.loadAt 51 (.pointer (some ⟨b, 0, none⟩))).run Try.prog k.out = .ok (.agg A) k.out := by
  have := run_loadAt_mid (P := Try.prog) k.out b 0 51 A.toList _ (h.later k.h).range Try.underlying51 rfl (frame_infoL hf)
  simpa using this
theorem fr_loadVar {W : World} {b : Nat} {A : Array Value} (h : FB W b A) (hf : isFr A) (k : Later W) : (loadVar 51 ⟨b, 0, none⟩).run Try.prog k.out = .ok (.agg A) k.out := by
  have := run_loadVar_mid (P := Try.prog) k.out b 0 51 A.toList _ (h.later k.h).range Try.underlying51 rfl (frame_infoL hf)
  simpa using this
/-- In a region that draws and is walked once: a whole variable is read. -/
theorem wpQuiet_load {P : Program} {ops : Array Oper} {C : World → Prop} {Q : Act → Prop} {o : Oper} {rest : List Oper} {a : Act} (ty : TypeId) (x : Operand) (b : Nat) (A : Array Value) (hw : Region.wanted o (yielded ops a.tmps) = true) (ho : o.op = .load ty x)
    (hx : a.eval x = .pointer (some ⟨b, 0, none⟩)) (hl : ∀ w, C w → (Instr.loadAt ty (.pointer (some ⟨b, 0, none⟩))).run P w = .ok (.agg A) w) (h : wpQuiet P ops C Q rest (a.put o.dst (.agg A))) : wpQuiet P ops C Q (o :: rest) a := by
  rw [wpQuiet, if_pos hw]
  refine ⟨.agg A, fun w hc => ?_, h⟩
  unfold Oper.quietAt execOp
  simp only [ho, hx, Sem.run_bind, hl w hc, Result.andThen_ok, Sem.run_pure]
  exact ⟨rfl, rfl⟩

def wkA : Array Value := frC [1, 128, 194, 0, 0, 0] [2, 0, 0, 0, 0, 1] false 0 0 2048 [120]
def wkB : Array Value := frC [1, 128, 194, 0, 0, 0] [2, 0, 0, 0, 0, 1] true 1 2 2048 [120]
def wkS : List UInt8 := [1, 128, 194, 0, 0, 0, 2, 0, 0, 0, 0, 1, 8, 0, 120]
def wkT : List UInt8 := [1, 128, 194, 0, 0, 0, 2, 0, 0, 0, 0, 1, 129, 0, 32, 2, 8, 0, 120]
theorem wk_tk : tkF wkT = (wkB, 0) := by
  rw [tkF_tagD 1 128 194 0 0 0 2 0 0 0 0 1 129 0 32 2 8 0 [120] wkT rfl (by decide) (by decide) (by decide)]
  rfl
theorem wk_put1 (w : World) : Calls Try.prog 31 #[.agg wkA] w fun en w' => en = .returned (.tuple #[.string (bs wkS), .int .i64 0]) ∧ Below w.heap.size w w' := by
  have h := fput_A wkA 1 128 194 0 0 0 2 0 0 0 0 1 false 0 0 2048 [120] rfl w (by unfold wfF wfM; omega) (by decide)
  have e : putF 1 128 194 0 0 0 2 0 0 0 0 1 false 0 0 2048 [120] = (wkS, 0) := by decide
  rw [e] at h; exact h
theorem wk_put2 (w : World) : Calls Try.prog 31 #[.agg wkB] w fun en w' => en = .returned (.tuple #[.string (bs wkT), .int .i64 0]) ∧ Below w.heap.size w w' := by
  have h := fput_A wkB 1 128 194 0 0 0 2 0 0 0 0 1 true 1 2 2048 [120] rfl w (by unfold wfF wfM; omega) (by decide)
  have e : putF 1 128 194 0 0 0 2 0 0 0 0 1 true 1 2 2048 [120] = (wkT, 0) := by decide
  rw [e] at h; exact h
theorem wk_len (w : World) : Calls Try.prog 33 #[.agg wkB] w fun en w' => en = .returned (.int .i64 19) ∧ Below w.heap.size w w' :=
  len_any 1 128 194 0 0 0 2 0 0 0 0 1 true 1 2 2048 [120] w (by decide)
set_option maxRecDepth 100000 in
set_option maxHeartbeats 4000000 in
theorem wakes03_any (w : World) : Calls Try.prog 30 #[] w fun en w' => en = .returned (.bool true) ∧ Below w.heap.size w w' := by
  have P1 := Lib.hid wk_put1
  have P2 := Lib.hid wk_put2
  have L1 := Lib.hid wk_len
  have ia : isFr wkA := isFr_C _ _ _ _ _ _ _
  have ib : isFr wkB := isFr_C _ _ _ _ _ _ _
  have T1 : Hid (∀ w, Calls Try.prog 34 #[.string (bs wkT)] w fun en w' => en = .returned (.tuple #[.agg wkB, .int .i64 0]) ∧ Below w.heap.size w w') := by
    have h : ∀ w, Calls Try.prog 34 #[.string (bs wkT)] w fun en w' => en = .returned (.tuple #[.agg wkB, .int .i64 0]) ∧ Below w.heap.size w w' := fun w => by
      have h := ftake_any wkT w (by decide)
      rw [wk_tk] at h; exact h
    exact Lib.hid h
  obtain ⟨A1, hA1⟩ : ∃ A, wkA = A := ⟨_, rfl⟩
  obtain ⟨A2, hA2⟩ : ∃ A, wkB = A := ⟨_, rfl⟩
  obtain ⟨V1, hV1⟩ : ∃ V, bs wkS = V := ⟨_, rfl⟩
  obtain ⟨V2, hV2⟩ : ∃ V, bs wkT = V := ⟨_, rfl⟩
  have q1 : (V1.toList == [1, 128, 194, 0, 0, 0, 2, 0, 0, 0, 0, 1, 8, 0, 120]) = true := by rw [← hV1, bs_tl]; decide
  have z1 : V1.size = 15 := by rw [← hV1]; rfl
  obtain ⟨X1, hX1⟩ : ∃ V, bs (wkS.take 12) = V := ⟨_, rfl⟩
  obtain ⟨X2, hX2⟩ : ∃ V, bs (wkS.take 12 ++ [129, 0, 32, 2]) = V := ⟨_, rfl⟩
  obtain ⟨X3, hX3⟩ : ∃ V, bs (wkS.drop 12) = V := ⟨_, rfl⟩
  have x1 : V1.extract 0 12 = X1 := by rw [← hV1, ← hX1]; exact bs_take _ _
  have x3 : V1.extract 12 15 = X3 := by rw [← hV1, ← hX3]; exact bs_drop _ _ _ (by decide)
  have a1 : ∀ W : World, (Op.stringOp .add X1 ({ data := #[129, 0, 32, 2] } : ByteArray)).run Try.prog W = .ok (.string X2) W := by rw [← hX1, ← hX2]; exact run_add_bs _ [129, 0, 32, 2] (by decide)
  have a2 : X1 ++ ({ data := #[129, 0, 32, 2] } : ByteArray) = X2 := by rw [← hX1, ← hX2]; exact bs_append _ [129, 0, 32, 2]
  have a3 : ∀ W : World, (Op.stringOp .add X2 X3).run Try.prog W = .ok (.string V2) W := by rw [← hX2, ← hX3, ← hV2]; exact run_add_bs _ _ (by decide)
  have a4 : X2 ++ X3 = V2 := by rw [← hX2, ← hX3, ← hV2]; exact bs_append _ _
  have eqA : ∀ w : World, (binOp .eql 51 (.agg A2) (.agg A2)).run Try.prog w = .ok (.bool true) w := by rw [← hA2]; exact run_eql_frame _ ib
  have hg := eqGuard_fr
  rw [hA1] at ia
  rw [hA2] at ib
  rw [hA1, hV1] at P1
  rw [hA2, hV2] at P2
  rw [hA2, hV2] at T1
  rw [hA2] at L1
  have HA1 := Lib.hid hA1
  have HA2 := Lib.hid hA2
  clear hA1 hA2 hV1 hV2 hX1 hX2 hX3
  go_enter Try.func30, Try.ntmps30
  go_upto_region 2 with fail
  have e1 : #[.int .u8 1, .int .u8 128, .int .u8 194, .int .u8 0, .int .u8 0, .int .u8 0, .int .u8 2, .int .u8 0, .int .u8 0, .int .u8 0, .int .u8 0, .int .u8 1, .bool false, .int .u8 0, .int .u16 0, .int .u16 2048, .string { data := #[120] }] = A1 := by rw [← HA1.out]; rfl
  rw [e1]
  have fb1 := FB.new w A1
  have hb1 : Below w.heap.size w (w.alloc (.cells A1 51)) := (Below.refl _ _).alloc (Nat.le_refl _) _
  obtain ⟨w1, hw1⟩ : ∃ k, w.alloc (.cells A1 51) = k := ⟨_, rfl⟩
  rw [hw1] at fb1 hb1 ⊢
  have HB1 := Lib.hid hb1
  have FB1 := Lib.hid fb1
  have i1 := frame_infoL ia
  have i2 := frame_infoL ib
  have j2 := frame_info ib
  have o2 := ib.one
  clear hw1 fb1 hb1 e1
  go_wp2_with ((with_reducible refine wpList_load_mid rfl 51 (.tmp 1) rfl w.heap.size 0 ?hx A1.toList _ FB1.out.range Try.underlying51 ?hu i1 ?_); (case hx => rfl); (case hu => rfl))
  with_reducible refine (P1.out _).mono ?_
  rintro en w2 ⟨rfl, hb2⟩
  have FB2 := Lib.hid (FB1.out.later hb2)
  have HB2 := Lib.hid (HB1.out.trans (hb2.mono HB1.out.size))
  have f12 := FB2.out.free 12
  have f13 := FB2.out.free 13
  have f14 := FB2.out.free 14
  have c12 := FB2.out.c 12 (.bool false) (by rw [← HA1.out]; rfl)
  have c13 := FB2.out.c 13 (.int .u8 0) (by rw [← HA1.out]; rfl)
  have c14 := FB2.out.c 14 (.int .u16 0) (by rw [← HA1.out]; rfl)
  clear hb2 FB1 HB1 P1
  go_upto_region 6 with fail
  have e2 : ((A1.setIfInBounds 12 (.bool true)).setIfInBounds 13 (.int .u8 1)).setIfInBounds 14 (.int .u16 2) = A2 := by rw [← HA1.out, ← HA2.out]; rfl
  have fb3 := ((FB2.out.set 12 (.bool true)).set 13 (.int .u8 1)).set 14 (.int .u16 2)
  rw [e2] at fb3
  have hb3 : Below w.heap.size w (((w2.setCell ⟨w.heap.size, 12, none⟩ (.bool true)).setCell ⟨w.heap.size, 13, none⟩ (.int .u8 1)).setCell ⟨w.heap.size, 14, none⟩ (.int .u16 2)) := below_set (below_set (below_set HB2.out (Nat.le_refl _) _) (Nat.le_refl _) _) (Nat.le_refl _) _
  obtain ⟨w3, hw3⟩ : ∃ k, ((w2.setCell ⟨w.heap.size, 12, none⟩ (.bool true)).setCell ⟨w.heap.size, 13, none⟩ (.int .u8 1)).setCell ⟨w.heap.size, 14, none⟩ (.int .u16 2) = k := ⟨_, rfl⟩
  rw [hw3] at fb3 hb3 ⊢
  have HB3 := Lib.hid hb3
  have FB3 := Lib.hid fb3
  clear hw3 fb3 hb3 e2 f12 f13 f14 c12 c13 c14 FB2 HB2
  go_wp2_with ((with_reducible refine wpList_load_mid rfl 51 (.tmp 1) rfl w.heap.size 0 ?hx A2.toList _ FB3.out.range Try.underlying51 ?hu i2 ?_); (case hx => rfl); (case hu => rfl))
  with_reducible refine (P2.out _).mono ?_
  rintro en w4 ⟨rfl, hb4⟩
  have FB4 := Lib.hid (FB3.out.later hb4)
  have HB4 := Lib.hid (HB3.out.trans (hb4.mono HB3.out.size))
  clear hb4 FB3 HB3 P2
  go_wp2_with fail
  with_reducible refine (T1.out _).mono ?_
  rintro en w5 ⟨rfl, hb5⟩
  have FB5 := Lib.hid (FB4.out.later hb5)
  have HB5 := Lib.hid (HB4.out.trans (hb5.mono HB4.out.size))
  clear hb5 FB4 HB4 T1
  have th := fr_there w5 ib
  go_wp2_with ((with_reducible refine wpList_store_mid rfl 51 (.tmp 6) (.tmp 27) rfl w5.heap.size 0 A2 ?hx ?hy th j2 o2 ?_); (case hx => rfl); (case hy => rfl))
  have fs := fr_stored w5 ib
  have hb6 : Below w.heap.size w ((w5.alloc (.cells #[.int .u8 0, .int .u8 0, .int .u8 0, .int .u8 0, .int .u8 0, .int .u8 0, .int .u8 0, .int .u8 0, .int .u8 0, .int .u8 0, .int .u8 0, .int .u8 0, .bool false, .int .u8 0, .int .u16 0, .int .u16 0, .string { data := #[] }] 51)).setCells w5.heap.size 0 A2.toList) := below_cells HB5.out.size _ _ _ (HB5.out.alloc HB5.out.size _)
  have bz : Below w5.heap.size w5 ((w5.alloc (.cells #[.int .u8 0, .int .u8 0, .int .u8 0, .int .u8 0, .int .u8 0, .int .u8 0, .int .u8 0, .int .u8 0, .int .u8 0, .int .u8 0, .int .u8 0, .int .u8 0, .bool false, .int .u8 0, .int .u16 0, .int .u16 0, .string { data := #[] }] 51)).setCells w5.heap.size 0 A2.toList) := below_cells (Nat.le_refl _) _ _ _ ((Below.refl _ _).alloc (Nat.le_refl _) _)
  have fb6 := FB5.out.later bz
  obtain ⟨w6, hw6⟩ : ∃ k, (w5.alloc (.cells #[.int .u8 0, .int .u8 0, .int .u8 0, .int .u8 0, .int .u8 0, .int .u8 0, .int .u8 0, .int .u8 0, .int .u8 0, .int .u8 0, .int .u8 0, .int .u8 0, .bool false, .int .u8 0, .int .u16 0, .int .u16 0, .string { data := #[] }] 51)).setCells w5.heap.size 0 A2.toList = k := ⟨_, rfl⟩
  rw [hw6] at fs hb6 fb6 ⊢
  have l1 := fr_load fb6 ib
  have l6 := fr_load fs ib
  have l1' := fr_loadVar fb6 ib
  have l6' := fr_loadVar fs ib
  have HB6 := Lib.hid hb6
  clear hw6 fs hb6 fb6 bz th FB5 HB5
  refine wp_region_later (by kernel_rfl) (by kernel_rfl) ?_
  iterate 25 (go_big_quiet_step (first | (go_at_call 33; exact Calls.later (L1.out _))))
  refine wpQuiet_load 51 (.tmp 6) w5.heap.size A2 rfl rfl rfl (by rintro _ ⟨k, rfl⟩; exact l6 k) ?_
  go_simp
  refine wpQuiet_load 51 (.tmp 1) w.heap.size A2 rfl rfl rfl (by rintro _ ⟨k, rfl⟩; exact l1 k) ?_
  go_simp
  iterate 3 (go_big_quiet_step (first | (go_at_call 33; exact Calls.later (L1.out _))))
  refine wpQuiet_load 51 (.tmp 1) w.heap.size A2 rfl rfl rfl (by rintro _ ⟨k, rfl⟩; exact l1 k) ?_
  go_simp
  repeat (go_big_quiet_step (first | (go_at_call 33; exact Calls.later (L1.out _))))
  refine wpQuiet_nil ?_
  intro K
  go_wp2
  go_ret
  exact ⟨rfl, Later.bel HB6.out K⟩
end Go.Proofs.Ytblmpndaofhmjaa
