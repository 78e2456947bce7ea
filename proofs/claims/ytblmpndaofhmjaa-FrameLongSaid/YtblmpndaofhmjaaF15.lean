/- frame: the walk of FrameLong. -/
import Derived.Test.YtblmpndaofhmjaaF14
import Derived.Deep.OwnRows
set_option linter.unusedVariables false
namespace Go.Proofs.Ytblmpndaofhmjaa
open Go.RowKit

/-- An operation that yields a value, as it runs. -/
theorem wpList_val {P : Program} {ops : Array Oper} {rest : List Oper} {op : Oper} {a : Act} {w w' : World} {v : Value} {Q : Exit → Act → World → Prop} (hg : op.guard = none) (he : (execOp a.eval op).run P w = .ok (.value v) w')
    (h : wpList P ops Q rest (a.put op.dst v) w') : wpList P ops Q (op :: rest) a w :=
  wpList_plain hg fun K hK => by
    unfold Oper.wp
    rw [he]
    exact hK _ _ h
/-- A row of zeros is made. -/
theorem make_zeros (n : Nat) (hn : n ≤ 100000) : ∃ Z : Array Value, ∀ W : World, (Instr.makeSlice 58 (.int .i64 (n : Int)) (.int .i64 (n : Int))).run Try.prog W = .ok (.slice (some ⟨W.heap.size, 0, none⟩) n n) (W.alloc (.cells Z 5)) ∧ Src (W.alloc (.cells Z 5)) (.slice (some ⟨W.heap.size, 0, none⟩) n n) (List.replicate n 0) := by
  refine ⟨madeCells #[.int .u8 0] n, fun W => ⟨run_make_row' 58 5 (.int .u8 0) 1 Try.underlying58 (by kernel_rfl) rfl .i64 .i64 n (by omega) (by omega) W, ?_⟩⟩
  refine .inr ⟨⟨W.heap.size, 0, none⟩, n, by rw [List.length_replicate], fun j hj => ?_⟩
  rw [Go.WideShapes.add_plain]
  have hj' : j < n := by simpa using hj
  have hh : (W.alloc (.cells (madeCells #[.int .u8 0] n) 5)).heap[W.heap.size]? = some (.cells (madeCells #[.int .u8 0] n) 5) := heap_alloc_new W _
  have hz : (madeCells #[.int .u8 0] n)[j]? = some (.int .u8 0) := by simp [madeCells, hj', Nat.mod_one]
  generalize W.alloc (.cells (madeCells #[.int .u8 0] n) 5) = X at hh
  simp [World.cell?, hh, hz, byteV]
/-- A row is made, as it runs. -/
theorem wpList_make {P : Program} {ops : Array Oper} {rest : List Oper} {op : Oper} {a : Act} {w w' : World} {v : Value} {Q : Exit → Act → World → Prop} (hg : op.guard = none) (t : TypeId) (l c : Operand) (hop : op.op = Op.makeSlice t l c) (lv cv : Value) (hl : a.eval l = lv) (hc : a.eval c = cv)
    (hrun : (Instr.makeSlice t lv cv).run P w = .ok v w') (h : wpList P ops Q rest (a.put op.dst v) w') : wpList P ops Q (op :: rest) a w :=
  wpList_val hg (by simp [execOp, hop, hl, hc, hrun, Result.andThen]) h
set_option maxRecDepth 100000 in
set_option maxHeartbeats 8000000 in
theorem FrameLong_walk (A : Array Value) (w : World) (hA : Fr A) : Calls Try.prog 12 #[.agg A] w fun en w' => en = .returned (.bool true) ∧ Below w.heap.size w w' := by
  obtain ⟨x0, x1, x2, x3, x4, x5, x6, x7, x8, x9, x10, x11, xt, xp, xv, xy, xd, hA, hw, hd⟩ := hA
  obtain ⟨hw1, hw2, hp, hv, hy⟩ := hw
  have WK := Lib.hid wakes03_any
  have t8 : xp.tmod 8 = xp % 8 := Int.tmod_eq_emod_of_nonneg hp.1
  have t12 : xv.tmod 4096 = xv % 4096 := Int.tmod_eq_emod_of_nonneg hv.1
  have w8 : IntKind.u8.wrap (xp % 8) = xp % 8 := IntWalk.u8_in _ (by omega)
  have w12 : IntKind.u16.wrap (xv % 4096) = xv % 4096 := IntWalk.u16_in _ (by omega)
  have HA := Lib.hid hA
  have HP := Lib.hid hp
  have HV := Lib.hid hv
  have HY := Lib.hid hy
  have HW := Lib.hid (And.intro hw1 hw2)
  have HD := Lib.hid hd
  clear hA hp hv hy hw1 hw2 hd
  go_enter Try.func12, Try.ntmps12
  go_upto_region 1 with fail
  have fb0 := FB.new w A
  have hb0 : Below w.heap.size w (w.alloc (.cells A 51)) := (Below.refl _ _).alloc (Nat.le_refl _) _
  obtain ⟨w1, hw1⟩ : ∃ k, w.alloc (.cells A 51) = k := ⟨_, rfl⟩
  rw [hw1] at fb0 hb0 ⊢
  have c12 := fb0.c 12 (.bool xt) (by rw [HA.out]; rfl)
  have c13 := fb0.c 13 (.int .u8 xp) (by rw [HA.out]; rfl)
  have c14 := fb0.c 14 (.int .u16 xv) (by rw [HA.out]; rfl)
  have c15 := fb0.c 15 (.int .u16 xy) (by rw [HA.out]; rfl)
  have f13 := fb0.free 13
  have f14 := fb0.free 14
  have f15 := fb0.free 15
  have FB0 := Lib.hid fb0
  have HB0 := Lib.hid hb0
  clear hw1 fb0 hb0
  go_upto_if 21 with fail
  go_cut [] (fun wx => ∃ (B : Array Value) (p v y : Int), Hid (FB wx w.heap.size B) ∧ Hid (B = #[.int .u8 x0, .int .u8 x1, .int .u8 x2, .int .u8 x3, .int .u8 x4, .int .u8 x5, .int .u8 x6, .int .u8 x7, .int .u8 x8, .int .u8 x9, .int .u8 x10, .int .u8 x11, .bool xt, .int .u8 p, .int .u16 v, .int .u16 y, .string (bs xd)]) ∧ Hid (mayF xt p v y = true) ∧ Hid (wfF x0 x1 x2 x3 x4 x5 x6 x7 x8 x9 x10 x11 p v y) ∧ Hid (Below w.heap.size w wx))
  case first =>
    cases xt with
    | true =>
      go_wp2_with fail
      go_meet
      refine ⟨_, xp % 8, xv % 4096, xy, Lib.hid ((FB0.out.set 13 (.int .u8 (xp % 8))).set 14 (.int .u16 (xv % 4096))), Lib.hid ?_, Lib.hid ?_, Lib.hid ?_, Lib.hid (below_set (below_set HB0.out (Nat.le_refl _) _) (Nat.le_refl _) _)⟩
      · rw [HA.out]; rfl
      · have := HP.out; have := HV.out; simp [mayF]; omega
      · have := HP.out; have := HV.out; exact ⟨HW.out.1, HW.out.2, by omega, by omega, HY.out⟩
    | false =>
      go_wp2_with fail
      go_meet
      refine ⟨_, 0, 0, 2048, Lib.hid (((((FB0.out.set 13 (.int .u8 (xp % 8))).set 14 (.int .u16 (xv % 4096))).set 13 (.int .u8 0)).set 14 (.int .u16 0)).set 15 (.int .u16 2048)), Lib.hid ?_, Lib.hid rfl, Lib.hid ⟨HW.out.1, HW.out.2, by omega, by omega, by omega⟩, Lib.hid (below_set (below_set (below_set (below_set (below_set HB0.out (Nat.le_refl _) _) (Nat.le_refl _) _) (Nat.le_refl _) _) (Nat.le_refl _) _) (Nat.le_refl _) _)⟩
      rw [HA.out]; rfl
  case rest =>
    obtain ⟨B, p, v, y, FBx, HBx, MAY, WF, BEL⟩ := hcut
    obtain ⟨L, hL⟩ : ∃ L, lenF xt [] = L := ⟨_, rfl⟩
    have hLb : L = 18 ∨ L = 14 := by rw [← hL]; unfold lenF; cases xt <;> simp
    obtain ⟨n, hn⟩ : ∃ n : Nat, 1522 - L = (n : Int) := ⟨(1522 - L).toNat, by omega⟩
    have hnb : n = 1504 ∨ n = 1508 := by omega
    obtain ⟨zz, hzz⟩ : ∃ z : List UInt8, List.replicate (n + 1) 0 = z := ⟨_, rfl⟩
    obtain ⟨z1, hz1⟩ : ∃ z : List UInt8, List.replicate n 0 = z := ⟨_, rfl⟩
    have hzd : zz.drop 1 = z1 := by rw [← hzz, ← hz1]; simp
    have lz : zz.length = n + 1 := by rw [← hzz]; simp
    have lz1 : z1.length = n := by rw [← hz1]; simp
    have sz : (bs zz).size = n + 1 := by rw [bs_size, lz]
    have ex : (bs zz).extract 1 (n + 1) = bs z1 := by rw [bs_drop _ _ _ (by omega), hzd]
    obtain ⟨Z, hZ⟩ := make_zeros (n + 1) (by omega)
    rw [hzz] at hZ
    have hmk : ∀ W : World, (Instr.makeSlice 58 (.int .i64 ((n : Int) + 1)) (.int .i64 ((n : Int) + 1))).run Try.prog W = .ok (.slice (some ⟨W.heap.size, 0, none⟩) (n + 1) (n + 1)) (W.alloc (.cells Z 5)) := fun W => by
      have := (hZ W).1; push_cast at this; exact this
    have hcv : ∀ W : World, (convert 58 9 (.slice (some ⟨W.heap.size, 0, none⟩) (n + 1) (n + 1))).run Try.prog (W.alloc (.cells Z 5)) = .ok (.string (bs zz)) (W.alloc (.cells Z 5)) := fun W => run_string_src (hZ W).2
    obtain ⟨B1, hB1⟩ : ∃ X : Array Value, #[.int .u8 x0, .int .u8 x1, .int .u8 x2, .int .u8 x3, .int .u8 x4, .int .u8 x5, .int .u8 x6, .int .u8 x7, .int .u8 x8, .int .u8 x9, .int .u8 x10, .int .u8 x11, .bool xt, .int .u8 p, .int .u16 v, .int .u16 y, .string (bs [])] = X := ⟨_, rfl⟩
    obtain ⟨B2, hB2⟩ : ∃ X : Array Value, #[.int .u8 x0, .int .u8 x1, .int .u8 x2, .int .u8 x3, .int .u8 x4, .int .u8 x5, .int .u8 x6, .int .u8 x7, .int .u8 x8, .int .u8 x9, .int .u8 x10, .int .u8 x11, .bool xt, .int .u8 p, .int .u16 v, .int .u16 y, .string (bs z1)] = X := ⟨_, rfl⟩
    obtain ⟨B3, hB3⟩ : ∃ X : Array Value, #[.int .u8 x0, .int .u8 x1, .int .u8 x2, .int .u8 x3, .int .u8 x4, .int .u8 x5, .int .u8 x6, .int .u8 x7, .int .u8 x8, .int .u8 x9, .int .u8 x10, .int .u8 x11, .bool xt, .int .u8 p, .int .u16 v, .int .u16 y, .string (bs zz)] = X := ⟨_, rfl⟩
    have s1 : B.setIfInBounds 16 (.string { data := #[] }) = B1 := by rw [HBx.out, ← hB1]; rfl
    have s2 : B1.setIfInBounds 16 (.string (bs z1)) = B2 := by rw [← hB1, ← hB2]; rfl
    have s3 : B2.setIfInBounds 16 (.string (bs zz)) = B3 := by rw [← hB2, ← hB3]; rfl
    have i1 : isFr B1 := ⟨_, _, _, _, _, _, _, _, _, _, _, _, _, _, _, _, _, hB1.symm⟩
    have i2 : isFr B2 := ⟨_, _, _, _, _, _, _, _, _, _, _, _, _, _, _, _, _, hB2.symm⟩
    have i3 : isFr B3 := ⟨_, _, _, _, _, _, _, _, _, _, _, _, _, _, _, _, _, hB3.symm⟩
    have P0 : ∀ w, Calls Try.prog 33 #[.agg B1] w fun en w' => en = .returned (.int .i64 L) ∧ Below w.heap.size w w' := fun w => by
      rw [← hL]; exact flen_A B1 x0 x1 x2 x3 x4 x5 x6 x7 x8 x9 x10 x11 xt p v y [] hB1.symm w (by simp)
    have hlen2 : lenF xt z1 = 1522 := by rw [← hL] at hn; unfold lenF at hn ⊢; rw [lz1]; simp at hn; omega
    have hlen3 : lenF xt zz = 1523 := by rw [← hL] at hn; unfold lenF at hn ⊢; rw [lz]; simp at hn; omega
    obtain ⟨S, hS⟩ : ∃ S, byF x0 x1 x2 x3 x4 x5 x6 x7 x8 x9 x10 x11 xt p v y z1 = S := ⟨_, rfl⟩
    have hSl : (S.length : Int) = 1522 := by rw [← hS, byF_len, hlen2]
    have P1 : ∀ w, Calls Try.prog 31 #[.agg B2] w fun en w' => en = .returned (.tuple #[.string (bs S), .int .i64 0]) ∧ Below w.heap.size w w' := fun w => by
      have h := fput_A B2 x0 x1 x2 x3 x4 x5 x6 x7 x8 x9 x10 x11 xt p v y z1 hB2.symm w WF.out (by omega)
      unfold putF at h
      rw [if_pos MAY.out, if_neg (by rw [hlen2]; decide), hS] at h; exact h
    have P2 : ∀ w, Calls Try.prog 31 #[.agg B3] w fun en w' => en = .returned (.tuple #[.string { data := #[] }, .int .i64 5]) ∧ Below w.heap.size w w' := fun w => by
      have h := fput_A B3 x0 x1 x2 x3 x4 x5 x6 x7 x8 x9 x10 x11 xt p v y zz hB3.symm w WF.out (by omega)
      unfold putF at h
      rw [if_pos MAY.out, if_pos (by rw [hlen3]; decide)] at h; exact h
    obtain ⟨S1, hS1⟩ : ∃ S1, bs (S ++ [120]) = S1 := ⟨_, rfl⟩
    have P3 : ∀ w, Calls Try.prog 34 #[.string S1] w fun en w' => en = .returned (.tuple #[.agg frZ, .int .i64 5]) ∧ Below w.heap.size w w' := fun w => by
      have hl : (S ++ [120]).length = 1523 := by simp; omega
      have h := ftake_any (S ++ [120]) w (by omega)
      rw [tkF_long _ (by omega), hS1] at h; exact h
    have ad : ∀ W : World, (Op.stringOp .add (bs S) ({ data := #[120] } : ByteArray)).run Try.prog W = .ok (.string S1) W := by rw [← hS1]; exact run_add_bs S [120] (by simp; omega)
    have ad2 : bs S ++ ({ data := #[120] } : ByteArray) = S1 := by rw [← hS1]; exact bs_append S [120]
    have szS : (bs S).size = 1522 := by rw [bs_size]; omega
    have c16 := FBx.out.c 16 (.string (bs xd)) (by rw [HBx.out]; rfl)
    have f16 := FBx.out.free 16
    have C1 : ∀ W, FB W w.heap.size B1 → W.cell? ⟨w.heap.size, 16, none⟩ = some (.string { data := #[] }) := fun W h => h.c 16 _ (by rw [← hB1]; rfl)
    have C2 : ∀ W, FB W w.heap.size B2 → W.cell? ⟨w.heap.size, 16, none⟩ = some (.string (bs z1)) := fun W h => h.c 16 _ (by rw [← hB2]; rfl)
    have d1 : decide ((n : Int) < 1) = false := decide_eq_false (by omega)
    have d2 : decide ((1522 : Int) < (n : Int)) = false := decide_eq_false (by omega)
    have j1 := frame_infoL i1
    have j2 := frame_infoL i2
    have j3 := frame_infoL i3
    have hmk' := Lib.hid hmk
    have PP0 := Lib.hid P0
    have PP1 := Lib.hid P1
    have PP2 := Lib.hid P2
    have PP3 := Lib.hid P3
    have CC1 := Lib.hid C1
    have CC2 := Lib.hid C2
    have S1' := Lib.hid s1
    have S2' := Lib.hid s2
    have S3' := Lib.hid s3
    have jz := frame_info isFr_Z
    have nb : 0 ≤ (n : Int) ∧ (n : Int) ≤ 1508 := by omega
    have Lb : 0 ≤ L ∧ L ≤ 18 := by omega
    clear hmk P0 P1 P2 P3 C1 C2 s1 s2 s3 hB1 hB2 hB3 hS hS1 hL hLb hnb hzz hz1 hzd lz lz1 hZ hlen2 hlen3 hSl HBx MAY WF c12 c13 c14 c15 f13 f14 f15 t8 t12 w8 w12 HA HP HV HY HW HD FB0 HB0
    go_upto_region 8 with fail
    have fb1 := FBx.out.set 16 (.string { data := #[] })
    have hb1 : Below w.heap.size w (wc.setCell ⟨w.heap.size, 16, none⟩ (.string { data := #[] })) := below_set BEL.out (Nat.le_refl _) _
    obtain ⟨w2, hw2⟩ : ∃ k, wc.setCell ⟨w.heap.size, 16, none⟩ (.string { data := #[] }) = k := ⟨_, rfl⟩
    rw [S1'.out, hw2] at fb1
    rw [hw2] at hb1 ⊢
    have FB1 := Lib.hid fb1
    have HB1 := Lib.hid hb1
    clear hw2 fb1 hb1 c16 f16 FBx BEL S1'
    go_wp2_with ((with_reducible refine wpList_load_mid rfl 51 (.tmp 1) rfl w.heap.size 0 ?hx B1.toList _ FB1.out.range Try.underlying51 ?hu j1 ?_); (case hx => rfl); (case hu => rfl))
    with_reducible refine (PP0.out _).mono ?_
    rintro en w3 ⟨rfl, hb3⟩
    have FB3 := Lib.hid (FB1.out.later hb3)
    have HB3 := Lib.hid (HB1.out.trans (hb3.mono HB1.out.size))
    clear hb3 FB1 HB1 PP0
    go_upto_region 12 with ((with_reducible refine wpList_make rfl 58 (.tmp 36) (.tmp 36) rfl (.int .i64 ((n : Int) + 1)) (.int .i64 ((n : Int) + 1)) ?hl ?hc (hmk'.out _) ?_); (case hl => rfl); (case hc => rfl))
    have fb4 := FB3.out.alloc (.cells Z 5)
    have hb4 : Below w.heap.size w (w3.alloc (.cells Z 5)) := HB3.out.alloc HB3.out.size _
    obtain ⟨w4, hw4⟩ : ∃ k, w3.alloc (.cells Z 5) = k := ⟨_, rfl⟩
    rw [hw4] at fb4 hb4 ⊢
    have FB4 := Lib.hid fb4
    have HB4 := Lib.hid hb4
    have c16 := CC1.out _ fb4
    have f16 := fb4.free 16
    clear hw4 fb4 hb4 FB3 HB3 hmk' hcv
    go_upto_region 13 with fail
    have fb5 := FB4.out.set 16 (.string (bs z1))
    have hb5 : Below w.heap.size w (w4.setCell ⟨w.heap.size, 16, none⟩ (.string (bs z1))) := below_set HB4.out (Nat.le_refl _) _
    obtain ⟨w5, hw5⟩ : ∃ k, w4.setCell ⟨w.heap.size, 16, none⟩ (.string (bs z1)) = k := ⟨_, rfl⟩
    rw [S2'.out, hw5] at fb5
    rw [hw5] at hb5 ⊢
    have FB5 := Lib.hid fb5
    have HB5 := Lib.hid hb5
    clear hw5 fb5 hb5 c16 f16 FB4 HB4 S2'
    go_wp2_with ((with_reducible refine wpList_load_mid rfl 51 (.tmp 1) rfl w.heap.size 0 ?hx B2.toList _ FB5.out.range Try.underlying51 ?hu j2 ?_); (case hx => rfl); (case hu => rfl))
    with_reducible refine (PP1.out _).mono ?_
    rintro en w6 ⟨rfl, hb6⟩
    have FB6 := Lib.hid (FB5.out.later hb6)
    have HB6 := Lib.hid (HB5.out.trans (hb6.mono HB5.out.size))
    have c16 := CC2.out _ FB6.out
    have f16 := FB6.out.free 16
    clear hb6 FB5 HB5 PP1
    go_upto_region 15 with fail
    have fb7 := FB6.out.set 16 (.string (bs zz))
    have hb7 : Below w.heap.size w (w6.setCell ⟨w.heap.size, 16, none⟩ (.string (bs zz))) := below_set HB6.out (Nat.le_refl _) _
    obtain ⟨w7, hw7⟩ : ∃ k, w6.setCell ⟨w.heap.size, 16, none⟩ (.string (bs zz)) = k := ⟨_, rfl⟩
    rw [S3'.out, hw7] at fb7
    rw [hw7] at hb7 ⊢
    have FB7 := Lib.hid fb7
    have HB7 := Lib.hid hb7
    clear hw7 fb7 hb7 c16 f16 FB6 HB6 S3'
    go_wp2_with ((with_reducible refine wpList_load_mid rfl 51 (.tmp 1) rfl w.heap.size 0 ?hx B3.toList _ FB7.out.range Try.underlying51 ?hu j3 ?_); (case hx => rfl); (case hu => rfl))
    with_reducible refine (PP2.out _).mono ?_
    rintro en w8 ⟨rfl, hb8⟩
    have HB8 := Lib.hid (HB7.out.trans (hb8.mono HB7.out.size))
    clear hb8 FB7 HB7 PP2
    go_wp2_with fail
    with_reducible refine (PP3.out _).mono ?_
    rintro en w9 ⟨rfl, hb9⟩
    have HB9 := Lib.hid (HB8.out.trans (hb9.mono HB8.out.size))
    have th := fr_there w9 isFr_Z
    have oz := frZ_one
    clear hb9 HB8 PP3
    go_upto_region 17 with ((with_reducible refine wpList_store_mid rfl 51 (.tmp 9) (.tmp 58) rfl w9.heap.size 0 frZ ?hx ?hy th jz oz ?_); (case hx => rfl); (case hy => rfl))
    have hb10 : Below w.heap.size w ((w9.alloc (.cells #[.int .u8 0, .int .u8 0, .int .u8 0, .int .u8 0, .int .u8 0, .int .u8 0, .int .u8 0, .int .u8 0, .int .u8 0, .int .u8 0, .int .u8 0, .int .u8 0, .bool false, .int .u8 0, .int .u16 0, .int .u16 0, .string { data := #[] }] 51)).setCells w9.heap.size 0 frZ.toList) := below_cells HB9.out.size _ _ _ (HB9.out.alloc HB9.out.size _)
    obtain ⟨w10, hw10⟩ : ∃ k, (w9.alloc (.cells #[.int .u8 0, .int .u8 0, .int .u8 0, .int .u8 0, .int .u8 0, .int .u8 0, .int .u8 0, .int .u8 0, .int .u8 0, .int .u8 0, .int .u8 0, .int .u8 0, .bool false, .int .u8 0, .int .u16 0, .int .u16 0, .string { data := #[] }] 51)).setCells w9.heap.size 0 frZ.toList = k := ⟨_, rfl⟩
    rw [hw10] at hb10 ⊢
    have HB10 := Lib.hid hb10
    clear hw10 hb10 th HB9
    go_wp2_with fail
    with_reducible refine (WK.out _).mono ?_
    rintro en w11 ⟨rfl, hb11⟩
    go_wp2
    go_ret
    exact ⟨rfl, HB10.out.trans (hb11.mono HB10.out.size)⟩
end Go.Proofs.Ytblmpndaofhmjaa
