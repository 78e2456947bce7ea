/- bpdu: the law's known word; the walk of BpduPuts. -/
import Derived.Test.YtecoomkpkdapdaaDoorH8
import Derived.Test.YtecoomkpkdapdaaDoorH6
import Derived.Test.YtecoomkpkdapdaaDoorH3
import Derived.Test.YtecoomkpkdapdaaDoorRB
set_option linter.unusedVariables false
namespace Go.Proofs.YtecoomkpkdapdaaDoor
open Go.RowKit

set_option maxRecDepth 100000 in
set_option maxHeartbeats 8000000 in
theorem wakes05_any (w : World) : Calls Tryd.prog 10 #[] w fun en w' => en = .returned (.bool true) ∧ Below w.heap.size w w' := by
  obtain ⟨b, hb⟩ : ∃ b : Bp, (⟨1, 2, 3, 4, 5, 6, 2, true, false, false, 0⟩ : Bp) = b := ⟨_, rfl⟩
  have ok : b.Ok := by rw [← hb]; exact ⟨by decide, by decide, by decide, by decide, by decide, by decide, by decide, by decide⟩
  have may : mayB b = true := by rw [← hb]; decide
  obtain ⟨A, hA⟩ : ∃ A : Array Value, A = #[.int .u64 b.rt, .int .u32 b.co, .int .u64 b.br, .int .u8 b.po, .int .u8 b.ho, .int .u64 b.ve, .int .u8 b.ro, .bool b.pr, .bool b.ag, .bool b.tp, .int .u64 b.ec] := ⟨_, rfl⟩
  have hA' : A = #[.int .u64 1, .int .u32 2, .int .u64 3, .int .u8 4, .int .u8 5, .int .u64 6, .int .u8 2, .bool true, .bool false, .bool false, .int .u64 0] := by rw [hA, ← hb]
  obtain ⟨X, hX⟩ : ∃ X, byB b = X := ⟨_, rfl⟩
  have hXl : X = [67, 77, 2, 1, 0, 0, 0, 0, 0, 0, 0, 1, 0, 0, 0, 2, 0, 0, 0, 0, 0, 0, 0, 3, 4, 5, 0, 0, 0, 0, 0, 0, 0, 6, 0, 0, 0, 0, 0, 0, 0, 0] := by rw [← hX, ← hb]; decide
  have P1 : Hid (∀ w, Calls Tryd.prog 7 #[.agg A] w fun en w' => en = .returned (.tuple #[.string (bs X), .int .i64 0]) ∧ Below w.heap.size w w') := Lib.hid fun w => by
    have h := bput_any b w ok
    unfold putB at h
    rw [if_pos may, hX] at h; rw [hA]; exact h
  have T1 : Hid (∀ w, Calls Tryd.prog 12 #[.string (bs (X ++ [0, 0]))] w fun en w' => en = .returned (.tuple #[.agg A, .int .i64 0]) ∧ Below w.heap.size w w') := Lib.hid fun w => by
    have h := btake_any (X ++ [0, 0]) w (by rw [hXl]; decide)
    rw [← hX, tkB_put b ok may [0, 0] (by decide)] at h; rw [hA, ← hX]; exact h
  have eqA : ∀ w : World, (binOp .eql 33 (.agg A) (.agg A)).run Tryd.prog w = .ok (.bool true) w := by
    intro w; rw [hA, run_eql_bp, (beqB_iff b b).2 rfl]
  have hg := eqGuard_bp
  have hsz : (bs X).size = 42 := by rw [bs_size, hXl]; rfl
  have hsl : (bs X).extract 0 5 = { data := #[67, 77, 2, 1, 0] } := by rw [bs_take, hXl]; rfl
  have g11 : ∀ h : 11 < (bs X).size, (bs X)[11]'h = 1 := fun h => by rw [bs_get _ _ h (by rw [hXl]; decide)]; simp [hXl]
  have g24 : ∀ h : 24 < (bs X).size, (bs X)[24]'h = 4 := fun h => by rw [bs_get _ _ h (by rw [hXl]; decide)]; simp [hXl]
  have g33 : ∀ h : 33 < (bs X).size, (bs X)[33]'h = 6 := fun h => by rw [bs_get _ _ h (by rw [hXl]; decide)]; simp [hXl]
  have ad := run_add_bs X [0, 0] (by rw [hXl]; decide)
  obtain ⟨Y, hY⟩ : ∃ Y, X ++ [0, 0] = Y := ⟨_, rfl⟩
  rw [hY] at ad T1
  have ad' : ∀ W : World, (Op.stringOp .add (bs X) { data := #[0, 0] }).run Tryd.prog W = .ok (.string (bs Y)) W := ad
  have hs : A.size = 11 := by rw [hA]; rfl
  have o1 : A.all (·.oneCell') = true := by rw [hA]; simp [Value.oneCell']
  have HI : Hid ((Tryd.prog.info? 33).map (·.size) = some A.size) := Lib.hid (by rw [hs]; kernel_rfl)
  have HIL : Hid ((Tryd.prog.info? 33).map (·.size) = some A.toList.length) := Lib.hid (by rw [Array.length_toList]; exact HI.out)
  have O1 := Lib.hid o1
  have HS := Lib.hid hs
  have HA := Lib.hid hA'
  clear hb ok may hA hA' hX hXl ad hY hs o1
  go_enter Tryd.func10, Tryd.ntmps10
  have gz := GB.new 33 w #[.int .u64 0, .int .u32 0, .int .u64 0, .int .u8 0, .int .u8 0, .int .u64 0, .int .u8 0, .bool false, .bool false, .bool false, .int .u64 0]
  have TH := Lib.hid (gz.there (n := A.size) (Nat.le_of_eq HS.out))
  go_upto_region 2 with ((with_reducible refine wpList_store_mid rfl 33 (.tmp 1) (.tmp 7) rfl w.heap.size 0 A ?hx ?hy TH.out HI.out O1.out ?_); (case hx => rfl); (case hy => (rw [HA.out]; rfl)))
  have g1 := gz.store (A := A) HS.out.symm O1.out
  have hbz : Below w.heap.size w ((w.alloc (.cells #[.int .u64 0, .int .u32 0, .int .u64 0, .int .u8 0, .int .u8 0, .int .u64 0, .int .u8 0, .bool false, .bool false, .bool false, .int .u64 0] 33)).setCells w.heap.size 0 A.toList) := below_cellsG (Nat.le_refl _) _ _ _ ((Below.refl _ _).alloc (Nat.le_refl _) _)
  obtain ⟨w1, hw1⟩ : ∃ k, (w.alloc (.cells #[.int .u64 0, .int .u32 0, .int .u64 0, .int .u8 0, .int .u8 0, .int .u64 0, .int .u8 0, .bool false, .bool false, .bool false, .int .u64 0] 33)).setCells w.heap.size 0 A.toList = k := ⟨_, rfl⟩
  rw [hw1] at g1 hbz ⊢
  have G1 := Lib.hid g1
  have HB1 := Lib.hid hbz
  clear gz TH hw1 g1 hbz
  go_wp2_with ((with_reducible refine wpList_load_mid rfl 33 (.tmp 1) rfl w.heap.size 0 ?hx A.toList _ G1.out.range Tryd.underlying33 ?hu HIL.out ?_); (case hx => rfl); (case hu => rfl))
  with_reducible refine (P1.out _).mono ?_
  rintro en w2 ⟨rfl, hb2⟩
  have G2 := Lib.hid (G1.out.later hb2)
  have HB2 := Lib.hid (HB1.out.trans (hb2.mono HB1.out.size))
  clear hb2 G1 HB1 P1
  go_wp2_with fail
  with_reducible refine (T1.out _).mono ?_
  rintro en w3 ⟨rfl, hb3⟩
  have G3 := Lib.hid (G2.out.later hb3)
  have HB3 := Lib.hid (HB2.out.trans (hb3.mono HB2.out.size))
  clear hb3 G2 HB2 T1
  have gz := GB.new 33 w3 #[.int .u64 0, .int .u32 0, .int .u64 0, .int .u8 0, .int .u8 0, .int .u64 0, .int .u8 0, .bool false, .bool false, .bool false, .int .u64 0]
  have TH := Lib.hid (gz.there (n := A.size) (Nat.le_of_eq HS.out))
  go_upto_region 4 with ((with_reducible refine wpList_store_mid rfl 33 (.tmp 4) (.tmp 17) rfl w3.heap.size 0 A ?hx ?hy TH.out HI.out O1.out ?_); (case hx => rfl); (case hy => rfl))
  have g1 := gz.store (A := A) HS.out.symm O1.out
  have hbz : Below w3.heap.size w3 ((w3.alloc (.cells #[.int .u64 0, .int .u32 0, .int .u64 0, .int .u8 0, .int .u8 0, .int .u64 0, .int .u8 0, .bool false, .bool false, .bool false, .int .u64 0] 33)).setCells w3.heap.size 0 A.toList) := below_cellsG (Nat.le_refl _) _ _ _ ((Below.refl _ _).alloc (Nat.le_refl _) _)
  obtain ⟨q, hq⟩ : ∃ k, w3.heap.size = k := ⟨_, rfl⟩
  obtain ⟨w4, hw4⟩ : ∃ k, (w3.alloc (.cells #[.int .u64 0, .int .u32 0, .int .u64 0, .int .u8 0, .int .u8 0, .int .u64 0, .int .u8 0, .bool false, .bool false, .bool false, .int .u64 0] 33)).setCells w3.heap.size 0 A.toList = k := ⟨_, rfl⟩
  have G4 := Lib.hid (G3.out.later hbz)
  have HB4 := Lib.hid (HB3.out.trans (hbz.mono HB3.out.size))
  rw [hq] at hw4
  rw [hq, hw4] at g1 G4 HB4 ⊢
  have GQ := Lib.hid g1
  clear gz TH hw4 hq g1 hbz G3 HB3
  go_wp2_with (first | ((with_reducible refine wpList_load_gH ?hw 33 (.tmp 4) rfl q 0 ?hx A.toList _ GQ.out.range Tryd.underlying33 ?hu HIL.out ?_); (case hw => rfl); (case hx => rfl); (case hu => rfl)) | ((with_reducible refine wpList_load_gH ?hw 33 (.tmp 1) rfl w.heap.size 0 ?hx A.toList _ G4.out.range Tryd.underlying33 ?hu HIL.out ?_); (case hw => rfl); (case hx => rfl); (case hu => rfl)))
  go_ret
  exact ⟨rfl, HB4.out⟩
set_option maxRecDepth 100000 in
set_option maxHeartbeats 8000000 in
theorem BpduPuts_walk (b : Bp) (w : World) (hb : b.Ok) : Calls Tryd.prog 3 #[.agg #[.int .u64 b.rt, .int .u32 b.co, .int .u64 b.br, .int .u8 b.po, .int .u8 b.ho, .int .u64 b.ve, .int .u8 b.ro, .bool b.pr, .bool b.ag, .bool b.tp, .int .u64 b.ec]] w fun en w' => en = .returned (.bool true) ∧ Below w.heap.size w w' := by
  have WK := Lib.hid wakes05_any
  obtain ⟨A, hA⟩ : ∃ A : Array Value, A = #[.int .u64 b.rt, .int .u32 b.co, .int .u64 b.br, .int .u8 b.po, .int .u8 b.ho, .int .u64 b.ve, .int .u8 b.ro, .bool b.pr, .bool b.ag, .bool b.tp, .int .u64 b.ec] := ⟨_, rfl⟩
  obtain ⟨M, hM⟩ : ∃ M, mayB b = M := ⟨_, rfl⟩
  obtain ⟨X, e, hP⟩ : ∃ X e, putB b = (X, e) := ⟨_, _, rfl⟩
  have O1 : Hid (∀ w, Calls Tryd.prog 8 #[.agg A] w fun en w' => en = .returned (.agg A) ∧ Below w.heap.size w w') := Lib.hid (by rw [hA]; exact fun w => of05_any b w)
  have P1 : Hid (∀ w, Calls Tryd.prog 7 #[.agg A] w fun en w' => en = .returned (.tuple #[.string (bs X), .int .i64 e]) ∧ Below w.heap.size w w') := Lib.hid fun w => by
    have h := bput_any b w hb
    rw [hP] at h; rw [hA]; exact h
  have M1 : Hid (∀ w, Calls Tryd.prog 9 #[.agg A] w fun en w' => en = .returned (.bool M) ∧ Below w.heap.size w w') := Lib.hid fun w => by
    have h := refMay05_any b w hb
    rw [hM] at h; rw [hA]; exact h
  have B1 : Hid (∀ w, Calls Tryd.prog 11 #[.agg A] w fun en w' => en = .returned (.string (bs (byB b))) ∧ Below w.heap.size w w') := Lib.hid (by rw [hA]; exact fun w => refBytes05_any b w hb)
  have HPM : Hid ((M = true ∧ X = byB b ∧ e = 0) ∨ (M = false ∧ X = [] ∧ e = 2)) := Lib.hid (by
    unfold putB at hP
    rw [hM] at hP
    cases M
    · right; simp only [Bool.false_eq_true, if_false, Prod.mk.injEq] at hP; exact ⟨rfl, hP.1.symm, hP.2.symm⟩
    · left; simp only [if_true, Prod.mk.injEq] at hP; exact ⟨rfl, hP.1.symm, hP.2.symm⟩)
  have HIL : Hid ((Tryd.prog.info? 27).map (·.size) = some A.toList.length) := Lib.hid (by rw [hA]; kernel_rfl)
  rw [← hA]
  clear hA hM hP hb
  go_enter Tryd.func3, Tryd.ntmps3
  go_upto_region 1 with fail
  have g0 := GB.new 27 w A
  have hb0 : Below w.heap.size w (w.alloc (.cells A 27)) := (Below.refl _ _).alloc (Nat.le_refl _) _
  obtain ⟨w0, hw0⟩ : ∃ k, w.alloc (.cells A 27) = k := ⟨_, rfl⟩
  rw [hw0] at g0 hb0 ⊢
  have G0 := Lib.hid g0
  have HB0 := Lib.hid hb0
  clear hw0 g0 hb0
  go_wp2_with ((with_reducible refine wpList_load_mid rfl 27 (.tmp 1) rfl w.heap.size 0 ?hx A.toList _ G0.out.range Tryd.underlying27 ?hu HIL.out ?_); (case hx => rfl); (case hu => rfl))
  with_reducible refine (O1.out _).mono ?_
  rintro en w1 ⟨rfl, hb1⟩
  have G1 := Lib.hid (G0.out.later hb1)
  have HB1 := Lib.hid (HB0.out.trans (hb1.mono HB0.out.size))
  clear hb1 G0 HB0 O1
  go_wp2_with fail
  with_reducible refine (P1.out _).mono ?_
  rintro en w2 ⟨rfl, hb2⟩
  have G2 := Lib.hid (G1.out.later hb2)
  have HB2 := Lib.hid (HB1.out.trans (hb2.mono HB1.out.size))
  clear hb2 G1 HB1 P1
  go_wp2_with ((with_reducible refine wpList_load_mid rfl 27 (.tmp 1) rfl w.heap.size 0 ?hx A.toList _ G2.out.range Tryd.underlying27 ?hu HIL.out ?_); (case hx => rfl); (case hu => rfl))
  with_reducible refine (M1.out _).mono ?_
  rintro en w3 ⟨rfl, hb3⟩
  have G3 := Lib.hid (G2.out.later hb3)
  have HB3 := Lib.hid (HB2.out.trans (hb3.mono HB2.out.size))
  clear hb3 G2 HB2 M1
  rcases HPM.out with ⟨hm, hx, he⟩ | ⟨hm, hx, he⟩
  · subst hm hx he
    have hst := bs_tl_eq (byB b) (byB b)
    go_wp2_with ((with_reducible refine wpList_load_mid rfl 27 (.tmp 1) rfl w.heap.size 0 ?hx A.toList _ G3.out.range Tryd.underlying27 ?hu HIL.out ?_); (case hx => rfl); (case hu => rfl))
    with_reducible refine (B1.out _).mono ?_
    rintro en w4 ⟨rfl, hb4⟩
    have HB4 := Lib.hid (HB3.out.trans (hb4.mono HB3.out.size))
    clear hb4 G3 HB3 B1
    go_wp2_with fail
    with_reducible refine (WK.out _).mono ?_
    rintro en w5 ⟨rfl, hb5⟩
    go_wp2
    go_ret
    exact ⟨rfl, HB4.out.trans (hb5.mono HB4.out.size)⟩
  · subst hm hx he
    have hie : (bs ([] : List UInt8)).toList.isEmpty = true := by rw [bs_tl]; rfl
    go_wp2_with fail
    with_reducible refine (WK.out _).mono ?_
    rintro en w5 ⟨rfl, hb5⟩
    go_wp2
    go_ret
    exact ⟨rfl, HB3.out.trans (hb5.mono HB3.out.size)⟩
end Go.Proofs.YtecoomkpkdapdaaDoor
