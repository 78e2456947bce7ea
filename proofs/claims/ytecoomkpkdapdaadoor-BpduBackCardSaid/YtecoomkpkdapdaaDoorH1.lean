/- bpdu: the law's own 'Of', may, the reference's May, flags. -/
import Derived.Test.YtecoomkpkdapdaaDoorHG
set_option linter.unusedVariables false
namespace Go.Proofs.YtecoomkpkdapdaaDoor
open Go.RowKit

set_option maxRecDepth 100000 in
set_option maxHeartbeats 8000000 in
theorem of05_any (b : Bp) (w : World) : Calls Tryd.prog 8 #[.agg #[.int .u64 b.rt, .int .u32 b.co, .int .u64 b.br, .int .u8 b.po, .int .u8 b.ho, .int .u64 b.ve, .int .u8 b.ro, .bool b.pr, .bool b.ag, .bool b.tp, .int .u64 b.ec]] w fun en w' => en = .returned (.agg #[.int .u64 b.rt, .int .u32 b.co, .int .u64 b.br, .int .u8 b.po, .int .u8 b.ho, .int .u64 b.ve, .int .u8 b.ro, .bool b.pr, .bool b.ag, .bool b.tp, .int .u64 b.ec]) ∧ Below w.heap.size w w' := by
  go_enter Tryd.func8, Tryd.ntmps8
  go_upto_region 1 with fail
  have b0 := (BB.new 27 w b).later ((Below.refl _ _).alloc (Nat.le_refl _) (.cells #[.int .u64 0, .int .u32 0, .int .u64 0, .int .u8 0, .int .u8 0, .int .u64 0, .int .u8 0, .bool false, .bool false, .bool false, .int .u64 0] 33))
  have z0 : GB 33 ((w.alloc (.cells #[.int .u64 b.rt, .int .u32 b.co, .int .u64 b.br, .int .u8 b.po, .int .u8 b.ho, .int .u64 b.ve, .int .u8 b.ro, .bool b.pr, .bool b.ag, .bool b.tp, .int .u64 b.ec] 27)).alloc (.cells #[.int .u64 0, .int .u32 0, .int .u64 0, .int .u8 0, .int .u8 0, .int .u64 0, .int .u8 0, .bool false, .bool false, .bool false, .int .u64 0] 33)) (w.heap.size + 1) #[.int .u64 0, .int .u32 0, .int .u64 0, .int .u8 0, .int .u8 0, .int .u64 0, .int .u8 0, .bool false, .bool false, .bool false, .int .u64 0] := by
    have := GB.new 33 (w.alloc (.cells #[.int .u64 b.rt, .int .u32 b.co, .int .u64 b.br, .int .u8 b.po, .int .u8 b.ho, .int .u64 b.ve, .int .u8 b.ro, .bool b.pr, .bool b.ag, .bool b.tp, .int .u64 b.ec] 27)) #[.int .u64 0, .int .u32 0, .int .u64 0, .int .u8 0, .int .u8 0, .int .u64 0, .int .u8 0, .bool false, .bool false, .bool false, .int .u64 0]
    rw [show (w.alloc (.cells #[.int .u64 b.rt, .int .u32 b.co, .int .u64 b.br, .int .u8 b.po, .int .u8 b.ho, .int .u64 b.ve, .int .u8 b.ro, .bool b.pr, .bool b.ag, .bool b.tp, .int .u64 b.ec] 27)).heap.size = w.heap.size + 1 by simp] at this
    exact this
  have hb0 : Below w.heap.size w ((w.alloc (.cells #[.int .u64 b.rt, .int .u32 b.co, .int .u64 b.br, .int .u8 b.po, .int .u8 b.ho, .int .u64 b.ve, .int .u8 b.ro, .bool b.pr, .bool b.ag, .bool b.tp, .int .u64 b.ec] 27)).alloc (.cells #[.int .u64 0, .int .u32 0, .int .u64 0, .int .u8 0, .int .u8 0, .int .u64 0, .int .u8 0, .bool false, .bool false, .bool false, .int .u64 0] 33)) := ((Below.refl _ _).alloc (Nat.le_refl _) _).alloc (by simp) _
  obtain ⟨w0, hw0⟩ : ∃ k, (w.alloc (.cells #[.int .u64 b.rt, .int .u32 b.co, .int .u64 b.br, .int .u8 b.po, .int .u8 b.ho, .int .u64 b.ve, .int .u8 b.ro, .bool b.pr, .bool b.ag, .bool b.tp, .int .u64 b.ec] 27)).alloc (.cells #[.int .u64 0, .int .u32 0, .int .u64 0, .int .u8 0, .int .u8 0, .int .u64 0, .int .u8 0, .bool false, .bool false, .bool false, .int .u64 0] 33) = k := ⟨_, rfl⟩
  rw [hw0] at b0 z0 hb0 ⊢
  have c0 := b0.c0
  have c1 := b0.c1
  have c2 := b0.c2
  have c3 := b0.c3
  have B0 := Lib.hid b0
  have Z0 := Lib.hid z0
  have HB0 := Lib.hid hb0
  clear hw0 b0 z0 hb0
  go_upto_region 2 with fail
  have bb : Below w0.heap.size w0 (w0.alloc (.cells #[.int .u64 b.rt, .int .u32 b.co, .int .u64 b.br, .int .u8 b.po] 31)) := (Below.refl _ _).alloc (Nat.le_refl _) _
  have b1 := B0.out.later bb
  have z1 := Z0.out.later bb
  have hb1 := HB0.out.trans (bb.mono HB0.out.size)
  have v1 := GB.new 31 w0 #[.int .u64 b.rt, .int .u32 b.co, .int .u64 b.br, .int .u8 b.po]
  obtain ⟨q, hq⟩ : ∃ k, w0.heap.size = k := ⟨_, rfl⟩
  obtain ⟨w1, hw1⟩ : ∃ k, w0.alloc (.cells #[.int .u64 b.rt, .int .u32 b.co, .int .u64 b.br, .int .u8 b.po] 31) = k := ⟨_, rfl⟩
  rw [hw1] at b1 z1 hb1 v1 ⊢
  rw [hq] at v1 ⊢
  clear c0 c1 c2 c3
  have c0 : w1.cell? ⟨q, 0, none⟩ = some (.int .u64 b.rt) := v1.c 0 _ rfl
  have c1 : w1.cell? ⟨q, 1, none⟩ = some (.int .u32 b.co) := v1.c 1 _ rfl
  have c2 : w1.cell? ⟨q, 2, none⟩ = some (.int .u64 b.br) := v1.c 2 _ rfl
  have c3 : w1.cell? ⟨q, 3, none⟩ = some (.int .u8 b.po) := v1.c 3 _ rfl
  have c4 := b1.c4
  have c5 := b1.c5
  have c6 := b1.c6
  have c7 := b1.c7
  have c8 := b1.c8
  have c9 := b1.c9
  have c10 := b1.c10
  obtain ⟨A, hA⟩ : ∃ A : Array Value, A = #[.int .u64 b.rt, .int .u32 b.co, .int .u64 b.br, .int .u8 b.po, .int .u8 b.ho, .int .u64 b.ve, .int .u8 b.ro, .bool b.pr, .bool b.ag, .bool b.tp, .int .u64 b.ec] := ⟨_, rfl⟩
  have hs : A.size = 11 := by rw [hA]; rfl
  have o1 : A.all (·.oneCell') = true := by rw [hA]; simp [Value.oneCell']
  have HI : Hid ((Tryd.prog.info? 33).map (·.size) = some A.size) := Lib.hid (by rw [hs]; kernel_rfl)
  have TH := Lib.hid (z1.there (n := A.size) (by rw [hs]; exact Nat.le_refl _))
  have G1 := Lib.hid (z1.store (A := A) (by rw [hs]; rfl) o1)
  have O1 := Lib.hid o1
  have HA := Lib.hid hA
  have HB1 := Lib.hid hb1
  rw [← hA]
  clear bb b1 z1 hb1 v1 hq hw1 hs o1 hA B0 Z0 HB0
  go_wp2_with ((with_reducible refine wpList_store_mid rfl 33 (.tmp 2) (.tmp 32) rfl (w.heap.size + 1) 0 A ?hx ?hy TH.out HI.out O1.out ?_); (case hx => rfl); (case hy => (rw [HA.out]; rfl)))
  exact bodyPost_ret (v := .agg A) (res_one (d := _) rfl rfl Tryd.underlying33 _ _ (w.heap.size + 1) _ rfl G1.out HI.out) rfl ⟨by rw [HA.out], below_cellsG (by omega) _ _ _ HB1.out⟩
set_option maxRecDepth 100000 in
set_option maxHeartbeats 8000000 in
theorem bmay_any (b : Bp) (w : World) (hb : b.Ok) : Calls Tryd.prog 14 #[.agg #[.int .u64 b.rt, .int .u32 b.co, .int .u64 b.br, .int .u8 b.po, .int .u8 b.ho, .int .u64 b.ve, .int .u8 b.ro, .bool b.pr, .bool b.ag, .bool b.tp, .int .u64 b.ec]] w fun en w' => en = .returned (.bool (mayB b)) ∧ Below w.heap.size w w' := by
  obtain ⟨M, hM⟩ : ∃ M, mayB b = M := ⟨_, rfl⟩
  rw [hM]
  obtain ⟨B1, hB1⟩ : ∃ X, decide (b.ro < 1) = X := ⟨_, rfl⟩
  obtain ⟨B2, hB2⟩ : ∃ X, decide ((3 : Int) < b.ro) = X := ⟨_, rfl⟩
  obtain ⟨B3, hB3⟩ : ∃ X, decide ((8 : Int) ≤ b.po) = X := ⟨_, rfl⟩
  obtain ⟨B4, hB4⟩ : ∃ X, decide ((16777216 : Int) < b.co) = X := ⟨_, rfl⟩
  obtain ⟨B5, hB5⟩ : ∃ X, decide ((20 : Int) < b.ho) = X := ⟨_, rfl⟩
  obtain ⟨N2, hN2⟩ : ∃ X, (b.ro != 2) = X := ⟨_, rfl⟩
  obtain ⟨N1, hN1⟩ : ∃ X, (b.ro != 1) = X := ⟨_, rfl⟩
  obtain ⟨E0, hE0⟩ : ∃ X, (b.ec == 0) = X := ⟨_, rfl⟩
  obtain ⟨P, hP⟩ : ∃ X, b.pr = X := ⟨_, rfl⟩
  obtain ⟨G, hG⟩ : ∃ X, b.ag = X := ⟨_, rfl⟩
  have HM : Hid (M = (!(B1 || B2 || B3 || B4 || B5) && (!(P && N2) && (!(G && N1) && (G || E0))))) := Lib.hid (by
    rw [← hM, ← hB1, ← hB2, ← hB3, ← hB4, ← hB5, ← hN2, ← hN1, ← hE0, ← hP, ← hG]
    have h1 := hb.ro
    have h2 := hb.po
    unfold mayB
    rw [Bool.eq_iff_iff]
    cases b.pr <;> cases b.ag <;> simp <;> omega)
  have HP := Lib.hid hP
  have HG := Lib.hid hG
  clear hM hP hG
  go_enter Tryd.func14, Tryd.ntmps14
  go_upto_region 1 with fail
  have bb := BB.new 33 w b
  have hbl : Below w.heap.size w (w.alloc (.cells #[.int .u64 b.rt, .int .u32 b.co, .int .u64 b.br, .int .u8 b.po, .int .u8 b.ho, .int .u64 b.ve, .int .u8 b.ro, .bool b.pr, .bool b.ag, .bool b.tp, .int .u64 b.ec] 33)) := (Below.refl _ _).alloc (Nat.le_refl _) _
  obtain ⟨w0, hw0⟩ : ∃ x, w.alloc (.cells #[.int .u64 b.rt, .int .u32 b.co, .int .u64 b.br, .int .u8 b.po, .int .u8 b.ho, .int .u64 b.ve, .int .u8 b.ro, .bool b.pr, .bool b.ag, .bool b.tp, .int .u64 b.ec] 33) = x := ⟨_, rfl⟩
  rw [hw0] at bb hbl ⊢
  have c1 := bb.c1
  have c3 := bb.c3
  have c4 := bb.c4
  have c6 := bb.c6
  have c7 := bb.c7
  have c8 := bb.c8
  have c10 := bb.c10
  rw [HP.out] at c7
  rw [HG.out] at c8
  have HB := Lib.hid hbl
  clear hw0 bb hbl HP HG
  cases B1 with
  | true =>
    go_wp2
    go_ret
    exact ⟨by rw [HM.out]; rfl, HB.out⟩
  | false =>
  cases B2 with
  | true =>
    go_wp2
    go_ret
    exact ⟨by rw [HM.out]; rfl, HB.out⟩
  | false =>
  cases B3 with
  | true =>
    go_wp2
    go_ret
    exact ⟨by rw [HM.out]; rfl, HB.out⟩
  | false =>
  cases B4 with
  | true =>
    go_wp2
    go_ret
    exact ⟨by rw [HM.out]; rfl, HB.out⟩
  | false =>
  cases B5 with
  | true =>
    go_wp2
    go_ret
    exact ⟨by rw [HM.out]; rfl, HB.out⟩
  | false =>
  cases P with
  | true =>
    cases N2 with
    | true =>
      go_wp2
      go_ret
      exact ⟨by rw [HM.out]; rfl, HB.out⟩
    | false =>
      cases G with
      | true =>
        cases N1 with
        | true =>
          go_wp2
          go_ret
          exact ⟨by rw [HM.out]; rfl, HB.out⟩
        | false =>
          go_wp2
          go_ret
          exact ⟨by rw [HM.out]; rfl, HB.out⟩
      | false =>
        cases E0 with
        | true =>
          go_wp2
          go_ret
          exact ⟨by rw [HM.out]; rfl, HB.out⟩
        | false =>
          go_wp2
          go_ret
          exact ⟨by rw [HM.out]; rfl, HB.out⟩
  | false =>
    cases G with
    | true =>
      cases N1 with
      | true =>
        go_wp2
        go_ret
        exact ⟨by rw [HM.out]; rfl, HB.out⟩
      | false =>
        go_wp2
        go_ret
        exact ⟨by rw [HM.out]; rfl, HB.out⟩
    | false =>
      cases E0 with
      | true =>
        go_wp2
        go_ret
        exact ⟨by rw [HM.out]; rfl, HB.out⟩
      | false =>
        go_wp2
        go_ret
        exact ⟨by rw [HM.out]; rfl, HB.out⟩
set_option maxRecDepth 100000 in
set_option maxHeartbeats 8000000 in
theorem refMay05_any (b : Bp) (w : World) (hb : b.Ok) : Calls Tryd.prog 9 #[.agg #[.int .u64 b.rt, .int .u32 b.co, .int .u64 b.br, .int .u8 b.po, .int .u8 b.ho, .int .u64 b.ve, .int .u8 b.ro, .bool b.pr, .bool b.ag, .bool b.tp, .int .u64 b.ec]] w fun en w' => en = .returned (.bool (mayB b)) ∧ Below w.heap.size w w' := by
  obtain ⟨M, hM⟩ : ∃ M, mayB b = M := ⟨_, rfl⟩
  rw [hM]
  obtain ⟨C3, hC3⟩ : ∃ X, decide ((7 : Int) < b.po) = X := ⟨_, rfl⟩
  obtain ⟨B4, hB4⟩ : ∃ X, decide ((16777216 : Int) < b.co) = X := ⟨_, rfl⟩
  obtain ⟨B5, hB5⟩ : ∃ X, decide ((20 : Int) < b.ho) = X := ⟨_, rfl⟩
  obtain ⟨C1, hC1⟩ : ∃ X, (b.ro == 0) = X := ⟨_, rfl⟩
  obtain ⟨B2, hB2⟩ : ∃ X, decide ((3 : Int) < b.ro) = X := ⟨_, rfl⟩
  obtain ⟨N2, hN2⟩ : ∃ X, (b.ro != 2) = X := ⟨_, rfl⟩
  obtain ⟨N1, hN1⟩ : ∃ X, (b.ro != 1) = X := ⟨_, rfl⟩
  obtain ⟨E0, hE0⟩ : ∃ X, (b.ec == 0) = X := ⟨_, rfl⟩
  obtain ⟨P, hP⟩ : ∃ X, b.pr = X := ⟨_, rfl⟩
  obtain ⟨G, hG⟩ : ∃ X, b.ag = X := ⟨_, rfl⟩
  have HM : Hid (M = (!(C3 || B4 || B5 || C1 || B2) && (!(P && N2) && (!(G && N1) && (G || E0))))) := Lib.hid (by
    rw [← hM, ← hC3, ← hB4, ← hB5, ← hC1, ← hB2, ← hN2, ← hN1, ← hE0, ← hP, ← hG]
    have h1 := hb.ro
    have h2 := hb.po
    unfold mayB
    rw [Bool.eq_iff_iff]
    cases b.pr <;> cases b.ag <;> simp <;> omega)
  have HP := Lib.hid hP
  have HG := Lib.hid hG
  clear hM hP hG
  go_enter Tryd.func9, Tryd.ntmps9
  go_upto_region 1 with fail
  have bb := BB.new 27 w b
  have hbl : Below w.heap.size w (w.alloc (.cells #[.int .u64 b.rt, .int .u32 b.co, .int .u64 b.br, .int .u8 b.po, .int .u8 b.ho, .int .u64 b.ve, .int .u8 b.ro, .bool b.pr, .bool b.ag, .bool b.tp, .int .u64 b.ec] 27)) := (Below.refl _ _).alloc (Nat.le_refl _) _
  obtain ⟨w0, hw0⟩ : ∃ x, w.alloc (.cells #[.int .u64 b.rt, .int .u32 b.co, .int .u64 b.br, .int .u8 b.po, .int .u8 b.ho, .int .u64 b.ve, .int .u8 b.ro, .bool b.pr, .bool b.ag, .bool b.tp, .int .u64 b.ec] 27) = x := ⟨_, rfl⟩
  rw [hw0] at bb hbl ⊢
  have c1 := bb.c1
  have c3 := bb.c3
  have c4 := bb.c4
  have c6 := bb.c6
  have c7 := bb.c7
  have c8 := bb.c8
  have c10 := bb.c10
  rw [HP.out] at c7
  rw [HG.out] at c8
  have HB := Lib.hid hbl
  clear hw0 bb hbl HP HG
  cases C3 with
  | true =>
    go_wp2
    go_ret
    exact ⟨by rw [HM.out]; rfl, HB.out⟩
  | false =>
  cases B4 with
  | true =>
    go_wp2
    go_ret
    exact ⟨by rw [HM.out]; rfl, HB.out⟩
  | false =>
  cases B5 with
  | true =>
    go_wp2
    go_ret
    exact ⟨by rw [HM.out]; rfl, HB.out⟩
  | false =>
  cases C1 with
  | true =>
    go_wp2
    go_ret
    exact ⟨by rw [HM.out]; rfl, HB.out⟩
  | false =>
  cases B2 with
  | true =>
    go_wp2
    go_ret
    exact ⟨by rw [HM.out]; rfl, HB.out⟩
  | false =>
  cases P with
  | true =>
    cases N2 with
    | true =>
      go_wp2
      go_ret
      exact ⟨by rw [HM.out]; rfl, HB.out⟩
    | false =>
      cases G with
      | true =>
        cases N1 with
        | true =>
          go_wp2
          go_ret
          exact ⟨by rw [HM.out]; rfl, HB.out⟩
        | false =>
          go_wp2
          go_ret
          exact ⟨by rw [HM.out]; rfl, HB.out⟩
      | false =>
        cases E0 with
        | true =>
          go_wp2
          go_ret
          exact ⟨by rw [HM.out]; rfl, HB.out⟩
        | false =>
          go_wp2
          go_ret
          exact ⟨by rw [HM.out]; rfl, HB.out⟩
  | false =>
    cases G with
    | true =>
      cases N1 with
      | true =>
        go_wp2
        go_ret
        exact ⟨by rw [HM.out]; rfl, HB.out⟩
      | false =>
        go_wp2
        go_ret
        exact ⟨by rw [HM.out]; rfl, HB.out⟩
    | false =>
      cases E0 with
      | true =>
        go_wp2
        go_ret
        exact ⟨by rw [HM.out]; rfl, HB.out⟩
      | false =>
        go_wp2
        go_ret
        exact ⟨by rw [HM.out]; rfl, HB.out⟩
set_option maxRecDepth 100000 in
set_option maxHeartbeats 4000000 in
theorem flag1_any (is : Bool) (bit n : Int) (q : Nat) (w : World) (hgb : GB 5 w q #[.int .u8 n]) (ho : bits .or .u8 n bit = n + bit) :
    Calls Tryd.prog 31 #[.bool is, .int .u8 bit, .pointer (some ⟨q, 0, none⟩)] w fun en w' => en = .returned (.tuple #[]) ∧ GB 5 w' q #[.int .u8 (if is = true then n + bit else n)] ∧ Only q w w' := by
  have c0 : w.cell? ⟨q, 0, none⟩ = some (.int .u8 n) := hgb.c 0 _ rfl
  have r0 := hgb.fr 0
  cases is with
  | true =>
    go_enter Tryd.func31, Tryd.ntmps31
    go_wp2
    go_end0
    refine ⟨rfl, ?_, Only.set q w 0 _⟩
    unfold GB at *
    simp [World.setCell, Array.getElem?_modify, hgb]
  | false =>
    go_enter Tryd.func31, Tryd.ntmps31
    go_wp2
    go_end0
    refine ⟨rfl, ?_, Only.refl _ _⟩
    exact hgb
set_option maxRecDepth 100000 in
set_option maxHeartbeats 4000000 in
theorem bflags_any (b : Bp) (w : World) : Calls Tryd.prog 16 #[.agg #[.int .u64 b.rt, .int .u32 b.co, .int .u64 b.br, .int .u8 b.po, .int .u8 b.ho, .int .u64 b.ve, .int .u8 b.ro, .bool b.pr, .bool b.ag, .bool b.tp, .int .u64 b.ec]] w fun en w' => en = .returned (.int .u8 (flB b)) ∧ Below w.heap.size w w' := by
  obtain ⟨R, hR⟩ : ∃ R, flB b = R := ⟨_, rfl⟩
  rw [hR]
  obtain ⟨n1, h1⟩ : ∃ n : Int, (if b.pr = true then (0 : Int) + 1 else 0) = n := ⟨_, rfl⟩
  obtain ⟨n2, h2⟩ : ∃ n : Int, (if b.ag = true then n1 + 2 else n1) = n := ⟨_, rfl⟩
  have o0 : bits .or .u8 0 1 = 0 + 1 := by decide
  have o1 : bits .or .u8 n1 2 = n1 + 2 := by rw [← h1]; split <;> decide
  have o2 : bits .or .u8 n2 4 = n2 + 4 := by rw [← h2, ← h1]; split <;> split <;> decide
  have HRR : Hid (R = if b.tp = true then n2 + 4 else n2) := Lib.hid (by rw [← hR, ← h2, ← h1]; unfold flB; cases b.pr <;> cases b.ag <;> cases b.tp <;> rfl)
  have H1 := Lib.hid h1
  have H2 := Lib.hid h2
  have O0 := Lib.hid o0
  have O1 := Lib.hid o1
  have O2 := Lib.hid o2
  clear hR h1 h2 o0 o1 o2
  go_enter Tryd.func16, Tryd.ntmps16
  go_upto_region 2 with fail
  have b0 := (BB.new 33 w b).later ((Below.refl _ _).alloc (Nat.le_refl _) (.cells #[.int .u8 0] 5))
  have z0 : GB 5 ((w.alloc (.cells #[.int .u64 b.rt, .int .u32 b.co, .int .u64 b.br, .int .u8 b.po, .int .u8 b.ho, .int .u64 b.ve, .int .u8 b.ro, .bool b.pr, .bool b.ag, .bool b.tp, .int .u64 b.ec] 33)).alloc (.cells #[.int .u8 0] 5)) (w.heap.size + 1) #[.int .u8 0] := by
    have := GB.new 5 (w.alloc (.cells #[.int .u64 b.rt, .int .u32 b.co, .int .u64 b.br, .int .u8 b.po, .int .u8 b.ho, .int .u64 b.ve, .int .u8 b.ro, .bool b.pr, .bool b.ag, .bool b.tp, .int .u64 b.ec] 33)) #[.int .u8 0]
    rw [show (w.alloc (.cells #[.int .u64 b.rt, .int .u32 b.co, .int .u64 b.br, .int .u8 b.po, .int .u8 b.ho, .int .u64 b.ve, .int .u8 b.ro, .bool b.pr, .bool b.ag, .bool b.tp, .int .u64 b.ec] 33)).heap.size = w.heap.size + 1 by simp] at this
    exact this
  have hb0 : Below w.heap.size w ((w.alloc (.cells #[.int .u64 b.rt, .int .u32 b.co, .int .u64 b.br, .int .u8 b.po, .int .u8 b.ho, .int .u64 b.ve, .int .u8 b.ro, .bool b.pr, .bool b.ag, .bool b.tp, .int .u64 b.ec] 33)).alloc (.cells #[.int .u8 0] 5)) := ((Below.refl _ _).alloc (Nat.le_refl _) _).alloc (by simp) _
  obtain ⟨w0, hw0⟩ : ∃ k, (w.alloc (.cells #[.int .u64 b.rt, .int .u32 b.co, .int .u64 b.br, .int .u8 b.po, .int .u8 b.ho, .int .u64 b.ve, .int .u8 b.ro, .bool b.pr, .bool b.ag, .bool b.tp, .int .u64 b.ec] 33)).alloc (.cells #[.int .u8 0] 5) = k := ⟨_, rfl⟩
  rw [hw0] at b0 z0 hb0 ⊢
  have B0 := Lib.hid b0
  have Z0 := Lib.hid z0
  have HB0 := Lib.hid hb0
  have c7 := b0.c7
  clear hw0 b0 z0 hb0
  go_wp2_with fail
  with_reducible refine (flag1_any b.pr 1 0 _ _ Z0.out O0.out).mono ?_
  rintro en w1 ⟨rfl, z1, ho1⟩
  rw [H1.out] at z1
  have Z1 := Lib.hid z1
  have B1 := Lib.hid (B0.out.only ho1 (by omega))
  have HB1 := Lib.hid (HB0.out.trans (ho1.below (by omega) HB0.out.size))
  have c8 := B1.out.c8
  clear c7 z1 ho1 B0 Z0 HB0
  go_wp2_with fail
  with_reducible refine (flag1_any b.ag 2 n1 _ _ Z1.out O1.out).mono ?_
  rintro en w2 ⟨rfl, z2, ho2⟩
  rw [H2.out] at z2
  have Z2 := Lib.hid z2
  have B2 := Lib.hid (B1.out.only ho2 (by omega))
  have HB2 := Lib.hid (HB1.out.trans (ho2.below (by omega) HB1.out.size))
  have c9 := B2.out.c9
  clear c8 z2 ho2 B1 Z1 HB1
  go_wp2_with fail
  with_reducible refine (flag1_any b.tp 4 n2 _ _ Z2.out O2.out).mono ?_
  rintro en w3 ⟨rfl, z3, ho3⟩
  have HB3 := Lib.hid (HB2.out.trans (ho3.below (by omega) HB2.out.size))
  rw [← HRR.out] at z3
  have c0 : w3.cell? ⟨w.heap.size + 1, 0, none⟩ = some (.int .u8 R) := z3.c 0 _ rfl
  clear c9 z3 ho3 B2 Z2 HB2
  go_wp2
  go_ret
  exact ⟨rfl, HB3.out⟩
end Go.Proofs.YtecoomkpkdapdaaDoor
