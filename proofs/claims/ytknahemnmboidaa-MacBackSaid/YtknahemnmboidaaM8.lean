/- mac: the reference's Parse. -/
import Derived.Test.YtknahemnmboidaaM7
set_option linter.unusedVariables false
namespace Go.Proofs.Ytknahemnmboidaa
open Go.RowKit

/-- What a text parses to. -/
def prsV (l : List UInt8) : Value := if okP l = true then .tuple #[.agg #[.int .u8 (pm l 0), .int .u8 (pm l 1), .int .u8 (pm l 2), .int .u8 (pm l 3), .int .u8 (pm l 4), .int .u8 (pm l 5)], .bool true] else .tuple #[.agg #[.int .u8 0, .int .u8 0, .int .u8 0, .int .u8 0, .int .u8 0, .int .u8 0], .bool false]
theorem prs_no (l : List UInt8) (h : okP l = false) : prsV l = .tuple #[.agg #[.int .u8 0, .int .u8 0, .int .u8 0, .int .u8 0, .int .u8 0, .int .u8 0], .bool false] := by
  unfold prsV; rw [h]; rfl
theorem ok_fail (l : List UInt8) (i : Nat) (hi : i < 6) (h : okAt l i = false) : okP l = false := by
  have h6 : i = 0 ∨ i = 1 ∨ i = 2 ∨ i = 3 ∨ i = 4 ∨ i = 5 := by omega
  rcases h6 with rfl | rfl | rfl | rfl | rfl | rfl <;> simp [okP, h]
theorem fail_a (l : List UInt8) (i : Nat) (h : digI ((l.getD (3 * i) 0).toNat : Int) < 0) : okAt l i = false := by
  unfold okAt; rw [decide_eq_false (by omega)]; rfl
theorem fail_b (l : List UInt8) (i : Nat) (h : digI ((l.getD (3 * i + 1) 0).toNat : Int) < 0) : okAt l i = false := by
  unfold okAt; rw [decide_eq_false (p := 0 ≤ digI ((l.getD (3 * i + 1) 0).toNat : Int)) (by omega), Bool.and_false]; rfl
theorem fail_c (l : List UInt8) (i : Nat) (hi : i ≠ 5) (h : ((l.getD (3 * i + 2) 0).toNat : Int) ≠ 58) : okAt l i = false := by
  have h1 : (l.getD (3 * i + 2) 0 == 58) = false := beq_eq_false_iff_ne.2 (fun e => h (by rw [e]; rfl))
  unfold okAt; rw [h1, decide_eq_false hi]; simp
theorem okAt_of (l : List UInt8) (i : Nat) (h1 : 0 ≤ digI ((l.getD (3 * i) 0).toNat : Int)) (h2 : 0 ≤ digI ((l.getD (3 * i + 1) 0).toNat : Int)) (h3 : i = 5 ∨ ((l.getD (3 * i + 2) 0).toNat : Int) = 58) : okAt l i = true := by
  unfold okAt; rw [decide_eq_true h1, decide_eq_true h2]
  rcases h3 with h | h
  · rw [decide_eq_true h]; rfl
  · have : l.getD (3 * i + 2) 0 = 58 := by
      apply UInt8.toNat_inj.1; show _ = 58; omega
    rw [this]; simp

set_option maxRecDepth 100000 in
set_option maxHeartbeats 8000000 in
theorem refParse_17 (c0 c1 c2 c3 c4 c5 c6 c7 c8 c9 c10 c11 c12 c13 c14 c15 c16 : UInt8) (w : World) : Calls Try.prog 39 #[.string { data := #[c0, c1, c2, c3, c4, c5, c6, c7, c8, c9, c10, c11, c12, c13, c14, c15, c16] }] w fun en w' => en = .returned (prsV [c0, c1, c2, c3, c4, c5, c6, c7, c8, c9, c10, c11, c12, c13, c14, c15, c16]) ∧ Below w.heap.size w w' := by
  obtain ⟨l, hl⟩ : ∃ l : List UInt8, [c0, c1, c2, c3, c4, c5, c6, c7, c8, c9, c10, c11, c12, c13, c14, c15, c16] = l := ⟨_, rfl⟩
  obtain ⟨V, hV⟩ : ∃ V : Value, prsV [c0, c1, c2, c3, c4, c5, c6, c7, c8, c9, c10, c11, c12, c13, c14, c15, c16] = V := ⟨_, rfl⟩
  have hVl : V = prsV l := by rw [← hV, hl]
  rw [hV]
  clear hV
  obtain ⟨x0, hx0⟩ : ∃ x : Int, (c0.toNat : Int) = x := ⟨_, rfl⟩
  have g0 : ((({ data := #[c0, c1, c2, c3, c4, c5, c6, c7, c8, c9, c10, c11, c12, c13, c14, c15, c16] } : ByteArray)[0]'(by show 0 < 17; omega)).toNat : Int) = x0 := hx0
  have r0 : ((l.getD 0 0).toNat : Int) = x0 := by rw [← hl]; exact hx0
  have lo0 : 0 ≤ x0 := by omega
  have hi0 : x0 < 256 := by have := c0.toNat_lt; omega
  obtain ⟨x1, hx1⟩ : ∃ x : Int, (c1.toNat : Int) = x := ⟨_, rfl⟩
  have g1 : ((({ data := #[c0, c1, c2, c3, c4, c5, c6, c7, c8, c9, c10, c11, c12, c13, c14, c15, c16] } : ByteArray)[1]'(by show 1 < 17; omega)).toNat : Int) = x1 := hx1
  have r1 : ((l.getD 1 0).toNat : Int) = x1 := by rw [← hl]; exact hx1
  have lo1 : 0 ≤ x1 := by omega
  have hi1 : x1 < 256 := by have := c1.toNat_lt; omega
  obtain ⟨x2, hx2⟩ : ∃ x : Int, (c2.toNat : Int) = x := ⟨_, rfl⟩
  have g2 : ((({ data := #[c0, c1, c2, c3, c4, c5, c6, c7, c8, c9, c10, c11, c12, c13, c14, c15, c16] } : ByteArray)[2]'(by show 2 < 17; omega)).toNat : Int) = x2 := hx2
  have r2 : ((l.getD 2 0).toNat : Int) = x2 := by rw [← hl]; exact hx2
  have lo2 : 0 ≤ x2 := by omega
  have hi2 : x2 < 256 := by have := c2.toNat_lt; omega
  obtain ⟨x3, hx3⟩ : ∃ x : Int, (c3.toNat : Int) = x := ⟨_, rfl⟩
  have g3 : ((({ data := #[c0, c1, c2, c3, c4, c5, c6, c7, c8, c9, c10, c11, c12, c13, c14, c15, c16] } : ByteArray)[3]'(by show 3 < 17; omega)).toNat : Int) = x3 := hx3
  have r3 : ((l.getD 3 0).toNat : Int) = x3 := by rw [← hl]; exact hx3
  have lo3 : 0 ≤ x3 := by omega
  have hi3 : x3 < 256 := by have := c3.toNat_lt; omega
  obtain ⟨x4, hx4⟩ : ∃ x : Int, (c4.toNat : Int) = x := ⟨_, rfl⟩
  have g4 : ((({ data := #[c0, c1, c2, c3, c4, c5, c6, c7, c8, c9, c10, c11, c12, c13, c14, c15, c16] } : ByteArray)[4]'(by show 4 < 17; omega)).toNat : Int) = x4 := hx4
  have r4 : ((l.getD 4 0).toNat : Int) = x4 := by rw [← hl]; exact hx4
  have lo4 : 0 ≤ x4 := by omega
  have hi4 : x4 < 256 := by have := c4.toNat_lt; omega
  obtain ⟨x5, hx5⟩ : ∃ x : Int, (c5.toNat : Int) = x := ⟨_, rfl⟩
  have g5 : ((({ data := #[c0, c1, c2, c3, c4, c5, c6, c7, c8, c9, c10, c11, c12, c13, c14, c15, c16] } : ByteArray)[5]'(by show 5 < 17; omega)).toNat : Int) = x5 := hx5
  have r5 : ((l.getD 5 0).toNat : Int) = x5 := by rw [← hl]; exact hx5
  have lo5 : 0 ≤ x5 := by omega
  have hi5 : x5 < 256 := by have := c5.toNat_lt; omega
  obtain ⟨x6, hx6⟩ : ∃ x : Int, (c6.toNat : Int) = x := ⟨_, rfl⟩
  have g6 : ((({ data := #[c0, c1, c2, c3, c4, c5, c6, c7, c8, c9, c10, c11, c12, c13, c14, c15, c16] } : ByteArray)[6]'(by show 6 < 17; omega)).toNat : Int) = x6 := hx6
  have r6 : ((l.getD 6 0).toNat : Int) = x6 := by rw [← hl]; exact hx6
  have lo6 : 0 ≤ x6 := by omega
  have hi6 : x6 < 256 := by have := c6.toNat_lt; omega
  obtain ⟨x7, hx7⟩ : ∃ x : Int, (c7.toNat : Int) = x := ⟨_, rfl⟩
  have g7 : ((({ data := #[c0, c1, c2, c3, c4, c5, c6, c7, c8, c9, c10, c11, c12, c13, c14, c15, c16] } : ByteArray)[7]'(by show 7 < 17; omega)).toNat : Int) = x7 := hx7
  have r7 : ((l.getD 7 0).toNat : Int) = x7 := by rw [← hl]; exact hx7
  have lo7 : 0 ≤ x7 := by omega
  have hi7 : x7 < 256 := by have := c7.toNat_lt; omega
  obtain ⟨x8, hx8⟩ : ∃ x : Int, (c8.toNat : Int) = x := ⟨_, rfl⟩
  have g8 : ((({ data := #[c0, c1, c2, c3, c4, c5, c6, c7, c8, c9, c10, c11, c12, c13, c14, c15, c16] } : ByteArray)[8]'(by show 8 < 17; omega)).toNat : Int) = x8 := hx8
  have r8 : ((l.getD 8 0).toNat : Int) = x8 := by rw [← hl]; exact hx8
  have lo8 : 0 ≤ x8 := by omega
  have hi8 : x8 < 256 := by have := c8.toNat_lt; omega
  obtain ⟨x9, hx9⟩ : ∃ x : Int, (c9.toNat : Int) = x := ⟨_, rfl⟩
  have g9 : ((({ data := #[c0, c1, c2, c3, c4, c5, c6, c7, c8, c9, c10, c11, c12, c13, c14, c15, c16] } : ByteArray)[9]'(by show 9 < 17; omega)).toNat : Int) = x9 := hx9
  have r9 : ((l.getD 9 0).toNat : Int) = x9 := by rw [← hl]; exact hx9
  have lo9 : 0 ≤ x9 := by omega
  have hi9 : x9 < 256 := by have := c9.toNat_lt; omega
  obtain ⟨x10, hx10⟩ : ∃ x : Int, (c10.toNat : Int) = x := ⟨_, rfl⟩
  have g10 : ((({ data := #[c0, c1, c2, c3, c4, c5, c6, c7, c8, c9, c10, c11, c12, c13, c14, c15, c16] } : ByteArray)[10]'(by show 10 < 17; omega)).toNat : Int) = x10 := hx10
  have r10 : ((l.getD 10 0).toNat : Int) = x10 := by rw [← hl]; exact hx10
  have lo10 : 0 ≤ x10 := by omega
  have hi10 : x10 < 256 := by have := c10.toNat_lt; omega
  obtain ⟨x11, hx11⟩ : ∃ x : Int, (c11.toNat : Int) = x := ⟨_, rfl⟩
  have g11 : ((({ data := #[c0, c1, c2, c3, c4, c5, c6, c7, c8, c9, c10, c11, c12, c13, c14, c15, c16] } : ByteArray)[11]'(by show 11 < 17; omega)).toNat : Int) = x11 := hx11
  have r11 : ((l.getD 11 0).toNat : Int) = x11 := by rw [← hl]; exact hx11
  have lo11 : 0 ≤ x11 := by omega
  have hi11 : x11 < 256 := by have := c11.toNat_lt; omega
  obtain ⟨x12, hx12⟩ : ∃ x : Int, (c12.toNat : Int) = x := ⟨_, rfl⟩
  have g12 : ((({ data := #[c0, c1, c2, c3, c4, c5, c6, c7, c8, c9, c10, c11, c12, c13, c14, c15, c16] } : ByteArray)[12]'(by show 12 < 17; omega)).toNat : Int) = x12 := hx12
  have r12 : ((l.getD 12 0).toNat : Int) = x12 := by rw [← hl]; exact hx12
  have lo12 : 0 ≤ x12 := by omega
  have hi12 : x12 < 256 := by have := c12.toNat_lt; omega
  obtain ⟨x13, hx13⟩ : ∃ x : Int, (c13.toNat : Int) = x := ⟨_, rfl⟩
  have g13 : ((({ data := #[c0, c1, c2, c3, c4, c5, c6, c7, c8, c9, c10, c11, c12, c13, c14, c15, c16] } : ByteArray)[13]'(by show 13 < 17; omega)).toNat : Int) = x13 := hx13
  have r13 : ((l.getD 13 0).toNat : Int) = x13 := by rw [← hl]; exact hx13
  have lo13 : 0 ≤ x13 := by omega
  have hi13 : x13 < 256 := by have := c13.toNat_lt; omega
  obtain ⟨x14, hx14⟩ : ∃ x : Int, (c14.toNat : Int) = x := ⟨_, rfl⟩
  have g14 : ((({ data := #[c0, c1, c2, c3, c4, c5, c6, c7, c8, c9, c10, c11, c12, c13, c14, c15, c16] } : ByteArray)[14]'(by show 14 < 17; omega)).toNat : Int) = x14 := hx14
  have r14 : ((l.getD 14 0).toNat : Int) = x14 := by rw [← hl]; exact hx14
  have lo14 : 0 ≤ x14 := by omega
  have hi14 : x14 < 256 := by have := c14.toNat_lt; omega
  obtain ⟨x15, hx15⟩ : ∃ x : Int, (c15.toNat : Int) = x := ⟨_, rfl⟩
  have g15 : ((({ data := #[c0, c1, c2, c3, c4, c5, c6, c7, c8, c9, c10, c11, c12, c13, c14, c15, c16] } : ByteArray)[15]'(by show 15 < 17; omega)).toNat : Int) = x15 := hx15
  have r15 : ((l.getD 15 0).toNat : Int) = x15 := by rw [← hl]; exact hx15
  have lo15 : 0 ≤ x15 := by omega
  have hi15 : x15 < 256 := by have := c15.toNat_lt; omega
  obtain ⟨x16, hx16⟩ : ∃ x : Int, (c16.toNat : Int) = x := ⟨_, rfl⟩
  have g16 : ((({ data := #[c0, c1, c2, c3, c4, c5, c6, c7, c8, c9, c10, c11, c12, c13, c14, c15, c16] } : ByteArray)[16]'(by show 16 < 17; omega)).toNat : Int) = x16 := hx16
  have r16 : ((l.getD 16 0).toNat : Int) = x16 := by rw [← hl]; exact hx16
  have lo16 : 0 ≤ x16 := by omega
  have hi16 : x16 < 256 := by have := c16.toNat_lt; omega
  clear hx0 hx1 hx2 hx3 hx4 hx5 hx6 hx7 hx8 hx9 hx10 hx11 hx12 hx13 hx14 hx15 hx16
  obtain ⟨a0, ha0⟩ : ∃ a, digI x0 = a := ⟨_, rfl⟩
  have lt0 : a0 < 16 := by rw [← ha0]; exact dig_lt _
  have D0 : Hid (∀ w, Calls Try.prog 72 #[.int .u8 x0] w fun en w' => en = .returned (.int .i64 a0) ∧ w = w') := by rw [← ha0]; exact fun w => refDigit_any x0 w lo0 hi0
  obtain ⟨a1, ha1⟩ : ∃ a, digI x1 = a := ⟨_, rfl⟩
  have lt1 : a1 < 16 := by rw [← ha1]; exact dig_lt _
  have D1 : Hid (∀ w, Calls Try.prog 72 #[.int .u8 x1] w fun en w' => en = .returned (.int .i64 a1) ∧ w = w') := by rw [← ha1]; exact fun w => refDigit_any x1 w lo1 hi1
  obtain ⟨a3, ha3⟩ : ∃ a, digI x3 = a := ⟨_, rfl⟩
  have lt3 : a3 < 16 := by rw [← ha3]; exact dig_lt _
  have D3 : Hid (∀ w, Calls Try.prog 72 #[.int .u8 x3] w fun en w' => en = .returned (.int .i64 a3) ∧ w = w') := by rw [← ha3]; exact fun w => refDigit_any x3 w lo3 hi3
  obtain ⟨a4, ha4⟩ : ∃ a, digI x4 = a := ⟨_, rfl⟩
  have lt4 : a4 < 16 := by rw [← ha4]; exact dig_lt _
  have D4 : Hid (∀ w, Calls Try.prog 72 #[.int .u8 x4] w fun en w' => en = .returned (.int .i64 a4) ∧ w = w') := by rw [← ha4]; exact fun w => refDigit_any x4 w lo4 hi4
  obtain ⟨a6, ha6⟩ : ∃ a, digI x6 = a := ⟨_, rfl⟩
  have lt6 : a6 < 16 := by rw [← ha6]; exact dig_lt _
  have D6 : Hid (∀ w, Calls Try.prog 72 #[.int .u8 x6] w fun en w' => en = .returned (.int .i64 a6) ∧ w = w') := by rw [← ha6]; exact fun w => refDigit_any x6 w lo6 hi6
  obtain ⟨a7, ha7⟩ : ∃ a, digI x7 = a := ⟨_, rfl⟩
  have lt7 : a7 < 16 := by rw [← ha7]; exact dig_lt _
  have D7 : Hid (∀ w, Calls Try.prog 72 #[.int .u8 x7] w fun en w' => en = .returned (.int .i64 a7) ∧ w = w') := by rw [← ha7]; exact fun w => refDigit_any x7 w lo7 hi7
  obtain ⟨a9, ha9⟩ : ∃ a, digI x9 = a := ⟨_, rfl⟩
  have lt9 : a9 < 16 := by rw [← ha9]; exact dig_lt _
  have D9 : Hid (∀ w, Calls Try.prog 72 #[.int .u8 x9] w fun en w' => en = .returned (.int .i64 a9) ∧ w = w') := by rw [← ha9]; exact fun w => refDigit_any x9 w lo9 hi9
  obtain ⟨a10, ha10⟩ : ∃ a, digI x10 = a := ⟨_, rfl⟩
  have lt10 : a10 < 16 := by rw [← ha10]; exact dig_lt _
  have D10 : Hid (∀ w, Calls Try.prog 72 #[.int .u8 x10] w fun en w' => en = .returned (.int .i64 a10) ∧ w = w') := by rw [← ha10]; exact fun w => refDigit_any x10 w lo10 hi10
  obtain ⟨a12, ha12⟩ : ∃ a, digI x12 = a := ⟨_, rfl⟩
  have lt12 : a12 < 16 := by rw [← ha12]; exact dig_lt _
  have D12 : Hid (∀ w, Calls Try.prog 72 #[.int .u8 x12] w fun en w' => en = .returned (.int .i64 a12) ∧ w = w') := by rw [← ha12]; exact fun w => refDigit_any x12 w lo12 hi12
  obtain ⟨a13, ha13⟩ : ∃ a, digI x13 = a := ⟨_, rfl⟩
  have lt13 : a13 < 16 := by rw [← ha13]; exact dig_lt _
  have D13 : Hid (∀ w, Calls Try.prog 72 #[.int .u8 x13] w fun en w' => en = .returned (.int .i64 a13) ∧ w = w') := by rw [← ha13]; exact fun w => refDigit_any x13 w lo13 hi13
  obtain ⟨a15, ha15⟩ : ∃ a, digI x15 = a := ⟨_, rfl⟩
  have lt15 : a15 < 16 := by rw [← ha15]; exact dig_lt _
  have D15 : Hid (∀ w, Calls Try.prog 72 #[.int .u8 x15] w fun en w' => en = .returned (.int .i64 a15) ∧ w = w') := by rw [← ha15]; exact fun w => refDigit_any x15 w lo15 hi15
  obtain ⟨a16, ha16⟩ : ∃ a, digI x16 = a := ⟨_, rfl⟩
  have lt16 : a16 < 16 := by rw [← ha16]; exact dig_lt _
  have D16 : Hid (∀ w, Calls Try.prog 72 #[.int .u8 x16] w fun en w' => en = .returned (.int .i64 a16) ∧ w = w') := by rw [← ha16]; exact fun w => refDigit_any x16 w lo16 hi16
  have hlen : l.length = 17 := by rw [← hl]; rfl
  clear hl
  go_enter Try.func39, Try.ntmps39
  go_wp2_with fail
  refine wp_loop_rounds 7 ?_
  rw [rounds_succ]
  go_wp2_with fail
  refine (D0.out _).mono ?_
  rintro en _ ⟨rfl, rfl⟩
  go_wp2_with fail
  refine (D1.out _).mono ?_
  rintro en _ ⟨rfl, rfl⟩
  by_cases n0 : a0 < 0
  · have d0 : decide (a0 < 0) = true := by simpa using n0
    go_wp2
    refine bodyPost_ret (v := .tuple #[.agg #[.int .u8 0, .int .u8 0, .int .u8 0, .int .u8 0, .int .u8 0, .int .u8 0], .bool false]) (by simp [results, Try.results39, go_sem]) rfl ⟨by rw [hVl, prs_no _ (ok_fail _ 0 (by omega) (fail_a _ 0 (by rw [r0, ha0]; omega)))], ?_⟩
    refine Below.alloc ?_ (by simp) _
    exact (Below.refl _ _).alloc (by simp) _
  have d0 : decide (a0 < 0) = false := by simpa using n0
  by_cases n1 : a1 < 0
  · have d1 : decide (a1 < 0) = true := by simpa using n1
    go_wp2
    refine bodyPost_ret (v := .tuple #[.agg #[.int .u8 0, .int .u8 0, .int .u8 0, .int .u8 0, .int .u8 0, .int .u8 0], .bool false]) (by simp [results, Try.results39, go_sem]) rfl ⟨by rw [hVl, prs_no _ (ok_fail _ 0 (by omega) (fail_b _ 0 (by rw [r1, ha1]; omega)))], ?_⟩
    refine Below.alloc ?_ (by simp) _
    exact (Below.refl _ _).alloc (by simp) _
  have d1 : decide (a1 < 0) = false := by simpa using n1
  by_cases n2 : x2 = 58
  rotate_left
  · have d2 : (x2 == 58) = false := beq_eq_false_iff_ne.2 n2
    go_wp2
    refine bodyPost_ret (v := .tuple #[.agg #[.int .u8 0, .int .u8 0, .int .u8 0, .int .u8 0, .int .u8 0, .int .u8 0], .bool false]) (by simp [results, Try.results39, go_sem]) rfl ⟨by rw [hVl, prs_no _ (ok_fail _ 0 (by omega) (fail_c _ 0 (by omega) (by rw [r2]; exact n2)))], ?_⟩
    refine Below.alloc ?_ (by simp) _
    exact (Below.refl _ _).alloc (by simp) _
  have d2 : (x2 == 58) = true := beq_iff_eq.2 n2
  have nn0 : 0 ≤ a0 := by omega
  have nn1 : 0 ≤ a1 := by omega
  go_wp2
  rw [rounds_succ]
  go_wp2_with fail
  refine (D3.out _).mono ?_
  rintro en _ ⟨rfl, rfl⟩
  go_wp2_with fail
  refine (D4.out _).mono ?_
  rintro en _ ⟨rfl, rfl⟩
  by_cases n3 : a3 < 0
  · have d3 : decide (a3 < 0) = true := by simpa using n3
    go_wp2
    refine bodyPost_ret (v := .tuple #[.agg #[.int .u8 0, .int .u8 0, .int .u8 0, .int .u8 0, .int .u8 0, .int .u8 0], .bool false]) (by simp [results, Try.results39, go_sem]) rfl ⟨by rw [hVl, prs_no _ (ok_fail _ 1 (by omega) (fail_a _ 1 (by rw [r3, ha3]; omega)))], ?_⟩
    refine Below.alloc ?_ (by simp) _
    exact (Below.refl _ _).alloc (by simp) _
  have d3 : decide (a3 < 0) = false := by simpa using n3
  by_cases n4 : a4 < 0
  · have d4 : decide (a4 < 0) = true := by simpa using n4
    go_wp2
    refine bodyPost_ret (v := .tuple #[.agg #[.int .u8 0, .int .u8 0, .int .u8 0, .int .u8 0, .int .u8 0, .int .u8 0], .bool false]) (by simp [results, Try.results39, go_sem]) rfl ⟨by rw [hVl, prs_no _ (ok_fail _ 1 (by omega) (fail_b _ 1 (by rw [r4, ha4]; omega)))], ?_⟩
    refine Below.alloc ?_ (by simp) _
    exact (Below.refl _ _).alloc (by simp) _
  have d4 : decide (a4 < 0) = false := by simpa using n4
  by_cases n5 : x5 = 58
  rotate_left
  · have d5 : (x5 == 58) = false := beq_eq_false_iff_ne.2 n5
    go_wp2
    refine bodyPost_ret (v := .tuple #[.agg #[.int .u8 0, .int .u8 0, .int .u8 0, .int .u8 0, .int .u8 0, .int .u8 0], .bool false]) (by simp [results, Try.results39, go_sem]) rfl ⟨by rw [hVl, prs_no _ (ok_fail _ 1 (by omega) (fail_c _ 1 (by omega) (by rw [r5]; exact n5)))], ?_⟩
    refine Below.alloc ?_ (by simp) _
    exact (Below.refl _ _).alloc (by simp) _
  have d5 : (x5 == 58) = true := beq_iff_eq.2 n5
  have nn3 : 0 ≤ a3 := by omega
  have nn4 : 0 ≤ a4 := by omega
  go_wp2
  rw [rounds_succ]
  go_wp2_with fail
  refine (D6.out _).mono ?_
  rintro en _ ⟨rfl, rfl⟩
  go_wp2_with fail
  refine (D7.out _).mono ?_
  rintro en _ ⟨rfl, rfl⟩
  by_cases n6 : a6 < 0
  · have d6 : decide (a6 < 0) = true := by simpa using n6
    go_wp2
    refine bodyPost_ret (v := .tuple #[.agg #[.int .u8 0, .int .u8 0, .int .u8 0, .int .u8 0, .int .u8 0, .int .u8 0], .bool false]) (by simp [results, Try.results39, go_sem]) rfl ⟨by rw [hVl, prs_no _ (ok_fail _ 2 (by omega) (fail_a _ 2 (by rw [r6, ha6]; omega)))], ?_⟩
    refine Below.alloc ?_ (by simp) _
    exact (Below.refl _ _).alloc (by simp) _
  have d6 : decide (a6 < 0) = false := by simpa using n6
  by_cases n7 : a7 < 0
  · have d7 : decide (a7 < 0) = true := by simpa using n7
    go_wp2
    refine bodyPost_ret (v := .tuple #[.agg #[.int .u8 0, .int .u8 0, .int .u8 0, .int .u8 0, .int .u8 0, .int .u8 0], .bool false]) (by simp [results, Try.results39, go_sem]) rfl ⟨by rw [hVl, prs_no _ (ok_fail _ 2 (by omega) (fail_b _ 2 (by rw [r7, ha7]; omega)))], ?_⟩
    refine Below.alloc ?_ (by simp) _
    exact (Below.refl _ _).alloc (by simp) _
  have d7 : decide (a7 < 0) = false := by simpa using n7
  by_cases n8 : x8 = 58
  rotate_left
  · have d8 : (x8 == 58) = false := beq_eq_false_iff_ne.2 n8
    go_wp2
    refine bodyPost_ret (v := .tuple #[.agg #[.int .u8 0, .int .u8 0, .int .u8 0, .int .u8 0, .int .u8 0, .int .u8 0], .bool false]) (by simp [results, Try.results39, go_sem]) rfl ⟨by rw [hVl, prs_no _ (ok_fail _ 2 (by omega) (fail_c _ 2 (by omega) (by rw [r8]; exact n8)))], ?_⟩
    refine Below.alloc ?_ (by simp) _
    exact (Below.refl _ _).alloc (by simp) _
  have d8 : (x8 == 58) = true := beq_iff_eq.2 n8
  have nn6 : 0 ≤ a6 := by omega
  have nn7 : 0 ≤ a7 := by omega
  go_wp2
  rw [rounds_succ]
  go_wp2_with fail
  refine (D9.out _).mono ?_
  rintro en _ ⟨rfl, rfl⟩
  go_wp2_with fail
  refine (D10.out _).mono ?_
  rintro en _ ⟨rfl, rfl⟩
  by_cases n9 : a9 < 0
  · have d9 : decide (a9 < 0) = true := by simpa using n9
    go_wp2
    refine bodyPost_ret (v := .tuple #[.agg #[.int .u8 0, .int .u8 0, .int .u8 0, .int .u8 0, .int .u8 0, .int .u8 0], .bool false]) (by simp [results, Try.results39, go_sem]) rfl ⟨by rw [hVl, prs_no _ (ok_fail _ 3 (by omega) (fail_a _ 3 (by rw [r9, ha9]; omega)))], ?_⟩
    refine Below.alloc ?_ (by simp) _
    exact (Below.refl _ _).alloc (by simp) _
  have d9 : decide (a9 < 0) = false := by simpa using n9
  by_cases n10 : a10 < 0
  · have d10 : decide (a10 < 0) = true := by simpa using n10
    go_wp2
    refine bodyPost_ret (v := .tuple #[.agg #[.int .u8 0, .int .u8 0, .int .u8 0, .int .u8 0, .int .u8 0, .int .u8 0], .bool false]) (by simp [results, Try.results39, go_sem]) rfl ⟨by rw [hVl, prs_no _ (ok_fail _ 3 (by omega) (fail_b _ 3 (by rw [r10, ha10]; omega)))], ?_⟩
    refine Below.alloc ?_ (by simp) _
    exact (Below.refl _ _).alloc (by simp) _
  have d10 : decide (a10 < 0) = false := by simpa using n10
  by_cases n11 : x11 = 58
  rotate_left
  · have d11 : (x11 == 58) = false := beq_eq_false_iff_ne.2 n11
    go_wp2
    refine bodyPost_ret (v := .tuple #[.agg #[.int .u8 0, .int .u8 0, .int .u8 0, .int .u8 0, .int .u8 0, .int .u8 0], .bool false]) (by simp [results, Try.results39, go_sem]) rfl ⟨by rw [hVl, prs_no _ (ok_fail _ 3 (by omega) (fail_c _ 3 (by omega) (by rw [r11]; exact n11)))], ?_⟩
    refine Below.alloc ?_ (by simp) _
    exact (Below.refl _ _).alloc (by simp) _
  have d11 : (x11 == 58) = true := beq_iff_eq.2 n11
  have nn9 : 0 ≤ a9 := by omega
  have nn10 : 0 ≤ a10 := by omega
  go_wp2
  rw [rounds_succ]
  go_wp2_with fail
  refine (D12.out _).mono ?_
  rintro en _ ⟨rfl, rfl⟩
  go_wp2_with fail
  refine (D13.out _).mono ?_
  rintro en _ ⟨rfl, rfl⟩
  by_cases n12 : a12 < 0
  · have d12 : decide (a12 < 0) = true := by simpa using n12
    go_wp2
    refine bodyPost_ret (v := .tuple #[.agg #[.int .u8 0, .int .u8 0, .int .u8 0, .int .u8 0, .int .u8 0, .int .u8 0], .bool false]) (by simp [results, Try.results39, go_sem]) rfl ⟨by rw [hVl, prs_no _ (ok_fail _ 4 (by omega) (fail_a _ 4 (by rw [r12, ha12]; omega)))], ?_⟩
    refine Below.alloc ?_ (by simp) _
    exact (Below.refl _ _).alloc (by simp) _
  have d12 : decide (a12 < 0) = false := by simpa using n12
  by_cases n13 : a13 < 0
  · have d13 : decide (a13 < 0) = true := by simpa using n13
    go_wp2
    refine bodyPost_ret (v := .tuple #[.agg #[.int .u8 0, .int .u8 0, .int .u8 0, .int .u8 0, .int .u8 0, .int .u8 0], .bool false]) (by simp [results, Try.results39, go_sem]) rfl ⟨by rw [hVl, prs_no _ (ok_fail _ 4 (by omega) (fail_b _ 4 (by rw [r13, ha13]; omega)))], ?_⟩
    refine Below.alloc ?_ (by simp) _
    exact (Below.refl _ _).alloc (by simp) _
  have d13 : decide (a13 < 0) = false := by simpa using n13
  by_cases n14 : x14 = 58
  rotate_left
  · have d14 : (x14 == 58) = false := beq_eq_false_iff_ne.2 n14
    go_wp2
    refine bodyPost_ret (v := .tuple #[.agg #[.int .u8 0, .int .u8 0, .int .u8 0, .int .u8 0, .int .u8 0, .int .u8 0], .bool false]) (by simp [results, Try.results39, go_sem]) rfl ⟨by rw [hVl, prs_no _ (ok_fail _ 4 (by omega) (fail_c _ 4 (by omega) (by rw [r14]; exact n14)))], ?_⟩
    refine Below.alloc ?_ (by simp) _
    exact (Below.refl _ _).alloc (by simp) _
  have d14 : (x14 == 58) = true := beq_iff_eq.2 n14
  have nn12 : 0 ≤ a12 := by omega
  have nn13 : 0 ≤ a13 := by omega
  go_wp2
  rw [rounds_succ]
  go_wp2_with fail
  refine (D15.out _).mono ?_
  rintro en _ ⟨rfl, rfl⟩
  go_wp2_with fail
  refine (D16.out _).mono ?_
  rintro en _ ⟨rfl, rfl⟩
  by_cases n15 : a15 < 0
  · have d15 : decide (a15 < 0) = true := by simpa using n15
    go_wp2
    refine bodyPost_ret (v := .tuple #[.agg #[.int .u8 0, .int .u8 0, .int .u8 0, .int .u8 0, .int .u8 0, .int .u8 0], .bool false]) (by simp [results, Try.results39, go_sem]) rfl ⟨by rw [hVl, prs_no _ (ok_fail _ 5 (by omega) (fail_a _ 5 (by rw [r15, ha15]; omega)))], ?_⟩
    refine Below.alloc ?_ (by simp) _
    exact (Below.refl _ _).alloc (by simp) _
  have d15 : decide (a15 < 0) = false := by simpa using n15
  by_cases n16 : a16 < 0
  · have d16 : decide (a16 < 0) = true := by simpa using n16
    go_wp2
    refine bodyPost_ret (v := .tuple #[.agg #[.int .u8 0, .int .u8 0, .int .u8 0, .int .u8 0, .int .u8 0, .int .u8 0], .bool false]) (by simp [results, Try.results39, go_sem]) rfl ⟨by rw [hVl, prs_no _ (ok_fail _ 5 (by omega) (fail_b _ 5 (by rw [r16, ha16]; omega)))], ?_⟩
    refine Below.alloc ?_ (by simp) _
    exact (Below.refl _ _).alloc (by simp) _
  have d16 : decide (a16 < 0) = false := by simpa using n16
  have nn15 : 0 ≤ a15 := by omega
  have nn16 : 0 ≤ a16 := by omega
  go_wp2
  rw [rounds_succ]
  go_wp2
  have hok : okP l = true := by
    unfold okP
    rw [okAt_of l 0 (by rw [r0, ha0]; exact nn0) (by rw [r1, ha1]; exact nn1) (Or.inr (by rw [r2]; exact n2)), okAt_of l 1 (by rw [r3, ha3]; exact nn3) (by rw [r4, ha4]; exact nn4) (Or.inr (by rw [r5]; exact n5)), okAt_of l 2 (by rw [r6, ha6]; exact nn6) (by rw [r7, ha7]; exact nn7) (Or.inr (by rw [r8]; exact n8)), okAt_of l 3 (by rw [r9, ha9]; exact nn9) (by rw [r10, ha10]; exact nn10) (Or.inr (by rw [r11]; exact n11)), okAt_of l 4 (by rw [r12, ha12]; exact nn12) (by rw [r13, ha13]; exact nn13) (Or.inr (by rw [r14]; exact n14)), okAt_of l 5 (by rw [r15, ha15]; exact nn15) (by rw [r16, ha16]; exact nn16) (Or.inl rfl), decide_eq_true hlen]
    rfl
  have p0 : pm l 0 = 16 * a0 + a1 := by show 16 * digI ((l.getD 0 0).toNat : Int) + digI ((l.getD 1 0).toNat : Int) = _; rw [r0, r1, ha0, ha1]
  have p1 : pm l 1 = 16 * a3 + a4 := by show 16 * digI ((l.getD 3 0).toNat : Int) + digI ((l.getD 4 0).toNat : Int) = _; rw [r3, r4, ha3, ha4]
  have p2 : pm l 2 = 16 * a6 + a7 := by show 16 * digI ((l.getD 6 0).toNat : Int) + digI ((l.getD 7 0).toNat : Int) = _; rw [r6, r7, ha6, ha7]
  have p3 : pm l 3 = 16 * a9 + a10 := by show 16 * digI ((l.getD 9 0).toNat : Int) + digI ((l.getD 10 0).toNat : Int) = _; rw [r9, r10, ha9, ha10]
  have p4 : pm l 4 = 16 * a12 + a13 := by show 16 * digI ((l.getD 12 0).toNat : Int) + digI ((l.getD 13 0).toNat : Int) = _; rw [r12, r13, ha12, ha13]
  have p5 : pm l 5 = 16 * a15 + a16 := by show 16 * digI ((l.getD 15 0).toNat : Int) + digI ((l.getD 16 0).toNat : Int) = _; rw [r15, r16, ha15, ha16]
  refine bodyPost_ret (v := .tuple #[.agg #[.int .u8 (16 * a0 + a1), .int .u8 (16 * a3 + a4), .int .u8 (16 * a6 + a7), .int .u8 (16 * a9 + a10), .int .u8 (16 * a12 + a13), .int .u8 (16 * a15 + a16)], .bool true]) (by simp [results, Try.results39, go_sem]) rfl ⟨by rw [hVl]; unfold prsV; rw [if_pos hok, p0, p1, p2, p3, p4, p5], ?_⟩
  refine Below.alloc ?_ (by simp) _
  exact (Below.refl _ _).alloc (by simp) _
end Go.Proofs.Ytknahemnmboidaa
