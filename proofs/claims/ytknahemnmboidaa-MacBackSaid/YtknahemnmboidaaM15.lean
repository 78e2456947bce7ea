/- mac: the reference's level, reserved, text. -/
import Derived.Test.YtknahemnmboidaaM14
import Derived.BigQuiet
set_option linter.unusedVariables false
namespace Go.Proofs.Ytknahemnmboidaa
open Go.RowKit

theorem macEq_pre (a b c d e f x : Int) : macEq a b c d e f 1 128 194 0 0 x = (macEq a b c d e 0 1 128 194 0 0 0 && f == x) := by simp [macEq, Bool.and_assoc]
theorem and240_fin : ∀ n : Fin 256, (bits .and .u8 (n.val : Int) 240 == 0) = decide ((n.val : Int) < 16) := by decide +kernel
theorem and240 (f : Int) (h0 : 0 ≤ f) (h1 : f < 256) : (bits .and .u8 f 240 == 0) = decide (f < 16) := by
  have h := and240_fin ⟨f.toNat, by omega⟩
  simpa [Int.toNat_of_nonneg h0] using h
theorem resB_eq (a b c d e f : Int) (h0 : 0 ≤ f) (h1 : f < 256) : resB a b c d e f = (macEq a b c d e 0 1 128 194 0 0 0 && decide (f < 16)) := by
  unfold resB; rw [macEq_pre, and240 f h0 h1]
theorem lvl_of (a b c d e f k : Int) (hk : 0 ≤ k ∧ k < 8) (h : macEq a b c d e f 1 128 194 0 0 (48 + k) = true ∨ macEq a b c d e f 1 128 194 0 0 (56 + k) = true) : lvlV a b c d e f = .tuple #[.int .u8 k, .bool true] := by
  rw [macEq_pre a b c d e f (48 + k), macEq_pre a b c d e f (56 + k)] at h
  have h2 : macEq a b c d e 0 1 128 194 0 0 0 = true ∧ (f = 48 + k ∨ f = 56 + k) := by
    rcases h with h | h <;> simp only [Bool.and_eq_true, beq_iff_eq] at h
    · exact ⟨h.1, .inl h.2⟩
    · exact ⟨h.1, .inr h.2⟩
  unfold lvlV lvlB
  rw [h2.1, decide_eq_true (p := 48 ≤ f) (by omega), decide_eq_true (p := f < 64) (by omega), show f % 8 = k by omega]
  rfl
theorem lvl_none (a b c d e f : Int) (h : ∀ j : Nat, j < 8 → macEq a b c d e f 1 128 194 0 0 (48 + j) = false ∧ macEq a b c d e f 1 128 194 0 0 (56 + j) = false) : lvlV a b c d e f = .tuple #[.int .u8 0, .bool false] := by
  have hB : lvlB a b c d e f = false := by
    rw [Bool.eq_false_iff]
    intro hB
    unfold lvlB at hB
    simp only [Bool.and_eq_true, decide_eq_true_eq] at hB
    obtain ⟨hp, h1, h2⟩ := hB
    by_cases hf : f < 56
    · have h3 := (h (f - 48).toNat (by omega)).1
      rw [macEq_pre, hp] at h3
      simp at h3; omega
    · have h3 := (h (f - 56).toNat (by omega)).2
      rw [macEq_pre, hp] at h3
      simp at h3; omega
  unfold lvlV; rw [hB]; rfl
theorem res_none (a b c d e f : Int) (h0 : 0 ≤ f) (h1 : f < 256) (h : ∀ j : Nat, j < 16 → macEq a b c d e f 1 128 194 0 0 j = false) : resB a b c d e f = false := by
  rw [resB_eq a b c d e f h0 h1, Bool.eq_false_iff]
  intro hB
  simp only [Bool.and_eq_true, decide_eq_true_eq] at hB
  have h3 := h f.toNat (by omega)
  rw [macEq_pre, hB.1] at h3
  simp at h3; omega

set_option maxRecDepth 100000 in
set_option maxHeartbeats 4000000 in
theorem refReserved_any (a b c d e f : Int) (w : World) (h0 : 0 ≤ f) (h1 : f < 256) : Calls Try.prog 59 #[.agg #[.int .u8 a, .int .u8 b, .int .u8 c, .int .u8 d, .int .u8 e, .int .u8 f]] w fun en w' => en = .returned (.bool (resB a b c d e f)) ∧ Below w.heap.size w w' := by
  have heq := run_eql_mac
  obtain ⟨R, hR⟩ : ∃ R, resB a b c d e f = R := ⟨_, rfl⟩
  have HR := Lib.hid hR
  rw [hR]; clear hR
  go_enter Try.func59, Try.ntmps59
  go_wp2_with fail
  go_loop [3] (fun i => ∃ k : Nat, k ≤ 16 ∧ i = .int .i64 k ∧ ∀ j : Nat, j < k → macEq a b c d e f 1 128 194 0 0 j = false) (fun i => 16 - (intOf i).toNat)
  case atStart => exact ⟨0, by omega, rfl, fun j hj => by omega⟩
  case round =>
    obtain ⟨k, hk, rfl, hno⟩ := hrel
    have HN := Lib.hid hno; clear hno
    by_cases hlt : k < 16
    · have dk : decide ((k : Int) < 16) = true := decide_eq_true (by omega)
      have hwr : IntKind.u8.wrap (k : Int) = (k : Int) := IntWalk.u8_in _ (by omega)
      cases hq : macEq a b c d e f 1 128 194 0 0 k with
      | true =>
        go_wp2
        go_ret
        have hRt : R = true := by
          rw [← HR.out, resB_eq a b c d e f h0 h1]
          rw [macEq_pre] at hq
          simp only [Bool.and_eq_true, beq_iff_eq] at hq
          rw [hq.1, decide_eq_true (by omega)]; rfl
        exact ⟨by rw [hRt]; rfl, (Below.refl _ _).alloc (by simp) _⟩
      | false =>
        go_wp2
        exact ⟨⟨k + 1, by omega, by go_num, fun j hj => by
          by_cases hjk : j = k
          · subst hjk; exact hq
          · exact HN.out j (by omega)⟩, by simp [intOf]; omega⟩
    · have dk : decide ((k : Int) < 16) = false := decide_eq_false (by omega)
      go_wp2
      go_ret
      have hRt : R = false := by
        rw [← HR.out]; exact res_none a b c d e f h0 h1 (fun j hj => HN.out j (by omega))
      exact ⟨by rw [hRt]; rfl, (Below.refl _ _).alloc (by simp) _⟩

set_option maxRecDepth 100000 in
set_option maxHeartbeats 4000000 in
theorem refLevel_any (a b c d e f : Int) (w : World) : Calls Try.prog 58 #[.agg #[.int .u8 a, .int .u8 b, .int .u8 c, .int .u8 d, .int .u8 e, .int .u8 f]] w fun en w' => en = .returned (lvlV a b c d e f) ∧ Below w.heap.size w w' := by
  have heq := run_eql_mac
  obtain ⟨R, hR⟩ : ∃ R, lvlV a b c d e f = R := ⟨_, rfl⟩
  have HR := Lib.hid hR
  rw [hR]; clear hR
  go_enter Try.func58, Try.ntmps58
  go_wp2_with fail
  go_loopw [4] (fun i wr => ∃ k : Nat, k ≤ 8 ∧ i = .int .i64 k ∧ (∀ j : Nat, j < k → macEq a b c d e f 1 128 194 0 0 (48 + j) = false ∧ macEq a b c d e f 1 128 194 0 0 (56 + j) = false) ∧ MA wr w.heap.size a b c d e f ∧ Below w.heap.size w wr) (fun i _ => 8 - (intOf i).toNat)
  case atStart => exact ⟨0, by omega, rfl, fun j hj => by omega, MA.new w a b c d e f, (Below.refl _ _).alloc (by simp) _⟩
  case round =>
    obtain ⟨k, hk, rfl, hno, hm, hb⟩ := hrel
    have HN := Lib.hid hno; clear hno
    have HM := Lib.hid hm; clear hm
    have HB := Lib.hid hb; clear hb
    by_cases hlt : k < 8
    · have dk : decide ((k : Int) < 8) = true := decide_eq_true (by omega)
      have hwr : IntKind.u8.wrap (k : Int) = (k : Int) := IntWalk.u8_in _ (by omega)
      go_wp2_with fail
      refine (refLevels_any k _ (by omega) (by omega)).mono ?_
      rintro en w1 ⟨rfl, hb1⟩
      have X : ∀ x y : Int, Below w1.heap.size w1 ((w1.alloc (.cells #[.int .u8 1, .int .u8 128, .int .u8 194, .int .u8 0, .int .u8 0, .int .u8 x] 34)).alloc (.cells #[.int .u8 1, .int .u8 128, .int .u8 194, .int .u8 0, .int .u8 0, .int .u8 y] 34)) := fun x y => ((Below.refl _ _).alloc (Nat.le_refl _) _).alloc (by simp) _
      have m0 := (HM.out.later hb1).later (X (48 + (k : Int)) (56 + (k : Int)))
      have HB1 := Lib.hid ((HB.out.trans (hb1.mono HB.out.size)).trans ((X (48 + (k : Int)) (56 + (k : Int))).mono (Nat.le_trans HB.out.size hb1.size)))
      have HM1 := Lib.hid m0
      obtain ⟨c0, c1, c2, c3, c4, c5⟩ := m0
      clear X hb1
      cases hq : macEq a b c d e f 1 128 194 0 0 (48 + (k : Int)) with
      | true =>
        go_wp2
        have hRt := HR.out.symm.trans (lvl_of a b c d e f k (by omega) (.inl hq))
        refine bodyPost_ret (v := .tuple #[.int .u8 k, .bool true]) (by simp [results, Try.results58, go_sem]) rfl ⟨by rw [hRt], HB1.out⟩
      | false =>
        cases hq2 : macEq a b c d e f 1 128 194 0 0 (56 + (k : Int)) with
        | true =>
          go_wp2
          have hRt := HR.out.symm.trans (lvl_of a b c d e f k (by omega) (.inr hq2))
          refine bodyPost_ret (v := .tuple #[.int .u8 k, .bool true]) (by simp [results, Try.results58, go_sem]) rfl ⟨by rw [hRt], HB1.out⟩
        | false =>
          go_wp2
          exact ⟨⟨k + 1, by omega, by go_num, fun j hj => by
            by_cases hjk : j = k
            · subst hjk; exact ⟨hq, hq2⟩
            · exact HN.out j (by omega), HM1.out, HB1.out⟩, by simp [intOf]; omega⟩
    · have dk : decide ((k : Int) < 8) = false := decide_eq_false (by omega)
      go_wp2
      have hRt := HR.out.symm.trans (lvl_none a b c d e f (fun j hj => HN.out j (by omega)))
      refine bodyPost_ret (v := .tuple #[.int .u8 0, .bool false]) (by simp [results, Try.results58, go_sem]) rfl ⟨by rw [hRt], HB.out⟩
end Go.Proofs.Ytknahemnmboidaa
