/- lbm: the look-up in replies. -/
import Derived.Test.YtcbbocdmmehphaaE3
set_option linter.unusedVariables false
namespace Go.Proofs.Ytcbbocdmmehphaa
open Go.RowKit
open Go.Maps (Keyed int_keyed keyOf_int_mk)

theorem rpD_at (b : Int) (z : DataW Unit) : rpD.atKey (.int .u8 b) z = if b = 2 then .lit (.bool true) else if b = 3 then .lit (.bool false) else z := by
  have e : rpD = .map [(.int .u8 2, .lit (.bool true)), (.int .u8 3, .lit (.bool false))] := by rfl
  rw [e]
  by_cases h2 : b = 2
  · subst h2; rfl
  · by_cases h3 : b = 3
    · subst h3; rfl
    · simp [DataW.atKey, Lit.sameKey, h2, h3, Ne.symm h2, Ne.symm h3, eq_comm]
set_option maxRecDepth 100000 in
theorem bool_inv {v : Value} {y : DataW Unit × List MemPlace} (h : plainElem (H := Unit) Try.prog 4 v = some y) : ∃ x, v = .bool x ∧ y.1 = .lit (.bool x) := by
  unfold plainElem at h
  rw [Try.underlying4] at h
  cases v
  case bool x => injection h with h; exact ⟨x, rfl, by rw [← h]⟩
  all_goals simp at h
set_option maxRecDepth 100000 in
theorem rmap_look {W : World} {q : Nat} (h : RMap W q) (b : Int) (h0 : 0 ≤ b ∧ b < 256) :
    (Instr.lookup 133 (.map (some q)) (.int .u8 b) true).run Try.prog W = .ok (.tuple #[.bool (decide (b = 2)), .bool (decide (b = 2 ∨ b = 3))]) W := by
  obtain ⟨es, clock, hb, F, hs, hD⟩ := h
  have hw : (Lit.int .u8 b).wf = true := by simp [Lit.wf, IntKind.min, IntKind.max, IntKind.bits, IntKind.signed]; omega
  have hz : (zeroValue 4).run Try.prog W = .ok (.bool false) W := by kernel_rfl
  rcases Maps.fit_look true u8_keyed Try.underlying133 hz hb F (keyOf_int_mk Try.underlying5 hw) with ⟨hrun, _, hat⟩ | ⟨e0, y, _, _, hrun, hRv, hat, _⟩
  · rw [← hD] at hat
    have a := hat (.lit (.bool false))
    have c := hat (.lit (.bool true))
    rw [rpD_at] at a c
    have n2 : b ≠ 2 := by intro e; rw [if_pos e] at a; injection a with a; injection a with a; cases a
    have n3 : b ≠ 3 := by intro e; rw [if_neg n2, if_pos e] at c; injection c with c; injection c with c; cases c
    rw [hrun, decide_eq_false n2, decide_eq_false (by omega)]; rfl
  · rw [← hD] at hat
    have a := hat (.lit (.bool false))
    have c := hat (.lit (.bool true))
    rw [rpD_at] at a c
    obtain ⟨x, hx, hy⟩ := bool_inv hRv
    rw [hy] at a c
    rw [hrun, hx]
    by_cases n2 : b = 2
    · rw [if_pos n2] at a; injection a with a; injection a with a
      rw [← a, decide_eq_true n2, decide_eq_true (Or.inl n2)]; rfl
    · rw [if_neg n2] at a c
      by_cases n3 : b = 3
      · rw [if_pos n3] at a; injection a with a; injection a with a
        rw [← a, decide_eq_false n2, decide_eq_true (Or.inr n3)]; rfl
      · rw [if_neg n3] at a c
        injection a with a; injection a with a; injection c with c; injection c with c
        rw [← a] at c; cases c
end Go.Proofs.Ytcbbocdmmehphaa
