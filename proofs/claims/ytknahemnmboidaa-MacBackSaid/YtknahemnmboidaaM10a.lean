/- mac: Parse: plain. -/
import Derived.Test.YtknahemnmboidaaM9
set_option linter.unusedVariables false
namespace Go.Proofs.Ytknahemnmboidaa
open Go.RowKit

theorem nib_fin : ∀ d n : Fin 16, bits .or .u8 (16 * (d.val : Int)) (n.val : Int) = 16 * (d.val : Int) + (n.val : Int) := by decide +kernel
/-- A nibble put behind one. -/
theorem nib_or (d n : Int) (h0 : 0 ≤ d) (h1 : d < 16) (k0 : 0 ≤ n) (k1 : n < 16) : bits .or .u8 (16 * d) n = 16 * d + n := by
  have h := nib_fin ⟨d.toNat, by omega⟩ ⟨n.toNat, by omega⟩
  simpa [Int.toNat_of_nonneg h0, Int.toNat_of_nonneg k0] using h

/-- mac.Parse's address behind k bytes. -/
def mS (l : List UInt8) : Nat → Nat → Int
  | 0, _ => 0
  | k + 1, j => if j = k / 3 ∧ k % 3 < 2 ∧ 0 ≤ digI ((l.getD k 0).toNat : Int) then 16 * mS l k j + digI ((l.getD k 0).toNat : Int) else mS l k j
theorem mS_zero (l : List UInt8) : ∀ k j : Nat, k ≤ 3 * j → mS l k j = 0
  | 0, j, _ => rfl
  | k + 1, j, h => by
    have ih := mS_zero l k j (by omega)
    unfold mS; rw [if_neg (by omega)]; exact ih
theorem mS_one (l : List UInt8) (j : Nat) : 0 ≤ mS l (3 * j + 1) j ∧ mS l (3 * j + 1) j < 16 := by
  have h0 := mS_zero l (3 * j) j (by omega)
  have h1 := dig_lt ((l.getD (3 * j) 0).toNat : Int)
  unfold mS
  split
  · rename_i h; rw [h0]; have := h.2.2; omega
  · rw [h0]; omega
theorem mS_two (l : List UInt8) (j : Nat) : 0 ≤ mS l (3 * j + 2) j ∧ mS l (3 * j + 2) j < 256 := by
  have h0 := mS_one l j
  have h1 := dig_lt ((l.getD (3 * j + 1) 0).toNat : Int)
  unfold mS
  split
  · rename_i h; have := h.2.2; omega
  · omega
theorem mS_stay (l : List UInt8) (j : Nat) : ∀ k : Nat, 3 * j + 2 ≤ k → mS l k j = mS l (3 * j + 2) j
  | 0, h => by omega
  | k + 1, h => by
    by_cases e : k + 1 = 3 * j + 2
    · rw [e]
    · have ih := mS_stay l j k (by omega)
      unfold mS; rw [if_neg (by omega)]; exact ih
theorem mS_ok (l : List UInt8) (j : Nat) (h : okAt l j = true) : mS l (3 * j + 2) j = pm l j := by
  simp only [okAt, Bool.and_eq_true, decide_eq_true_eq] at h
  have h0 := mS_zero l (3 * j) j (by omega)
  have e1 : mS l (3 * j + 1) j = digI ((l.getD (3 * j) 0).toNat : Int) := by
    unfold mS; rw [if_pos ⟨by omega, by omega, h.1.1⟩, h0]; omega
  show mS l (3 * j + 1 + 1) j = _
  unfold mS; rw [if_pos ⟨by omega, by omega, h.1.2⟩, e1]; rfl
end Go.Proofs.Ytknahemnmboidaa
