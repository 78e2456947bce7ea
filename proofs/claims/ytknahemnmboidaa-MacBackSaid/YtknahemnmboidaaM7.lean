/- mac: texts: plain. -/
import Derived.Test.YtknahemnmboidaaM6
set_option linter.unusedVariables false
namespace Go.Proofs.Ytknahemnmboidaa
open Go.RowKit

theorem dig_hexd (n : Int) : digI ((hexd n).toNat : Int) = n % 16 := by
  have hd : hexd n = ([48, 49, 50, 51, 52, 53, 54, 55, 56, 57, 97, 98, 99, 100, 101, 102] : List UInt8).getD (n % 16).toNat 0 := rfl
  have h : n % 16 = 0 ∨ n % 16 = 1 ∨ n % 16 = 2 ∨ n % 16 = 3 ∨ n % 16 = 4 ∨ n % 16 = 5 ∨ n % 16 = 6 ∨ n % 16 = 7 ∨ n % 16 = 8 ∨ n % 16 = 9 ∨ n % 16 = 10 ∨ n % 16 = 11 ∨ n % 16 = 12 ∨ n % 16 = 13 ∨ n % 16 = 14 ∨ n % 16 = 15 := by omega
  rcases h with h | h | h | h | h | h | h | h | h | h | h | h | h | h | h | h <;> (rw [hd, h]; decide)
set_option maxRecDepth 100000 in
theorem hexd_fin : ∀ k : Fin 256, 0 ≤ digI (k.val : Int) → hexd (digI (k.val : Int)) = UInt8.ofNat k.val := by decide +kernel
theorem hexd_dig (c : UInt8) (h : 0 ≤ digI (c.toNat : Int)) : hexd (digI (c.toNat : Int)) = c := by
  have h1 := hexd_fin ⟨c.toNat, c.toNat_lt⟩ h
  simpa using h1
theorem dig_lt (c : Int) : digI c < 16 := by unfold digI; split <;> (try split) <;> omega
/-- Two digits. -/
theorem hexd_two (c d : UInt8) (hc : 0 ≤ digI (c.toNat : Int)) (hd : 0 ≤ digI (d.toNat : Int)) : hexd ((16 * digI (c.toNat : Int) + digI (d.toNat : Int)) / 16) = c ∧ hexd (16 * digI (c.toNat : Int) + digI (d.toNat : Int)) = d := by
  have h1 := dig_lt (d.toNat : Int)
  have e1 : (16 * digI (c.toNat : Int) + digI (d.toNat : Int)) / 16 = digI (c.toNat : Int) := by omega
  have e2 : (16 * digI (c.toNat : Int) + digI (d.toNat : Int)) % 16 = digI (d.toNat : Int) % 16 := by omega
  refine ⟨by rw [e1]; exact hexd_dig c hc, ?_⟩
  have h2 := hexd_dig d hd
  unfold hexd at h2 ⊢
  rw [e2]; exact h2

/-- The number at an address's place. -/
def pm (l : List UInt8) (i : Nat) : Int := 16 * digI ((l.getD (3 * i) 0).toNat : Int) + digI ((l.getD (3 * i + 1) 0).toNat : Int)
/-- Is a text an address's? -/
def okAt (l : List UInt8) (i : Nat) : Bool := decide (0 ≤ digI ((l.getD (3 * i) 0).toNat : Int)) && decide (0 ≤ digI ((l.getD (3 * i + 1) 0).toNat : Int)) && (decide (i = 5) || (l.getD (3 * i + 2) 0 == 58))
def okP (l : List UInt8) : Bool := decide (l.length = 17) && (okAt l 0 && (okAt l 1 && (okAt l 2 && (okAt l 3 && (okAt l 4 && okAt l 5)))))
theorem okP_text (l : List UInt8) (h : okP l = true) : txt6 (pm l 0) (pm l 1) (pm l 2) (pm l 3) (pm l 4) (pm l 5) = l := by
  simp only [okP, Bool.and_eq_true, decide_eq_true_eq, okAt, Bool.or_eq_true, beq_iff_eq] at h
  obtain ⟨hl, h0, h1, h2, h3, h4, h5⟩ := h
  match l, hl with
  | [c0, c1, c2, c3, c4, c5, c6, c7, c8, c9, c10, c11, c12, c13, c14, c15, c16], _ =>
    simp at h0 h1 h2 h3 h4 h5
    obtain ⟨p0, q0⟩ := hexd_two c0 c1 (by omega) (by omega)
    obtain ⟨p1, q1⟩ := hexd_two c3 c4 (by omega) (by omega)
    obtain ⟨p2, q2⟩ := hexd_two c6 c7 (by omega) (by omega)
    obtain ⟨p3, q3⟩ := hexd_two c9 c10 (by omega) (by omega)
    obtain ⟨p4, q4⟩ := hexd_two c12 c13 (by omega) (by omega)
    obtain ⟨p5, q5⟩ := hexd_two c15 c16 (by omega) (by omega)
    simp [txt6, pm, p0, q0, p1, q1, p2, q2, p3, q3, p4, q4, p5, q5, h0.2, h1.2, h2.2, h3.2, h4.2]
theorem text_okP (a b c d e f : Int) : okP (txt6 a b c d e f) = true := by
  have h : ∀ n : Int, 0 ≤ digI ((hexd n).toNat : Int) := fun n => by rw [dig_hexd]; omega
  simp [okP, okAt, txt6, h]
end Go.Proofs.Ytknahemnmboidaa
