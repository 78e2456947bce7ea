/- mac: numbers and texts: plain. -/
import Derived.Test.YtknahemnmboidaaM10a
import Derived.Test.YtknahemnmboidaaRM
set_option linter.unusedVariables false
namespace Go.Proofs.Ytknahemnmboidaa
open Go.RowKit

/-- An address's number. -/
def numM (a b c d e f : Int) : Int := ((((a * 256 + b) * 256 + c) * 256 + d) * 256 + e) * 256 + f
theorem numM_bd {a b c d e f : Int} (h : wfM a b c d e f) : 0 ≤ numM a b c d e f ∧ numM a b c d e f < 281474976710656 := by
  unfold wfM at h; unfold numM; omega
theorem div_step (x f : Int) (h : 0 ≤ f ∧ f < 256) : (x * 256 + f) / 256 = x := by omega
theorem mod_step (x f : Int) (h : 0 ≤ f ∧ f < 256) : (x * 256 + f) % 256 = f := by omega
theorem ofA_num {a b c d e f : Int} (h : wfM a b c d e f) : ofA (numM a b c d e f) = .agg #[.int .u8 a, .int .u8 b, .int .u8 c, .int .u8 d, .int .u8 e, .int .u8 f] := by
  obtain ⟨ha, hb, hc, hd, he, hf⟩ := h
  unfold ofA numM
  rw [div_step _ f hf, div_step _ e he, div_step _ d hd, div_step _ c hc, div_step _ b hb, mod_step _ f hf, mod_step _ e he, mod_step _ d hd, mod_step _ c hc, mod_step _ b hb, show a % 256 = a by omega]
theorem ofV_num {a b c d e f : Int} (h : wfM a b c d e f) : ofV (numM a b c d e f) = .tuple #[.agg #[.int .u8 a, .int .u8 b, .int .u8 c, .int .u8 d, .int .u8 e, .int .u8 f], .bool true] := by
  unfold ofV; rw [if_pos (numM_bd h).2, ofA_num h]
theorem num_of (n : Int) (h0 : 0 ≤ n) (h1 : n < 281474976710656) : numM (n / 256 / 256 / 256 / 256 / 256 % 256) (n / 256 / 256 / 256 / 256 % 256) (n / 256 / 256 / 256 % 256) (n / 256 / 256 % 256) (n / 256 % 256) (n % 256) = n := by
  unfold numM; omega
theorem wfM_of (n : Int) : wfM (n / 256 / 256 / 256 / 256 / 256 % 256) (n / 256 / 256 / 256 / 256 % 256) (n / 256 / 256 / 256 % 256) (n / 256 / 256 % 256) (n / 256 % 256) (n % 256) := by
  unfold wfM
  have h : ∀ x : Int, 0 ≤ x % 256 ∧ x % 256 < 256 := fun x => by omega
  exact ⟨h _, h _, h _, h _, h _, h _⟩
theorem dig_two (a : Int) (h : 0 ≤ a ∧ a < 256) : 16 * digI ((hexd (a / 16)).toNat : Int) + digI ((hexd a).toNat : Int) = a := by
  rw [dig_hexd, dig_hexd]; omega
theorem prs_text {a b c d e f : Int} (h : wfM a b c d e f) : prsV (txt6 a b c d e f) = .tuple #[.agg #[.int .u8 a, .int .u8 b, .int .u8 c, .int .u8 d, .int .u8 e, .int .u8 f], .bool true] := by
  obtain ⟨ha, hb, hc, hd, he, hf⟩ := h
  have p0 : pm (txt6 a b c d e f) 0 = a := dig_two a ha
  have p1 : pm (txt6 a b c d e f) 1 = b := dig_two b hb
  have p2 : pm (txt6 a b c d e f) 2 = c := dig_two c hc
  have p3 : pm (txt6 a b c d e f) 3 = d := dig_two d hd
  have p4 : pm (txt6 a b c d e f) 4 = e := dig_two e he
  have p5 : pm (txt6 a b c d e f) 5 = f := dig_two f hf
  unfold prsV; rw [if_pos (text_okP a b c d e f), p0, p1, p2, p3, p4, p5]
theorem text_inj {a b c d e f a' b' c' d' e' f' : Int} (h : wfM a b c d e f) (h' : wfM a' b' c' d' e' f') (ht : txt6 a b c d e f = txt6 a' b' c' d' e' f') : a = a' ∧ b = b' ∧ c = c' ∧ d = d' ∧ e = e' ∧ f = f' := by
  have h1 := prs_text h
  rw [ht, prs_text h'] at h1
  simpa [eq_comm] using h1
theorem num_inj {a b c d e f a' b' c' d' e' f' : Int} (h : wfM a b c d e f) (h' : wfM a' b' c' d' e' f') (ht : numM a b c d e f = numM a' b' c' d' e' f') : a = a' ∧ b = b' ∧ c = c' ∧ d = d' ∧ e = e' ∧ f = f' := by
  have h1 := ofA_num h
  rw [ht, ofA_num h'] at h1
  simpa [eq_comm] using h1
theorem pm_bd (l : List UInt8) (i : Nat) (h : okAt l i = true) : 0 ≤ pm l i ∧ pm l i < 256 := by
  simp only [okAt, Bool.and_eq_true, decide_eq_true_eq] at h
  have h1 := dig_lt ((l.getD (3 * i) 0).toNat : Int)
  have h2 := dig_lt ((l.getD (3 * i + 1) 0).toNat : Int)
  unfold pm; omega
theorem wfM_pm (l : List UInt8) (h : okP l = true) : wfM (pm l 0) (pm l 1) (pm l 2) (pm l 3) (pm l 4) (pm l 5) := by
  simp only [okP, Bool.and_eq_true, decide_eq_true_eq] at h
  obtain ⟨_, h0, h1, h2, h3, h4, h5⟩ := h
  exact ⟨pm_bd l 0 h0, pm_bd l 1 h1, pm_bd l 2 h2, pm_bd l 3 h3, pm_bd l 4 h4, pm_bd l 5 h5⟩
end Go.Proofs.Ytknahemnmboidaa
