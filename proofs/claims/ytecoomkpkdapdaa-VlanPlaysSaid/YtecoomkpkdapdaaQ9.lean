/- ref07: Set. -/
import Derived.Test.YtecoomkpkdapdaaQ8
set_option linter.unusedVariables false
namespace Go.Proofs.Ytecoomkpkdapdaa
open Go.RowKit

/-- Is a port's bit bad? -/
def badP (n a b : Int) (p : Nat) : Bool := (memB a p && decide (n ≤ (p : Int))) || (memB b p && !memB a p)
theorem memB_bit (m p : Nat) (hp : p < 8) : memB (m : Int) p = m.testBit p := by
  unfold memB
  rw [decide_eq_true hp, Bool.true_and, Nat.testBit_eq_decide_div_mod_eq]
  have : (m : Int) / 2 ^ p % 2 = ((m / 2 ^ p % 2 : Nat) : Int) := by push_cast; rfl
  rw [this, decide_eq_decide]; omega
theorem bit_lt {m p : Nat} (hm : m < 256) (h : m.testBit p = true) : p < 8 := by
  rcases Nat.lt_or_ge p 8 with h8 | h8
  · exact h8
  · rw [Nat.testBit_lt_two_pow (Nat.lt_of_lt_of_le hm (Nat.pow_le_pow_right (n := 2) (by decide) h8))] at h; cases h
theorem ex_bit {m : Nat} (h : m ≠ 0) : ∃ i, m.testBit i = true := Nat.exists_testBit_of_ne_zero h
theorem badP_iff (n a b : Int) (hn : 1 ≤ n ∧ n ≤ 8) (ha : 0 ≤ a ∧ a < 256) (hb : 0 ≤ b ∧ b < 256) : (∃ p, p < 8 ∧ badP n a b p = true) ↔ (a / 2 ^ n.toNat ≠ 0 ∨ bits .andNot .u8 b a ≠ 0) := by
  obtain ⟨A, rfl⟩ : ∃ A : Nat, a = A := ⟨a.toNat, by omega⟩
  obtain ⟨B, rfl⟩ : ∃ B : Nat, b = B := ⟨b.toNat, by omega⟩
  obtain ⟨N, rfl⟩ : ∃ N : Nat, n = N := ⟨n.toNat, by omega⟩
  rw [u8_andNot (B : Int) (A : Int) (by omega) (by omega) (by omega) (by omega)]
  have hA : A < 256 := by omega
  have e1 : ((A : Int) / 2 ^ (N : Int).toNat ≠ 0) ↔ A / 2 ^ N ≠ 0 := by
    rw [Int.toNat_natCast]
    have : (A : Int) / 2 ^ N = ((A / 2 ^ N : Nat) : Int) := by push_cast; rfl
    rw [this]; omega
  have e2 : (((B : Int).toNat &&& (255 - (A : Int).toNat) : Nat) : Int) ≠ 0 ↔ B &&& (255 - A) ≠ 0 := by
    simp only [Int.toNat_natCast]; omega
  have tb : ∀ p, p < 8 → (255 - A).testBit p = !A.testBit p := fun p hp => by
    have := Nat.testBit_two_pow_sub_succ (n := 8) (x := A) hA p
    rw [show 2 ^ 8 - (A + 1) = 255 - A by omega] at this
    rw [this, decide_eq_true hp, Bool.true_and]
  rw [e1, e2]
  constructor
  · rintro ⟨p, hp, h⟩
    unfold badP at h
    rw [memB_bit A p hp, memB_bit B p hp] at h
    rcases Bool.or_eq_true_iff.1 h with h | h
    · rw [Bool.and_eq_true, decide_eq_true_eq] at h
      refine .inl fun h0 => ?_
      have h1 := h.1
      have h2 : A < 2 ^ N := by
        rcases Nat.lt_or_ge A (2 ^ N) with h | h
        · exact h
        · have := Nat.div_pos h (Nat.two_pow_pos N); omega
      rw [Nat.testBit_lt_two_pow (Nat.lt_of_lt_of_le h2 (Nat.pow_le_pow_right (by decide) (by have := h.2; omega)))] at h1
      cases h1
    · rw [Bool.and_eq_true] at h
      refine .inr fun h0 => ?_
      have := congrArg (fun x => x.testBit p) h0
      simp only [Nat.testBit_and, Nat.zero_testBit, tb p hp, h.1, h.2] at this
      cases this
  · rintro (h | h)
    · obtain ⟨i, hi⟩ := ex_bit h
      rw [Nat.testBit_div_two_pow] at hi
      have h8 := bit_lt hA hi
      refine ⟨N + i, by omega, ?_⟩
      unfold badP
      rw [memB_bit A (N + i) (by omega), Nat.add_comm N i]
      have hi2 : A.testBit (i + N) = true := by first | exact hi | (rw [Nat.add_comm]; exact hi)
      rw [hi2, Bool.true_and]
      simp; omega
    · obtain ⟨i, hi⟩ := ex_bit h
      rw [Nat.testBit_and, Bool.and_eq_true] at hi
      have h8 := bit_lt (by omega : B < 256) hi.1
      rw [tb i h8] at hi
      refine ⟨i, h8, ?_⟩
      unfold badP
      rw [memB_bit A i h8, memB_bit B i h8, hi.1, hi.2]; simp
theorem vIns_none {x : Vn} : ∀ {L : List Vn}, (∀ y ∈ L, ¬ x.1 < y.1) → vIns x L = L ++ [x]
  | [], _ => rfl
  | y :: r, h => by
    unfold vIns
    rw [if_neg (h y (List.mem_cons_self ..)), vIns_none (fun z hz => h z (List.mem_cons_of_mem _ hz))]; rfl
theorem vIns_some {x z : Vn} : ∀ {L : List Vn}, (∃ y ∈ L, x.1 < y.1) → vIns x (L ++ [z]) = vIns x L ++ [z]
  | [], h => by obtain ⟨y, hy, _⟩ := h; cases hy
  | y :: r, h => by
    simp only [List.cons_append, vIns]
    by_cases hc : x.1 < y.1
    · rw [if_pos hc, if_pos hc]; rfl
    · rw [if_neg hc, if_neg hc, vIns_some]
      · rfl
      · obtain ⟨u, hu, h2⟩ := h
        rcases List.mem_cons.1 hu with rfl | hu
        · exact absurd h2 hc
        · exact ⟨u, hu, h2⟩
theorem vIns_first {x z : Vn} : ∀ {L : List Vn}, (∀ y ∈ L, ¬ x.1 < y.1) → x.1 < z.1 → vIns x (L ++ [z]) = L ++ [x] ++ [z]
  | [], _, h => by simp [vIns, h]
  | y :: r, h, hz => by
    simp only [List.cons_append, vIns]
    rw [if_neg (h y (List.mem_cons_self ..)), vIns_first (fun u hu => h u (List.mem_cons_of_mem _ hu)) hz]
/-- The insertion, k rows in. -/
def InsR (x : Vn) (D : List Vn) (j : Nat) (out : List Vn) (dn : Bool) : Prop :=
  (dn = false ∧ (∀ y ∈ D.take j, ¬ x.1 < y.1) ∧ out = D.take j) ∨ (dn = true ∧ (∃ y ∈ D.take j, x.1 < y.1) ∧ out = vIns x (D.take j))
theorem InsR.len {x : Vn} {D : List Vn} {j : Nat} {out : List Vn} {dn : Bool} (h : InsR x D j out dn) : out.length ≤ D.length + 1 := by
  have h0 : (D.take j).length ≤ D.length := by simp; omega
  rcases h with ⟨_, _, rfl⟩ | ⟨_, _, rfl⟩
  · omega
  · rw [vIns_len]; omega
theorem InsR.old {x : Vn} {D : List Vn} {j : Nat} {out : List Vn} {y : Vn} (h : InsR x D j out true) (hy : D.take (j + 1) = D.take j ++ [y]) : InsR x D (j + 1) (out ++ [y]) true := by
  rcases h with ⟨h, _⟩ | ⟨_, h, rfl⟩
  · cases h
  · refine .inr ⟨rfl, ?_, by rw [hy, vIns_some h]⟩
    rw [hy]; obtain ⟨u, hu, h2⟩ := h; exact ⟨u, List.mem_append_left _ hu, h2⟩
theorem InsR.go {x : Vn} {D : List Vn} {j : Nat} {out : List Vn} {y : Vn} (h : InsR x D j out false) (hy : D.take (j + 1) = D.take j ++ [y]) (hc : ¬ x.1 < y.1) : InsR x D (j + 1) (out ++ [y]) false := by
  rcases h with ⟨_, h, rfl⟩ | ⟨h, _⟩
  · refine .inl ⟨rfl, ?_, hy.symm⟩
    rw [hy]; intro u hu
    rcases List.mem_append.1 hu with hu | hu
    · exact h u hu
    · rw [List.mem_singleton.1 hu]; exact hc
  · cases h
theorem InsR.now {x : Vn} {D : List Vn} {j : Nat} {out : List Vn} {y : Vn} (h : InsR x D j out false) (hy : D.take (j + 1) = D.take j ++ [y]) (hc : x.1 < y.1) : InsR x D (j + 1) (out ++ [x] ++ [y]) true := by
  rcases h with ⟨_, h, rfl⟩ | ⟨h, _⟩
  · refine .inr ⟨rfl, ?_, ?_⟩
    · rw [hy]; exact ⟨y, by simp, hc⟩
    · rw [hy, vIns_first h hc]
  · cases h
theorem InsR.fin {x : Vn} {D : List Vn} {out : List Vn} {dn : Bool} (h : InsR x D D.length out dn) : (if dn = true then out else out ++ [x]) = vIns x D := by
  unfold InsR at h
  rw [List.take_length] at h
  rcases h with ⟨rfl, h, rfl⟩ | ⟨rfl, h, rfl⟩
  · rw [vIns_none h]; rfl
  · rfl
end Go.Proofs.Ytecoomkpkdapdaa
