/- frame: the reference's Take: the plain laws. -/
import Derived.Test.YtblmpndaofhmjaaF6
set_option linter.unusedVariables false
namespace Go.Proofs.Ytblmpndaofhmjaa
open Go.RowKit

theorem numOf_two (a b : UInt8) : numOf [a, b] = ((a.toNat * 256 + b.toNat : Nat) : Int) := by simp [numOf]
theorem rdT_err (l : List UInt8) (e n : Int) (he : e ≠ 0) : rdText l e n = ([], l, e) := by unfold rdText; rw [if_pos (Or.inr he)]
theorem rdT_short (l : List UInt8) (n : Int) (h0 : 0 < n) (h : (l.length : Int) < n) : rdText l 0 n = ([], [], 3) := by
  unfold rdText; rw [if_neg (by omega), if_pos h]
theorem rdT_ok (l : List UInt8) (n : Int) (h0 : 0 < n) (h : n ≤ (l.length : Int)) : rdText l 0 n = (l.take n.toNat, l.drop n.toNat, 0) := by
  unfold rdText; rw [if_neg (by omega), if_neg (by omega)]
theorem rdR_err (l : List UInt8) (e : Int) (he : e ≠ 0) : rdRest l e = ([], l, e) := rdT_err l e _ he
theorem rdR_ok (l : List UInt8) : rdRest l 0 = (l, [], 0) := by
  unfold rdRest
  by_cases h : l.length = 0
  · have : l = [] := List.eq_nil_of_length_eq_zero h
    subst this; rfl
  · rw [rdT_ok l _ (by omega) (by omega)]; simp
theorem tkF_long (s : List UInt8) (h : 1522 < s.length) : tkF s = (frZ, 5) := by unfold tkF; rw [if_pos h]
theorem tkF_short (s : List UInt8) (h : s.length < 14) : tkF s = (frZ, 3) := by
  have e3 : (fr3 s).1 = [] ∧ (fr3 s).2.2 = 3 := by
    by_cases h6 : s.length < 6
    · have h1 : fr1 s = ([], [], 3) := rdT_short s 6 (by omega) (by omega)
      have h2 : fr2 s = ([], [], 3) := by unfold fr2; rw [h1]; rfl
      have h3 : fr3 s = ([], [], 3) := by unfold fr3; rw [h2]; rfl
      rw [h3]; exact ⟨rfl, rfl⟩
    · have h1 : fr1 s = (s.take 6, s.drop 6, 0) := rdT_ok s 6 (by omega) (by omega)
      by_cases h12 : s.length < 12
      · have h2 : fr2 s = ([], [], 3) := by unfold fr2; rw [h1]; exact rdT_short _ 6 (by omega) (by simp; omega)
        have h3 : fr3 s = ([], [], 3) := by unfold fr3; rw [h2]; rfl
        rw [h3]; exact ⟨rfl, rfl⟩
      · have h2 : fr2 s = ((s.drop 6).take 6, (s.drop 6).drop 6, 0) := by unfold fr2; rw [h1]; exact rdT_ok _ 6 (by omega) (by simp; omega)
        have h3 : fr3 s = ([], [], 3) := by unfold fr3; rw [h2]; exact rdT_short _ 2 (by omega) (by simp; omega)
        rw [h3]; exact ⟨rfl, rfl⟩
  unfold tkF
  rw [if_neg (by omega), e3.1, if_neg (by decide), e3.2, rdR_err _ 3 (by decide)]
  rfl
/-- A frame of fourteen bytes and more. -/
theorem fr_heads (a0 a1 a2 a3 a4 a5 b0 b1 b2 b3 b4 b5 c d : UInt8) (t : List UInt8) : fr1 (a0 :: a1 :: a2 :: a3 :: a4 :: a5 :: b0 :: b1 :: b2 :: b3 :: b4 :: b5 :: c :: d :: t) = ([a0, a1, a2, a3, a4, a5], b0 :: b1 :: b2 :: b3 :: b4 :: b5 :: c :: d :: t, 0) ∧ fr2 (a0 :: a1 :: a2 :: a3 :: a4 :: a5 :: b0 :: b1 :: b2 :: b3 :: b4 :: b5 :: c :: d :: t) = ([b0, b1, b2, b3, b4, b5], c :: d :: t, 0) ∧ fr3 (a0 :: a1 :: a2 :: a3 :: a4 :: a5 :: b0 :: b1 :: b2 :: b3 :: b4 :: b5 :: c :: d :: t) = ([c, d], t, 0) := by
  have h1 : fr1 (a0 :: a1 :: a2 :: a3 :: a4 :: a5 :: b0 :: b1 :: b2 :: b3 :: b4 :: b5 :: c :: d :: t) = ([a0, a1, a2, a3, a4, a5], b0 :: b1 :: b2 :: b3 :: b4 :: b5 :: c :: d :: t, 0) := rdT_ok _ 6 (by omega) (by simp; omega)
  have h2 : fr2 (a0 :: a1 :: a2 :: a3 :: a4 :: a5 :: b0 :: b1 :: b2 :: b3 :: b4 :: b5 :: c :: d :: t) = ([b0, b1, b2, b3, b4, b5], c :: d :: t, 0) := by unfold fr2; rw [h1]; exact rdT_ok _ 6 (by omega) (by simp; omega)
  refine ⟨h1, h2, ?_⟩
  unfold fr3; rw [h2]; exact rdT_ok _ 2 (by omega) (by simp; omega)
/-- Without a tag. -/
theorem tkF_plain (a0 a1 a2 a3 a4 a5 b0 b1 b2 b3 b4 b5 c d : UInt8) (t s : List UInt8) (hs : s = a0 :: a1 :: a2 :: a3 :: a4 :: a5 :: b0 :: b1 :: b2 :: b3 :: b4 :: b5 :: c :: d :: t) (h : s.length ≤ 1522) (h3 : ¬ (c.toNat = 129 ∧ d.toNat = 0)) :
    tkF s = (frC [a0, a1, a2, a3, a4, a5] [b0, b1, b2, b3, b4, b5] false 0 0 ((c.toNat : Int) * 256 + d.toNat) t, 0) := by
  obtain ⟨e1, e2, e3⟩ := fr_heads a0 a1 a2 a3 a4 a5 b0 b1 b2 b3 b4 b5 c d t
  rw [← hs] at e1 e2 e3
  have hc := c.toNat_lt
  have hd := d.toNat_lt
  unfold tkF
  rw [if_neg (by omega), e3, e1, e2]
  simp only [numOf_two, rdR_ok]
  rw [if_neg (by omega), if_pos trivial, show ((c.toNat * 256 + d.toNat : Nat) : Int) = (c.toNat : Int) * 256 + d.toNat by omega]
/-- With a tag: the steps. -/
theorem tkF_tag (a0 a1 a2 a3 a4 a5 b0 b1 b2 b3 b4 b5 c d : UInt8) (t s : List UInt8) (hs : s = a0 :: a1 :: a2 :: a3 :: a4 :: a5 :: b0 :: b1 :: b2 :: b3 :: b4 :: b5 :: c :: d :: t) (h : s.length ≤ 1522) (h3 : c.toNat = 129 ∧ d.toNat = 0) :
    fr1 s = ([a0, a1, a2, a3, a4, a5], b0 :: b1 :: b2 :: b3 :: b4 :: b5 :: c :: d :: t, 0) ∧ fr2 s = ([b0, b1, b2, b3, b4, b5], c :: d :: t, 0) ∧ fr4 s = rdText t 0 2 ∧ tkF s = (if (rdRest (fr5 s).2.1 (fr5 s).2.2).2.2 = 0 then (frC (fr1 s).1 (fr2 s).1 true (numOf (fr4 s).1 / 8192) (numOf (fr4 s).1 % 4096) (numOf (fr5 s).1) (rdRest (fr5 s).2.1 (fr5 s).2.2).1, 0) else (frZ, (rdRest (fr5 s).2.1 (fr5 s).2.2).2.2)) := by
  obtain ⟨e1, e2, e3⟩ := fr_heads a0 a1 a2 a3 a4 a5 b0 b1 b2 b3 b4 b5 c d t
  rw [← hs] at e1 e2 e3
  refine ⟨e1, e2, by unfold fr4; rw [e3], ?_⟩
  unfold tkF
  rw [if_neg (by omega), e3]
  simp only [numOf_two]
  rw [if_pos (by omega)]
theorem tkF_tag16 (a0 a1 a2 a3 a4 a5 b0 b1 b2 b3 b4 b5 c d : UInt8) (t s : List UInt8) (hs : s = a0 :: a1 :: a2 :: a3 :: a4 :: a5 :: b0 :: b1 :: b2 :: b3 :: b4 :: b5 :: c :: d :: t) (h : s.length ≤ 1522) (h3 : c.toNat = 129 ∧ d.toNat = 0) (ht : t.length < 2) : tkF s = (frZ, 3) := by
  obtain ⟨e1, e2, e4, e⟩ := tkF_tag a0 a1 a2 a3 a4 a5 b0 b1 b2 b3 b4 b5 c d t s hs h h3
  have e4' : fr4 s = ([], [], 3) := by rw [e4]; exact rdT_short _ 2 (by omega) (by omega)
  have e4b : fr4b s = ([], 3) := by unfold fr4b; rw [e4']; rfl
  have e5 : fr5 s = ([], [], 3) := by unfold fr5; rw [e4b]; rfl
  rw [e, e5, rdR_err _ 3 (by decide)]
  rfl
theorem tkF_tagE (a0 a1 a2 a3 a4 a5 b0 b1 b2 b3 b4 b5 c d x y : UInt8) (t s : List UInt8) (hs : s = a0 :: a1 :: a2 :: a3 :: a4 :: a5 :: b0 :: b1 :: b2 :: b3 :: b4 :: b5 :: c :: d :: x :: y :: t) (h : s.length ≤ 1522) (h3 : c.toNat = 129 ∧ d.toNat = 0) :
    fr4 s = ([x, y], t, 0) := by
  obtain ⟨e1, e2, e4, e⟩ := tkF_tag a0 a1 a2 a3 a4 a5 b0 b1 b2 b3 b4 b5 c d (x :: y :: t) s hs h h3
  rw [e4]; exact rdT_ok _ 2 (by omega) (by simp; omega)
theorem tkF_tagF (a0 a1 a2 a3 a4 a5 b0 b1 b2 b3 b4 b5 c d x y : UInt8) (t s : List UInt8) (hs : s = a0 :: a1 :: a2 :: a3 :: a4 :: a5 :: b0 :: b1 :: b2 :: b3 :: b4 :: b5 :: c :: d :: x :: y :: t) (h : s.length ≤ 1522) (h3 : c.toNat = 129 ∧ d.toNat = 0) (hx : x.toNat / 16 % 2 = 1) : tkF s = (frZ, 4) := by
  have e4 := tkF_tagE a0 a1 a2 a3 a4 a5 b0 b1 b2 b3 b4 b5 c d x y t s hs h h3
  obtain ⟨e1, e2, _, e⟩ := tkF_tag a0 a1 a2 a3 a4 a5 b0 b1 b2 b3 b4 b5 c d (x :: y :: t) s hs h h3
  have hy := y.toNat_lt
  have e4b : fr4b s = ([], 4) := by
    unfold fr4b; rw [e4]; simp only [numOf_two]; rw [if_pos (by omega)]; rfl
  have e5 : fr5 s = ([], [], 4) := by unfold fr5; rw [e4b]; rfl
  rw [e, e5, rdR_err _ 4 (by decide)]
  rfl
theorem tkF_tag18 (a0 a1 a2 a3 a4 a5 b0 b1 b2 b3 b4 b5 c d x y : UInt8) (t s : List UInt8) (hs : s = a0 :: a1 :: a2 :: a3 :: a4 :: a5 :: b0 :: b1 :: b2 :: b3 :: b4 :: b5 :: c :: d :: x :: y :: t) (h : s.length ≤ 1522) (h3 : c.toNat = 129 ∧ d.toNat = 0) (hx : ¬ x.toNat / 16 % 2 = 1) (ht : t.length < 2) : tkF s = (frZ, 3) := by
  have e4 := tkF_tagE a0 a1 a2 a3 a4 a5 b0 b1 b2 b3 b4 b5 c d x y t s hs h h3
  obtain ⟨e1, e2, _, e⟩ := tkF_tag a0 a1 a2 a3 a4 a5 b0 b1 b2 b3 b4 b5 c d (x :: y :: t) s hs h h3
  have hy := y.toNat_lt
  have e4b : fr4b s = (t, 0) := by
    unfold fr4b; rw [e4]; simp only [numOf_two]; rw [if_neg (by omega)]
  have e5 : fr5 s = ([], [], 3) := by unfold fr5; rw [e4b]; exact rdT_short _ 2 (by omega) (by simpa using by omega)
  rw [e, e5, rdR_err _ 3 (by decide)]
  rfl
theorem tkF_tagD (a0 a1 a2 a3 a4 a5 b0 b1 b2 b3 b4 b5 c d x y u v : UInt8) (t s : List UInt8) (hs : s = a0 :: a1 :: a2 :: a3 :: a4 :: a5 :: b0 :: b1 :: b2 :: b3 :: b4 :: b5 :: c :: d :: x :: y :: u :: v :: t) (h : s.length ≤ 1522) (h3 : c.toNat = 129 ∧ d.toNat = 0) (hx : ¬ x.toNat / 16 % 2 = 1) :
    tkF s = (frC [a0, a1, a2, a3, a4, a5] [b0, b1, b2, b3, b4, b5] true ((x.toNat : Int) / 32) ((x.toNat : Int) % 16 * 256 + y.toNat) ((u.toNat : Int) * 256 + v.toNat) t, 0) := by
  have e4 := tkF_tagE a0 a1 a2 a3 a4 a5 b0 b1 b2 b3 b4 b5 c d x y (u :: v :: t) s hs h h3
  obtain ⟨e1, e2, _, e⟩ := tkF_tag a0 a1 a2 a3 a4 a5 b0 b1 b2 b3 b4 b5 c d (x :: y :: u :: v :: t) s hs h h3
  have hx' := x.toNat_lt
  have hy := y.toNat_lt
  have e4b : fr4b s = (u :: v :: t, 0) := by
    unfold fr4b; rw [e4]; simp only [numOf_two]; rw [if_neg (by omega)]
  have e5 : fr5 s = ([u, v], t, 0) := by unfold fr5; rw [e4b]; exact rdT_ok _ 2 (by omega) (by simp; omega)
  rw [e, e5, e4, e1, e2]
  simp only [numOf_two, rdR_ok]
  rw [if_pos trivial, show ((x.toNat * 256 + y.toNat : Nat) : Int) / 8192 = (x.toNat : Int) / 32 by omega, show ((x.toNat * 256 + y.toNat : Nat) : Int) % 4096 = (x.toNat : Int) % 16 * 256 + y.toNat by omega, show ((u.toNat * 256 + v.toNat : Nat) : Int) = (u.toNat : Int) * 256 + v.toNat by omega]
end Go.Proofs.Ytblmpndaofhmjaa
