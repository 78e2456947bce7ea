/- cfm: there and back, plain. -/
import Derived.Test.YtcbbocdmmehphaaC8
import Derived.Test.YtcbbocdmmehphaaT12
set_option linter.unusedVariables false
namespace Go.Proofs.Ytcbbocdmmehphaa
open Go.RowKit

theorem putT_zero : ∀ (l : List Th), (putT l).2 = 0 → ∀ x ∈ l, okT x = 0
  | [], _, x, hx => by simp at hx
  | y :: l, h, x, hx => by
    unfold putT at h
    split at h
    · rename_i h1
      split at h
      · rename_i h2
        rcases List.mem_cons.1 hx with rfl | hx
        · exact h1
        · exact putT_zero l h2 x hx
      · rename_i h2; exact absurd h h2
    · rename_i h1; exact absurd h h1
/-- A row cut short is none. -/
theorem takeT_cut : ∀ (l : List Th), (∀ x ∈ l, okT x = 0) → ∀ m, m < (l.flatMap thB ++ [0]).length → takeT ((l.flatMap thB ++ [0]).take m) = ([], [], 3)
  | [], _, m, hm => by
    have : m = 0 := by simp at hm; exact hm
    subst this; exact takeT_nil
  | x :: l, h, m, hm => by
    have hx := h x (List.mem_cons_self ..)
    have hl : ∀ y ∈ l, okT y = 0 := fun y hy => h y (List.mem_cons_of_mem _ hy)
    have hc : x.1 ≠ 0 := (ok_parts hx).1
    have hx2 : x.2.length ≤ 1480 := (ok_parts hx).2
    rw [List.flatMap_cons, List.append_assoc] at hm ⊢
    by_cases hlt : m < (thB x).length
    · rw [List.take_append_of_le_length (Nat.le_of_lt hlt)]
      have e : thB x = x.1 :: (be 2 (x.2.length : Int) ++ x.2) := rfl
      rw [e] at hlt ⊢
      obtain ⟨c, d, hbe⟩ : ∃ c d, be 2 (x.2.length : Int) = [c, d] := by
        match h : be 2 (x.2.length : Int), be_length 2 (x.2.length : Int) with
        | [c, d], _ => exact ⟨c, d, rfl⟩
      have hcd : c.toNat * 256 + d.toNat = x.2.length := by
        have h2 := numOf_be 2 (x.2.length : Int)
        rw [hbe, numOf_two, Int.emod_eq_of_lt (by omega) (by omega)] at h2
        omega
      rw [hbe] at hlt ⊢
      match m, hlt with
      | 0, _ => exact takeT_nil
      | 1, _ => exact takeT_short1 _ _ hc (by simp)
      | 2, _ => exact takeT_short1 _ _ hc (by simp)
      | m + 3, hlt =>
        have h3 : m < x.2.length := by simpa using hlt
        show takeT (x.1 :: c :: d :: x.2.take m) = _
        exact takeT_short2 _ _ _ _ hc (by rw [List.length_take, hcd]; omega)
    · have hle : (thB x).length ≤ m := Nat.le_of_not_lt hlt
      obtain ⟨k, rfl⟩ : ∃ k, m = (thB x).length + k := ⟨m - (thB x).length, by omega⟩
      rw [List.take_length_add_append]
      have ih := takeT_cut l hl k (by rw [List.length_append] at hm; omega)
      rw [takeT_thB hx, ih, if_neg (by decide)]
/-- What is put is taken; and of a part of it nothing is. -/
theorem putP_ok {a b c : Int} {f : List UInt8} {l : List Th} {A : List UInt8} {e : Int} (h : putP a b c f l = (A, e)) (ha : 0 ≤ a ∧ a < 256) (hb : 0 ≤ b ∧ b < 256) (hc : 0 ≤ c ∧ c < 256) :
    (e ≠ 0 ∧ A = []) ∨ (e = 0 ∧ (∀ r, tkP (A ++ r) = (a, b, c, f, l, 0)) ∧ 5 ≤ A.length ∧ (∀ n, n < A.length → tkP (A.take n) = (0, 0, 0, [], [], 3)) ∧ ∀ n, 4 ≤ n → hdV (A.take n) = (a, b, true)) := by
  unfold putP at h
  by_cases h7 : 7 < a
  · rw [if_pos h7] at h; injection h with h1 h2; left; exact ⟨by omega, h1.symm⟩
  rw [if_neg h7] at h
  by_cases h5 : 255 < f.length
  · rw [if_pos h5] at h; injection h with h1 h2; left; exact ⟨by omega, h1.symm⟩
  rw [if_neg h5] at h
  by_cases h0 : (putT l).2 = 0
  rotate_left
  · rw [if_neg h0] at h; injection h with h1 h2; left; exact ⟨by rw [← h2]; exact h0, h1.symm⟩
  rw [if_pos h0] at h
  have hok := putT_zero l h0
  rw [putT_all l hok] at h
  injection h with h1 h2
  right
  have e1 : (byt (a * 32)).toNat = (a * 32).toNat := by have := byt_nat (a * 32) (by omega); omega
  have e2 : ((byt b).toNat : Int) = b := byt_nat b hb
  have e3 : ((byt c).toNat : Int) = c := byt_nat c hc
  have e4 : (byt (f.length : Int)).toNat = f.length := by have := byt_nat (f.length : Int) (by omega); omega
  have eA : A = byt (a * 32) :: byt b :: byt c :: byt (f.length : Int) :: (f ++ (l.flatMap thB ++ [0])) := by rw [← h1]; simp [hdP]
  have hm : ((byt (a * 32)).toNat : Int) % 32 = 0 := by have := byt_nat (a * 32) (by omega); omega
  have hd : ((byt (a * 32)).toNat : Int) / 32 = a := by have := byt_nat (a * 32) (by omega); omega
  refine ⟨h2.symm, fun r => ?_, ?_, fun n hn => ?_, fun n hn => ?_⟩
  · rw [eA]
    show tkP (byt (a * 32) :: byt b :: byt c :: byt (f.length : Int) :: ((f ++ (l.flatMap thB ++ [0])) ++ r)) = _
    rw [tkP_cons, if_neg (by omega), e4, if_neg (by simp), hd, e2, e3]
    have d1 : ((f ++ (l.flatMap thB ++ [0])) ++ r).drop f.length = l.flatMap thB ++ 0 :: r := by simp
    have d2 : ((f ++ (l.flatMap thB ++ [0])) ++ r).take f.length = f := by simp
    rw [d1, d2, putT_take l r hok]; rfl
  · rw [eA]; simp; omega
  · by_cases h4 : n < 4
    · exact tkP_short _ (by rw [List.length_take]; omega)
    · obtain ⟨k, rfl⟩ : ∃ k, n = k + 4 := ⟨n - 4, by omega⟩
      rw [eA] at hn ⊢
      show tkP (byt (a * 32) :: byt b :: byt c :: byt (f.length : Int) :: ((f ++ (l.flatMap thB ++ [0])).take k)) = _
      rw [tkP_cons, if_neg (by omega), e4]
      by_cases hk : ((f ++ (l.flatMap thB ++ [0])).take k).length < f.length
      · rw [if_pos hk]
      · rw [if_neg hk]
        have hkf : f.length ≤ k := by rw [List.length_take] at hk; omega
        obtain ⟨m, rfl⟩ : ∃ m, k = f.length + m := ⟨k - f.length, by omega⟩
        rw [List.take_length_add_append, List.drop_left]
        rw [takeT_cut l hok m (by simp at hn ⊢; omega), if_neg (by decide)]
  · obtain ⟨k, rfl⟩ : ∃ k, n = k + 4 := ⟨n - 4, by omega⟩
    rw [eA]
    match hr : (f ++ (l.flatMap thB ++ [0])).take k with
    | r => 
      show hdV (byt (a * 32) :: byt b :: byt c :: byt (f.length : Int) :: ((f ++ (l.flatMap thB ++ [0])).take k)) = _
      show (((byt (a * 32)).toNat : Int) / 32, ((byt b).toNat : Int), true) = _
      rw [hd, e2]
end Go.Proofs.Ytcbbocdmmehphaa
