/- tlv: there and back: plain. -/
import Derived.Test.YtcbbocdmmehphaaT9
set_option linter.unusedVariables false
namespace Go.Proofs.Ytcbbocdmmehphaa
open Go.RowKit

theorem be2_eq (n : Nat) (h : n < 65536) : be 2 (n : Int) = [UInt8.ofNat (n / 256), UInt8.ofNat (n % 256)] := by
  have e0 : ((n : Int) / 2 ^ (8 * (2 - 1 - 0)) % 256).toNat = n / 256 := by
    rw [show (2 : Int) ^ (8 * (2 - 1 - 0)) = 256 from rfl]; omega
  have e1 : ((n : Int) / 2 ^ (8 * (2 - 1 - 1)) % 256).toNat = n % 256 := by
    rw [show (2 : Int) ^ (8 * (2 - 1 - 1)) = 1 from rfl]; omega
  simp only [be, beB, List.range_succ, List.range_zero, List.nil_append, List.map_cons, List.map_nil, List.cons_append, e0, e1]
theorem ok_parts {x : Th} (h : okT x = 0) : x.1 ≠ 0 ∧ x.2.length ≤ 1480 := by
  unfold okT at h
  split at h
  · omega
  · split at h
    · omega
    · rename_i h1 h2; exact ⟨h1, by omega⟩
theorem takeT_thB {x : Th} (h : okT x = 0) (s : List UInt8) : takeT (thB x ++ s) = if (takeT s).2.2 = 0 then (x :: (takeT s).1, (takeT s).2) else ([], [], 3) := by
  obtain ⟨h1, h2⟩ := ok_parts h
  have e : thB x ++ s = x.1 :: UInt8.ofNat (x.2.length / 256) :: UInt8.ofNat (x.2.length % 256) :: (x.2 ++ s) := by
    unfold thB; rw [be2_eq _ (by omega)]; simp
  rw [e, takeT_cons x.1 0 x.2 s _ _ h1 (by simp; omega)]
theorem putT_take : ∀ (l : List Th) (r : List UInt8), (∀ x ∈ l, okT x = 0) → takeT (l.flatMap thB ++ 0 :: r) = (l, r, 0)
  | [], r, _ => takeT_zero r
  | x :: l, r, h => by
    have ih := putT_take l r (fun y hy => h y (List.mem_cons_of_mem _ hy))
    rw [List.flatMap_cons, List.append_assoc, takeT_thB (h x (List.mem_cons_self ..)), ih, if_pos rfl]
theorem putT_cut : ∀ (l : List Th), (∀ x ∈ l, okT x = 0) → takeT (l.flatMap thB) = ([], [], 3)
  | [], _ => takeT_nil
  | x :: l, h => by
    have ih := putT_cut l (fun y hy => h y (List.mem_cons_of_mem _ hy))
    rw [List.flatMap_cons, takeT_thB (h x (List.mem_cons_self ..)), ih, if_neg (by decide)]
theorem takeT_inv (s : List UInt8) (h : (takeT s).2.2 = 0) : (∃ r, s = 0 :: r) ∨ ∃ c a b t1 t2, c ≠ 0 ∧ s = c :: a :: b :: (t1 ++ t2) ∧ a.toNat * 256 + b.toNat = t1.length ∧ (takeT t2).2.2 = 0 := by
  match s with
  | [] => rw [takeT_nil] at h; simp at h
  | c :: r =>
    by_cases hc : c = 0
    · exact .inl ⟨r, by rw [hc]⟩
    · by_cases h2 : r.length < 2
      · rw [takeT_short1 c r hc h2] at h; simp at h
      · obtain ⟨a, b, t, rfl⟩ : ∃ a b t, r = a :: b :: t := by
          match r, h2 with
          | [], h => simp at h
          | [_], h => simp at h
          | a :: b :: t, _ => exact ⟨a, b, t, rfl⟩
        by_cases h3 : t.length < a.toNat * 256 + b.toNat
        · rw [takeT_short2 c a b t hc h3] at h; simp at h
        · obtain ⟨t1, t2, rfl, h4⟩ : ∃ t1 t2, t = t1 ++ t2 ∧ t1.length = a.toNat * 256 + b.toNat := ⟨t.take (a.toNat * 256 + b.toNat), t.drop (a.toNat * 256 + b.toNat), (List.take_append_drop _ t).symm, by simp; omega⟩
          rw [takeT_cons c 0 t1 t2 a b hc h4.symm] at h
          refine .inr ⟨c, a, b, t1, t2, hc, rfl, h4.symm, ?_⟩
          by_cases h5 : (takeT t2).2.2 = 0
          · exact h5
          · rw [if_neg h5] at h; simp at h
theorem take_put : ∀ (n : Nat) (s : List UInt8), s.length ≤ n → s.length ≤ 1480 → (takeT s).2.2 = 0 → (∀ x ∈ (takeT s).1, okT x = 0) ∧ (takeT s).1.flatMap thB ++ 0 :: (takeT s).2.1 = s := by
  intro n
  induction n with
  | zero =>
    intro s hn _ h
    have : s = [] := List.eq_nil_of_length_eq_zero (by omega)
    subst this; rw [takeT_nil] at h; simp at h
  | succ n ih =>
    intro s hn hl h
    rcases takeT_inv s h with ⟨r, rfl⟩ | ⟨c, a, b, t1, t2, hc, rfl, hab, h2⟩
    · rw [takeT_zero]; exact ⟨by simp, rfl⟩
    · obtain ⟨i1, i2⟩ := ih t2 (by simp at hn; omega) (by simp at hl; omega) h2
      rw [takeT_cons c 0 t1 t2 a b hc hab, if_pos h2]
      have hok : okT (c, t1) = 0 := by
        unfold okT; rw [if_neg hc, if_neg (by simp at hl ⊢; omega)]
      refine ⟨fun x hx => ?_, ?_⟩
      · rcases List.mem_cons.1 hx with rfl | hx
        · exact hok
        · exact i1 x hx
      · have e1 : t1.length / 256 = a.toNat := by have := a.toNat_lt; have := b.toNat_lt; omega
        have e2 : t1.length % 256 = b.toNat := by have := a.toNat_lt; have := b.toNat_lt; omega
        have e : thB (c, t1) = c :: a :: b :: t1 := by
          unfold thB
          simp only
          rw [be2_eq _ (by have := a.toNat_lt; have := b.toNat_lt; omega), e1, e2]; simp
        simp only [List.flatMap_cons, List.append_assoc]
        rw [i2, e]; rfl
end Go.Proofs.Ytcbbocdmmehphaa
