/- tlv: Take, walked. -/
import Derived.Test.YtcbbocdmmehphaaT8
set_option linter.unusedVariables false
namespace Go.Proofs.Ytcbbocdmmehphaa
open Go.RowKit

/-- What is still to be read says what a text is taken as. -/
def Sp (s cur : List UInt8) (out : List Th) : Prop := takeT s = if (takeT cur).2.2 = 0 then (out ++ (takeT cur).1, (takeT cur).2) else ([], [], 3)
theorem Sp.start (s : List UInt8) : Sp s s [] := by
  unfold Sp
  by_cases h : (takeT s).2.2 = 0
  · rw [if_pos h]; rfl
  · rw [if_neg h]; exact takeT_err _ s (Nat.le_refl _) h
theorem Sp.bad {s cur : List UInt8} {out : List Th} (h : Sp s cur out) (hc : takeT cur = ([], [], 3)) : takeT s = ([], [], 3) := by
  unfold Sp at h; rw [hc, if_neg (by decide)] at h; exact h
theorem numOf_two (a b : UInt8) : numOf [a, b] = ((a.toNat * 256 + b.toNat : Nat) : Int) := by simp [numOf]
theorem rd_short (l : List UInt8) (k : Nat) (h : l.length < k) : rdText l 0 k = ([], [], 3) := rdText_short l k h
theorem step_T {s r : List UInt8} {out : List Th} {c : UInt8} (hc : c ≠ 0) (hS : Sp s (c :: r) out) :
    ((tkThing r 0).2.2 = 0 ∧ Sp s (tkThing r 0).2.1 (out ++ [(c, (tkThing r 0).1)]) ∧ (tkThing r 0).2.1.length ≤ r.length) ∨ ((tkThing r 0).2.2 = 3 ∧ (tkThing r 0).2.1 = [] ∧ takeT s = ([], [], 3)) := by
  by_cases h2 : r.length < 2
  · right
    have e0 : rdText r 0 2 = ([], [], 3) := rd_short r 2 h2
    have e : tkThing r 0 = ([], [], 3) := by unfold tkThing; rw [e0]; rfl
    rw [e]; exact ⟨rfl, rfl, hS.bad (takeT_short1 c r hc h2)⟩
  · obtain ⟨a, b, t, rfl⟩ : ∃ a b t, r = a :: b :: t := by
      match r, h2 with
      | [], h => simp at h
      | [_], h => simp at h
      | a :: b :: t, _ => exact ⟨a, b, t, rfl⟩
    have e2 : rdText (a :: b :: t) 0 2 = ([a, b], t, 0) := rdText_app [a, b] t 2 rfl (by omega)
    by_cases h3 : t.length < a.toNat * 256 + b.toNat
    · right
      have e : tkThing (a :: b :: t) 0 = ([], [], 3) := by unfold tkThing; rw [e2]; simp only [numOf_two]; exact rd_short t _ h3
      rw [e]; exact ⟨rfl, rfl, hS.bad (takeT_short2 c a b t hc h3)⟩
    · left
      obtain ⟨t1, t2, rfl, h4⟩ : ∃ t1 t2, t = t1 ++ t2 ∧ t1.length = a.toNat * 256 + b.toNat := ⟨t.take (a.toNat * 256 + b.toNat), t.drop (a.toNat * 256 + b.toNat), (List.take_append_drop _ t).symm, by simp; omega⟩
      have e : tkThing (a :: b :: (t1 ++ t2)) 0 = (t1, t2, 0) := by
        unfold tkThing; rw [e2]; simp only [numOf_two]; rw [← h4]; exact rd_exact t1 t2
      rw [e]
      refine ⟨rfl, ?_, by simp; omega⟩
      unfold Sp at hS ⊢
      rw [takeT_cons c 0 t1 t2 a b hc h4.symm] at hS
      by_cases h5 : (takeT t2).2.2 = 0
      · simp only [if_pos h5] at hS ⊢
        rw [hS]; simp
      · simp only [if_neg h5] at hS ⊢
        first | exact hS | (rw [if_neg (by decide)] at hS; exact hS)
theorem TlT.only {w w' : World} {p B : Nat} {v : Value} {l : List Th} (h : TlT w B v l) (ho : Only p w w') (hp : p < B) : TlT w' B v l := by
  obtain ⟨h1, h2⟩ := h
  refine ⟨h1, ?_⟩
  rcases h2 with h2 | ⟨g, cap, cur, hv, hg, hh, r⟩
  · exact .inl h2
  · refine .inr ⟨g, cap, cur, hv, hg, ?_, r⟩
    have hlt : g < w.heap.size := by
      rcases Nat.lt_or_ge g w.heap.size with h | h
      · exact h
      · rw [Array.getElem?_eq_none h] at hh; cases hh
    rw [ho.block g hlt (by simp; omega)]; exact hh
/-- A new thing behind owned ones leaves the reader as it was. -/
theorem TK.below {w W W' : World} {q : Nat} {l : List UInt8} {e : Int} (h : TK w q W l e) (hb : Below (q + 1) W W') : TK w q W' l e := by
  obtain ⟨h1, h2, h3, h4, h5⟩ := h
  refine ⟨?_, (hb.cell (p := ⟨q, 0, none⟩) (Nat.lt_succ_self q)).trans h2, h3.trans (hb.mono (by omega)), Nat.lt_of_lt_of_le h4 hb.size, h5⟩
  unfold Rd; rw [hb.block _ (by omega)]; exact h1
end Go.Proofs.Ytcbbocdmmehphaa
