/- wire: parts one behind the other: plain. -/
import Derived.Test.YtknahemnmboidaaW9
set_option linter.unusedVariables false
namespace Go.Proofs.Ytknahemnmboidaa
open Go.RowKit

/-- The bytes of parts. -/
def cat (ps : List (Int × Int)) : List UInt8 := ps.flatMap fun p => be (wid p.1) p.2
theorem cat_snoc (ps : List (Int × Int)) (k : Nat) (h : k < ps.length) : cat (ps.take k) ++ be (wid ps[k].1) ps[k].2 = cat (ps.take (k + 1)) := by
  rw [cat, cat, List.take_succ_eq_append_getElem h, List.flatMap_append]
  simp only [List.flatMap_cons, List.flatMap_nil, List.append_nil]
theorem cat_drop (ps : List (Int × Int)) (k : Nat) (h : k < ps.length) : cat (ps.drop k) = be (wid ps[k].1) ps[k].2 ++ cat (ps.drop (k + 1)) := by
  rw [cat, cat, List.drop_eq_getElem_cons h, List.flatMap_cons]
theorem cat_len : ∀ ps : List (Int × Int), ps.length ≤ (cat ps).length ∧ (cat ps).length ≤ 8 * ps.length
  | [] => by simp [cat]
  | p :: ps => by
    have ih := cat_len ps
    have hw := wid_le p.1
    simp only [cat, List.flatMap_cons, List.length_append, be_length, List.length_cons] at *
    omega
theorem rdText_app (a r : List UInt8) (k : Nat) (ha : a.length = k) (hk : 1 ≤ k) : rdText (a ++ r) 0 k = (a, r, 0) := by
  unfold rdText
  rw [if_neg (by simp; omega), if_neg (by simp; omega)]
  subst ha
  simp
theorem rdText_short (a : List UInt8) (k : Nat) (ha : a.length < k) : rdText a 0 k = ([], [], 3) := by
  unfold rdText
  rw [if_neg (by simp; omega), if_pos (by omega)]
/-- The second reader's state behind k parts. -/
def shortAt (ps : List (Int × Int)) (k : Nat) : List UInt8 × Int := if k < ps.length then ((cat (ps.drop k)).dropLast, 0) else ([], 3)
theorem short_more (ps : List (Int × Int)) (k : Nat) (h : k + 1 < ps.length) : rdText (shortAt ps k).1 (shortAt ps k).2 (wid (ps[k]'(by omega)).1) = (be (wid (ps[k]'(by omega)).1) (ps[k]'(by omega)).2, (shortAt ps (k + 1)).1, (shortAt ps (k + 1)).2) := by
  have h1 : (shortAt ps k) = ((cat (ps.drop k)).dropLast, 0) := by unfold shortAt; rw [if_pos (by omega)]
  have h2 : (shortAt ps (k + 1)) = ((cat (ps.drop (k + 1))).dropLast, 0) := by unfold shortAt; rw [if_pos h]
  rw [h1, h2, cat_drop ps k (by omega), List.dropLast_append_of_ne_nil (by
    have := (cat_len (ps.drop (k + 1))).1
    intro e; rw [e] at this; simp at this; omega)]
  exact rdText_app _ _ _ (be_length _ _) (wid_le _).1
theorem short_last (ps : List (Int × Int)) (k : Nat) (h : k + 1 = ps.length) : rdText (shortAt ps k).1 (shortAt ps k).2 (wid (ps[k]'(by omega)).1) = ([], (shortAt ps (k + 1)).1, (shortAt ps (k + 1)).2) := by
  have h1 : (shortAt ps k) = ((cat (ps.drop k)).dropLast, 0) := by unfold shortAt; rw [if_pos (by omega)]
  have h2 : (shortAt ps (k + 1)) = ([], 3) := by unfold shortAt; rw [if_neg (by omega)]
  have h3 : cat (ps.drop (k + 1)) = [] := by rw [List.drop_of_length_le (by omega)]; rfl
  rw [h1, h2, cat_drop ps k (by omega), h3]
  exact rdText_short _ _ (by simp [be_length]; have := (wid_le (ps[k]'(by omega)).1).1; omega)

theorem shortAt_len (ps : List (Int × Int)) (k : Nat) : (shortAt ps k).1.length ≤ 8 * (ps.length - k) := by
  by_cases h : k < ps.length
  · have e : shortAt ps k = ((cat (ps.drop k)).dropLast, 0) := by unfold shortAt; rw [if_pos h]
    have := (cat_len (ps.drop k)).2
    rw [List.length_drop] at this
    rw [e]
    simp only [List.length_dropLast]
    omega
  · have e : shortAt ps k = ([], 3) := by unfold shortAt; rw [if_neg h]
    rw [e]
    exact Nat.zero_le _
end Go.Proofs.Ytknahemnmboidaa
