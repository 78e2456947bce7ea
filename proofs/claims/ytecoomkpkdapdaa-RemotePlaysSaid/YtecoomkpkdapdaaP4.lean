/- maid: names and bytes: plain. -/
import Derived.Test.YtecoomkpkdapdaaRK
import Derived.Test.YtecoomkpkdapdaaP2a
set_option linter.unusedVariables false
namespace Go.Proofs.Ytecoomkpkdapdaa
open Go.RowKit

/-- A part of names' bytes, as the reader takes it. -/
def tkPart (l : List UInt8) (e : Int) : List UInt8 × List UInt8 × Int := rdText (rdText l e 1).2.1 (rdText l e 1).2.2 (numOf (rdText l e 1).1)
def tkDom (l : List UInt8) : List UInt8 × List UInt8 × Int := if numOf (rdText l 0 1).1 = 4 then tkPart (rdText l 0 1).2.1 (rdText l 0 1).2.2 else ([], (rdText l 0 1).2.1, (rdText l 0 1).2.2)
def tkFmt (l : List UInt8) : List UInt8 × List UInt8 × Int := rdText (tkDom l).2.1 (tkDom l).2.2 1
def tkOwn (l : List UInt8) : List UInt8 × List UInt8 × Int := tkPart (tkFmt l).2.1 (tkFmt l).2.2
/-- Take: the names, and the error. -/
def takeR (l : List UInt8) : List UInt8 × List UInt8 × Int :=
  if mPut (tkDom l).1 (tkOwn l).1 = (l, 0) ∧ numOf (tkFmt l).1 = 2 then ((tkDom l).1, (tkOwn l).1, 0) else ([], [], 4)

theorem tkPart_put (t r : List UInt8) (h : t.length < 256) : tkPart (lenB t :: (t ++ r)) 0 = (t, r, 0) := by
  unfold tkPart
  rw [rd_one]
  simp only [numOf_one]
  have : ((lenB t).toNat : Int) = (t.length : Int) := by unfold lenB; simp; omega
  rw [this]; exact rd_exact t r
theorem mPut_ok {d o l : List UInt8} (h : mPut d o = (l, 0)) : o ≠ [] ∧ plB o = true ∧ plB d = true ∧ d.length + o.length ≤ 44 ∧ l = padT (mBody d o) := by
  unfold mPut at h
  split at h
  · rename_i h1
    split at h
    · rename_i h2
      exact ⟨h1.1, h1.2.1, h1.2.2, h2, by simpa using (congrArg Prod.fst h).symm⟩
    · simp at h
  · simp at h
theorem tk_put {d o l : List UInt8} (h : mPut d o = (l, 0)) : (tkDom l).1 = d ∧ numOf (tkFmt l).1 = 2 ∧ (tkOwn l).1 = o := by
  obtain ⟨_, _, _, hle, rfl⟩ := mPut_ok h
  have hd : tkDom (padT (mBody d o)) = (d, 2 :: lenB o :: (o ++ List.replicate (48 - (mBody d o).length) 0), 0) := by
    by_cases h5 : d = []
    · subst h5
      have e : padT (mBody [] o) = 1 :: 2 :: lenB o :: (o ++ List.replicate (48 - (mBody [] o).length) 0) := by
        unfold padT mBody; simp
      unfold tkDom
      rw [e, rd_one]
      simp [numOf_one]
    · have e : padT (mBody d o) = 4 :: lenB d :: (d ++ (2 :: lenB o :: (o ++ List.replicate (48 - (mBody d o).length) 0))) := by
        unfold padT mBody; simp [h5]
      unfold tkDom
      rw [e, rd_one]
      simp only [numOf_one]
      exact tkPart_put d _ (by omega)
  have hf : tkFmt (padT (mBody d o)) = ([2], lenB o :: (o ++ List.replicate (48 - (mBody d o).length) 0), 0) := by
    unfold tkFmt; rw [hd]; exact rd_one _ _
  refine ⟨by rw [hd], by rw [hf]; rfl, ?_⟩
  unfold tkOwn; rw [hf]
  rw [tkPart_put o _ (by omega)]
theorem mPut_inj {d o d' o' l : List UInt8} (h : mPut d o = (l, 0)) (h' : mPut d' o' = (l, 0)) : d = d' ∧ o = o' := by
  obtain ⟨a, _, b⟩ := tk_put h
  obtain ⟨a', _, b'⟩ := tk_put h'
  exact ⟨a.symm.trans a', b.symm.trans b'⟩
theorem mPut_len {d o l : List UInt8} (h : mPut d o = (l, 0)) : l.length = 48 := by
  obtain ⟨_, _, _, hle, rfl⟩ := mPut_ok h
  have := mBody_len d o
  unfold padT
  rw [List.length_append, List.length_replicate]
  split at this <;> omega
theorem takeR_of {d o l : List UInt8} (h : mPut d o = (l, 0)) : takeR l = (d, o, 0) := by
  obtain ⟨a, f, b⟩ := tk_put h
  unfold takeR; rw [a, f, b, if_pos ⟨h, rfl⟩]
theorem takeR_none {l : List UInt8} (h : ∀ d o, mPut d o ≠ (l, 0)) : takeR l = ([], [], 4) := by
  unfold takeR; rw [if_neg (fun hh => h _ _ hh.1)]
theorem takeR_cases (l : List UInt8) : (∃ d o, mPut d o = (l, 0) ∧ takeR l = (d, o, 0)) ∨ ((∀ d o, mPut d o ≠ (l, 0)) ∧ takeR l = ([], [], 4)) := by
  by_cases h : ∃ d o, mPut d o = (l, 0)
  · obtain ⟨d, o, h⟩ := h
    exact .inl ⟨d, o, h, takeR_of h⟩
  · have h' : ∀ d o, mPut d o ≠ (l, 0) := fun d o hh => h ⟨d, o, hh⟩
    exact .inr ⟨h', takeR_none h'⟩
end Go.Proofs.Ytecoomkpkdapdaa
