/- maid: the reference's Take. -/
import Derived.Test.YtecoomkpkdapdaaP3
import Derived.Test.YtecoomkpkdapdaaP4
set_option linter.unusedVariables false
namespace Go.Proofs.Ytecoomkpkdapdaa
open Go.RowKit

theorem getD_append_right' (a b : List UInt8) (i : Nat) (h : a.length ≤ i) : (a ++ b).getD i 0 = b.getD (i - a.length) 0 := by
  simp [List.getD, List.getElem?_append_right h]
theorem mid_cut (A o Z : List UInt8) (n m : Nat) (hn : n = A.length) (hm : m = A.length + o.length) : ((A ++ (o ++ Z)).take m).drop n = o := by
  subst hn; subst hm
  rw [← List.append_assoc, List.take_left' (by simp), List.drop_left' rfl]
/-- Where the reference looks. -/
def atR (l : List UInt8) : Nat := if ((l.getD 0 0).toNat : Int) = 4 then 2 + (l.getD 1 0).toNat else 1
def domR (l : List UInt8) : List UInt8 := if ((l.getD 0 0).toNat : Int) = 4 then (l.take (atR l)).drop 2 else []
def endR (l : List UInt8) : Nat := atR l + 2 + (l.getD (atR l + 1) 0).toNat
def ownR (l : List UInt8) : List UInt8 := (l.take (endR l)).drop (atR l + 2)
theorem lenB_nat (t : List UInt8) (h : t.length < 256) : (lenB t).toNat = t.length := by unfold lenB; simp; omega
theorem ref_put {d o l : List UInt8} (h : mPut d o = (l, 0)) : atR l ≤ 45 ∧ endR l ≤ 48 ∧ domR l = d ∧ ownR l = o := by
  obtain ⟨ho0, _, _, hle, rfl⟩ := mPut_ok h
  have hop : 0 < o.length := List.length_pos_iff.2 ho0
  obtain ⟨Z, hZ⟩ : ∃ Z : List UInt8, List.replicate (48 - (mBody d o).length) 0 = Z := ⟨_, rfl⟩
  have hlo := lenB_nat o (by omega)
  have hld := lenB_nat d (by omega)
  by_cases h5 : d = []
  · subst h5
    have e : padT (mBody [] o) = 1 :: 2 :: lenB o :: (o ++ Z) := by
      unfold padT; rw [hZ]; unfold mBody; simp
    rw [e]
    have ha : atR (1 :: 2 :: lenB o :: (o ++ Z)) = 1 := rfl
    have hd : domR (1 :: 2 :: lenB o :: (o ++ Z)) = [] := rfl
    have he : endR (1 :: 2 :: lenB o :: (o ++ Z)) = 3 + o.length := by
      unfold endR; rw [ha]; simp [hlo]
    refine ⟨by rw [ha]; omega, by rw [he]; simp at hle; omega, hd, ?_⟩
    unfold ownR; rw [ha, he]
    simp [List.take_succ_cons, Nat.add_comm 3]
  · have e : padT (mBody d o) = 4 :: lenB d :: (d ++ (2 :: lenB o :: (o ++ Z))) := by
      unfold padT; rw [hZ]; unfold mBody; simp [h5]
    rw [e]
    have ha : atR (4 :: lenB d :: (d ++ (2 :: lenB o :: (o ++ Z)))) = 2 + d.length := by
      show 2 + (lenB d).toNat = _; rw [hld]
    have hd : domR (4 :: lenB d :: (d ++ (2 :: lenB o :: (o ++ Z)))) = d := by
      unfold domR; rw [ha]; simp [Nat.add_comm 2]
    have hg : (4 :: lenB d :: (d ++ (2 :: lenB o :: (o ++ Z)))).getD (2 + d.length + 1) 0 = lenB o := by
      have : (4 :: lenB d :: (d ++ (2 :: lenB o :: (o ++ Z)))) = (4 :: lenB d :: d) ++ (2 :: lenB o :: (o ++ Z)) := by simp
      rw [this, getD_append_right' _ _ _ (by simp; omega)]
      rw [show 2 + d.length + 1 - (4 :: lenB d :: d).length = 1 by simp; omega]; rfl
    have he : endR (4 :: lenB d :: (d ++ (2 :: lenB o :: (o ++ Z)))) = 4 + d.length + o.length := by
      unfold endR; rw [ha, hg, hlo]; omega
    refine ⟨by rw [ha]; omega, by rw [he]; omega, hd, ?_⟩
    unfold ownR; rw [ha, he]
    have e2 : (4 :: lenB d :: (d ++ (2 :: lenB o :: (o ++ Z)))) = (4 :: lenB d :: (d ++ [2, lenB o])) ++ (o ++ Z) := by simp
    have e3 : (4 :: lenB d :: (d ++ [2, lenB o])).length = 2 + d.length + 2 := by simp; omega
    rw [e2]; exact mid_cut _ o Z _ _ (by rw [e3]) (by rw [e3]; omega)
end Go.Proofs.Ytecoomkpkdapdaa
