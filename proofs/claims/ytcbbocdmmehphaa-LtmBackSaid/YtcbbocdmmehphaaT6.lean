/- tlv: Take: plain. -/
import Derived.Test.YtcbbocdmmehphaaT4a
set_option linter.unusedVariables false
namespace Go.Proofs.Ytcbbocdmmehphaa
open Go.RowKit

/-- Take: the things, what is behind them, the error. -/
def takeT : List UInt8 → List Th × List UInt8 × Int
  | [] => ([], [], 3)
  | c :: s =>
    if c = 0 then ([], s, 0)
    else if s.length < 2 then ([], [], 3)
    else if (s.drop 2).length < (s.getD 0 0).toNat * 256 + (s.getD 1 0).toNat then ([], [], 3)
    else if (takeT (s.drop (2 + ((s.getD 0 0).toNat * 256 + (s.getD 1 0).toNat)))).2.2 = 0 then
      ((c, (s.drop 2).take ((s.getD 0 0).toNat * 256 + (s.getD 1 0).toNat)) :: (takeT (s.drop (2 + ((s.getD 0 0).toNat * 256 + (s.getD 1 0).toNat)))).1, (takeT (s.drop (2 + ((s.getD 0 0).toNat * 256 + (s.getD 1 0).toNat)))).2)
    else ([], [], 3)
termination_by s => s.length
decreasing_by all_goals simp; omega
theorem takeT_nil : takeT [] = ([], [], 3) := by unfold takeT; rfl
theorem takeT_zero (s : List UInt8) : takeT (0 :: s) = ([], s, 0) := by unfold takeT; rfl
/-- One thing ahead. -/
theorem takeT_cons (c : UInt8) (n : Nat) (t s : List UInt8) (a b : UInt8) (hc : c ≠ 0) (hn : a.toNat * 256 + b.toNat = t.length) :
    takeT (c :: a :: b :: (t ++ s)) = if (takeT s).2.2 = 0 then ((c, t) :: (takeT s).1, (takeT s).2) else ([], [], 3) := by
  rw [takeT]
  have e1 : (a :: b :: (t ++ s)).drop 2 = t ++ s := rfl
  have e2 : (a :: b :: (t ++ s)).getD 0 0 = a := rfl
  have e3 : (a :: b :: (t ++ s)).getD 1 0 = b := rfl
  have e4 : (a :: b :: (t ++ s)).drop (2 + t.length) = s := by
    rw [Nat.add_comm 2]; exact List.drop_left' (l₁ := t) rfl
  rw [if_neg hc, if_neg (by simp), e1, e2, e3, hn, if_neg (by simp), e4, List.take_left' rfl]
theorem takeT_short1 (c : UInt8) (s : List UInt8) (hc : c ≠ 0) (h : s.length < 2) : takeT (c :: s) = ([], [], 3) := by
  rw [takeT, if_neg hc, if_pos h]
theorem takeT_short2 (c a b : UInt8) (s : List UInt8) (hc : c ≠ 0) (h : s.length < a.toNat * 256 + b.toNat) : takeT (c :: a :: b :: s) = ([], [], 3) := by
  rw [takeT, if_neg hc, if_neg (by simp), if_pos (by exact h)]
theorem takeT_err : ∀ (n : Nat) (s : List UInt8), s.length ≤ n → (takeT s).2.2 ≠ 0 → takeT s = ([], [], 3)
  | _, [], _, _ => takeT_nil
  | n + 1, c :: s, hn, h => by
    rw [takeT] at h ⊢
    split at h
    · exact absurd rfl h
    · rename_i h1
      rw [if_neg h1]
      split at h
      · rename_i h2; rw [if_pos h2]
      · rename_i h2
        rw [if_neg h2]
        split at h
        · rename_i h3; rw [if_pos h3]
        · rename_i h3
          rw [if_neg h3]
          split at h
          · rename_i h4; exact absurd h4 h
          · rename_i h4; rw [if_neg h4]
end Go.Proofs.Ytcbbocdmmehphaa
