/- maid: names' bytes. -/
import Derived.Test.YtecoomkpkdapdaaP1
set_option linter.unusedVariables false
namespace Go.Proofs.Ytecoomkpkdapdaa
open Go.RowKit

/-- Names' bytes, ahead of the zeros. -/
def mBody (d o : List UInt8) : List UInt8 := (if d = [] then [1] else 4 :: lenB d :: d) ++ 2 :: lenB o :: o
def padT (l : List UInt8) : List UInt8 := l ++ List.replicate (48 - l.length) 0
/-- Put: the bytes, and the error. -/
def mPut (d o : List UInt8) : List UInt8 × Int :=
  if o ≠ [] ∧ plB o = true ∧ plB d = true then (if d.length + o.length ≤ 44 then (padT (mBody d o), 0) else ([], 5)) else ([], 2)
theorem empty_eq (l : List UInt8) : (bs l).toList.isEmpty = decide (l = []) := by rw [bs_tl]; cases l <;> simp
theorem mBody_len (d o : List UInt8) : (mBody d o).length = (if d = [] then 3 else d.length + 4) + o.length := by
  unfold mBody; split <;> simp <;> omega

end Go.Proofs.Ytecoomkpkdapdaa
