/- Laws of a message's block (as E1 has them, without its imports). -/
import Derived.Test.YtcbbocdmmehphaaC5
import Derived.Deep.RegionHeld3
set_option linter.unusedVariables false
namespace Go.Proofs.Ytcbbocdmmehphaa
open Go.RowKit

theorem PB.sets5G {T : TypeId} {W : World} {q : Nat} {a b c a' b' c' : Int} {f f' : List UInt8} {v v' : Value} (h : PB T W q a b c f v) :
    PB T (((((W.setCell ⟨q, 0, none⟩ (.int .u8 a')).setCell ⟨q, 1, none⟩ (.int .u8 b')).setCell ⟨q, 2, none⟩ (.int .u8 c')).setCell ⟨q, 3, none⟩ (.string (bs f'))).setCell ⟨q, 4, none⟩ v') q a' b' c' f' v' := by
  unfold PB at *
  simp [World.setCell, Array.getElem?_modify, h]
theorem PB.setv4G {T : TypeId} {W : World} {q : Nat} {a b c : Int} {f : List UInt8} {v : Value} (h : PB T W q a b c f v) (d : Value) : PB T (W.setCell ⟨q, 4, none⟩ d) q a b c f d := by
  unfold PB at *; simp [World.setCell, Array.getElem?_modify, h]
end Go.Proofs.Ytcbbocdmmehphaa
