/- tlv: lengths. -/
import Derived.Test.YtcbbocdmmehphaaT0
import Derived.Test.YtcbbocdmmehphaaK5
set_option linter.unusedVariables false
namespace Go.Proofs.Ytcbbocdmmehphaa
open Go.RowKit

theorem be2_len (n : Int) : (be 2 n).length = 2 := be_length 2 n
theorem thB_len (x : Th) (h : x.2.length ≤ 1480) : (thB x).length ≤ 1483 := by unfold thB; simp [be2_len]; omega
theorem thBs_len : ∀ (l : List Th), (∀ x ∈ l, okT x = 0) → (l.flatMap thB).length ≤ 1483 * l.length
  | [], _ => by simp
  | x :: l, h => by
    have ih := thBs_len l (fun y hy => h y (List.mem_cons_of_mem _ hy))
    have hx := h x (List.mem_cons_self ..)
    have := thB_len x (by unfold okT at hx; split at hx; · omega
                          · split at hx <;> omega)
    simp only [List.flatMap_cons, List.length_append, List.length_cons]; omega

end Go.Proofs.Ytcbbocdmmehphaa
