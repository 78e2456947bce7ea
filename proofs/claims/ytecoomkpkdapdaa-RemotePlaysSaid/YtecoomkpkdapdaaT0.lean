/- tlv: plain; a law's own 'of', 'great'. -/
import Derived.Test.YtecoomkpkdapdaaK4
import Derived.Deep.DeepCutAuto
import Derived.Deep.LoopGhost
import Derived.Deep.CutBlock
set_option linter.unusedVariables false
namespace Go.Proofs.Ytecoomkpkdapdaa
open Go.RowKit

/-- A thing's error. -/
def okT (x : Th) : Int := if x.1 = 0 then 2 else if 1480 < x.2.length then 5 else 0
/-- A thing's bytes. -/
def thB (x : Th) : List UInt8 := x.1 :: (be 2 (x.2.length : Int) ++ x.2)
/-- Put. -/
def putT : List Th → List UInt8 × Int
  | [] => ([0], 0)
  | x :: l => if okT x = 0 then (if (putT l).2 = 0 then (thB x ++ (putT l).1, 0) else ([], (putT l).2)) else ([], okT x)
theorem putT_all : ∀ l : List Th, (∀ x ∈ l, okT x = 0) → putT l = (l.flatMap thB ++ [0], 0)
  | [], _ => rfl
  | x :: l, h => by
    have ih := putT_all l (fun y hy => h y (List.mem_cons_of_mem _ hy))
    unfold putT; rw [if_pos (h x (List.mem_cons_self ..)), ih, if_pos rfl]; simp
theorem putT_at : ∀ (l : List Th) (k : Nat) (hk : k < l.length), (∀ x ∈ l.take k, okT x = 0) → okT l[k] ≠ 0 → putT l = ([], okT l[k])
  | x :: l, 0, _, _, hf => by
    have hf' : okT x ≠ 0 := hf
    unfold putT; rw [if_neg hf']; rfl
  | x :: l, k + 1, hk, h, hf => by
    have ih := putT_at l k (by simpa using hk) (fun y hy => h y (by simp [hy])) hf
    have hf' : okT (l[k]'(by simpa using hk)) ≠ 0 := hf
    unfold putT; rw [if_pos (h x (by simp)), ih]; show (if okT _ = 0 then _ else _) = _; rw [if_neg hf']; rfl

end Go.Proofs.Ytecoomkpkdapdaa
