/- frame: Put, walked. -/
import Derived.Test.YtecoomkpkdapdaaF0
import Derived.Deep.DeepCutAuto
import Derived.Deep.CutBlock
import Derived.Deep.MidRow
set_option linter.unusedVariables false
namespace Go.Proofs.Ytecoomkpkdapdaa
open Go.RowKit

/-- A frame's bytes. -/
def byF (x0 x1 x2 x3 x4 x5 x6 x7 x8 x9 x10 x11 : Int) (t : Bool) (p v y : Int) (d : List UInt8) : List UInt8 :=
  byM x0 x1 x2 x3 x4 x5 ++ byM x6 x7 x8 x9 x10 x11 ++ (if t = true then be 2 33024 ++ be 2 (p * 8192 + v) else []) ++ be 2 y ++ d
/-- Put: the bytes, and the error. -/
def putF (x0 x1 x2 x3 x4 x5 x6 x7 x8 x9 x10 x11 : Int) (t : Bool) (p v y : Int) (d : List UInt8) : List UInt8 × Int :=
  if mayF t p v y = true then (if 1522 < lenF t d then ([], 5) else (byF x0 x1 x2 x3 x4 x5 x6 x7 x8 x9 x10 x11 t p v y d, 0)) else ([], 2)
/-- A frame's numbers are in their bounds. -/
def wfF (x0 x1 x2 x3 x4 x5 x6 x7 x8 x9 x10 x11 : Int) (p v y : Int) : Prop := wfM x0 x1 x2 x3 x4 x5 ∧ wfM x6 x7 x8 x9 x10 x11 ∧ (0 ≤ p ∧ p < 256) ∧ (0 ≤ v ∧ v < 65536) ∧ (0 ≤ y ∧ y < 65536)
/-- A frame's cells, unopened, in a block. -/
def FB (W : World) (q : Nat) (A : Array Value) : Prop := W.heap[q]? = some (.cells A 26 (0, 0))
theorem FB.lt {W : World} {q : Nat} {A : Array Value} (h : FB W q A) : q < W.heap.size := lt_of_heap h
theorem FB.below {W W' : World} {q B : Nat} {A : Array Value} (h : FB W q A) (hq : q < B) (hb : Below B W W') : FB W' q A := by
  unfold FB; rw [hb.block q hq]; exact h
theorem FB.later {W W' : World} {q : Nat} {A : Array Value} (h : FB W q A) (hb : Below W.heap.size W W') : FB W' q A := h.below h.lt hb
theorem FB.c {W : World} {q : Nat} {A : Array Value} (h : FB W q A) (j : Nat) (v : Value) (hv : A[j]? = some v) : W.cell? ⟨q, j, none⟩ = some v := by
  unfold FB at h; simp [World.cell?, h, hv]
theorem FB.range {W : World} {q : Nat} {A : Array Value} (h : FB W q A) : W.rangeAt q 0 A.toList := fun j v hv => by
  rw [Nat.zero_add]; exact h.c j v (by simpa using hv)
theorem FB.new (W : World) (A : Array Value) : FB (W.alloc (.cells A 26)) W.heap.size A := heap_alloc_new W _
theorem or_vid (p v : Int) (hp : 0 ≤ p ∧ p < 8) (hv : 0 ≤ v ∧ v < 4096) : bits .or .u16 (p * 8192) v = p * 8192 + v := by
  obtain ⟨n, rfl⟩ : ∃ n : Nat, p = n := ⟨p.toNat, by omega⟩
  obtain ⟨m, rfl⟩ : ∃ m : Nat, v = m := ⟨v.toNat, by omega⟩
  have e2 : bits BinOp.or IntKind.u16 ((n : Int) * 8192) (m : Int) = ((n * 8192 ||| m : Nat) : Int) := by
    have := u16_or ((n : Int) * 8192) (m : Int) (by omega) (by omega) (by omega) (by omega)
    rw [this]
    congr 2
  rw [e2]
  have e3 : n * 8192 ||| m = n * 8192 + m := by
    have := Nat.two_pow_add_eq_or_of_lt (i := 13) (b := m) (by omega) n
    rw [show n * 8192 = 2 ^ 13 * n by omega]
    exact this.symm
  rw [e3]
  simp
end Go.Proofs.Ytecoomkpkdapdaa
