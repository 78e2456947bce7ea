/- cfm: messages; the law's own 'great', 'Of', 'Same'. -/
import Derived.Test.YtecoomkpkdapdaaT0
import Derived.Test.YtecoomkpkdapdaaRK
import Derived.Lib.SmallJoins
set_option linter.unusedVariables false
namespace Go.Proofs.Ytecoomkpkdapdaa
open Go.RowKit

/-- Is a message too great? -/
def grP (f : List UInt8) (l : List Th) : Bool := decide (400 < f.length) || (decide (20 < l.length) || l.any fun x => decide (2000 < x.2.length))
/-- A message's block. -/
def PB (T : TypeId) (W : World) (q : Nat) (a b c : Int) (f : List UInt8) (v : Value) : Prop := W.heap[q]? = some (.cells #[.int .u8 a, .int .u8 b, .int .u8 c, .string (bs f), v] T (0, 0))
section
variable {T : TypeId} {W W' : World} {q : Nat} {a b c : Int} {f : List UInt8} {v : Value}
theorem PB.lt (h : PB T W q a b c f v) : q < W.heap.size := by
  rcases Nat.lt_or_ge q W.heap.size with h1 | h1
  · exact h1
  · unfold PB at h; rw [Array.getElem?_eq_none h1] at h; cases h
theorem PB.later (h : PB T W q a b c f v) (hb : Below W.heap.size W W') : PB T W' q a b c f v := by
  unfold PB; rw [hb.block q h.lt]; exact h
theorem PB.below {B : Nat} (h : PB T W q a b c f v) (hq : q < B) (hb : Below B W W') : PB T W' q a b c f v := by
  unfold PB; rw [hb.block q hq]; exact h
theorem PB.c0 (h : PB T W q a b c f v) : W.cell? ⟨q, 0, none⟩ = some (.int .u8 a) := by unfold PB at h; simp [World.cell?, h]
theorem PB.c1 (h : PB T W q a b c f v) : W.cell? ⟨q, 1, none⟩ = some (.int .u8 b) := by unfold PB at h; simp [World.cell?, h]
theorem PB.c2 (h : PB T W q a b c f v) : W.cell? ⟨q, 2, none⟩ = some (.int .u8 c) := by unfold PB at h; simp [World.cell?, h]
theorem PB.c3 (h : PB T W q a b c f v) : W.cell? ⟨q, 3, none⟩ = some (.string (bs f)) := by unfold PB at h; simp [World.cell?, h]
theorem PB.c4 (h : PB T W q a b c f v) : W.cell? ⟨q, 4, none⟩ = some v := by unfold PB at h; simp [World.cell?, h]
theorem PB.fr (h : PB T W q a b c f v) (o : Nat) : W.frozen? ⟨q, o, none⟩ = false := by unfold PB at h; simp [World.frozen?, h]
theorem PB.new (T : TypeId) (W : World) (a b c : Int) (f : List UInt8) (v : Value) : PB T (W.alloc (.cells #[.int .u8 a, .int .u8 b, .int .u8 c, .string (bs f), v] T)) W.heap.size a b c f v := heap_alloc_new W _
end

end Go.Proofs.Ytecoomkpkdapdaa
