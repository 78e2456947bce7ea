/- ZP08: the texts T0, C0 as one. -/
import Derived.Test.YtlkdfofpnmpidaaGreatZP07
import Derived.Deep.DeepCutAuto
import Derived.Deep.LoopGhost
import Derived.Deep.CutBlock
import Derived.Test.YtlkdfofpnmpidaaGreatZP03
import Derived.Lib.SmallJoins
/- tlv: plain; a law's own 'of', 'great'. -/
set_option linter.unusedVariables false
namespace Go.Proofs.YtlkdfofpnmpidaaGreat
open Go.RowKit

/-- A thing's error. -/
def okT (x : Th) : Int := if x.1 = 0 then 2 else if 1480 < x.2.length then 5 else 0
/-- A thing's bytes. -/
def thB (x : Th) : List UInt8 := x.1 :: (be 2 (x.2.length : Int) ++ x.2)
/-- Put. -/
def putT : List Th → List UInt8 × Int
  | [] => ([0], 0)
  | x :: l => if okT x = 0 then (if (putT l).2 = 0 then (thB x ++ (putT l).1, 0) else ([], (putT l).2)) else ([], okT x)
theorem putT_all : ∀ l : List Th, (∀ x ∈ l, okT x = 0) → putT l = (l.flatMap thB ++ [0], 0)
  | [], _ => rfl
  | x :: l, h => by
    have ih := putT_all l (fun y hy => h y (List.mem_cons_of_mem _ hy))
    unfold putT; rw [if_pos (h x (List.mem_cons_self ..)), ih, if_pos rfl]; simp
theorem putT_at : ∀ (l : List Th) (k : Nat) (hk : k < l.length), (∀ x ∈ l.take k, okT x = 0) → okT l[k] ≠ 0 → putT l = ([], okT l[k])
  | x :: l, 0, _, _, hf => by
    have hf' : okT x ≠ 0 := hf
    unfold putT; rw [if_neg hf']; rfl
  | x :: l, k + 1, hk, h, hf => by
    have ih := putT_at l k (by simpa using hk) (fun y hy => h y (by simp [hy])) hf
    have hf' : okT (l[k]'(by simpa using hk)) ≠ 0 := hf
    unfold putT; rw [if_pos (h x (by simp)), ih]; show (if okT _ = 0 then _ else _) = _; rw [if_neg hf']; rfl

end Go.Proofs.YtlkdfofpnmpidaaGreat

/- cfm: messages; the law's own 'great', 'Of', 'Same'. -/
set_option linter.unusedVariables false
namespace Go.Proofs.YtlkdfofpnmpidaaGreat
open Go.RowKit

/-- Is a message too great? -/
def grP (f : List UInt8) (l : List Th) : Bool := decide (400 < f.length) || (decide (20 < l.length) || l.any fun x => decide (2000 < x.2.length))
/-- A message's block. -/
def PB (T : TypeId) (W : World) (q : Nat) (a b c : Int) (f : List UInt8) (v : Value) : Prop := W.heap[q]? = some (.cells #[.int .u8 a, .int .u8 b, .int .u8 c, .string (bs f), v] T (0, 0))
section
variable {T : TypeId} {W W' : World} {q : Nat} {a b c : Int} {f : List UInt8} {v : Value}
theorem PB.lt (h : PB T W q a b c f v) : q < W.heap.size := by
  rcases Nat.lt_or_ge q W.heap.size with h1 | h1
  · exact h1
  · unfold PB at h; rw [Array.getElem?_eq_none h1] at h; cases h
theorem PB.later (h : PB T W q a b c f v) (hb : Below W.heap.size W W') : PB T W' q a b c f v := by
  unfold PB; rw [hb.block q h.lt]; exact h
theorem PB.below {B : Nat} (h : PB T W q a b c f v) (hq : q < B) (hb : Below B W W') : PB T W' q a b c f v := by
  unfold PB; rw [hb.block q hq]; exact h
theorem PB.c0 (h : PB T W q a b c f v) : W.cell? ⟨q, 0, none⟩ = some (.int .u8 a) := by unfold PB at h; simp [World.cell?, h]
theorem PB.c1 (h : PB T W q a b c f v) : W.cell? ⟨q, 1, none⟩ = some (.int .u8 b) := by unfold PB at h; simp [World.cell?, h]
theorem PB.c2 (h : PB T W q a b c f v) : W.cell? ⟨q, 2, none⟩ = some (.int .u8 c) := by unfold PB at h; simp [World.cell?, h]
theorem PB.c3 (h : PB T W q a b c f v) : W.cell? ⟨q, 3, none⟩ = some (.string (bs f)) := by unfold PB at h; simp [World.cell?, h]
theorem PB.c4 (h : PB T W q a b c f v) : W.cell? ⟨q, 4, none⟩ = some v := by unfold PB at h; simp [World.cell?, h]
theorem PB.fr (h : PB T W q a b c f v) (o : Nat) : W.frozen? ⟨q, o, none⟩ = false := by unfold PB at h; simp [World.frozen?, h]
theorem PB.new (T : TypeId) (W : World) (a b c : Int) (f : List UInt8) (v : Value) : PB T (W.alloc (.cells #[.int .u8 a, .int .u8 b, .int .u8 c, .string (bs f), v] T)) W.heap.size a b c f v := heap_alloc_new W _
end

end Go.Proofs.YtlkdfofpnmpidaaGreat
