/- bpdu: words, and their blocks. -/
import Derived.Test.YtecoomkpkdapdaaDoorWB
import Derived.Test.YtecoomkpkdapdaaDoorRK
set_option linter.unusedVariables false
namespace Go.Proofs.YtecoomkpkdapdaaDoor
open Go.RowKit

/-- A word. -/
structure Bp where
  rt : Int
  co : Int
  br : Int
  po : Int
  ho : Int
  ve : Int
  ro : Int
  pr : Bool
  ag : Bool
  tp : Bool
  ec : Int
theorem Bp.ext' {a b : Bp} (h0 : a.rt = b.rt) (h1 : a.co = b.co) (h2 : a.br = b.br) (h3 : a.po = b.po) (h4 : a.ho = b.ho) (h5 : a.ve = b.ve) (h6 : a.ro = b.ro) (h7 : a.pr = b.pr) (h8 : a.ag = b.ag) (h9 : a.tp = b.tp) (h10 : a.ec = b.ec) : a = b := by
  cases a; cases b; simp only at *; subst h0 h1 h2 h3 h4 h5 h6 h7 h8 h9 h10; rfl
/-- Its numbers fit their types. -/
structure Bp.Ok (b : Bp) : Prop where
  rt : 0 ≤ b.rt ∧ b.rt < 18446744073709551616
  co : 0 ≤ b.co ∧ b.co < 4294967296
  br : 0 ≤ b.br ∧ b.br < 18446744073709551616
  po : 0 ≤ b.po ∧ b.po < 256
  ho : 0 ≤ b.ho ∧ b.ho < 256
  ve : 0 ≤ b.ve ∧ b.ve < 18446744073709551616
  ro : 0 ≤ b.ro ∧ b.ro < 256
  ec : 0 ≤ b.ec ∧ b.ec < 18446744073709551616
/-- The word of noughts. -/
def bp0 : Bp := ⟨0, 0, 0, 0, 0, 0, 0, false, false, false, 0⟩
/-- A word's block. -/
def BB (T : TypeId) (W : World) (q : Nat) (b : Bp) : Prop := W.heap[q]? = some (.cells #[.int .u64 b.rt, .int .u32 b.co, .int .u64 b.br, .int .u8 b.po, .int .u8 b.ho, .int .u64 b.ve, .int .u8 b.ro, .bool b.pr, .bool b.ag, .bool b.tp, .int .u64 b.ec] T (0, 0))
section
variable {T : TypeId} {W W' : World} {q : Nat} {b : Bp}
theorem BB.lt (h : BB T W q b) : q < W.heap.size := by
  rcases Nat.lt_or_ge q W.heap.size with h1 | h1
  · exact h1
  · unfold BB at h; rw [Array.getElem?_eq_none h1] at h; cases h
theorem BB.later (h : BB T W q b) (hb : Below W.heap.size W W') : BB T W' q b := by
  unfold BB; rw [hb.block q h.lt]; exact h
theorem BB.below {B : Nat} (h : BB T W q b) (hq : q < B) (hb : Below B W W') : BB T W' q b := by
  unfold BB; rw [hb.block q hq]; exact h
theorem BB.only {p : Nat} (h : BB T W q b) (ho : Only p W W') (hne : q ≠ p) : BB T W' q b := by
  unfold BB; rw [ho.block q h.lt (by simpa using hne)]; exact h
theorem BB.other {t o : Nat} (h : BB T W q b) (ht : t ≠ q) (u : Value) : BB T (W.setCell ⟨t, o, none⟩ u) q b := by
  unfold BB; rw [Below.heap_setCell _ _ _ _ (by intro e; simp at e; omega)]; exact h
theorem BB.c0 (h : BB T W q b) : W.cell? ⟨q, 0, none⟩ = some (.int .u64 b.rt) := by unfold BB at h; simp [World.cell?, h]
theorem BB.c1 (h : BB T W q b) : W.cell? ⟨q, 1, none⟩ = some (.int .u32 b.co) := by unfold BB at h; simp [World.cell?, h]
theorem BB.c2 (h : BB T W q b) : W.cell? ⟨q, 2, none⟩ = some (.int .u64 b.br) := by unfold BB at h; simp [World.cell?, h]
theorem BB.c3 (h : BB T W q b) : W.cell? ⟨q, 3, none⟩ = some (.int .u8 b.po) := by unfold BB at h; simp [World.cell?, h]
theorem BB.c4 (h : BB T W q b) : W.cell? ⟨q, 4, none⟩ = some (.int .u8 b.ho) := by unfold BB at h; simp [World.cell?, h]
theorem BB.c5 (h : BB T W q b) : W.cell? ⟨q, 5, none⟩ = some (.int .u64 b.ve) := by unfold BB at h; simp [World.cell?, h]
theorem BB.c6 (h : BB T W q b) : W.cell? ⟨q, 6, none⟩ = some (.int .u8 b.ro) := by unfold BB at h; simp [World.cell?, h]
theorem BB.c7 (h : BB T W q b) : W.cell? ⟨q, 7, none⟩ = some (.bool b.pr) := by unfold BB at h; simp [World.cell?, h]
theorem BB.c8 (h : BB T W q b) : W.cell? ⟨q, 8, none⟩ = some (.bool b.ag) := by unfold BB at h; simp [World.cell?, h]
theorem BB.c9 (h : BB T W q b) : W.cell? ⟨q, 9, none⟩ = some (.bool b.tp) := by unfold BB at h; simp [World.cell?, h]
theorem BB.c10 (h : BB T W q b) : W.cell? ⟨q, 10, none⟩ = some (.int .u64 b.ec) := by unfold BB at h; simp [World.cell?, h]
theorem BB.fr (h : BB T W q b) (o : Nat) : W.frozen? ⟨q, o, none⟩ = false := by unfold BB at h; simp [World.frozen?, h]
theorem BB.new (T : TypeId) (W : World) (b : Bp) : BB T (W.alloc (.cells #[.int .u64 b.rt, .int .u32 b.co, .int .u64 b.br, .int .u8 b.po, .int .u8 b.ho, .int .u64 b.ve, .int .u8 b.ro, .bool b.pr, .bool b.ag, .bool b.tp, .int .u64 b.ec] T)) W.heap.size b := heap_alloc_new W _
theorem BB.s0 (h : BB T W q b) (x : Int) : BB T (W.setCell ⟨q, 0, none⟩ (.int .u64 x)) q { b with rt := x } := by unfold BB at *; simp [World.setCell, Array.getElem?_modify, h]
theorem BB.s1 (h : BB T W q b) (x : Int) : BB T (W.setCell ⟨q, 1, none⟩ (.int .u32 x)) q { b with co := x } := by unfold BB at *; simp [World.setCell, Array.getElem?_modify, h]
theorem BB.s2 (h : BB T W q b) (x : Int) : BB T (W.setCell ⟨q, 2, none⟩ (.int .u64 x)) q { b with br := x } := by unfold BB at *; simp [World.setCell, Array.getElem?_modify, h]
theorem BB.s3 (h : BB T W q b) (x : Int) : BB T (W.setCell ⟨q, 3, none⟩ (.int .u8 x)) q { b with po := x } := by unfold BB at *; simp [World.setCell, Array.getElem?_modify, h]
theorem BB.s4 (h : BB T W q b) (x : Int) : BB T (W.setCell ⟨q, 4, none⟩ (.int .u8 x)) q { b with ho := x } := by unfold BB at *; simp [World.setCell, Array.getElem?_modify, h]
theorem BB.s5 (h : BB T W q b) (x : Int) : BB T (W.setCell ⟨q, 5, none⟩ (.int .u64 x)) q { b with ve := x } := by unfold BB at *; simp [World.setCell, Array.getElem?_modify, h]
theorem BB.s6 (h : BB T W q b) (x : Int) : BB T (W.setCell ⟨q, 6, none⟩ (.int .u8 x)) q { b with ro := x } := by unfold BB at *; simp [World.setCell, Array.getElem?_modify, h]
theorem BB.s7 (h : BB T W q b) (x : Bool) : BB T (W.setCell ⟨q, 7, none⟩ (.bool x)) q { b with pr := x } := by unfold BB at *; simp [World.setCell, Array.getElem?_modify, h]
theorem BB.s8 (h : BB T W q b) (x : Bool) : BB T (W.setCell ⟨q, 8, none⟩ (.bool x)) q { b with ag := x } := by unfold BB at *; simp [World.setCell, Array.getElem?_modify, h]
theorem BB.s9 (h : BB T W q b) (x : Bool) : BB T (W.setCell ⟨q, 9, none⟩ (.bool x)) q { b with tp := x } := by unfold BB at *; simp [World.setCell, Array.getElem?_modify, h]
theorem BB.s10 (h : BB T W q b) (x : Int) : BB T (W.setCell ⟨q, 10, none⟩ (.int .u64 x)) q { b with ec := x } := by unfold BB at *; simp [World.setCell, Array.getElem?_modify, h]
end
/-- May a word be? -/
def mayB (b : Bp) : Bool := decide (1 ≤ b.ro ∧ b.ro ≤ 3 ∧ b.po < 8 ∧ b.co ≤ 16777216 ∧ b.ho ≤ 20 ∧ (b.pr = true → b.ro = 2) ∧ (b.ag = true → b.ro = 1) ∧ (b.ag = true ∨ b.ec = 0))
/-- Its flags. -/
def flB (b : Bp) : Int := (if b.pr = true then 1 else 0) + (if b.ag = true then 2 else 0) + (if b.tp = true then 4 else 0)
theorem flB_bd (b : Bp) : 0 ≤ flB b ∧ flB b ≤ 7 := by unfold flB; repeat' split <;> omega
/-- Its bytes. -/
def byB (b : Bp) : List UInt8 := [67, 77] ++ be 1 b.ro ++ be 1 (flB b) ++ be 8 b.rt ++ be 4 b.co ++ be 8 b.br ++ be 1 b.po ++ be 1 b.ho ++ be 8 b.ve ++ be 8 b.ec
theorem byB_len (b : Bp) : (byB b).length = 42 := by simp [byB, be_length]
end Go.Proofs.YtecoomkpkdapdaaDoor
