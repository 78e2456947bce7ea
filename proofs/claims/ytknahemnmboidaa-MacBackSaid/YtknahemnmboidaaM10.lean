/- mac: Parse. -/
import Derived.Test.YtknahemnmboidaaM10a
set_option linter.unusedVariables false
namespace Go.Proofs.Ytknahemnmboidaa
open Go.RowKit

/-- An address's whole block. -/
def MB (W : World) (p : Nat) (a b c d e f : Int) : Prop := W.heap[p]? = some (.cells #[.int .u8 a, .int .u8 b, .int .u8 c, .int .u8 d, .int .u8 e, .int .u8 f] 34)
theorem MB.lt {W : World} {p : Nat} {a b c d e f : Int} (h : MB W p a b c d e f) : p < W.heap.size := by
  rcases Nat.lt_or_ge p W.heap.size with h1 | h1
  · exact h1
  · unfold MB at h; rw [Array.getElem?_eq_none h1] at h; cases h
theorem MB.c0 {W : World} {p : Nat} {a b c d e f : Int} (h : MB W p a b c d e f) : W.cell? ⟨p, 0, none⟩ = some (.int .u8 a) := by
  unfold MB at h; simp [World.cell?, h]
theorem MB.f0 {W : World} {p : Nat} {a b c d e f : Int} (h : MB W p a b c d e f) : W.frozen? ⟨p, 0, none⟩ = false := by
  unfold MB at h; simp [World.frozen?, h]
theorem MB.c1 {W : World} {p : Nat} {a b c d e f : Int} (h : MB W p a b c d e f) : W.cell? ⟨p, 1, none⟩ = some (.int .u8 b) := by
  unfold MB at h; simp [World.cell?, h]
theorem MB.f1 {W : World} {p : Nat} {a b c d e f : Int} (h : MB W p a b c d e f) : W.frozen? ⟨p, 1, none⟩ = false := by
  unfold MB at h; simp [World.frozen?, h]
theorem MB.c2 {W : World} {p : Nat} {a b c d e f : Int} (h : MB W p a b c d e f) : W.cell? ⟨p, 2, none⟩ = some (.int .u8 c) := by
  unfold MB at h; simp [World.cell?, h]
theorem MB.f2 {W : World} {p : Nat} {a b c d e f : Int} (h : MB W p a b c d e f) : W.frozen? ⟨p, 2, none⟩ = false := by
  unfold MB at h; simp [World.frozen?, h]
theorem MB.c3 {W : World} {p : Nat} {a b c d e f : Int} (h : MB W p a b c d e f) : W.cell? ⟨p, 3, none⟩ = some (.int .u8 d) := by
  unfold MB at h; simp [World.cell?, h]
theorem MB.f3 {W : World} {p : Nat} {a b c d e f : Int} (h : MB W p a b c d e f) : W.frozen? ⟨p, 3, none⟩ = false := by
  unfold MB at h; simp [World.frozen?, h]
theorem MB.c4 {W : World} {p : Nat} {a b c d e f : Int} (h : MB W p a b c d e f) : W.cell? ⟨p, 4, none⟩ = some (.int .u8 e) := by
  unfold MB at h; simp [World.cell?, h]
theorem MB.f4 {W : World} {p : Nat} {a b c d e f : Int} (h : MB W p a b c d e f) : W.frozen? ⟨p, 4, none⟩ = false := by
  unfold MB at h; simp [World.frozen?, h]
theorem MB.c5 {W : World} {p : Nat} {a b c d e f : Int} (h : MB W p a b c d e f) : W.cell? ⟨p, 5, none⟩ = some (.int .u8 f) := by
  unfold MB at h; simp [World.cell?, h]
theorem MB.f5 {W : World} {p : Nat} {a b c d e f : Int} (h : MB W p a b c d e f) : W.frozen? ⟨p, 5, none⟩ = false := by
  unfold MB at h; simp [World.frozen?, h]
theorem MB.s0 {W : World} {p : Nat} {a b c d e f : Int} (h : MB W p a b c d e f) (y : Int) : MB (W.setCell ⟨p, 0, none⟩ (.int .u8 y)) p y b c d e f := by
  unfold MB at *
  simp [World.setCell, Array.getElem?_modify, h]
theorem MB.s1 {W : World} {p : Nat} {a b c d e f : Int} (h : MB W p a b c d e f) (y : Int) : MB (W.setCell ⟨p, 1, none⟩ (.int .u8 y)) p a y c d e f := by
  unfold MB at *
  simp [World.setCell, Array.getElem?_modify, h]
theorem MB.s2 {W : World} {p : Nat} {a b c d e f : Int} (h : MB W p a b c d e f) (y : Int) : MB (W.setCell ⟨p, 2, none⟩ (.int .u8 y)) p a b y d e f := by
  unfold MB at *
  simp [World.setCell, Array.getElem?_modify, h]
theorem MB.s3 {W : World} {p : Nat} {a b c d e f : Int} (h : MB W p a b c d e f) (y : Int) : MB (W.setCell ⟨p, 3, none⟩ (.int .u8 y)) p a b c y e f := by
  unfold MB at *
  simp [World.setCell, Array.getElem?_modify, h]
theorem MB.s4 {W : World} {p : Nat} {a b c d e f : Int} (h : MB W p a b c d e f) (y : Int) : MB (W.setCell ⟨p, 4, none⟩ (.int .u8 y)) p a b c d y f := by
  unfold MB at *
  simp [World.setCell, Array.getElem?_modify, h]
theorem MB.s5 {W : World} {p : Nat} {a b c d e f : Int} (h : MB W p a b c d e f) (y : Int) : MB (W.setCell ⟨p, 5, none⟩ (.int .u8 y)) p a b c d e y := by
  unfold MB at *
  simp [World.setCell, Array.getElem?_modify, h]
theorem MB.later {q : Nat} {w w' : World} {a b c d e f : Int} (hr : MB w q a b c d e f) (h : Below w.heap.size w w') : MB w' q a b c d e f := by
  unfold MB; rw [h.block q hr.lt]; exact hr
theorem MB.ma {W : World} {p : Nat} {a b c d e f : Int} (h : MB W p a b c d e f) : MA W p a b c d e f := ⟨h.c0, h.c1, h.c2, h.c3, h.c4, h.c5⟩
end Go.Proofs.Ytknahemnmboidaa
