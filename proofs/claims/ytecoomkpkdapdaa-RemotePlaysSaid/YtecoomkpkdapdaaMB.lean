/- An address's block (out of M10, M11). -/
import Derived.Test.YtecoomkpkdapdaaRK
import Derived.Lib.LazyBuf
set_option linter.unusedVariables false
namespace Go.Proofs.Ytecoomkpkdapdaa
open Go.RowKit

/-- An address's whole block. -/
def MB (W : World) (p : Nat) (a b c d e f : Int) : Prop := W.heap[p]? = some (.cells #[.int .u8 a, .int .u8 b, .int .u8 c, .int .u8 d, .int .u8 e, .int .u8 f] 24)
theorem MB.lt {W : World} {p : Nat} {a b c d e f : Int} (h : MB W p a b c d e f) : p < W.heap.size := by
  rcases Nat.lt_or_ge p W.heap.size with h1 | h1
  · exact h1
  · unfold MB at h; rw [Array.getElem?_eq_none h1] at h; cases h
theorem MB.c0 {W : World} {p : Nat} {a b c d e f : Int} (h : MB W p a b c d e f) : W.cell? ⟨p, 0, none⟩ = some (.int .u8 a) := by
  unfold MB at h; simp [World.cell?, h]
theorem MB.f0 {W : World} {p : Nat} {a b c d e f : Int} (h : MB W p a b c d e f) : W.frozen? ⟨p, 0, none⟩ = false := by
  unfold MB at h; simp [World.frozen?, h]
theorem MB.c1 {W : World} {p : Nat} {a b c d e f : Int} (h : MB W p a b c d e f) : W.cell? ⟨p, 1, none⟩ = some (.int .u8 b) := by
  unfold MB at h; simp [World.cell?, h]
theorem MB.f1 {W : World} {p : Nat} {a b c d e f : Int} (h : MB W p a b c d e f) : W.frozen? ⟨p, 1, none⟩ = false := by
  unfold MB at h; simp [World.frozen?, h]
theorem MB.c2 {W : World} {p : Nat} {a b c d e f : Int} (h : MB W p a b c d e f) : W.cell? ⟨p, 2, none⟩ = some (.int .u8 c) := by
  unfold MB at h; simp [World.cell?, h]
theorem MB.f2 {W : World} {p : Nat} {a b c d e f : Int} (h : MB W p a b c d e f) : W.frozen? ⟨p, 2, none⟩ = false := by
  unfold MB at h; simp [World.frozen?, h]
theorem MB.c3 {W : World} {p : Nat} {a b c d e f : Int} (h : MB W p a b c d e f) : W.cell? ⟨p, 3, none⟩ = some (.int .u8 d) := by
  unfold MB at h; simp [World.cell?, h]
theorem MB.f3 {W : World} {p : Nat} {a b c d e f : Int} (h : MB W p a b c d e f) : W.frozen? ⟨p, 3, none⟩ = false := by
  unfold MB at h; simp [World.frozen?, h]
theorem MB.c4 {W : World} {p : Nat} {a b c d e f : Int} (h : MB W p a b c d e f) : W.cell? ⟨p, 4, none⟩ = some (.int .u8 e) := by
  unfold MB at h; simp [World.cell?, h]
theorem MB.f4 {W : World} {p : Nat} {a b c d e f : Int} (h : MB W p a b c d e f) : W.frozen? ⟨p, 4, none⟩ = false := by
  unfold MB at h; simp [World.frozen?, h]
theorem MB.c5 {W : World} {p : Nat} {a b c d e f : Int} (h : MB W p a b c d e f) : W.cell? ⟨p, 5, none⟩ = some (.int .u8 f) := by
  unfold MB at h; simp [World.cell?, h]
theorem MB.f5 {W : World} {p : Nat} {a b c d e f : Int} (h : MB W p a b c d e f) : W.frozen? ⟨p, 5, none⟩ = false := by
  unfold MB at h; simp [World.frozen?, h]
theorem MB.s0 {W : World} {p : Nat} {a b c d e f : Int} (h : MB W p a b c d e f) (y : Int) : MB (W.setCell ⟨p, 0, none⟩ (.int .u8 y)) p y b c d e f := by
  unfold MB at *
  simp [World.setCell, Array.getElem?_modify, h]
theorem MB.s1 {W : World} {p : Nat} {a b c d e f : Int} (h : MB W p a b c d e f) (y : Int) : MB (W.setCell ⟨p, 1, none⟩ (.int .u8 y)) p a y c d e f := by
  unfold MB at *
  simp [World.setCell, Array.getElem?_modify, h]
theorem MB.s2 {W : World} {p : Nat} {a b c d e f : Int} (h : MB W p a b c d e f) (y : Int) : MB (W.setCell ⟨p, 2, none⟩ (.int .u8 y)) p a b y d e f := by
  unfold MB at *
  simp [World.setCell, Array.getElem?_modify, h]
theorem MB.s3 {W : World} {p : Nat} {a b c d e f : Int} (h : MB W p a b c d e f) (y : Int) : MB (W.setCell ⟨p, 3, none⟩ (.int .u8 y)) p a b c y e f := by
  unfold MB at *
  simp [World.setCell, Array.getElem?_modify, h]
theorem MB.s4 {W : World} {p : Nat} {a b c d e f : Int} (h : MB W p a b c d e f) (y : Int) : MB (W.setCell ⟨p, 4, none⟩ (.int .u8 y)) p a b c d y f := by
  unfold MB at *
  simp [World.setCell, Array.getElem?_modify, h]
theorem MB.s5 {W : World} {p : Nat} {a b c d e f : Int} (h : MB W p a b c d e f) (y : Int) : MB (W.setCell ⟨p, 5, none⟩ (.int .u8 y)) p a b c d e y := by
  unfold MB at *
  simp [World.setCell, Array.getElem?_modify, h]
theorem MB.new (W : World) (a b c d e f : Int) : MB (W.alloc (.cells #[.int .u8 a, .int .u8 b, .int .u8 c, .int .u8 d, .int .u8 e, .int .u8 f] 24)) W.heap.size a b c d e f := by
  unfold MB
  show (W.heap.push _)[W.heap.size]? = _
  simp
theorem MB.new' {W : World} {p : Nat} (hp : W.heap.size = p) (a b c d e f : Int) : MB (W.alloc (.cells #[.int .u8 a, .int .u8 b, .int .u8 c, .int .u8 d, .int .u8 e, .int .u8 f] 24)) p a b c d e f := hp ▸ MB.new W a b c d e f
theorem MB.other {W : World} {p q : Nat} {o : Nat} {a b c d e f : Int} (h : MB W p a b c d e f) (hq : q ≠ p) (v : Value) : MB (W.setCell ⟨q, o, none⟩ v) p a b c d e f := by
  unfold MB at *
  simp [World.setCell, Array.getElem?_modify, h, hq]

theorem MB.later {q : Nat} {w w' : World} {a b c d e f : Int} (hr : MB w q a b c d e f) (h : Below w.heap.size w w') : MB w' q a b c d e f := by
  unfold MB; rw [h.block q hr.lt]; exact hr
theorem MB.only {p q : Nat} {w w' : World} {a b c d e f : Int} (hr : MB w q a b c d e f) (h : Only p w w') (hne : q ≠ p) : MB w' q a b c d e f := by
  unfold MB; rw [h.block q hr.lt (by simpa using hne)]; exact hr
theorem MB.some {W : World} {p n : Nat} {a b c d e f : Int} (h : MB W p a b c d e f) (hn : n ≤ 6) : ∀ j, j < n → (W.cell? ⟨p, 0 + j, none⟩).isSome = true := fun j hj => by
  rw [Nat.zero_add]
  have : j = 0 ∨ j = 1 ∨ j = 2 ∨ j = 3 ∨ j = 4 ∨ j = 5 := by omega
  rcases this with rfl | rfl | rfl | rfl | rfl | rfl
  · rw [h.c0]; rfl
  · rw [h.c1]; rfl
  · rw [h.c2]; rfl
  · rw [h.c3]; rfl
  · rw [h.c4]; rfl
  · rw [h.c5]; rfl
theorem MB.free {W : World} {p n : Nat} {a b c d e f : Int} (h : MB W p a b c d e f) (hn : n ≤ 6) : ∀ j, j < n → W.frozen? ⟨p, 0 + j, none⟩ = false := fun j hj => by
  rw [Nat.zero_add]
  have : j = 0 ∨ j = 1 ∨ j = 2 ∨ j = 3 ∨ j = 4 ∨ j = 5 := by omega
  rcases this with rfl | rfl | rfl | rfl | rfl | rfl
  · exact h.f0
  · exact h.f1
  · exact h.f2
  · exact h.f3
  · exact h.f4
  · exact h.f5
theorem MB.cells {W : World} {p : Nat} {a b c d e f : Int} (h : MB W p a b c d e f) (y0 y1 y2 y3 y4 y5 : Int) : MB (W.setCells p 0 [.int .u8 y0, .int .u8 y1, .int .u8 y2, .int .u8 y3, .int .u8 y4, .int .u8 y5]) p y0 y1 y2 y3 y4 y5 :=
  (((((h.s0 y0).s1 y1).s2 y2).s3 y3).s4 y4).s5 y5
theorem MB.cellsOther {p q : Nat} {a b c d e f : Int} (hq : q ≠ p) : ∀ (vs : List Value) (o : Nat) (W : World), MB W p a b c d e f → MB (W.setCells q o vs) p a b c d e f
  | [], _, _, h => h
  | v :: r, o, W, h => MB.cellsOther hq r (o + 1) _ (h.other hq v)
theorem Rd.cellsOther {p q : Nat} {l : List UInt8} {e : Int} (hq : q ≠ p) : ∀ (vs : List Value) (o : Nat) (W : World), Rd W p l e → Rd (W.setCells q o vs) p l e
  | [], _, _, h => h
  | v :: r, o, W, h => Rd.cellsOther hq r (o + 1) _ (h.setOther hq v)
theorem Only.cells {p t : Nat} {w : World} (ht : w.heap.size ≤ t) : ∀ (vs : List Value) (o : Nat) (W : World), Only p w W → Only p w (W.setCells t o vs)
  | [], _, _, h => h
  | v :: r, o, W, h => Only.cells ht r (o + 1) _ (h.setNew ht v)
end Go.Proofs.Ytecoomkpkdapdaa
