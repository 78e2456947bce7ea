/- wire: a reader behind a cell that holds its pointer. -/
import Derived.Test.YtecoomkpkdapdaaWB
set_option linter.unusedVariables false
namespace Go.Proofs.Ytecoomkpkdapdaa
open Go.RowKit

theorem Only.cell {p q o : Nat} {w w' : World} (h : Only p w w') (hq : q < w.heap.size) (hne : q ≠ p) : w'.cell? ⟨q, o, none⟩ = w.cell? ⟨q, o, none⟩ := by
  simp [World.cell?, h.block q hq (by simpa using hne)]
theorem Only.frozen {p q o : Nat} {w w' : World} (h : Only p w w') (hq : q < w.heap.size) (hne : q ≠ p) : w'.frozen? ⟨q, o, none⟩ = w.frozen? ⟨q, o, none⟩ := by
  simp [World.frozen?, h.block q hq (by simpa using hne)]
theorem Only.setNew {p t o : Nat} {w W : World} (h : Only p w W) (ht : w.heap.size ≤ t) (v : Value) : Only p w (W.setCell ⟨t, o, none⟩ v) :=
  ⟨h.os, h.tape, h.output, by simpa [World.setCell] using h.size, fun k hk hne => (Below.heap_setCell _ _ _ _ (by intro e; simp at e; omega)).trans (h.block k hk hne)⟩
theorem Rd.setOther {p t o : Nat} {W : World} {l : List UInt8} {e : Int} (h : Rd W p l e) (ht : t ≠ p) (v : Value) : Rd (W.setCell ⟨t, o, none⟩ v) p l e := by
  unfold Rd; rw [Below.heap_setCell _ _ _ _ (by intro e; simp at e; omega)]; exact h
theorem Only.undrew {p : Nat} {w w' : World} (h : Only p w.drew w') : Only p w w' := ⟨h.os, h.tape, h.output, h.size, h.block⟩
theorem rd_le (l : List UInt8) (e n : Int) : (rdText l e n).2.1.length ≤ l.length := by
  unfold rdText
  repeat' split
  all_goals simp

theorem rd_le1 (l : List UInt8) (e n : Int) : (rdText l e n).1.length ≤ l.length := by
  unfold rdText
  repeat' split
  all_goals simp
  all_goals omega
/-- Take's state: the reader, and the cell that holds its pointer. -/
def TK (w : World) (q : Nat) (W : World) (l : List UInt8) (e : Int) : Prop := Rd W w.heap.size l e ∧ W.cell? ⟨q, 0, none⟩ = some (.pointer (some ⟨w.heap.size, 0, none⟩)) ∧ Below w.heap.size w W ∧ q < W.heap.size ∧ w.heap.size < q
theorem TK.next {w W W' : World} {q : Nat} {l l' : List UInt8} {e e' : Int} (h : TK w q W l e) (hr : Rd W' w.heap.size l' e') (ho : Only w.heap.size W W') : TK w q W' l' e' := by
  obtain ⟨h1, h2, h3, h4, h5⟩ := h
  exact ⟨hr, (ho.cell h4 (by omega)).trans h2, h3.trans (ho.below (Nat.le_refl _) h3.size), Nat.lt_of_lt_of_le h4 ho.size, h5⟩
theorem TK.rd {w W : World} {q : Nat} {l : List UInt8} {e : Int} (h : TK w q W l e) : Rd W w.heap.size l e := h.1
theorem TK.ptr {w W : World} {q : Nat} {l : List UInt8} {e : Int} (h : TK w q W l e) : W.cell? ⟨q, 0, none⟩ = some (.pointer (some ⟨w.heap.size, 0, none⟩)) := h.2.1
theorem TK.bel {w W : World} {q : Nat} {l : List UInt8} {e : Int} (h : TK w q W l e) : Below w.heap.size w W := h.2.2.1
theorem TK.lt {w W : World} {q : Nat} {l : List UInt8} {e : Int} (h : TK w q W l e) : q < W.heap.size := h.2.2.2.1
theorem TK.ne {w W : World} {q : Nat} {l : List UInt8} {e : Int} (h : TK w q W l e) : q ≠ w.heap.size := Nat.ne_of_gt h.2.2.2.2
theorem rd_one (c : UInt8) (r : List UInt8) : rdText (c :: r) 0 1 = ([c], r, 0) := rdText_app [c] r 1 rfl (by omega)
theorem numOf_one (c : UInt8) : numOf [c] = (c.toNat : Int) := by simp [numOf]
theorem rd_exact (a r : List UInt8) : rdText (a ++ r) 0 (a.length : Int) = (a, r, 0) := by
  by_cases h : a.length = 0
  · have : a = [] := List.eq_nil_of_length_eq_zero h
    subst this; rfl
  · exact rdText_app a r a.length rfl (by omega)
end Go.Proofs.Ytecoomkpkdapdaa
