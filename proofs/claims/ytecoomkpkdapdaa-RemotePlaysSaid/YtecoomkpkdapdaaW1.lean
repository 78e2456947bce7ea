/- wire: the reader. -/
import Derived.Test.YtecoomkpkdapdaaW0
set_option linter.unusedVariables false
namespace Go.Proofs.Ytecoomkpkdapdaa
open Go.RowKit

/-- A reader at block p: what is left, and the error. -/
def Rd (w : World) (p : Nat) (l : List UInt8) (e : Int) : Prop := w.heap[p]? = some (.cells #[.string (bs l), .int .i64 e] 147 (0, 0))
theorem Rd.lt {w : World} {p : Nat} {l : List UInt8} {e : Int} (h : Rd w p l e) : p < w.heap.size := by
  rcases Nat.lt_or_ge p w.heap.size with h1 | h1
  · exact h1
  · unfold Rd at h; rw [Array.getElem?_eq_none h1] at h; cases h
theorem Rd.c0 {w : World} {p : Nat} {l : List UInt8} {e : Int} (h : Rd w p l e) : w.cell? ⟨p, 0, none⟩ = some (.string (bs l)) := by
  unfold Rd at h; simp [World.cell?, h]
theorem Rd.c1 {w : World} {p : Nat} {l : List UInt8} {e : Int} (h : Rd w p l e) : w.cell? ⟨p, 1, none⟩ = some (.int .i64 e) := by
  unfold Rd at h; simp [World.cell?, h]
theorem Rd.f0 {w : World} {p : Nat} {l : List UInt8} {e : Int} (h : Rd w p l e) : w.frozen? ⟨p, 0, none⟩ = false := by
  unfold Rd at h; simp [World.frozen?, h]
theorem Rd.f1 {w : World} {p : Nat} {l : List UInt8} {e : Int} (h : Rd w p l e) : w.frozen? ⟨p, 1, none⟩ = false := by
  unfold Rd at h; simp [World.frozen?, h]
theorem Rd.set0 {w : World} {p : Nat} {l : List UInt8} {e : Int} (h : Rd w p l e) (l' : List UInt8) : Rd (w.setCell ⟨p, 0, none⟩ (.string (bs l'))) p l' e := by
  unfold Rd at *
  simp [World.setCell, Array.getElem?_modify, h]
theorem Rd.set1 {w : World} {p : Nat} {l : List UInt8} {e : Int} (h : Rd w p l e) (e' : Int) : Rd (w.setCell ⟨p, 1, none⟩ (.int .i64 e')) p l e' := by
  unfold Rd at *
  simp [World.setCell, Array.getElem?_modify, h]
/-- All but block p is as it was. -/
def Only (p : Nat) (w w' : World) : Prop := w.grownBy w' (some p)
theorem Only.refl (p : Nat) (w : World) : Only p w w := World.grownBy.refl w _
theorem Only.trans {p : Nat} {a b c : World} (h : Only p a b) (k : Only p b c) : Only p a c :=
  ⟨k.os.trans h.os, k.tape.trans h.tape, k.output.trans h.output, Nat.le_trans h.size k.size, fun i hi hne => (k.block i (Nat.lt_of_lt_of_le hi h.size) hne).trans (h.block i hi hne)⟩
theorem Only.set (p : Nat) (w : World) (o : Nat) (v : Value) : Only p w (w.setCell ⟨p, o, none⟩ v) :=
  ⟨rfl, rfl, rfl, by simp [World.setCell], fun k hk hne => Below.heap_setCell _ _ _ _ (by intro e; exact hne (by rw [e]))⟩
theorem Only.below {p B : Nat} {w w' : World} (h : Only p w w') (hB : B ≤ p) (hs : B ≤ w.heap.size) : Below B w w' :=
  (Below.refl _ _).grown h hs (fun k hk => by cases hk; exact hB)
/-- What else lies there stays. -/
theorem Only.rd {p q : Nat} {w w' : World} (h : Only p w w') (hne : q ≠ p) {l : List UInt8} {e : Int} (hr : Rd w q l e) : Rd w' q l e := by
  unfold Rd; rw [h.block q hr.lt (by simpa using hne)]; exact hr
theorem Rd.later {q : Nat} {w w' : World} {l : List UInt8} {e : Int} (hr : Rd w q l e) (h : Below w.heap.size w w') : Rd w' q l e := by
  unfold Rd; rw [h.block q hr.lt]; exact hr

set_option maxRecDepth 100000 in
set_option maxHeartbeats 1000000 in
/-- A reader of a text. -/
theorem of_any (l : List UInt8) (w : World) : Calls Try.prog 43 #[.string (bs l)] w fun e w' => e = .returned (.pointer (some ⟨w.heap.size, 0, none⟩)) ∧ Rd w' w.heap.size l 0 ∧ Below w.heap.size w w' ∧ w.heap.size < w'.heap.size := by
  go_enter Try.func43, Try.ntmps43
  go_wp2
  go_ret
  refine ⟨rfl, ?_, (Below.refl _ _).alloc (by simp) _, by simp⟩
  unfold Rd
  exact heap_alloc_new w _

/-- The reader fails, if it has not. -/
def rdFail (l : List UInt8) (e x : Int) : List UInt8 × Int := if e = 0 then ([], x) else (l, e)
set_option maxRecDepth 100000 in
set_option maxHeartbeats 1000000 in
theorem fail_any (p : Nat) (l : List UInt8) (e x : Int) (w : World) (hr : Rd w p l e) :
    Calls Try.prog 87 #[.pointer (some ⟨p, 0, none⟩), .int .i64 x] w fun en w' => en = .returned (.tuple #[]) ∧ Rd w' p (rdFail l e x).1 (rdFail l e x).2 ∧ Only p w w' := by
  have c0 := hr.c0
  have c1 := hr.c1
  have f0 := hr.f0
  have f1 := hr.f1
  have HR := Lib.hid hr; clear hr
  by_cases he : e = 0
  · subst he
    go_enter Try.func87, Try.ntmps87
    go_wp2
    go_end0
    exact ⟨rfl, (HR.out.set0 []).set1 x, (Only.set p w 0 _).trans (Only.set p _ 1 _)⟩
  · have he' : (e == 0) = false := by simp [he]
    have hv : rdFail l e x = (l, e) := by unfold rdFail; rw [if_neg he]
    rw [hv]
    clear he hv
    go_enter Try.func87, Try.ntmps87
    go_wp2
    go_end0
    exact ⟨rfl, HR.out, Only.refl _ _⟩
end Go.Proofs.Ytecoomkpkdapdaa
