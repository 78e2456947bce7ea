/- frame: the walk of Take. -/
import Derived.Test.YtblmpndaofhmjaaF4
import Derived.Test.YtblmpndaofhmjaaF2
set_option linter.unusedVariables false
namespace Go.Proofs.Ytblmpndaofhmjaa
open Go.RowKit

theorem nat_and12 (m : Nat) : m &&& 2 ^ 12 = m / 2 ^ 12 % 2 * 2 ^ 12 := by
  apply Nat.eq_of_testBit_eq
  intro i
  rw [Nat.testBit_and, Nat.testBit_two_pow]
  have h2 : m / 2 ^ 12 % 2 = 0 ∨ m / 2 ^ 12 % 2 = 1 := by omega
  by_cases hi : 12 = i
  · subst hi
    rcases h2 with h2 | h2
    · rw [Nat.testBit_eq_decide_div_mod_eq, h2]; rfl
    · rw [Nat.testBit_eq_decide_div_mod_eq, h2]; rfl
  · rw [decide_eq_false hi, Bool.and_false]
    rcases h2 with h2 | h2
    · rw [h2]; simp
    · rw [h2, Nat.one_mul, Nat.testBit_two_pow, decide_eq_false hi]
theorem and_free (n : Int) (h0 : 0 ≤ n) (h1 : n < 65536) : bits .and .u16 n 4096 = n / 4096 % 2 * 4096 := by
  obtain ⟨m, rfl⟩ : ∃ m : Nat, n = m := ⟨n.toNat, by omega⟩
  rw [u16_and (m : Int) 4096 (by omega) (by omega) (by omega) (by omega)]
  have e : (m : Int).toNat &&& (4096 : Int).toNat = m / 2 ^ 12 % 2 * 2 ^ 12 := nat_and12 m
  rw [e]
  omega
/-- The frame of no bytes. -/
def frZ : Array Value := #[.int .u8 0, .int .u8 0, .int .u8 0, .int .u8 0, .int .u8 0, .int .u8 0, .int .u8 0, .int .u8 0, .int .u8 0, .int .u8 0, .int .u8 0, .int .u8 0, .bool false, .int .u8 0, .int .u16 0, .int .u16 0, .string { data := #[] }]
/-- A frame's cells, of the texts of its addresses. -/
def frC (a b : List UInt8) (t : Bool) (p v y : Int) (d : List UInt8) : Array Value := #[.int .u8 (adI a 0), .int .u8 (adI a 1), .int .u8 (adI a 2), .int .u8 (adI a 3), .int .u8 (adI a 4), .int .u8 (adI a 5), .int .u8 (adI b 0), .int .u8 (adI b 1), .int .u8 (adI b 2), .int .u8 (adI b 3), .int .u8 (adI b 4), .int .u8 (adI b 5), .bool t, .int .u8 p, .int .u16 v, .int .u16 y, .string (bs d)]
/-- The steps of Take. -/
def fr1 (s : List UInt8) := rdText s 0 6
def fr2 (s : List UInt8) := rdText (fr1 s).2.1 (fr1 s).2.2 6
def fr3 (s : List UInt8) := rdText (fr2 s).2.1 (fr2 s).2.2 2
def fr4 (s : List UInt8) := rdText (fr3 s).2.1 (fr3 s).2.2 2
def fr4b (s : List UInt8) : List UInt8 × Int := if numOf (fr4 s).1 / 4096 % 2 = 1 then rdFail (fr4 s).2.1 (fr4 s).2.2 4 else ((fr4 s).2.1, (fr4 s).2.2)
def fr5 (s : List UInt8) := rdText (fr4b s).1 (fr4b s).2 2
/-- Take: the cells, the error. -/
def tkF (s : List UInt8) : Array Value × Int :=
  if 1522 < s.length then (frZ, 5)
  else if numOf (fr3 s).1 = 33024 then
    (if (rdRest (fr5 s).2.1 (fr5 s).2.2).2.2 = 0 then (frC (fr1 s).1 (fr2 s).1 true (numOf (fr4 s).1 / 8192) (numOf (fr4 s).1 % 4096) (numOf (fr5 s).1) (rdRest (fr5 s).2.1 (fr5 s).2.2).1, 0) else (frZ, (rdRest (fr5 s).2.1 (fr5 s).2.2).2.2))
  else
    (if (rdRest (fr3 s).2.1 (fr3 s).2.2).2.2 = 0 then (frC (fr1 s).1 (fr2 s).1 false 0 0 (numOf (fr3 s).1) (rdRest (fr3 s).2.1 (fr3 s).2.2).1, 0) else (frZ, (rdRest (fr3 s).2.1 (fr3 s).2.2).2.2))
/-- One cell of a frame's block is stored. -/
theorem FB.set {W : World} {b : Nat} {A : Array Value} (h : FB W b A) (j : Nat) (v : Value) : FB (W.setCell ⟨b, j, none⟩ v) b (A.setIfInBounds j v) := by
  unfold FB at *
  rw [setCell_eq_setRow W b j A _ _ v h]
  exact setRow_heap W b _ _ _ _ h
theorem FB.free {W : World} {b : Nat} {A : Array Value} (h : FB W b A) (j : Nat) : W.frozen? ⟨b, j, none⟩ = false := by
  unfold FB at h; simp [World.frozen?, h]
theorem FB.other {W : World} {b t o : Nat} {A : Array Value} (h : FB W b A) (ht : t ≠ b) (v : Value) : FB (W.setCell ⟨t, o, none⟩ v) b A := by
  unfold FB; rw [Below.heap_setCell _ _ _ _ (by intro e; simp at e; omega)]; exact h
theorem FB.only {p b : Nat} {w w' : World} {A : Array Value} (h : FB w b A) (ho : Only p w w') (hne : b ≠ p) : FB w' b A := by
  unfold FB; rw [ho.block b h.lt (by simpa using hne)]; exact h
end Go.Proofs.Ytblmpndaofhmjaa
