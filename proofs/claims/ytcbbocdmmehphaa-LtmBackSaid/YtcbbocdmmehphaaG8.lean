/- ltm: TakeReply. -/
import Derived.Test.YtcbbocdmmehphaaG4
import Derived.Test.YtcbbocdmmehphaaG7
set_option linter.unusedVariables false
namespace Go.Proofs.Ytcbbocdmmehphaa
open Go.RowKit

theorem nat_andP (i m : Nat) : m &&& 2 ^ i = m / 2 ^ i % 2 * 2 ^ i := by
  apply Nat.eq_of_testBit_eq
  intro j
  rw [Nat.testBit_and, Nat.testBit_two_pow]
  have h2 : m / 2 ^ i % 2 = 0 ∨ m / 2 ^ i % 2 = 1 := by omega
  by_cases hi : i = j
  · subst hi
    rcases h2 with h2 | h2
    · rw [Nat.testBit_eq_decide_div_mod_eq, h2]; simp
    · rw [Nat.testBit_eq_decide_div_mod_eq, h2]; simp
  · rw [decide_eq_false hi, Bool.and_false]
    rcases h2 with h2 | h2
    · rw [h2]; simp
    · rw [h2, Nat.one_mul, Nat.testBit_two_pow, decide_eq_false hi]
theorem and_64 (n : Int) (h0 : 0 ≤ n) (h1 : n < 256) : bits .and .u8 n 64 = n / 64 % 2 * 64 := by
  obtain ⟨m, rfl⟩ : ∃ m : Nat, n = m := ⟨n.toNat, by omega⟩
  rw [u8_and (m : Int) 64 (by omega) (by omega) (by omega) (by omega)]
  have e : (m : Int).toNat &&& (64 : Int).toNat = m / 2 ^ 6 % 2 * 2 ^ 6 := nat_andP 6 m
  rw [e]; omega
theorem and_32 (n : Int) (h0 : 0 ≤ n) (h1 : n < 256) : bits .and .u8 n 32 = n / 32 % 2 * 32 := by
  obtain ⟨m, rfl⟩ : ∃ m : Nat, n = m := ⟨n.toNat, by omega⟩
  rw [u8_and (m : Int) 32 (by omega) (by omega) (by omega) (by omega)]
  have e : (m : Int).toNat &&& (32 : Int).toNat = m / 2 ^ 5 % 2 * 2 ^ 5 := nat_andP 5 m
  rw [e]; omega
/-- The steps. -/
def tr1 (f : List UInt8) := rdText f 0 4
def tr2 (f : List UInt8) := rdText (tr1 f).2.1 (tr1 f).2.2 1
def tr3 (f : List UInt8) := rdText (tr2 f).2.1 (tr2 f).2.2 1
def trE (f : List UInt8) : Int := (rdEnd (tr3 f).2.1 (tr3 f).2.2).2
def rp0 : Rp := ⟨0, 0, 0, false, false, mc0, mc0⟩
/-- A message's reply, and the error. -/
def tkRp (a b c : Int) (f : List UInt8) (l : List Th) : Rp × Int :=
  if numOf (tr3 f).1 = (if c / 32 % 2 = 1 then 1 else 2) ∧ trE f = 0 ∧ b = 4 ∧ (prtT l 5).2 = true ∧ (prtT l 6).2 = true then
    (⟨a, numOf (tr1 f).1, numOf (tr2 f).1, decide (c / 64 % 2 = 1), decide (c / 32 % 2 = 1), (prtT l 5).1, (prtT l 6).1⟩, 0) else (rp0, 4)
/-- The state: the reader, the message's block, the result's block. -/
structure RQ (w W : World) (x : Nat) (l : List UInt8) (e a b c : Int) (f : List UInt8) (v : Value) : Prop where
  rd : Rd W x l e
  pb : PB 32 W w.heap.size a b c f v
  pz : GB 76 W (w.heap.size + 1) #[.int .u8 0, .int .u32 0, .int .u8 0, .bool false, .bool false, .int .u8 0, .int .u8 0, .int .u8 0, .int .u8 0, .int .u8 0, .int .u8 0, .int .u8 0, .int .u8 0, .int .u8 0, .int .u8 0, .int .u8 0, .int .u8 0]
  bel : Below w.heap.size w W
  hx : w.heap.size + 1 < x
section
variable {w W W' : World} {x : Nat} {l l' f : List UInt8} {e e' a b c : Int} {v : Value}
theorem RQ.next (h : RQ w W x l e a b c f v) (hr : Rd W' x l' e') (ho : Only x W W') : RQ w W' x l' e' a b c f v :=
  ⟨hr, h.pb.only ho (by have := h.hx; omega), h.pz.only ho (by have := h.hx; omega), h.bel.trans (ho.below (by have := h.hx; omega) h.bel.size), h.hx⟩
theorem RQ.later (h : RQ w W x l e a b c f v) (hb : Below W.heap.size W W') : RQ w W' x l e a b c f v :=
  ⟨h.rd.later hb, h.pb.later hb, h.pz.later hb, h.bel.trans (hb.mono h.bel.size), h.hx⟩
theorem RQ.alloc (h : RQ w W x l e a b c f v) (o : Obj) : RQ w (W.alloc o) x l e a b c f v := h.later ((Below.refl _ _).alloc (Nat.le_refl _) o)
theorem RQ.drew (h : RQ w W x l e a b c f v) : RQ w W.drew x l e a b c f v := h.later (Below.refl _ _).drew
theorem RQ.set (h : RQ w W x l e a b c f v) {q o : Nat} (hq : x < q) (u : Value) : RQ w (W.setCell ⟨q, o, none⟩ u) x l e a b c f v :=
  ⟨h.rd.setOther (by omega) _, h.pb.other (by have := h.hx; omega) _, h.pz.other (by have := h.hx; omega) _, below_set h.bel (by have := h.hx; omega) _, h.hx⟩
theorem RQ.two (h : RQ w W x l e a b c f v) : W.cell? ⟨w.heap.size, 0, none⟩ = some (.int .u8 a) ∧ W.cell? ⟨w.heap.size, 2, none⟩ = some (.int .u8 c) := ⟨h.pb.c0, h.pb.c2⟩
theorem RQ.sets (h : RQ w W x l e a b c f v) {q : Nat} (hq : x < q) (v0 v1 v2 v3 v4 v5 v6 v7 v8 v9 v10 v11 v12 v13 v14 v15 v16 : Value) : RQ w (((((((((((((((((W.setCell ⟨q, 0, none⟩ v0).setCell ⟨q, 1, none⟩ v1).setCell ⟨q, 2, none⟩ v2).setCell ⟨q, 3, none⟩ v3).setCell ⟨q, 4, none⟩ v4).setCell ⟨q, 5, none⟩ v5).setCell ⟨q, 6, none⟩ v6).setCell ⟨q, 7, none⟩ v7).setCell ⟨q, 8, none⟩ v8).setCell ⟨q, 9, none⟩ v9).setCell ⟨q, 10, none⟩ v10).setCell ⟨q, 11, none⟩ v11).setCell ⟨q, 12, none⟩ v12).setCell ⟨q, 13, none⟩ v13).setCell ⟨q, 14, none⟩ v14).setCell ⟨q, 15, none⟩ v15).setCell ⟨q, 16, none⟩ v16) x l e a b c f v := ((((((((((((((((h.set hq v0).set hq v1).set hq v2).set hq v3).set hq v4).set hq v5).set hq v6).set hq v7).set hq v8).set hq v9).set hq v10).set hq v11).set hq v12).set hq v13).set hq v14).set hq v15).set hq v16
end
theorem GB.sets17 {W : World} {q : Nat} (h : GB 76 W q #[.int .u8 0, .int .u32 0, .int .u8 0, .bool false, .bool false, .int .u8 0, .int .u8 0, .int .u8 0, .int .u8 0, .int .u8 0, .int .u8 0, .int .u8 0, .int .u8 0, .int .u8 0, .int .u8 0, .int .u8 0, .int .u8 0]) (a nm tl : Int) (st en : Bool) : GB 76 (((((((((((((((((W.setCell ⟨q, 0, none⟩ (.int .u8 a)).setCell ⟨q, 1, none⟩ (.int .u32 nm)).setCell ⟨q, 2, none⟩ (.int .u8 tl)).setCell ⟨q, 3, none⟩ (.bool st)).setCell ⟨q, 4, none⟩ (.bool en)).setCell ⟨q, 5, none⟩ (.int .u8 0)).setCell ⟨q, 6, none⟩ (.int .u8 0)).setCell ⟨q, 7, none⟩ (.int .u8 0)).setCell ⟨q, 8, none⟩ (.int .u8 0)).setCell ⟨q, 9, none⟩ (.int .u8 0)).setCell ⟨q, 10, none⟩ (.int .u8 0)).setCell ⟨q, 11, none⟩ (.int .u8 0)).setCell ⟨q, 12, none⟩ (.int .u8 0)).setCell ⟨q, 13, none⟩ (.int .u8 0)).setCell ⟨q, 14, none⟩ (.int .u8 0)).setCell ⟨q, 15, none⟩ (.int .u8 0)).setCell ⟨q, 16, none⟩ (.int .u8 0)) q #[.int .u8 a, .int .u32 nm, .int .u8 tl, .bool st, .bool en, .int .u8 0, .int .u8 0, .int .u8 0, .int .u8 0, .int .u8 0, .int .u8 0, .int .u8 0, .int .u8 0, .int .u8 0, .int .u8 0, .int .u8 0, .int .u8 0] := by
  unfold GB at *
  simp [World.setCell, Array.getElem?_modify, h]
end Go.Proofs.Ytcbbocdmmehphaa
