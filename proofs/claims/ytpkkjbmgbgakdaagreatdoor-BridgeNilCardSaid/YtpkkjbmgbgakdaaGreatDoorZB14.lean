/- ZB14: the texts F0, F1 as one. -/
import Derived.Test.YtpkkjbmgbgakdaaGreatDoorZB13
import Derived.Test.YtpkkjbmgbgakdaaGreatDoorZB05
import Derived.Lib.SmallJoins
import Derived.Deep.DeepCutAuto
import Derived.Deep.CutBlock
import Derived.Deep.MidRow
/- frame: may, Len, plain. -/
set_option linter.unusedVariables false
namespace Go.Proofs.YtpkkjbmgbgakdaaGreatDoor
open Go.RowKit

/-- May a frame be, but for its length? -/
def mayF (t : Bool) (p v y : Int) : Bool := if t = true then (decide (p < 8) && decide (v < 4096)) else ((p == 0) && ((v == 0) && (y != 33024)))
/-- How many bytes it has. -/
def lenF (t : Bool) (d : List UInt8) : Int := (if t = true then 18 else 14) + (d.length : Int)
/-- A number's byte. -/
def byt (a : Int) : UInt8 := UInt8.ofNat a.toNat
theorem byt_nat (a : Int) (h : 0 ≤ a ∧ a < 256) : ((byt a).toNat : Int) = a := by
  unfold byt; simp; omega
theorem byteV_byt (a : Int) (h : 0 ≤ a ∧ a < 256) : byteV (byt a) = .int .u8 a := by unfold byteV; rw [byt_nat a h]
/-- An address's bytes. -/
def byM (a b c d e f : Int) : List UInt8 := [byt a, byt b, byt c, byt d, byt e, byt f]
theorem src6 {W : World} {p o n : Nat} {a b c d e f : Int} (h0 : W.cell? ⟨p, o, none⟩ = some (.int .u8 a)) (h1 : W.cell? ⟨p, o + 1, none⟩ = some (.int .u8 b)) (h2 : W.cell? ⟨p, o + 2, none⟩ = some (.int .u8 c)) (h3 : W.cell? ⟨p, o + 3, none⟩ = some (.int .u8 d)) (h4 : W.cell? ⟨p, o + 4, none⟩ = some (.int .u8 e)) (h5 : W.cell? ⟨p, o + 5, none⟩ = some (.int .u8 f)) (hw : wfM a b c d e f) : Src W (.slice (some ⟨p, o, none⟩) 6 n) (byM a b c d e f) := by
  obtain ⟨w0, w1, w2, w3, w4, w5⟩ := hw
  refine .inr ⟨⟨p, o, none⟩, n, rfl, fun j hj => ?_⟩
  have hj6 : j < 6 := hj
  rw [Go.WideShapes.add_plain]
  have : j = 0 ∨ j = 1 ∨ j = 2 ∨ j = 3 ∨ j = 4 ∨ j = 5 := by omega
  rcases this with rfl | rfl | rfl | rfl | rfl | rfl
  · exact h0.trans (congrArg some (byteV_byt a w0).symm)
  · exact h1.trans (congrArg some (byteV_byt b w1).symm)
  · exact h2.trans (congrArg some (byteV_byt c w2).symm)
  · exact h3.trans (congrArg some (byteV_byt d w3).symm)
  · exact h4.trans (congrArg some (byteV_byt e w4).symm)
  · exact h5.trans (congrArg some (byteV_byt f w5).symm)

set_option maxRecDepth 100000 in
set_option maxHeartbeats 4000000 in
theorem may_any (x0 x1 x2 x3 x4 x5 x6 x7 x8 x9 x10 x11 xt xp xv xy xd) (w : World) : Calls Tryz.prog 145 #[.agg #[.int .u8 x0, .int .u8 x1, .int .u8 x2, .int .u8 x3, .int .u8 x4, .int .u8 x5, .int .u8 x6, .int .u8 x7, .int .u8 x8, .int .u8 x9, .int .u8 x10, .int .u8 x11, .bool xt, .int .u8 xp, .int .u16 xv, .int .u16 xy, .string (bs xd)]] w fun en w' => en = .returned (.bool (mayF xt xp xv xy)) ∧ Below w.heap.size w w' := by
  obtain ⟨R, hR⟩ : ∃ R, mayF xt xp xv xy = R := ⟨_, rfl⟩
  have HR := Lib.hid hR
  rw [hR]; clear hR
  cases xt with
  | true =>
    have hR : R = (decide (xp < 8) && decide (xv < 4096)) := by rw [← HR.out]; rfl
    have HRR := Lib.hid hR
    clear hR
    go_enter Tryz.func145, Tryz.ntmps145
    cases h1 : decide (xp < 8) with
    | true =>
      go_wp2
      go_ret
      exact ⟨by rw [HRR.out, h1]; rfl, (Below.refl _ _).alloc (Nat.le_refl _) _⟩
    | false =>
      go_wp2
      go_ret
      exact ⟨by rw [HRR.out, h1]; rfl, (Below.refl _ _).alloc (Nat.le_refl _) _⟩
  | false =>
    have hR : R = ((xp == 0) && ((xv == 0) && (xy != 33024))) := by rw [← HR.out]; rfl
    have HRR := Lib.hid hR
    clear hR
    cases h1 : (xp == 0) with
    | true =>
      cases h2 : (xv == 0) with
      | true =>
        go_enter Tryz.func145, Tryz.ntmps145
        go_wp2
        go_ret
        exact ⟨by rw [HRR.out, h1, h2]; rfl, (Below.refl _ _).alloc (Nat.le_refl _) _⟩
      | false =>
        go_enter Tryz.func145, Tryz.ntmps145
        go_wp2
        go_ret
        exact ⟨by rw [HRR.out, h1, h2]; rfl, (Below.refl _ _).alloc (Nat.le_refl _) _⟩
    | false =>
      go_enter Tryz.func145, Tryz.ntmps145
      go_wp2
      go_ret
      exact ⟨by rw [HRR.out, h1]; rfl, (Below.refl _ _).alloc (Nat.le_refl _) _⟩

set_option maxRecDepth 100000 in
set_option maxHeartbeats 4000000 in
theorem len_any (x0 x1 x2 x3 x4 x5 x6 x7 x8 x9 x10 x11 xt xp xv xy xd) (w : World) (hd : xd.length ≤ 1000000) : Calls Tryz.prog 146 #[.agg #[.int .u8 x0, .int .u8 x1, .int .u8 x2, .int .u8 x3, .int .u8 x4, .int .u8 x5, .int .u8 x6, .int .u8 x7, .int .u8 x8, .int .u8 x9, .int .u8 x10, .int .u8 x11, .bool xt, .int .u8 xp, .int .u16 xv, .int .u16 xy, .string (bs xd)]] w fun en w' => en = .returned (.int .i64 (lenF xt xd)) ∧ Below w.heap.size w w' := by
  have hs := bs_size xd
  cases xt with
  | true =>
    go_enter Tryz.func146, Tryz.ntmps146
    go_wp2
    go_ret
    exact ⟨rfl, (Below.refl _ _).alloc (Nat.le_refl _) _⟩
  | false =>
    go_enter Tryz.func146, Tryz.ntmps146
    go_wp2
    go_ret
    exact ⟨rfl, (Below.refl _ _).alloc (Nat.le_refl _) _⟩
end Go.Proofs.YtpkkjbmgbgakdaaGreatDoor

/- frame: Put, walked. -/
set_option linter.unusedVariables false
namespace Go.Proofs.YtpkkjbmgbgakdaaGreatDoor
open Go.RowKit

/-- A frame's bytes. -/
def byF (x0 x1 x2 x3 x4 x5 x6 x7 x8 x9 x10 x11 : Int) (t : Bool) (p v y : Int) (d : List UInt8) : List UInt8 :=
  byM x0 x1 x2 x3 x4 x5 ++ byM x6 x7 x8 x9 x10 x11 ++ (if t = true then be 2 33024 ++ be 2 (p * 8192 + v) else []) ++ be 2 y ++ d
/-- Put: the bytes, and the error. -/
def putF (x0 x1 x2 x3 x4 x5 x6 x7 x8 x9 x10 x11 : Int) (t : Bool) (p v y : Int) (d : List UInt8) : List UInt8 × Int :=
  if mayF t p v y = true then (if 1522 < lenF t d then ([], 5) else (byF x0 x1 x2 x3 x4 x5 x6 x7 x8 x9 x10 x11 t p v y d, 0)) else ([], 2)
/-- A frame's numbers are in their bounds. -/
def wfF (x0 x1 x2 x3 x4 x5 x6 x7 x8 x9 x10 x11 : Int) (p v y : Int) : Prop := wfM x0 x1 x2 x3 x4 x5 ∧ wfM x6 x7 x8 x9 x10 x11 ∧ (0 ≤ p ∧ p < 256) ∧ (0 ≤ v ∧ v < 65536) ∧ (0 ≤ y ∧ y < 65536)
/-- A frame's cells, unopened, in a block. -/
def FB (W : World) (q : Nat) (A : Array Value) : Prop := W.heap[q]? = some (.cells A 68 (0, 0))
theorem FB.lt {W : World} {q : Nat} {A : Array Value} (h : FB W q A) : q < W.heap.size := lt_of_heap h
theorem FB.below {W W' : World} {q B : Nat} {A : Array Value} (h : FB W q A) (hq : q < B) (hb : Below B W W') : FB W' q A := by
  unfold FB; rw [hb.block q hq]; exact h
theorem FB.later {W W' : World} {q : Nat} {A : Array Value} (h : FB W q A) (hb : Below W.heap.size W W') : FB W' q A := h.below h.lt hb
theorem FB.c {W : World} {q : Nat} {A : Array Value} (h : FB W q A) (j : Nat) (v : Value) (hv : A[j]? = some v) : W.cell? ⟨q, j, none⟩ = some v := by
  unfold FB at h; simp [World.cell?, h, hv]
theorem FB.range {W : World} {q : Nat} {A : Array Value} (h : FB W q A) : W.rangeAt q 0 A.toList := fun j v hv => by
  rw [Nat.zero_add]; exact h.c j v (by simpa using hv)
theorem FB.new (W : World) (A : Array Value) : FB (W.alloc (.cells A 68)) W.heap.size A := heap_alloc_new W _
theorem or_vid (p v : Int) (hp : 0 ≤ p ∧ p < 8) (hv : 0 ≤ v ∧ v < 4096) : bits .or .u16 (p * 8192) v = p * 8192 + v := by
  obtain ⟨n, rfl⟩ : ∃ n : Nat, p = n := ⟨p.toNat, by omega⟩
  obtain ⟨m, rfl⟩ : ∃ m : Nat, v = m := ⟨v.toNat, by omega⟩
  have e2 : bits BinOp.or IntKind.u16 ((n : Int) * 8192) (m : Int) = ((n * 8192 ||| m : Nat) : Int) := by
    have := u16_or ((n : Int) * 8192) (m : Int) (by omega) (by omega) (by omega) (by omega)
    rw [this]
    congr 2
  rw [e2]
  have e3 : n * 8192 ||| m = n * 8192 + m := by
    have := Nat.two_pow_add_eq_or_of_lt (i := 13) (b := m) (by omega) n
    rw [show n * 8192 = 2 ^ 13 * n by omega]
    exact this.symm
  rw [e3]
  simp
end Go.Proofs.YtpkkjbmgbgakdaaGreatDoor
