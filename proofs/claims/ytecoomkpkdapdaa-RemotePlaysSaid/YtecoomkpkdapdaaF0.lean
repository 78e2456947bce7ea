/- frame: may, Len, plain. -/
import Derived.Test.YtecoomkpkdapdaaK5
import Derived.Test.YtecoomkpkdapdaaRK
import Derived.Test.YtecoomkpkdapdaaRM
import Derived.Lib.SmallJoins
set_option linter.unusedVariables false
namespace Go.Proofs.Ytecoomkpkdapdaa
open Go.RowKit

/-- May a frame be, but for its length? -/
def mayF (t : Bool) (p v y : Int) : Bool := if t = true then (decide (p < 8) && decide (v < 4096)) else ((p == 0) && ((v == 0) && (y != 33024)))
/-- How many bytes it has. -/
def lenF (t : Bool) (d : List UInt8) : Int := (if t = true then 18 else 14) + (d.length : Int)
/-- A number's byte. -/
def byt (a : Int) : UInt8 := UInt8.ofNat a.toNat
theorem byt_nat (a : Int) (h : 0 ≤ a ∧ a < 256) : ((byt a).toNat : Int) = a := by
  unfold byt; simp; omega
theorem byteV_byt (a : Int) (h : 0 ≤ a ∧ a < 256) : byteV (byt a) = .int .u8 a := by unfold byteV; rw [byt_nat a h]
/-- An address's bytes. -/
def byM (a b c d e f : Int) : List UInt8 := [byt a, byt b, byt c, byt d, byt e, byt f]
theorem src6 {W : World} {p o n : Nat} {a b c d e f : Int} (h0 : W.cell? ⟨p, o, none⟩ = some (.int .u8 a)) (h1 : W.cell? ⟨p, o + 1, none⟩ = some (.int .u8 b)) (h2 : W.cell? ⟨p, o + 2, none⟩ = some (.int .u8 c)) (h3 : W.cell? ⟨p, o + 3, none⟩ = some (.int .u8 d)) (h4 : W.cell? ⟨p, o + 4, none⟩ = some (.int .u8 e)) (h5 : W.cell? ⟨p, o + 5, none⟩ = some (.int .u8 f)) (hw : wfM a b c d e f) : Src W (.slice (some ⟨p, o, none⟩) 6 n) (byM a b c d e f) := by
  obtain ⟨w0, w1, w2, w3, w4, w5⟩ := hw
  refine .inr ⟨⟨p, o, none⟩, n, rfl, fun j hj => ?_⟩
  have hj6 : j < 6 := hj
  rw [Go.WideShapes.add_plain]
  have : j = 0 ∨ j = 1 ∨ j = 2 ∨ j = 3 ∨ j = 4 ∨ j = 5 := by omega
  rcases this with rfl | rfl | rfl | rfl | rfl | rfl
  · exact h0.trans (congrArg some (byteV_byt a w0).symm)
  · exact h1.trans (congrArg some (byteV_byt b w1).symm)
  · exact h2.trans (congrArg some (byteV_byt c w2).symm)
  · exact h3.trans (congrArg some (byteV_byt d w3).symm)
  · exact h4.trans (congrArg some (byteV_byt e w4).symm)
  · exact h5.trans (congrArg some (byteV_byt f w5).symm)

set_option maxRecDepth 100000 in
set_option maxHeartbeats 4000000 in
theorem may_any (x0 x1 x2 x3 x4 x5 x6 x7 x8 x9 x10 x11 xt xp xv xy xd) (w : World) : Calls Try.prog 88 #[.agg #[.int .u8 x0, .int .u8 x1, .int .u8 x2, .int .u8 x3, .int .u8 x4, .int .u8 x5, .int .u8 x6, .int .u8 x7, .int .u8 x8, .int .u8 x9, .int .u8 x10, .int .u8 x11, .bool xt, .int .u8 xp, .int .u16 xv, .int .u16 xy, .string (bs xd)]] w fun en w' => en = .returned (.bool (mayF xt xp xv xy)) ∧ Below w.heap.size w w' := by
  obtain ⟨R, hR⟩ : ∃ R, mayF xt xp xv xy = R := ⟨_, rfl⟩
  have HR := Lib.hid hR
  rw [hR]; clear hR
  cases xt with
  | true =>
    have hR : R = (decide (xp < 8) && decide (xv < 4096)) := by rw [← HR.out]; rfl
    have HRR := Lib.hid hR
    clear hR
    go_enter Try.func88, Try.ntmps88
    cases h1 : decide (xp < 8) with
    | true =>
      go_wp2
      go_ret
      exact ⟨by rw [HRR.out, h1]; rfl, (Below.refl _ _).alloc (Nat.le_refl _) _⟩
    | false =>
      go_wp2
      go_ret
      exact ⟨by rw [HRR.out, h1]; rfl, (Below.refl _ _).alloc (Nat.le_refl _) _⟩
  | false =>
    have hR : R = ((xp == 0) && ((xv == 0) && (xy != 33024))) := by rw [← HR.out]; rfl
    have HRR := Lib.hid hR
    clear hR
    cases h1 : (xp == 0) with
    | true =>
      cases h2 : (xv == 0) with
      | true =>
        go_enter Try.func88, Try.ntmps88
        go_wp2
        go_ret
        exact ⟨by rw [HRR.out, h1, h2]; rfl, (Below.refl _ _).alloc (Nat.le_refl _) _⟩
      | false =>
        go_enter Try.func88, Try.ntmps88
        go_wp2
        go_ret
        exact ⟨by rw [HRR.out, h1, h2]; rfl, (Below.refl _ _).alloc (Nat.le_refl _) _⟩
    | false =>
      go_enter Try.func88, Try.ntmps88
      go_wp2
      go_ret
      exact ⟨by rw [HRR.out, h1]; rfl, (Below.refl _ _).alloc (Nat.le_refl _) _⟩

set_option maxRecDepth 100000 in
set_option maxHeartbeats 4000000 in
theorem refMay_any (x0 x1 x2 x3 x4 x5 x6 x7 x8 x9 x10 x11 xt xp xv xy xd) (w : World) : Calls Try.prog 94 #[.agg #[.int .u8 x0, .int .u8 x1, .int .u8 x2, .int .u8 x3, .int .u8 x4, .int .u8 x5, .int .u8 x6, .int .u8 x7, .int .u8 x8, .int .u8 x9, .int .u8 x10, .int .u8 x11, .bool xt, .int .u8 xp, .int .u16 xv, .int .u16 xy, .string (bs xd)]] w fun en w' => en = .returned (.bool (mayF xt xp xv xy)) ∧ Below w.heap.size w w' := by
  obtain ⟨R, hR⟩ : ∃ R, mayF xt xp xv xy = R := ⟨_, rfl⟩
  have HR := Lib.hid hR
  rw [hR]; clear hR
  cases xt with
  | true =>
    have hR : R = (decide (xp ≤ 7) && decide (xv ≤ 4095)) := by
      rw [← HR.out]; unfold mayF; rw [if_pos rfl]
      rw [show decide (xp < 8) = decide (xp ≤ 7) from decide_eq_decide.2 (by omega), show decide (xv < 4096) = decide (xv ≤ 4095) from decide_eq_decide.2 (by omega)]
    have HRR := Lib.hid hR
    clear hR
    go_enter Try.func94, Try.ntmps94
    cases h1 : decide (xp ≤ 7) with
    | true =>
      go_wp2
      go_ret
      exact ⟨by rw [HRR.out, h1]; rfl, (Below.refl _ _).alloc (Nat.le_refl _) _⟩
    | false =>
      go_wp2
      go_ret
      exact ⟨by rw [HRR.out, h1]; rfl, (Below.refl _ _).alloc (Nat.le_refl _) _⟩
  | false =>
    have hR : R = ((xp == 0) && ((xv == 0) && (xy != 33024))) := by rw [← HR.out]; rfl
    have HRR := Lib.hid hR
    clear hR
    cases h1 : (xp == 0) with
    | true =>
      cases h2 : (xv == 0) with
      | true =>
        go_enter Try.func94, Try.ntmps94
        go_wp2
        go_ret
        exact ⟨by rw [HRR.out, h1, h2]; rfl, (Below.refl _ _).alloc (Nat.le_refl _) _⟩
      | false =>
        go_enter Try.func94, Try.ntmps94
        go_wp2
        go_ret
        exact ⟨by rw [HRR.out, h1, h2]; rfl, (Below.refl _ _).alloc (Nat.le_refl _) _⟩
    | false =>
      go_enter Try.func94, Try.ntmps94
      go_wp2
      go_ret
      exact ⟨by rw [HRR.out, h1]; rfl, (Below.refl _ _).alloc (Nat.le_refl _) _⟩

set_option maxRecDepth 100000 in
set_option maxHeartbeats 4000000 in
theorem len_any (x0 x1 x2 x3 x4 x5 x6 x7 x8 x9 x10 x11 xt xp xv xy xd) (w : World) (hd : xd.length ≤ 1000000) : Calls Try.prog 89 #[.agg #[.int .u8 x0, .int .u8 x1, .int .u8 x2, .int .u8 x3, .int .u8 x4, .int .u8 x5, .int .u8 x6, .int .u8 x7, .int .u8 x8, .int .u8 x9, .int .u8 x10, .int .u8 x11, .bool xt, .int .u8 xp, .int .u16 xv, .int .u16 xy, .string (bs xd)]] w fun en w' => en = .returned (.int .i64 (lenF xt xd)) ∧ Below w.heap.size w w' := by
  have hs := bs_size xd
  cases xt with
  | true =>
    go_enter Try.func89, Try.ntmps89
    go_wp2
    go_ret
    exact ⟨rfl, (Below.refl _ _).alloc (Nat.le_refl _) _⟩
  | false =>
    go_enter Try.func89, Try.ntmps89
    go_wp2
    go_ret
    exact ⟨rfl, (Below.refl _ _).alloc (Nat.le_refl _) _⟩
end Go.Proofs.Ytecoomkpkdapdaa
