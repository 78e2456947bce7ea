/- mac: the number, the reference's number, level, reserved. -/
import Derived.Test.YtknahemnmboidaaM12
import Derived.Test.YtknahemnmboidaaM11
import Derived.Test.YtknahemnmboidaaW5
import Derived.Test.YtknahemnmboidaaK2
set_option linter.unusedVariables false
namespace Go.Proofs.Ytknahemnmboidaa
open Go.RowKit

/-- A number's byte. -/
def byt (a : Int) : UInt8 := UInt8.ofNat a.toNat
theorem byt_nat (a : Int) (h : 0 ≤ a ∧ a < 256) : ((byt a).toNat : Int) = a := by
  unfold byt; simp; omega
theorem byteV_byt (a : Int) (h : 0 ≤ a ∧ a < 256) : byteV (byt a) = .int .u8 a := by unfold byteV; rw [byt_nat a h]
/-- An address's bytes. -/
def byM (a b c d e f : Int) : List UInt8 := [byt a, byt b, byt c, byt d, byt e, byt f]
theorem MA.src {W : World} {p n : Nat} {a b c d e f : Int} (h : MA W p a b c d e f) (hw : wfM a b c d e f) : Src W (.slice (some ⟨p, 0, none⟩) 6 n) (byM a b c d e f) := by
  obtain ⟨h0, h1, h2, h3, h4, h5⟩ := h
  obtain ⟨w0, w1, w2, w3, w4, w5⟩ := hw
  refine .inr ⟨⟨p, 0, none⟩, n, rfl, fun j hj => ?_⟩
  have hj6 : j < 6 := hj
  rw [Go.WideShapes.add_plain]
  have : j = 0 ∨ j = 1 ∨ j = 2 ∨ j = 3 ∨ j = 4 ∨ j = 5 := by omega
  rcases this with rfl | rfl | rfl | rfl | rfl | rfl
  · exact h0.trans (congrArg some (byteV_byt a w0).symm)
  · exact h1.trans (congrArg some (byteV_byt b w1).symm)
  · exact h2.trans (congrArg some (byteV_byt c w2).symm)
  · exact h3.trans (congrArg some (byteV_byt d w3).symm)
  · exact h4.trans (congrArg some (byteV_byt e w4).symm)
  · exact h5.trans (congrArg some (byteV_byt f w5).symm)
theorem numOf_byM {a b c d e f : Int} (hw : wfM a b c d e f) : numOf (rdText (0 :: 0 :: byM a b c d e f) 0 8).1 = numM a b c d e f := by
  obtain ⟨w0, w1, w2, w3, w4, w5⟩ := hw
  have h : (rdText (0 :: 0 :: byM a b c d e f) 0 8).1 = 0 :: 0 :: byM a b c d e f := rfl
  rw [h]
  simp [numOf, byM, byt_nat, w0, w1, w2, w3, w4, w5, numM]

set_option maxRecDepth 100000 in
set_option maxHeartbeats 4000000 in
theorem number_any (a b c d e f : Int) (w : World) (h : wfM a b c d e f) : Calls Try.prog 60 #[.agg #[.int .u8 a, .int .u8 b, .int .u8 c, .int .u8 d, .int .u8 e, .int .u8 f]] w fun en w' => en = .returned (.int .u64 (numM a b c d e f)) ∧ Below w.heap.size w w' := by
  have hstr := run_string_src ((MA.new w a b c d e f).src (n := 6) h)
  have hadd : ({ data := #[0, 0] } : ByteArray) ++ bs (byM a b c d e f) = bs (0 :: 0 :: byM a b c d e f) := bs_append [0, 0] _
  go_enter Try.func60, Try.ntmps60
  go_wp2_with fail
  refine (of_any _ _).mono ?_
  rintro en w1 ⟨rfl, hr, hb, hlt⟩
  simp only [World.size_alloc] at hr hlt
  go_wp2_with fail
  refine (U64_any _ _ 0 _ hr (by simp [byM])).mono ?_
  rw [numOf_byM h]
  rintro en w2 ⟨rfl, hr2, ho2⟩
  have hz := hb.size
  simp at hz hlt
  have HB := Lib.hid ((((Below.refl _ _).alloc (Nat.le_refl _) _).trans (hb.mono (by simp))).trans (ho2.below (B := w.heap.size) (by simp) (by omega)))
  clear hr hr2 ho2 hb hstr hadd
  go_wp2
  go_ret
  exact ⟨rfl, HB.out⟩

set_option maxRecDepth 100000 in
set_option maxHeartbeats 4000000 in
theorem refNumber_any (a b c d e f : Int) (w : World) (h : wfM a b c d e f) : Calls Try.prog 61 #[.agg #[.int .u8 a, .int .u8 b, .int .u8 c, .int .u8 d, .int .u8 e, .int .u8 f]] w fun en w' => en = .returned (.int .u64 (numM a b c d e f)) ∧ Below w.heap.size w w' := by
  obtain ⟨⟨a0, a1⟩, ⟨b0, b1⟩, ⟨c0, c1⟩, ⟨d0, d1⟩, ⟨e0, e1⟩, ⟨f0, f1⟩⟩ := h
  go_enter Try.func61, Try.ntmps61
  go_wp2_with fail
  refine wp_loop_rounds 7 ?_
  iterate 7 (rw [rounds_succ]; go_wp2)
  go_ret
  exact ⟨rfl, (Below.refl _ _).alloc (by simp) _⟩
end Go.Proofs.Ytknahemnmboidaa
