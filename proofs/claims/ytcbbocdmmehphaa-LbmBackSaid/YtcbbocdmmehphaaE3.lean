/- lbm: replies. -/
import Derived.Test.YtcbbocdmmehphaaE1
import Derived.Maps.OwnOps
set_option linter.unusedVariables false
namespace Go.Proofs.Ytcbbocdmmehphaa
open Go.RowKit
open Go.Maps (Keyed int_keyed keyOf_int_mk)

/-- What 'replies' reads as. -/
def rpD : DataW Unit := ((DataW.map []).put (.int .u8 3) (.lit (.bool false))).put (.int .u8 2) (.lit (.bool true))
/-- The block of 'replies'. -/
def RMap (W : World) (b : Nat) : Prop := W.ownsMap Try.prog 5 (plainElem (H := Unit) Try.prog 4) b 2 rpD
theorem u8_keyed : Keyed Try.prog 5 := int_keyed Try.underlying5
set_option maxRecDepth 100000 in
set_option maxHeartbeats 4000000 in
theorem replies_any (w : World) : Calls Try.prog 73 #[] w fun en w' => ∃ b : Nat, en = .returned (.map (some b)) ∧ RMap w' b ∧ Below w.heap.size w w' := by
  have hm0 := World.ownsMap_made w Try.prog 5 (plainElem (H := Unit) Try.prog 4)
  obtain ⟨w1, run1, hm1, hg1⟩ := hm0.update u8_keyed Try.underlying133 (by decide) (key := .int .u8 3) (val := .bool false) (kl := .int .u8 3) (d := .lit (.bool false)) (ps := []) (keyOf_int_mk Try.underlying5 (by decide)) (plainElem_bool Try.underlying4 false)
  obtain ⟨w2, run2, hm2, hg2⟩ := hm1.update u8_keyed Try.underlying133 (by decide) (key := .int .u8 2) (val := .bool true) (kl := .int .u8 2) (d := .lit (.bool true)) (ps := []) (keyOf_int_mk Try.underlying5 (by decide)) (plainElem_bool Try.underlying4 true)
  have hb0 : Below w.heap.size w (w.alloc (.map #[] 0)) := (Below.refl _ _).alloc (Nat.le_refl _) _
  have hb1 := hb0.grown hg1 hb0.size (fun k hk => by injection hk with hk; omega)
  have hb2 := hb1.grown hg2 hb1.size (fun k hk => by injection hk with hk; omega)
  have HM := Lib.hid hm2
  have HB := Lib.hid hb2
  have run0 : (Instr.makeMap 133 none).run Try.prog w = .ok (.map (some w.heap.size)) (w.alloc (.map #[] 0)) := rfl
  clear hm0 hm1 hm2 hg1 hg2 hb0 hb1 hb2
  go_enter Try.func73, Try.ntmps73
  go_wp2
  go_ret
  exact ⟨_, rfl, HM.out, HB.out⟩
end Go.Proofs.Ytcbbocdmmehphaa
