/- maid: the walk of Take. -/
import Derived.Test.YtecoomkpkdapdaaRK
import Derived.Test.YtecoomkpkdapdaaP4
set_option linter.unusedVariables false
namespace Go.Proofs.Ytecoomkpkdapdaa
open Go.RowKit

set_option maxRecDepth 100000 in
set_option maxHeartbeats 4000000 in
theorem tpart_any (q p : Nat) (l : List UInt8) (e : Int) (w : World) (hr : Rd w p l e) (hc : w.cell? ⟨q, 0, none⟩ = some (.pointer (some ⟨p, 0, none⟩))) (hq : q < w.heap.size) (hne : q ≠ p) (hl : l.length ≤ 9223372036854775807) :
    Calls Try.prog 131 #[.pointer (some ⟨q, 0, none⟩)] w fun en w' => en = .returned (.string (bs (tkPart l e).1)) ∧ Rd w' p (tkPart l e).2.1 (tkPart l e).2.2 ∧ Only p w w' := by
  have HR := Lib.hid hr; clear hr
  have h1 := numOf_lt (rdText l e 1).1 1 256 (rdText_len l e 1) (by decide)
  have h0 := (numOf_bd (rdText l e 1).1).1
  have hle := rd_le l e 1
  obtain ⟨x, hx⟩ : ∃ x, numOf (rdText l e 1).1 = x := ⟨_, rfl⟩
  have hT : tkPart l e = rdText (rdText l e 1).2.1 (rdText l e 1).2.2 x := by unfold tkPart; rw [hx]
  have HU : Hid (∀ w, Rd w p l e → Calls Try.prog 44 #[.pointer (some ⟨p, 0, none⟩)] w fun en w' => en = .returned (.int .u8 x) ∧ Rd w' p (rdText l e 1).2.1 (rdText l e 1).2.2 ∧ Only p w w') := by
    rw [← hx]; exact fun w hr => U8_any p l e w hr hl
  rw [hx] at h1 h0
  have HX : Hid (∀ w, Rd w p (rdText l e 1).2.1 (rdText l e 1).2.2 → Calls Try.prog 49 #[.pointer (some ⟨p, 0, none⟩), .int .i64 x] w fun en w' => en = .returned (.string (bs (tkPart l e).1)) ∧ Rd w' p (tkPart l e).2.1 (tkPart l e).2.2 ∧ Only p w w') := by
    rw [hT]; exact fun w hr => text_any p _ _ x w hr (by omega)
  have hwx : IntKind.i64.wrap x = x := IntWalk.i64_in _ (by omega)
  clear hx hT hle
  go_enter Try.func131, Try.ntmps131
  go_wp2_with fail
  go_region_law (first
    | (go_simp; go_at_call 44; (with_reducible refine (HU.out _ ?_).mono ?_); exact HR.out; rintro en w1 ⟨rfl, hr1, ho1⟩; have hc1 := (ho1.cell hq hne).trans hc)
    | (go_simp; go_at_call 49; (with_reducible refine (HX.out _ ?_).mono ?_); exact hr1; rintro en w2 ⟨rfl, hr2, ho2⟩))
  all_goals go_wp2_with fail
  all_goals go_ret
  all_goals exact ⟨rfl, hr2, Only.undrew (ho1.trans ho2)⟩
end Go.Proofs.Ytecoomkpkdapdaa
