/- wire: the walks of WireNil and WirePuts. -/
import Derived.Test.YtknahemnmboidaaW4
import Derived.OpenShut
set_option linter.unusedVariables false
namespace Go.Proofs.Ytknahemnmboidaa
open Go.RowKit

set_option maxRecDepth 100000 in
set_option maxHeartbeats 2000000 in
theorem WireNil_walk (n : Int) (w : World) (hn : (Lit.int .i64 n).wf = true) :
    Calls Try.prog 12 #[.int .i64 n] w fun e w' => e = .returned (.bool true) ∧ Below w.heap.size w w' := by
  have hbs : bs [] = ⟨#[]⟩ := rfl
  clear hn
  go_enter Try.func12, Try.ntmps12
  go_wp2_with (first
    | (go_at_call 55; refine (bad_nil _).mono ?_; rintro en w' ⟨rfl, rfl⟩)
    | (go_at_call 47; refine (U8_nil _).mono ?_; rintro en w' ⟨rfl, rfl⟩)
    | (go_at_call 49; refine (U16_nil _).mono ?_; rintro en w' ⟨rfl, rfl⟩)
    | (go_at_call 50; refine (U32_nil _).mono ?_; rintro en w' ⟨rfl, rfl⟩)
    | (go_at_call 51; refine (U64_nil _).mono ?_; rintro en w' ⟨rfl, rfl⟩)
    | (go_at_call 52; refine (text_nil _ _).mono ?_; rintro en w' ⟨rfl, rfl⟩)
    | (go_at_call 54; refine (rest_nil _).mono ?_; rintro en w' ⟨rfl, rfl⟩)
    | (go_at_call 44; refine (left_nil _).mono ?_; rintro en w' ⟨rfl, rfl⟩)
    | (go_at_call 42; refine (err_nil _).mono ?_; rintro en w' ⟨rfl, rfl⟩)
    | (go_at_call 46; refine (end_nil _).mono ?_; rintro en w' ⟨rfl, rfl⟩)
    | (go_at_call 28; refine (wakesW_any _).mono ?_; rintro en w' ⟨rfl, hb⟩))
  go_ret
  exact ⟨rfl, hb⟩
end Go.Proofs.Ytknahemnmboidaa
