/- slices.Sort at few numbers of sixteen bits. -/
import Derived.Test.YtecoomkpkdapdaaQ0
set_option linter.unusedVariables false
namespace Go.Proofs.Ytecoomkpkdapdaa
open Go.RowKit

set_option maxRecDepth 100000 in
set_option maxHeartbeats 4000000 in
theorem bitsLen64_any (n : Nat) (hn : n ≤ 12) (w : World) : Calls Try.prog 123 #[.int .u64 n] w fun en w' => (∃ v : Int, en = .returned (.int .i64 v)) ∧ w' = w := by
  rcases n with _ | _ | _ | _ | _ | _ | _ | _ | _ | _ | _ | _ | _ | n
  all_goals first
    | omega
    | (go_enter Try.func123, Try.ntmps123
       go_wp2
       go_ret
       exact ⟨⟨_, rfl⟩, rfl⟩)
set_option maxRecDepth 100000 in
set_option maxHeartbeats 4000000 in
theorem bitsLen_any (n : Nat) (hn : n ≤ 12) (w : World) : Calls Try.prog 108 #[.int .u64 n] w fun en w' => (∃ v : Int, en = .returned (.int .i64 v)) ∧ w' = w := by
  go_enter Try.func108, Try.ntmps108
  go_wp2_with (go_at_call 123; refine (bitsLen64_any n hn _).mono ?_; rintro e w' ⟨⟨v, rfl⟩, rfl⟩)
  go_ret
  exact ⟨⟨_, rfl⟩, rfl⟩
set_option maxRecDepth 100000 in
set_option maxHeartbeats 4000000 in
theorem pdq_any (g cap : Nat) (l : List Int) (t : List Value) (n : Nat) (v : Int) (w : World) (hn : l.length = n) (hl : n ≤ 12) (h : RowU w g l t) :
    Calls Try.prog 107 #[.slice (some ⟨g, 0, none⟩) n cap, .int .i64 0, .int .i64 n, .int .i64 v] w fun en w' => en = .returned (.tuple #[]) ∧ ∃ s : List Int, s.Perm l ∧ s.Pairwise (· ≤ ·) ∧ RowU w' g s t ∧ Only g w w' := by
  go_enter Try.func107, Try.ntmps107
  go_wp2
  go_loopw [1, 2] (fun a b wr => a = .int .i64 0 ∧ b = .int .i64 n ∧ wr = w) (fun _ _ _ => 0)
  case atStart => exact ⟨rfl, rfl, rfl⟩
  case round =>
    obtain ⟨rfl, rfl, rfl⟩ := hrel
    have hle : (n : Int) ≤ 12 := by omega
    go_wp2_with (go_at_call 113; refine (isort_any g cap l t n _ hn hl h).mono ?_; rintro e w' ⟨rfl, hs⟩)
    refine bodyPost_ret (results_none rfl _ _ _) rfl ?_
    exact ⟨rfl, hs⟩
set_option maxRecDepth 100000 in
set_option maxHeartbeats 4000000 in
theorem sort_any (g cap : Nat) (l : List Int) (t : List Value) (n : Nat) (w : World) (hn : l.length = n) (hl : n ≤ 12) (h : RowU w g l t) :
    Calls Try.prog 92 #[.slice (some ⟨g, 0, none⟩) n cap] w fun en w' => en = .returned (.tuple #[]) ∧ ∃ s : List Int, s.Perm l ∧ s.Pairwise (· ≤ ·) ∧ RowU w' g s t ∧ Only g w w' := by
  go_enter Try.func92, Try.ntmps92
  go_wp2_with (first
    | (go_at_call 108; refine (bitsLen_any n hl _).mono ?_; rintro e w' ⟨⟨v, rfl⟩, rfl⟩)
    | (go_at_call 107; refine (pdq_any g cap l t n _ _ hn hl h).mono ?_; rintro e w' ⟨rfl, hs⟩))
  go_end0
  exact ⟨rfl, hs⟩
end Go.Proofs.Ytecoomkpkdapdaa
