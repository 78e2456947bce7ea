/- Layer 17: the sides; the reference. -/
import Derived.Test.YtknahemnmboidaaLv0
set_option linter.unusedVariables false
namespace Go.Proofs.Ytknahemnmboidaa
open Go.RowKit

set_option maxHeartbeats 400000 in
theorem wire_any (d u m l : Int) (w : World) (hf : 0 ≤ d) (hf2 : d < 256) (ho : 0 ≤ u) (ho2 : u < 256) (hl : 0 ≤ l) (hl2 : l < 256) :
    Calls Try.prog 16 #[.agg #[.int .u8 d, .int .u8 u, .int .i64 m], .int .u8 l] w fun e w' => e = .returned (.int .u8 (goesV d u m l)) ∧ Below w.heap.size w w' := by
  go_enter Try.func16, Try.ntmps16
  go_wp2_with (go_at_call 64; refine (goes_any _ _ _ _ _ hf hf2 ho ho2 hl hl2).mono ?_; rintro e w' ⟨rfl, rfl⟩)
  go_ret
  exact ⟨rfl, (Below.refl _ _).alloc (Nat.le_refl _) _⟩
set_option maxHeartbeats 400000 in
theorem relay_any (d u m l : Int) (w : World) (hf : 0 ≤ d) (hf2 : d < 256) (ho : 0 ≤ u) (ho2 : u < 256) (hl : 0 ≤ l) (hl2 : l < 256) :
    Calls Try.prog 18 #[.agg #[.int .u8 d, .int .u8 u, .int .i64 m], .int .u8 l] w fun e w' => e = .returned (.int .u8 (goesV u d m l)) ∧ Below w.heap.size w w' := by
  go_enter Try.func18, Try.ntmps18
  go_wp2_with (go_at_call 64; refine (goes_any _ _ _ _ _ ho ho2 hf hf2 hl hl2).mono ?_; rintro e w' ⟨rfl, rfl⟩)
  go_ret
  exact ⟨rfl, (Below.refl _ _).alloc (Nat.le_refl _) _⟩

/-- The reference's: 1 taken, 0 dropped, 2 it passes. -/
def passesV (l m : Int) (f : Bool) : Int := if l < m then 2 else if m = l ∧ f = true then 1 else 0
set_option maxHeartbeats 400000 in
theorem passes_any (l m : Int) (f : Bool) (w : World) :
    Calls Try.prog 65 #[.int .i64 l, .int .i64 m, .bool f] w fun e w' => e = .returned (.int .i64 (passesV l m f)) ∧ w = w' := by
  unfold passesV
  by_cases h1 : l < m
  · rw [if_pos h1]
    go_enter Try.func65, Try.ntmps65
    go_wp2
    go_ret
    exact ⟨rfl, rfl⟩
  rw [if_neg h1]
  by_cases h2 : m = l
  · subst h2
    cases f
    · go_enter Try.func65, Try.ntmps65
      go_wp2
      go_ret
      exact ⟨rfl, rfl⟩
    · go_enter Try.func65, Try.ntmps65
      go_wp2
      go_ret
      exact ⟨by simp, rfl⟩
  · rw [if_neg (by simp [h2])]
    have h2' : (m == l) = false := by simp [h2]
    clear h2
    go_enter Try.func65, Try.ntmps65
    go_wp2
    go_ret
    exact ⟨rfl, rfl⟩
end Go.Proofs.Ytknahemnmboidaa
