/- wire: the reference's numbers. -/
import Derived.Test.YtecoomkpkdapdaaW2
import Derived.Deep.RegionHeld3
set_option linter.unusedVariables false
namespace Go.Proofs.Ytecoomkpkdapdaa
open Go.RowKit

/-- The reference's bytes of a number. -/
def numR : Nat → Int → List UInt8
  | 0, _ => []
  | k + 1, n => numR k (n / 256) ++ [UInt8.ofNat (n % 256).toNat]
theorem numR_len : ∀ (k : Nat) (n : Int), (numR k n).length = k
  | 0, _ => rfl
  | k + 1, n => by simp [numR, numR_len k]
theorem numR_be : ∀ (k : Nat) (n : Int), numR k n = be k n
  | 0, _ => rfl
  | k + 1, n => by
    rw [numR, numR_be k, be, be, List.range_succ, List.map_append, List.map_singleton]
    congr 1
    · apply List.map_congr_left
      intro i hi
      have hi' : i < k := List.mem_range.1 hi
      unfold beB
      have e : 8 * (k + 1 - 1 - i) = 8 + 8 * (k - 1 - i) := by omega
      rw [e, Int.pow_add, ← Int.ediv_ediv_of_nonneg (by decide)]
      rfl
    · simp [beB]

set_option maxRecDepth 100000 in
set_option maxHeartbeats 1000000 in
theorem num_any (k : Nat) : ∀ (n : Int) (w : World), 0 ≤ n → n < 18446744073709551616 → k ≤ 8 →
    Calls Try.prog 109 #[.int .u64 n, .int .i64 k] w fun e w' => e = .returned (.string (bs (numR k n))) ∧ Below w.heap.size w w' := by
  induction k with
  | zero =>
    intro n w h0 h1 _
    go_enter Try.func109, Try.ntmps109
    go_wp2_with fail
    go_ret
    exact ⟨rfl, Below.refl _ _⟩
  | succ k ih =>
    intro n w h0 h1 hk
    have IH := Lib.hid ih
    clear ih
    have hk0 : (((k : Int) + 1) == 0) = false := by simp; omega
    have hcast : ((k + 1 : Nat) : Int) = (k : Int) + 1 := by omega
    rw [hcast]
    clear hcast
    have e1 : IntKind.u64.wrap (n.tdiv 256) = n / 256 := by rw [Int.tdiv_eq_ediv_of_nonneg h0]; exact IntWalk.u64_in _ (by omega)
    have e2 : IntKind.i64.wrap (k : Int) = (k : Int) := IntWalk.i64_in _ (by omega)
    have e3 : IntKind.u8.wrap (n.tmod 256) = n % 256 := by rw [Int.tmod_eq_emod_of_nonneg h0]; exact IntWalk.u8_in _ (by omega)
    have e4 : 0 ≤ n % 256 ∧ n % 256 < 256 := by omega
    have b1 : 0 ≤ n / 256 ∧ n / 256 < 18446744073709551616 ∧ k ≤ 8 := by omega
    have B1 := Lib.hid b1
    have hcv := run_string_one (n % 256) e4.1 e4.2
    have hadd := run_add_bs (numR k (n / 256)) [UInt8.ofNat (n % 256).toNat] (by simp [numR_len]; omega)
    have H4 := Lib.hid e4
    clear b1 e4 h0 h1 hk
    go_enter Try.func109, Try.ntmps109
    go_wp2_with fail
    go_region_with (go_at_call 109; with_reducible refine (IH.out (n / 256) _ B1.out.1 B1.out.2.1 B1.out.2.2).mono ?_; rintro e w' ⟨rfl, hb⟩; have hc := bcell hb)
    all_goals go_wp2
    all_goals go_ret
    all_goals refine ⟨rfl, ?_⟩
    all_goals first
      | exact ((Below.refl w.heap.size w).drew.trans hb).alloc (by have := hb.size; simpa using this) _
      | exact (((Below.refl w.heap.size w).alloc (Nat.le_refl _) _).drew.trans (hb.mono (by simp)))
end Go.Proofs.Ytecoomkpkdapdaa
