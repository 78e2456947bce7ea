/- Layer 17: the known fates. -/
import Derived.Test.YtknahemnmboidaaLv3
set_option linter.unusedVariables false
namespace Go.Proofs.Ytknahemnmboidaa
open Go.RowKit

/-- What the known fates' loop keeps. -/
def WakesL (w W : World) : Prop := W.cell? ⟨w.heap.size, 0, none⟩ = some (.int .u8 4) ∧ W.cell? ⟨w.heap.size, 1, none⟩ = some (.int .u8 32) ∧ W.cell? ⟨w.heap.size, 2, none⟩ = some (.int .i64 6) ∧
  (∀ k : Nat, k < 8 → W.cell? ⟨w.heap.size + 1, k, none⟩ = some (.int .u8 (goesV 4 32 6 k))) ∧ (∀ k : Nat, k < 8 → W.cell? ⟨w.heap.size + 1 + 1, k, none⟩ = some (.int .u8 (goesV 32 4 6 k))) ∧ Below w.heap.size w W

set_option maxRecDepth 100000 in
set_option maxHeartbeats 2000000 in
theorem wakesL_any (w : World) :
    Calls Try.prog 19 #[] w fun e w' => e = .returned (.bool true) ∧ Below w.heap.size w w' := by
  go_enter Try.func19, Try.ntmps19
  go_wp2
  go_loopw [4] (fun i W => ∃ k : Nat, k ≤ 8 ∧ i = .int .i64 k ∧ WakesL w W) (fun i _ => 8 - (intOf i).toNat)
  case atStart =>
    refine ⟨0, by omega, rfl, ?_⟩
    refine ⟨by simp [go_sem], by simp [go_sem], by simp [go_sem], ?_, ?_, (((Below.refl _ _).alloc (by simp) _).alloc (by simp) _).alloc (by simp <;> omega) _⟩
    · intro k hk
      match k, hk with
      | 0, _ | 1, _ | 2, _ | 3, _ | 4, _ | 5, _ | 6, _ | 7, _ => simp [go_sem]; decide
    · intro k hk
      match k, hk with
      | 0, _ | 1, _ | 2, _ | 3, _ | 4, _ | 5, _ | 6, _ | 7, _ => simp [go_sem]; decide
  case round =>
    obtain ⟨k, hk, rfl, hW⟩ := hrel
    obtain ⟨c0, c1, c2, d, r, hb⟩ := hW
    by_cases hlt : k < 8
    · have g1 := d k hlt
      have g2 := r k hlt
      have HD := Lib.hid d
      have HR := Lib.hid r
      clear d r
      go_wp2
      have l0 := Later.cell c0
      have l1 := Later.cell c1
      have l2 := Later.cell c2
      have l3 := Later.cell g1
      have l4 := Later.cell g2
      refine wp_region_later (by kernel_rfl) (by kernel_rfl) ?_
      repeat (go_big_quiet_step (first | (go_at_call 16; exact Calls.later (wire_any _ _ _ _ _ (by decide) (by decide) (by decide) (by decide) (by omega) (by omega))) | (go_at_call 18; exact Calls.later (relay_any _ _ _ _ _ (by decide) (by decide) (by decide) (by decide) (by omega) (by omega)))))
      refine wpQuiet_nil ?_
      rintro _ ⟨K, rfl⟩
      have hK : WakesL w K.out := ⟨l0 K, l1 K, l2 K, fun k hk => Later.cell (HD.out k hk) K, fun k hk => Later.cell (HR.out k hk) K, Later.bel hb K⟩
      clear l0 l1 l2 l3 l4 HD HR
      have HW := Lib.hid hK
      clear hK
      go_wp2
      go_roundw
      case rel => exact ⟨k + 1, by omega, by go_num, HW.out⟩
      case measure => simp [intOf]; omega
    · obtain rfl : k = 8 := by omega
      go_wp2
      go_ret
      exact ⟨rfl, hb⟩
end Go.Proofs.Ytknahemnmboidaa
