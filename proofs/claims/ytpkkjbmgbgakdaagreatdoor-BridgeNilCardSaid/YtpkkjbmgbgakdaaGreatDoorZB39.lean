/- ZB39: the texts NU as one. -/
import Derived.Test.YtpkkjbmgbgakdaaGreatDoorZB33
import Derived.Test.YtpkkjbmgbgakdaaGreatDoorZB38
/- bridge: no bridge. -/
set_option linter.unusedVariables false
set_option linter.unusedSimpArgs false
namespace Go.Proofs.YtpkkjbmgbgakdaaGreatDoor
open Go.RowKit

set_option maxRecDepth 100000 in
set_option maxHeartbeats 4000000 in
theorem nil_bridge_Bridge_Up (p : Int) (w : World) : Calls Tryz.prog 10 #[.pointer none, .int .u8 p] w fun en w' => en = .returned (.tuple #[]) ∧ w = w' := by
  go_enter Tryz.func10, Tryz.ntmps10
  go_wp2
  go_end0
  exact ⟨rfl, rfl⟩
set_option maxRecDepth 100000 in
set_option maxHeartbeats 4000000 in
theorem nil_bridge_Bridge_Down (p : Int) (w : World) : Calls Tryz.prog 11 #[.pointer none, .int .u8 p] w fun en w' => en = .returned (.tuple #[]) ∧ w = w' := by
  go_enter Tryz.func11, Tryz.ntmps11
  go_wp2
  go_end0
  exact ⟨rfl, rfl⟩
set_option maxRecDepth 100000 in
set_option maxHeartbeats 4000000 in
theorem nil_tick (w : World) : Calls Tryz.prog 12 #[.pointer none] w fun en w' => en = .returned (.tuple #[.slice none 0 0, .slice none 0 0]) ∧ Below w.heap.size w w' := by
  go_enter Tryz.func12, Tryz.ntmps12
  go_wp2
  go_ret2
  exact ⟨rfl, Below.refl _ _⟩
set_option maxRecDepth 100000 in
set_option maxHeartbeats 4000000 in
theorem nil_root (w : World) : Calls Tryz.prog 21 #[.pointer none] w fun en w' => en = .returned (.tuple #[.int .u64 0, .int .u32 0, .int .u64 0]) ∧ w = w' := by
  go_enter Tryz.func21, Tryz.ntmps21
  go_wp2
  refine bodyPost_ret (v := .tuple #[.int .u64 0, .int .u32 0, .int .u64 0]) (by simp [results, Tryz.results21, go_sem]) rfl ⟨rfl, rfl⟩
set_option maxRecDepth 100000 in
set_option maxHeartbeats 4000000 in
theorem nil_recv (p : Int) (s : Value) (w : World) : Calls Tryz.prog 17 #[.pointer none, .int .u8 p, s] w fun en w' => en = .returned (.slice none 0 0) ∧ Below w.heap.size w w' := by
  go_enter Tryz.func17, Tryz.ntmps17
  go_wp2
  go_ret
  exact ⟨rfl, Below.refl _ _⟩
set_option maxRecDepth 100000 in
set_option maxHeartbeats 4000000 in
theorem nil_entries (w : World) : Calls Tryz.prog 22 #[.pointer none] w fun en w' => en = .returned (.slice none 0 0) ∧ w = w' := by
  go_enter Tryz.func22, Tryz.ntmps22
  go_wp2
  go_ret
  exact ⟨rfl, rfl⟩
set_option maxRecDepth 100000 in
set_option maxHeartbeats 4000000 in
theorem nil_role (p : Int) (w : World) : Calls Tryz.prog 23 #[.pointer none, .int .u8 p] w fun en w' => en = .returned (.int .u8 0) ∧ w = w' := by
  go_enter Tryz.func23, Tryz.ntmps23
  go_wp2
  go_ret
  exact ⟨rfl, rfl⟩
set_option maxRecDepth 100000 in
set_option maxHeartbeats 4000000 in
theorem nil_forwards (p : Int) (w : World) : Calls Tryz.prog 24 #[.pointer none, .int .u8 p] w fun en w' => en = .returned (.bool false) ∧ w = w' := by
  go_enter Tryz.func24, Tryz.ntmps24
  go_wp2
  go_ret
  exact ⟨rfl, rfl⟩
set_option maxRecDepth 100000 in
set_option maxHeartbeats 4000000 in
theorem nil_mac (p : Int) (w : World) : Calls Tryz.prog 25 #[.pointer none, .int .u8 p] w fun en w' => en = .returned (.agg #[.int .u8 0, .int .u8 0, .int .u8 0, .int .u8 0, .int .u8 0, .int .u8 0]) ∧ Below w.heap.size w w' := by
  go_enter Tryz.func25, Tryz.ntmps25
  have hb := (Below.refl w.heap.size w).alloc (Nat.le_refl _) (.cells #[.int .u8 0, .int .u8 0, .int .u8 0, .int .u8 0, .int .u8 0, .int .u8 0] 41)
  go_wp2
  exact bodyPost_ret (v := .agg #[.int .u8 0, .int .u8 0, .int .u8 0, .int .u8 0, .int .u8 0, .int .u8 0]) (res_one (p := 4) (d := _) rfl rfl Tryz.underlying41 _ _ w.heap.size _ rfl (GB.new _ _ _) (by kernel_rfl)) rfl ⟨rfl, hb⟩
set_option maxRecDepth 100000 in
set_option maxHeartbeats 4000000 in
theorem nil_counts (w : World) : Calls Tryz.prog 26 #[.pointer none] w fun en w' => en = .returned (.agg #[.int .u64 0, .int .u64 0]) ∧ Below w.heap.size w w' := by
  go_enter Tryz.func26, Tryz.ntmps26
  have hb := (Below.refl w.heap.size w).alloc (Nat.le_refl _) (.cells #[.int .u64 0, .int .u64 0] 89)
  go_wp2
  exact bodyPost_ret (v := .agg #[.int .u64 0, .int .u64 0]) (res_one (p := 2) (d := _) rfl rfl Tryz.underlying89 _ _ w.heap.size _ rfl (GB.new _ _ _) (by kernel_rfl)) rfl ⟨rfl, hb⟩
set_option maxRecDepth 100000 in
set_option maxHeartbeats 4000000 in
theorem nil_mep (a n : Int) (w : World) : Calls Tryz.prog 20 #[.pointer none, .int .i64 a, .int .u16 n] w fun en w' => en = .returned (.tuple #[.agg #[.slice none 0 0, .slice none 0 0, .int .u8 0, .int .u8 0, .int .u64 0, .int .u32 0, .int .i64 0, .int .i64 0, .int .u32 0, .slice none 0 0], .bool false]) ∧ Below w.heap.size w w' := by
  go_enter Tryz.func20, Tryz.ntmps20
  have hb := (Below.refl w.heap.size w).alloc (Nat.le_refl _) (.cells #[.slice none 0 0, .slice none 0 0, .int .u8 0, .int .u8 0, .int .u64 0, .int .u32 0, .int .i64 0, .int .i64 0, .int .u32 0, .slice none 0 0] 78)
  go_wp2
  exact bodyPost_ret (v := .tuple #[.agg #[.slice none 0 0, .slice none 0 0, .int .u8 0, .int .u8 0, .int .u64 0, .int .u32 0, .int .i64 0, .int .i64 0, .int .u32 0, .slice none 0 0], .bool false]) (res_two (p := 6) (u := 7) (d := _) rfl rfl Tryz.underlying78 _ _ w.heap.size _ rfl (GB.new _ _ _) (by kernel_rfl)) rfl ⟨rfl, hb⟩
set_option maxRecDepth 100000 in
set_option maxHeartbeats 4000000 in
theorem nil_do (A : Array Value) (w : World) : Calls Tryz.prog 13 #[.pointer none, .agg A] w fun en w' => en = .returned (.tuple #[.slice none 0 0, .int .i64 0, .int .i64 1]) ∧ Below w.heap.size w w' := by
  have hb := (Below.refl w.heap.size w).alloc (Nat.le_refl _) (.cells A 64)
  go_enter Tryz.func13, Tryz.ntmps13
  go_wp2
  refine bodyPost_ret (v := .tuple #[.slice none 0 0, .int .i64 0, .int .i64 1]) (by simp [results, Tryz.results13, go_sem]) rfl ⟨rfl, hb⟩
end Go.Proofs.YtpkkjbmgbgakdaaGreatDoor
