/- frame: the walk of FramePuts. -/
import Derived.Test.YtblmpndaofhmjaaF10
import Derived.Test.YtblmpndaofhmjaaRF
import Derived.Test.YtblmpndaofhmjaaF3
set_option linter.unusedVariables false
namespace Go.Proofs.Ytblmpndaofhmjaa
open Go.RowKit

theorem flen_A (A : Array Value) (x0 x1 x2 x3 x4 x5 x6 x7 x8 x9 x10 x11 xt xp xv xy xd) (hA : A = #[.int .u8 x0, .int .u8 x1, .int .u8 x2, .int .u8 x3, .int .u8 x4, .int .u8 x5, .int .u8 x6, .int .u8 x7, .int .u8 x8, .int .u8 x9, .int .u8 x10, .int .u8 x11, .bool xt, .int .u8 xp, .int .u16 xv, .int .u16 xy, .string (bs xd)]) (w : World) (hd : xd.length ≤ 1000000) : Calls Try.prog 33 #[.agg A] w fun en w' => en = .returned (.int .i64 (lenF xt xd)) ∧ Below w.heap.size w w' := by
  rw [hA]; exact len_any x0 x1 x2 x3 x4 x5 x6 x7 x8 x9 x10 x11 xt xp xv xy xd w hd
set_option maxRecDepth 100000 in
set_option maxHeartbeats 8000000 in
theorem FramePuts_walk (A : Array Value) (w : World) (hA : Fr A) : Calls Try.prog 9 #[.agg A] w fun en w' => en = .returned (.bool true) ∧ Below w.heap.size w w' := by
  have ia := hA.is
  obtain ⟨x0, x1, x2, x3, x4, x5, x6, x7, x8, x9, x10, x11, xt, xp, xv, xy, xd, hA, hw, hd⟩ := hA
  have hsz := bs_size xd
  have fb0 := FB.new w A
  have c16 := fb0.c 16 (.string (bs xd)) (by rw [hA]; rfl)
  have FB0 := Lib.hid fb0
  have hb0 : Below w.heap.size w (w.alloc (.cells A 51)) := (Below.refl _ _).alloc (Nat.le_refl _) _
  have HB0 := Lib.hid hb0
  have WK := Lib.hid wakes03_any
  clear fb0 hb0
  by_cases h2 : 2000 < xd.length
  · have d2 : decide ((2000 : Int) < (xd.length : Int)) = true := decide_eq_true (by omega)
    clear hA hw hd
    go_enter Try.func9, Try.ntmps9
    go_wp2_with fail
    with_reducible refine (WK.out _).mono ?_
    rintro en w1 ⟨rfl, hb⟩
    go_wp2
    go_ret
    exact ⟨rfl, HB0.out.trans (hb.mono HB0.out.size)⟩
  have d2 : decide ((2000 : Int) < (xd.length : Int)) = false := decide_eq_false (by omega)
  obtain ⟨V, e, hP⟩ : ∃ V e, putF x0 x1 x2 x3 x4 x5 x6 x7 x8 x9 x10 x11 xt xp xv xy xd = (V, e) := ⟨_, _, rfl⟩
  have P1 : ∀ w, Calls Try.prog 31 #[.agg A] w fun en w' => en = .returned (.tuple #[.string (bs V), .int .i64 e]) ∧ Below w.heap.size w w' := fun w => by
    have h := fput_A A x0 x1 x2 x3 x4 x5 x6 x7 x8 x9 x10 x11 xt xp xv xy xd hA w hw (by omega)
    rw [hP] at h; exact h
  have P2 : ∀ w, Calls Try.prog 32 #[.agg A] w fun en w' => en = .returned (.tuple #[.string (bs V), .int .i64 e]) ∧ Below w.heap.size w w' := fun w => by
    have h := refPut_A A x0 x1 x2 x3 x4 x5 x6 x7 x8 x9 x10 x11 xt xp xv xy xd hA w hw (by omega)
    rw [hP] at h; exact h
  have P3 : ∀ w, Calls Try.prog 33 #[.agg A] w fun en w' => en = .returned (.int .i64 (lenF xt xd)) ∧ Below w.heap.size w w' := fun w => flen_A A x0 x1 x2 x3 x4 x5 x6 x7 x8 x9 x10 x11 xt xp xv xy xd hA w (by omega)
  have PP1 := Lib.hid P1
  have PP2 := Lib.hid P2
  have PP3 := Lib.hid P3
  have i1 := frame_infoL ia
  have c12 : ∀ W, FB W w.heap.size A → W.cell? ⟨w.heap.size, 12, none⟩ = some (.bool xt) := fun W h => h.c 12 (.bool xt) (by rw [hA]; rfl)
  have c16' : ∀ W, FB W w.heap.size A → W.cell? ⟨w.heap.size, 16, none⟩ = some (.string (bs xd)) := fun W h => h.c 16 (.string (bs xd)) (by rw [hA]; rfl)
  have C12 := Lib.hid c12
  have C16 := Lib.hid c16'
  have H2 := Lib.hid h2
  clear P1 P2 P3 hP hA hw hd c12 c16' h2
  go_enter Try.func9, Try.ntmps9
  go_wp2_with ((with_reducible refine wpList_load_mid rfl 51 (.tmp 1) rfl w.heap.size 0 ?hx A.toList _ FB0.out.range Try.underlying51 ?hu i1 ?_); (case hx => rfl); (case hu => rfl))
  with_reducible refine (PP1.out _).mono ?_
  rintro en w1 ⟨rfl, hb1⟩
  have FB1 := Lib.hid (FB0.out.later hb1)
  have HB1 := Lib.hid (HB0.out.trans (hb1.mono HB0.out.size))
  clear hb1 FB0 HB0 c16
  go_wp2_with ((with_reducible refine wpList_load_mid rfl 51 (.tmp 1) rfl w.heap.size 0 ?hx A.toList _ FB1.out.range Try.underlying51 ?hu i1 ?_); (case hx => rfl); (case hu => rfl))
  with_reducible refine (PP2.out _).mono ?_
  rintro en w2 ⟨rfl, hb2⟩
  have FB2 := Lib.hid (FB1.out.later hb2)
  have HB2 := Lib.hid (HB1.out.trans (hb2.mono HB1.out.size))
  have c12 := C12.out _ FB2.out
  have c16 := Later.cell (C16.out _ FB2.out)
  have l1 := fr_load FB2.out ia
  have hlen : (xd.length : Int) ≤ 2000 := by have := H2.out; omega
  clear hb2 FB1 HB1
  cases xt with
  | true =>
    have P3 : Hid (∀ w, Calls Try.prog 33 #[.agg A] w fun en w' => en = .returned (.int .i64 (18 + (xd.length : Int))) ∧ Below w.heap.size w w') := PP3
    go_wp2_with fail
    refine wp_region_later (by kernel_rfl) (by kernel_rfl) ?_
    iterate 9 (go_big_quiet_step (fail))
    refine wpQuiet_load 51 (.tmp 1) w.heap.size A rfl rfl rfl (by rintro _ ⟨k, rfl⟩; exact l1 k) ?_
    go_simp
    repeat (go_big_quiet_step (first | (go_at_call 33; exact Calls.later (P3.out _)) | (go_at_call 30; exact Calls.later (WK.out _))))
    refine wpQuiet_nil ?_
    intro K
    go_wp2
    go_ret
    exact ⟨rfl, Later.bel HB2.out K⟩
  | false =>
    have P3 : Hid (∀ w, Calls Try.prog 33 #[.agg A] w fun en w' => en = .returned (.int .i64 (14 + (xd.length : Int))) ∧ Below w.heap.size w w') := PP3
    go_wp2_with fail
    refine wp_region_later (by kernel_rfl) (by kernel_rfl) ?_
    iterate 9 (go_big_quiet_step (fail))
    refine wpQuiet_load 51 (.tmp 1) w.heap.size A rfl rfl rfl (by rintro _ ⟨k, rfl⟩; exact l1 k) ?_
    go_simp
    repeat (go_big_quiet_step (first | (go_at_call 33; exact Calls.later (P3.out _)) | (go_at_call 30; exact Calls.later (WK.out _))))
    refine wpQuiet_nil ?_
    intro K
    go_wp2
    go_ret
    exact ⟨rfl, Later.bel HB2.out K⟩
end Go.Proofs.Ytblmpndaofhmjaa
