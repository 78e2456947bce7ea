/- frame: the walks of FramePuts and FrameTakes. -/
import Derived.Test.YtblmpndaofhmjaaF10
import Derived.Test.YtblmpndaofhmjaaF8
import Derived.Test.YtblmpndaofhmjaaF3
set_option linter.unusedVariables false
namespace Go.Proofs.Ytblmpndaofhmjaa
open Go.RowKit

set_option maxRecDepth 100000 in
set_option maxHeartbeats 8000000 in
theorem FrameTakes_walk (t : ByteArray) (w : World) (ht : t.size ≤ maxLen) : Calls Try.prog 10 #[.string t] w fun en w' => en = .returned (.bool true) ∧ Below w.heap.size w w' := by
  obtain ⟨s, rfl⟩ : ∃ l, t = bs l := ⟨_, bs_of t⟩
  rw [bs_size] at ht
  have hsz := bs_size s
  by_cases h2 : 2000 < s.length
  · have d2 : decide ((2000 : Int) < (s.length : Int)) = true := decide_eq_true (by omega)
    go_enter Try.func10, Try.ntmps10
    go_wp2_with fail
    with_reducible refine (wakes03_any _).mono ?_
    rintro en w1 ⟨rfl, hb⟩
    go_wp2
    go_ret
    exact ⟨rfl, hb⟩
  have d2 : decide ((2000 : Int) < (s.length : Int)) = false := decide_eq_false (by omega)
  obtain ⟨A, e, hT⟩ : ∃ A e, tkF s = (A, e) := ⟨_, _, rfl⟩
  have ia : isFr A := by have := isFr_tk s; rw [hT] at this; exact this
  have T1 : ∀ w, Calls Try.prog 34 #[.string (bs s)] w fun en w' => en = .returned (.tuple #[.agg A, .int .i64 e]) ∧ Below w.heap.size w w' := fun w => by
    have h := ftake_any s w (by omega)
    rw [hT] at h; exact h
  have T2 : ∀ w, Calls Try.prog 35 #[.string (bs s)] w fun en w' => en = .returned (.tuple #[.agg A, .int .i64 e]) ∧ Below w.heap.size w w' := fun w => by
    have h := refTake_any s w (by omega)
    rw [hT] at h; exact h
  have eqA : ∀ w : World, (binOp .eql 51 (.agg A) (.agg A)).run Try.prog w = .ok (.bool true) w := run_eql_frame _ ia
  have hg := eqGuard_fr
  have i1 := frame_infoL ia
  have j1 := frame_info ia
  have o1 := ia.one
  have TT1 := Lib.hid T1
  have TT2 := Lib.hid T2
  clear T1 T2 hT h2 ht
  go_enter Try.func10, Try.ntmps10
  go_wp2_with fail
  with_reducible refine (TT1.out _).mono ?_
  rintro en w1 ⟨rfl, hb1⟩
  have HB1 := Lib.hid hb1
  have th := fr_there w1 ia
  clear hb1
  go_upto_region 4 with ((with_reducible refine wpList_store_mid rfl 51 (.tmp 3) (.tmp 14) rfl w1.heap.size 0 A ?hx ?hy th j1 o1 ?_); (case hx => rfl); (case hy => rfl))
  have fs := fr_stored w1 ia
  have hb2 : Below w.heap.size w ((w1.alloc (.cells #[.int .u8 0, .int .u8 0, .int .u8 0, .int .u8 0, .int .u8 0, .int .u8 0, .int .u8 0, .int .u8 0, .int .u8 0, .int .u8 0, .int .u8 0, .int .u8 0, .bool false, .int .u8 0, .int .u16 0, .int .u16 0, .string { data := #[] }] 51)).setCells w1.heap.size 0 A.toList) := below_cells HB1.out.size _ _ _ (HB1.out.alloc HB1.out.size _)
  obtain ⟨w2, hw2⟩ : ∃ k, (w1.alloc (.cells #[.int .u8 0, .int .u8 0, .int .u8 0, .int .u8 0, .int .u8 0, .int .u8 0, .int .u8 0, .int .u8 0, .int .u8 0, .int .u8 0, .int .u8 0, .int .u8 0, .bool false, .int .u8 0, .int .u16 0, .int .u16 0, .string { data := #[] }] 51)).setCells w1.heap.size 0 A.toList = k := ⟨_, rfl⟩
  rw [hw2] at fs hb2 ⊢
  have HB2 := Lib.hid hb2
  have FS := Lib.hid fs
  clear hw2 fs hb2 th HB1
  go_wp2_with fail
  with_reducible refine (TT2.out _).mono ?_
  rintro en w3 ⟨rfl, hb3⟩
  have HB3 := Lib.hid (HB2.out.trans (hb3.mono HB2.out.size))
  have FS3 := Lib.hid (FS.out.later hb3)
  have th := fr_there w3 ia
  clear hb3 HB2 FS
  go_upto_region 5 with ((with_reducible refine wpList_store_mid rfl 51 (.tmp 5) (.tmp 19) rfl w3.heap.size 0 A ?hx ?hy th j1 o1 ?_); (case hx => rfl); (case hy => rfl))
  have fs := fr_stored w3 ia
  have hbz : Below w3.heap.size w3 ((w3.alloc (.cells #[.int .u8 0, .int .u8 0, .int .u8 0, .int .u8 0, .int .u8 0, .int .u8 0, .int .u8 0, .int .u8 0, .int .u8 0, .int .u8 0, .int .u8 0, .int .u8 0, .bool false, .int .u8 0, .int .u16 0, .int .u16 0, .string { data := #[] }] 51)).setCells w3.heap.size 0 A.toList) := below_cells (Nat.le_refl _) _ _ _ ((Below.refl _ _).alloc (Nat.le_refl _) _)
  have hb4 := HB3.out.trans (hbz.mono HB3.out.size)
  have fs3 := FS3.out.later hbz
  obtain ⟨w4, hw4⟩ : ∃ k, (w3.alloc (.cells #[.int .u8 0, .int .u8 0, .int .u8 0, .int .u8 0, .int .u8 0, .int .u8 0, .int .u8 0, .int .u8 0, .int .u8 0, .int .u8 0, .int .u8 0, .int .u8 0, .bool false, .int .u8 0, .int .u16 0, .int .u16 0, .string { data := #[] }] 51)).setCells w3.heap.size 0 A.toList = k := ⟨_, rfl⟩
  rw [hw4] at fs hb4 fs3 ⊢
  have HB4 := Lib.hid hb4
  have FS4 := Lib.hid fs
  have FS34 := Lib.hid fs3
  clear hw4 fs hb4 fs3 hbz th HB3 FS3
  go_wp2_with (first | ((with_reducible refine wpList_load_mid rfl 51 (.tmp 3) rfl w1.heap.size 0 ?hx A.toList _ FS34.out.range Try.underlying51 ?hu i1 ?_); (case hx => rfl); (case hu => rfl)) | ((with_reducible refine wpList_load_mid rfl 51 (.tmp 5) rfl w3.heap.size 0 ?hx A.toList _ FS4.out.range Try.underlying51 ?hu i1 ?_); (case hx => rfl); (case hu => rfl)))
  with_reducible refine (wakes03_any _).mono ?_
  rintro en w5 ⟨rfl, hb5⟩
  have HB5 := Lib.hid (HB4.out.trans (hb5.mono HB4.out.size))
  go_wp2
  go_ret
  exact ⟨rfl, HB5.out⟩
end Go.Proofs.Ytblmpndaofhmjaa
