/- frame: the reference's Put, walked. -/
import Derived.Test.YtecoomkpkdapdaaF2
set_option linter.unusedVariables false
namespace Go.Proofs.Ytecoomkpkdapdaa
open Go.RowKit

theorem byF_len (x0 x1 x2 x3 x4 x5 x6 x7 x8 x9 x10 x11 : Int) (t : Bool) (p v y : Int) (d : List UInt8) : ((byF x0 x1 x2 x3 x4 x5 x6 x7 x8 x9 x10 x11 t p v y d).length : Int) = lenF t d := by
  unfold byF lenF
  cases t <;> simp [byM_len, be_length] <;> omega

set_option maxRecDepth 100000 in
set_option maxHeartbeats 8000000 in
theorem refBytes_A (A : Array Value) (x0 x1 x2 x3 x4 x5 x6 x7 x8 x9 x10 x11 xt xp xv xy xd) (hA : A = #[.int .u8 x0, .int .u8 x1, .int .u8 x2, .int .u8 x3, .int .u8 x4, .int .u8 x5, .int .u8 x6, .int .u8 x7, .int .u8 x8, .int .u8 x9, .int .u8 x10, .int .u8 x11, .bool xt, .int .u8 xp, .int .u16 xv, .int .u16 xy, .string (bs xd)]) (w : World) (hw : wfF x0 x1 x2 x3 x4 x5 x6 x7 x8 x9 x10 x11 xp xv xy) (hd : xd.length ≤ 1000000) : Calls Try.prog 95 #[.agg A] w fun en w' => en = .returned (.string (bs (byF x0 x1 x2 x3 x4 x5 x6 x7 x8 x9 x10 x11 xt xp xv xy xd))) ∧ Below w.heap.size w w' := by
  obtain ⟨R, hR⟩ : ∃ R, byF x0 x1 x2 x3 x4 x5 x6 x7 x8 x9 x10 x11 xt xp xv xy xd = R := ⟨_, rfl⟩
  have HR := Lib.hid hR
  rw [hR]; clear hR
  obtain ⟨hw1, hw2, hwp, hwv, hwy⟩ := hw
  have HA := Lib.hid hA
  clear hA
  have fb0 := FB.new w A
  have hb0 : Below w.heap.size w (w.alloc (.cells A 26)) := (Below.refl _ _).alloc (Nat.le_refl _) _
  have FB0 := Lib.hid fb0
  have HB0 := Lib.hid hb0
  clear fb0 hb0
  have S0 : Hid (∀ W, FB W w.heap.size A → Src W (.slice (some ⟨w.heap.size, 0, none⟩) 6 6) (byM x0 x1 x2 x3 x4 x5)) := fun W h => by
    have hA := HA.out
    exact src6 (h.c 0 _ (by rw [hA]; rfl)) (h.c 1 _ (by rw [hA]; rfl)) (h.c 2 _ (by rw [hA]; rfl)) (h.c 3 _ (by rw [hA]; rfl)) (h.c 4 _ (by rw [hA]; rfl)) (h.c 5 _ (by rw [hA]; rfl)) hw1
  have S6 : Hid (∀ W, FB W w.heap.size A → Src W (.slice (some ⟨w.heap.size, 6, none⟩) 6 6) (byM x6 x7 x8 x9 x10 x11)) := fun W h => by
    have hA := HA.out
    exact src6 (h.c 6 _ (by rw [hA]; rfl)) (h.c 7 _ (by rw [hA]; rfl)) (h.c 8 _ (by rw [hA]; rfl)) (h.c 9 _ (by rw [hA]; rfl)) (h.c 10 _ (by rw [hA]; rfl)) (h.c 11 _ (by rw [hA]; rfl)) hw2
  have N1 : Hid (∀ w, Calls Try.prog 109 #[.int .u64 33024, .int .i64 2] w fun en w' => en = .returned (.string (bs (be 2 33024))) ∧ Below w.heap.size w w') := fun w => num_be 2 33024 w (by omega) (by omega) (by omega)
  have N3 : Hid (∀ w, Calls Try.prog 109 #[.int .u64 xy, .int .i64 2] w fun en w' => en = .returned (.string (bs (be 2 xy))) ∧ Below w.heap.size w w') := fun w => num_be 2 xy w (by omega) (by omega) (by omega)
  have N2 : Hid (∀ w, Calls Try.prog 109 #[.int .u64 (xp * 8192 + xv), .int .i64 2] w fun en w' => en = .returned (.string (bs (be 2 (xp * 8192 + xv)))) ∧ Below w.heap.size w w') := fun w => num_be 2 (xp * 8192 + xv) w (by omega) (by omega) (by omega)
  obtain ⟨P0, hP0⟩ : ∃ P, byM x0 x1 x2 x3 x4 x5 = P := ⟨_, rfl⟩
  obtain ⟨P6, hP6⟩ : ∃ P, byM x6 x7 x8 x9 x10 x11 = P := ⟨_, rfl⟩
  have l0 : P0.length = 6 := by rw [← hP0]; rfl
  have l6 : P6.length = 6 := by rw [← hP6]; rfl
  have hRR : R = P0 ++ P6 ++ (if xt = true then be 2 33024 ++ be 2 (xp * 8192 + xv) else []) ++ be 2 xy ++ xd := by rw [← HR.out, ← hP0, ← hP6]; rfl
  rw [hP0] at S0
  rw [hP6] at S6
  have HRR := Lib.hid hRR
  have wp : IntKind.u64.wrap xp = xp := IntWalk.u64_in _ (by omega)
  have wp2 : IntKind.u64.wrap (xp * 8192) = xp * 8192 := IntWalk.u64_in _ (by omega)
  have wv : IntKind.u64.wrap xv = xv := IntWalk.u64_in _ (by omega)
  have wy : IntKind.u64.wrap xy = xy := IntWalk.u64_in _ (by omega)
  have ws : IntKind.u64.wrap (xp * 8192 + xv) = xp * 8192 + xv := IntWalk.u64_in _ (by omega)
  have a1 := run_add_bs P0 P6 (by omega)
  obtain ⟨P, hP⟩ : ∃ P, P0 ++ P6 = P := ⟨_, rfl⟩
  have lP : P.length = 12 := by rw [← hP]; simp [l0, l6]
  rw [hP] at a1
  have HP := Lib.hid hP
  clear hP hP0 hP6 hRR hw1 hw2
  go_enter Try.func95, Try.ntmps95
  go_wp2_with fail
  have r0 : ∀ k : Later (w.alloc (.cells A 26)), (convert 81 9 (.slice (some ⟨w.heap.size, 0, none⟩) 6 6)).run Try.prog k.out = .ok (.string (bs P0)) k.out := fun k => run_string_src ((S0.out _ FB0.out).later k.h)
  have r6 : ∀ k : Later (w.alloc (.cells A 26)), (convert 81 9 (.slice (some ⟨w.heap.size, 6, none⟩) 6 6)).run Try.prog k.out = .ok (.string (bs P6)) k.out := fun k => run_string_src ((S6.out _ FB0.out).later k.h)
  refine wp_region_later (by kernel_rfl) (by kernel_rfl) ?_
  repeat (go_big_quiet_step (fail))
  refine wpQuiet_nil ?_
  rintro _ ⟨K, rfl⟩
  have FB1 := Lib.hid (FB0.out.later K.h)
  have HB1 := Lib.hid (Later.bel HB0.out K)
  clear r0 r6
  cases xt with
  | false =>
    have c12 := FB1.out.c 12 (.bool false) (by rw [HA.out]; rfl)
    have c15 := Later.cell (FB1.out.c 15 (.int .u16 xy) (by rw [HA.out]; rfl))
    have c16 := Later.cell (FB1.out.c 16 (.string (bs xd)) (by rw [HA.out]; rfl))
    have a2 := run_add_bs P (be 2 xy) (by rw [be_length]; omega)
    have a3 := run_add_bs (P ++ be 2 xy) xd (by rw [List.length_append, be_length]; omega)
    go_wp2_with fail
    refine wp_region_later (by kernel_rfl) (by kernel_rfl) ?_
    repeat (go_big_quiet_step (first | (go_at_call 109; exact Calls.later (N3.out _))))
    refine wpQuiet_nil ?_
    rintro _ ⟨K2, rfl⟩
    go_wp2
    go_ret
    refine ⟨?_, Later.bel HB1.out K2⟩
    rw [HRR.out, if_neg (by decide), HP.out]; simp
  | true =>
    have c12 := FB1.out.c 12 (.bool true) (by rw [HA.out]; rfl)
    have c13 := Later.cell (FB1.out.c 13 (.int .u8 xp) (by rw [HA.out]; rfl))
    have c14 := Later.cell (FB1.out.c 14 (.int .u16 xv) (by rw [HA.out]; rfl))
    have a2 := run_add_bs P (be 2 33024) (by rw [be_length]; omega)
    have a3 := run_add_bs (P ++ be 2 33024) (be 2 (xp * 8192 + xv)) (by rw [List.length_append, be_length, be_length]; omega)
    go_wp2_with fail
    refine wp_region_later (by kernel_rfl) (by kernel_rfl) ?_
    repeat (go_big_quiet_step (first | (go_at_call 109; first | (with_reducible exact Calls.later (N1.out _)) | (with_reducible exact Calls.later (N2.out _)))))
    refine wpQuiet_nil ?_
    rintro _ ⟨K2, rfl⟩
    have FB2 := Lib.hid (FB1.out.later K2.h)
    have HB2 := Lib.hid (Later.bel HB1.out K2)
    have HK2 := Lib.hid (K2.h)
    obtain ⟨T, hT⟩ : ∃ T, P ++ be 2 33024 ++ be 2 (xp * 8192 + xv) = T := ⟨_, rfl⟩
    have lT : T.length = 16 := by rw [← hT]; simp [be_length, lP]
    have hT2 : P ++ (be 2 33024 ++ be 2 (xp * 8192 + xv)) = T := by rw [← hT, List.append_assoc]
    have c15 := Later.cell (FB2.out.c 15 (.int .u16 xy) (by rw [HA.out]; rfl))
    have c16 := Later.cell (FB2.out.c 16 (.string (bs xd)) (by rw [HA.out]; rfl))
    have a4 := run_add_bs T (be 2 xy) (by rw [be_length]; omega)
    have a5 := run_add_bs (T ++ be 2 xy) xd (by rw [List.length_append, be_length]; omega)
    have HT := Lib.hid hT2
    try rw [hT]
    try rw [hT2]
    clear hT hT2 a2 a3 c12 c13 c14
    go_wp2_with fail
    refine wp_region_later (by kernel_rfl) (by kernel_rfl) ?_
    repeat (go_big_quiet_step (first | (go_at_call 109; exact Calls.later (N3.out _))))
    refine wpQuiet_nil ?_
    rintro _ ⟨K3, rfl⟩
    go_wp2
    go_ret
    refine ⟨?_, Later.bel HB2.out K3⟩
    rw [HRR.out, HP.out]; simp [← HT.out]

set_option maxRecDepth 100000 in
set_option maxHeartbeats 8000000 in
theorem refPut_A (A : Array Value) (x0 x1 x2 x3 x4 x5 x6 x7 x8 x9 x10 x11 xt xp xv xy xd) (hA : A = #[.int .u8 x0, .int .u8 x1, .int .u8 x2, .int .u8 x3, .int .u8 x4, .int .u8 x5, .int .u8 x6, .int .u8 x7, .int .u8 x8, .int .u8 x9, .int .u8 x10, .int .u8 x11, .bool xt, .int .u8 xp, .int .u16 xv, .int .u16 xy, .string (bs xd)]) (w : World) (hw : wfF x0 x1 x2 x3 x4 x5 x6 x7 x8 x9 x10 x11 xp xv xy) (hd : xd.length ≤ 1000000) : Calls Try.prog 69 #[.agg A] w fun en w' => en = .returned (.tuple #[.string (bs (putF x0 x1 x2 x3 x4 x5 x6 x7 x8 x9 x10 x11 xt xp xv xy xd).1), .int .i64 (putF x0 x1 x2 x3 x4 x5 x6 x7 x8 x9 x10 x11 xt xp xv xy xd).2]) ∧ Below w.heap.size w w' := by
  obtain ⟨R, hR⟩ : ∃ R, putF x0 x1 x2 x3 x4 x5 x6 x7 x8 x9 x10 x11 xt xp xv xy xd = R := ⟨_, rfl⟩
  have HR := Lib.hid hR
  rw [hR]; clear hR
  obtain ⟨T, hT⟩ : ∃ T, byF x0 x1 x2 x3 x4 x5 x6 x7 x8 x9 x10 x11 xt xp xv xy xd = T := ⟨_, rfl⟩
  have hlen := byF_len x0 x1 x2 x3 x4 x5 x6 x7 x8 x9 x10 x11 xt xp xv xy xd
  rw [hT] at hlen
  have hsT := bs_size T
  obtain ⟨M, hm⟩ : ∃ M, mayF xt xp xv xy = M := ⟨_, rfl⟩
  have CM : Hid (∀ w, Calls Try.prog 94 #[.agg A] w fun en w' => en = .returned (.bool M) ∧ Below w.heap.size w w') := by
    rw [← hm, hA]; exact fun w => refMay_any x0 x1 x2 x3 x4 x5 x6 x7 x8 x9 x10 x11 xt xp xv xy xd w
  have CB : Hid (∀ w, Calls Try.prog 95 #[.agg A] w fun en w' => en = .returned (.string (bs T)) ∧ Below w.heap.size w w') := by
    rw [← hT]; exact fun w => refBytes_A A x0 x1 x2 x3 x4 x5 x6 x7 x8 x9 x10 x11 xt xp xv xy xd hA w hw hd
  have hsz : A.size = 17 := by rw [hA]; rfl
  have hin : (Try.prog.info? 26).map (·.size) = some A.toList.length := by rw [Array.length_toList, hsz]; kernel_rfl
  have HIN := Lib.hid hin
  have hRR : R = if M = true then (if 1522 < (T.length : Int) then ([], 5) else (T, 0)) else ([], 2) := by
    rw [← HR.out, hlen, ← hT, ← hm]; rfl
  have HRR := Lib.hid hRR
  clear hA hsz hin hT hlen hm hRR
  have fb0 := FB.new w A
  have hb0 : Below w.heap.size w (w.alloc (.cells A 26)) := (Below.refl _ _).alloc (Nat.le_refl _) _
  have FB0 := Lib.hid fb0
  have HB0 := Lib.hid hb0
  clear fb0 hb0
  go_enter Try.func69, Try.ntmps69
  go_wp2_with (refine wpList_load_mid rfl 26 (.tmp 1) rfl _ 0 rfl A.toList _ FB0.out.range Try.underlying26 rfl HIN.out ?_)
  with_reducible refine (CM.out _).mono ?_
  rintro en w1 ⟨rfl, hb1⟩
  have FB1 := Lib.hid (FB0.out.later hb1)
  have HB1 := Lib.hid (HB0.out.trans (hb1.mono HB0.out.size))
  clear hb1 FB0 HB0
  cases M with
  | false =>
    go_wp2
    refine bodyPost_ret (v := .tuple #[.string (bs []), .int .i64 2]) (by simp [results, Try.results69, go_sem]; rfl) rfl ⟨by rw [HRR.out]; rfl, HB1.out⟩
  | true =>
    go_wp2_with (refine wpList_load_mid rfl 26 (.tmp 1) rfl _ 0 rfl A.toList _ FB1.out.range Try.underlying26 rfl HIN.out ?_)
    with_reducible refine (CB.out _).mono ?_
    rintro en w2 ⟨rfl, hb2⟩
    have HB2 := Lib.hid (HB1.out.trans (hb2.mono HB1.out.size))
    clear hb2 FB1 HB1
    by_cases h15 : 1522 < (T.length : Int)
    · have d15 : decide ((1522 : Int) < (T.length : Int)) = true := decide_eq_true h15
      have H15 := Lib.hid h15
      clear h15
      go_wp2
      refine bodyPost_ret (v := .tuple #[.string (bs []), .int .i64 5]) (by simp [results, Try.results69, go_sem]; rfl) rfl ⟨by rw [HRR.out, if_pos trivial, if_pos H15.out], HB2.out⟩
    · have d15 : decide ((1522 : Int) < (T.length : Int)) = false := decide_eq_false h15
      have H15 := Lib.hid h15
      clear h15
      go_wp2
      refine bodyPost_ret (v := .tuple #[.string (bs T), .int .i64 0]) (by simp [results, Try.results69, go_sem]) rfl ⟨by rw [HRR.out, if_pos trivial, if_neg (Int.not_lt.2 H15.out)], HB2.out⟩
end Go.Proofs.Ytecoomkpkdapdaa
