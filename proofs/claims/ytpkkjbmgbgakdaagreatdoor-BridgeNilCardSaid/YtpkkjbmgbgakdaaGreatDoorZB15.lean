/- ZB15: the texts F2 as one. -/
import Derived.Test.YtpkkjbmgbgakdaaGreatDoorZB14
/- frame: the walk of Put. -/
set_option linter.unusedVariables false
namespace Go.Proofs.YtpkkjbmgbgakdaaGreatDoor
open Go.RowKit

theorem byM_len (a b c d e f : Int) : (byM a b c d e f).length = 6 := rfl
set_option maxRecDepth 100000 in
set_option maxHeartbeats 8000000 in
theorem fput_A (A : Array Value) (x0 x1 x2 x3 x4 x5 x6 x7 x8 x9 x10 x11 xt xp xv xy xd) (hA : A = #[.int .u8 x0, .int .u8 x1, .int .u8 x2, .int .u8 x3, .int .u8 x4, .int .u8 x5, .int .u8 x6, .int .u8 x7, .int .u8 x8, .int .u8 x9, .int .u8 x10, .int .u8 x11, .bool xt, .int .u8 xp, .int .u16 xv, .int .u16 xy, .string (bs xd)]) (w : World) (hw : wfF x0 x1 x2 x3 x4 x5 x6 x7 x8 x9 x10 x11 xp xv xy) (hd : xd.length ≤ 1000000) : Calls Tryz.prog 81 #[.agg A] w fun en w' => en = .returned (.tuple #[.string (bs (putF x0 x1 x2 x3 x4 x5 x6 x7 x8 x9 x10 x11 xt xp xv xy xd).1), .int .i64 (putF x0 x1 x2 x3 x4 x5 x6 x7 x8 x9 x10 x11 xt xp xv xy xd).2]) ∧ Below w.heap.size w w' := by
  obtain ⟨R, hR⟩ : ∃ R, putF x0 x1 x2 x3 x4 x5 x6 x7 x8 x9 x10 x11 xt xp xv xy xd = R := ⟨_, rfl⟩
  have HR := Lib.hid hR
  rw [hR]; clear hR
  obtain ⟨L, hL⟩ : ∃ L, lenF xt xd = L := ⟨_, rfl⟩
  have hsd := bs_size xd
  have CL : Hid (∀ w, Calls Tryz.prog 146 #[.agg A] w fun en w' => en = .returned (.int .i64 L) ∧ Below w.heap.size w w') := by
    rw [← hL, hA]; exact fun w => len_any x0 x1 x2 x3 x4 x5 x6 x7 x8 x9 x10 x11 xt xp xv xy xd w hd
  obtain ⟨M, hm⟩ : ∃ M, mayF xt xp xv xy = M := ⟨_, rfl⟩
  have CM : Hid (∀ w, Calls Tryz.prog 145 #[.agg A] w fun en w' => en = .returned (.bool M) ∧ Below w.heap.size w w') := by
    rw [← hm, hA]; exact fun w => may_any x0 x1 x2 x3 x4 x5 x6 x7 x8 x9 x10 x11 xt xp xv xy xd w
  have hsz : A.size = 17 := by rw [hA]; rfl
  have hin : (Tryz.prog.info? 68).map (·.size) = some A.toList.length := by rw [Array.length_toList, hsz]; kernel_rfl
  have HIN := Lib.hid hin
  have HA := Lib.hid hA
  clear hA hsz hin
  have fb0 := FB.new w A
  have hb0 : Below w.heap.size w (w.alloc (.cells A 68)) := (Below.refl _ _).alloc (Nat.le_refl _) _
  have hz0 : w.heap.size < (w.alloc (.cells A 68)).heap.size := by simp
  have FB0 := Lib.hid fb0
  have HB0 := Lib.hid hb0
  have HZ0 := Lib.hid hz0
  clear fb0 hb0 hz0
  go_enter Tryz.func81, Tryz.ntmps81
  go_wp2_with (refine wpList_load_mid rfl 68 (.tmp 1) rfl _ 0 rfl A.toList _ FB0.out.range Tryz.underlying68 rfl HIN.out ?_)
  with_reducible refine (CM.out _).mono ?_
  rintro en w1 ⟨rfl, hb1⟩
  have FB1 := Lib.hid (FB0.out.later hb1)
  have HB1 := Lib.hid (HB0.out.trans (hb1.mono HB0.out.size))
  have HZ1 := Lib.hid (Nat.lt_of_lt_of_le HZ0.out hb1.size)
  clear hb1 FB0 HB0 HZ0
  cases M with
  | false =>
    have hRR : R = ([], 2) := by rw [← HR.out]; unfold putF; rw [hm]; rfl
    have HRR := Lib.hid hRR
    clear hRR hm hL
    go_wp2
    refine bodyPost_ret (v := .tuple #[.string (bs []), .int .i64 2]) (by simp [results, Tryz.results81, go_sem]; rfl) rfl ⟨by rw [HRR.out], HB1.out⟩
  | true =>
    go_wp2_with (refine wpList_load_mid rfl 68 (.tmp 1) rfl _ 0 rfl A.toList _ FB1.out.range Tryz.underlying68 rfl HIN.out ?_)
    with_reducible refine (CL.out _).mono ?_
    rintro en w2 ⟨rfl, hb2⟩
    have FB2 := Lib.hid (FB1.out.later hb2)
    have HB2 := Lib.hid (HB1.out.trans (hb2.mono HB1.out.size))
    have HZ2 := Lib.hid (Nat.lt_of_lt_of_le HZ1.out hb2.size)
    clear hb2 FB1 HB1 HZ1
    by_cases h15 : 1522 < L
    · have d15 : decide ((1522 : Int) < L) = true := decide_eq_true h15
      have hRR : R = ([], 5) := by rw [← HR.out]; unfold putF; rw [if_pos hm, hL, if_pos h15]
      have HRR := Lib.hid hRR
      clear hRR hm hL h15
      go_wp2
      refine bodyPost_ret (v := .tuple #[.string (bs []), .int .i64 5]) (by simp [results, Tryz.results81, go_sem]; rfl) rfl ⟨by rw [HRR.out], HB2.out⟩
    have d15 : decide ((1522 : Int) < L) = false := decide_eq_false h15
    have hRR : R = (byF x0 x1 x2 x3 x4 x5 x6 x7 x8 x9 x10 x11 xt xp xv xy xd, 0) := by rw [← HR.out]; unfold putF; rw [if_pos hm, hL, if_neg h15]
    have HRR := Lib.hid hRR
    obtain ⟨hw1, hw2, hwp, hwv, hwy⟩ := hw
    have hdl : xd.length ≤ 1522 := by rw [← hL] at h15; unfold lenF at h15; split at h15 <;> omega
    have hor : xt = true → (0 ≤ xp ∧ xp < 8) ∧ (0 ≤ xv ∧ xv < 4096) := fun h => by
      unfold mayF at hm; rw [if_pos h, Bool.and_eq_true, decide_eq_true_eq, decide_eq_true_eq] at hm; omega
    have HOR := Lib.hid hor
    have HW1 := Lib.hid hw1
    have HW2 := Lib.hid hw2
    have HWY := Lib.hid hwy
    clear hRR hm h15 hw1 hw2 hor hL hwy
    obtain ⟨P, hP⟩ : ∃ P, byM x0 x1 x2 x3 x4 x5 ++ byM x6 x7 x8 x9 x10 x11 = P := ⟨_, rfl⟩
    have hPl : P.length = 12 := by rw [← hP]; rfl
    have HP := Lib.hid hP
    clear hP
    go_upto_region 5 with fail
    go_cut [4] (fun s wx => Hid (Bys wx (w.heap.size + 1) s P) ∧ Hid (Below (w.heap.size + 1) w2 wx))
    case first =>
      have S0 : Hid (∀ W, FB W w.heap.size A → Src W (.slice (some ⟨w.heap.size, 0, none⟩) 6 6) (byM x0 x1 x2 x3 x4 x5)) := fun W h => by
        have hA := HA.out
        exact src6 (h.c 0 _ (by rw [hA]; rfl)) (h.c 1 _ (by rw [hA]; rfl)) (h.c 2 _ (by rw [hA]; rfl)) (h.c 3 _ (by rw [hA]; rfl)) (h.c 4 _ (by rw [hA]; rfl)) (h.c 5 _ (by rw [hA]; rfl)) HW1.out
      have S6 : Hid (∀ W, FB W w.heap.size A → Src W (.slice (some ⟨w.heap.size, 6, none⟩) 6 6) (byM x6 x7 x8 x9 x10 x11)) := fun W h => by
        have hA := HA.out
        exact src6 (h.c 6 _ (by rw [hA]; rfl)) (h.c 7 _ (by rw [hA]; rfl)) (h.c 8 _ (by rw [hA]; rfl)) (h.c 9 _ (by rw [hA]; rfl)) (h.c 10 _ (by rw [hA]; rfl)) (h.c 11 _ (by rw [hA]; rfl)) HW2.out
      go_region_law (first
        | (refine step_append_src rfl (.const (.slice none 0 0)) _ rfl (w.heap.size + 1) _ [] (by rfl) (Bys.none _ _) _ (byM x0 x1 x2 x3 x4 x5) (by rfl) (by exact S0.out _ FB2.out) (by simp [byM_len]) (by exact HZ2.out) ?_; intro v1 w3 hown1 hb3)
        | (refine step_append_src rfl (.tmp 15) _ rfl (w.heap.size + 1) _ _ (by rfl) (by exact hown1) _ (byM x6 x7 x8 x9 x10 x11) (by rfl) (by exact S6.out _ (FB2.out.below (Nat.lt_succ_self _) (((Below.refl (w.heap.size + 1) w2).drew).trans hb3))) (by simp [byM_len]) (by have h1 := hb3.size; have h2 := HZ2.out; exact Nat.le_trans h2 h1) ?_; intro v2 w4 hown2 hb4))
      all_goals go_wp2_with fail
      all_goals go_meet
      all_goals exact ⟨Lib.hid (by rw [← HP.out]; simpa using hown2), Lib.hid ((((Below.refl (w.heap.size + 1) w2).drew).trans hb3).trans hb4)⟩
    obtain ⟨HO3, HB3⟩ := hcut
    have FB3 := Lib.hid (FB2.out.below (Nat.lt_succ_self _) HB3.out)
    have HZ3 := Lib.hid (Nat.le_trans HZ2.out HB3.out.size)
    cases xt with
    | false =>
      have c12 := FB3.out.c 12 (.bool false) (by rw [HA.out]; rfl)
      have FBw := Lib.hid FB3.out
      have c15 := FBw.out.c 15 (.int .u16 xy) (by rw [HA.out]; rfl)
      have c16 := FBw.out.c 16 (.string (bs xd)) (by rw [HA.out]; rfl)
      have HPz : Hid (∀ W, Bys W (w.heap.size + 1) u4 P → w.heap.size + 1 ≤ W.heap.size → Calls Tryz.prog 142 #[u4, .int .u16 xy] W fun en w' => ∃ v', en = .returned v' ∧ Bys w' (w.heap.size + 1) v' (P ++ be 2 xy) ∧ Below (w.heap.size + 1) W w') :=
        fun W h1 h2 => put_uint16 (w.heap.size + 1) _ P xy W h2 h1 HWY.out.1 HWY.out.2 (by rw [hPl]; omega)
      have hadd := run_add_bs (P ++ be 2 xy) xd (by rw [List.length_append, hPl, be_length]; omega)
      go_wp2_with fail
      go_region_law (first
        | (go_simp; go_at_call 142; refine (HPz.out wc.drew HO3.out (Nat.le_trans HZ2.out HB3.out.size)).mono ?_; rintro en wz ⟨vz, rfl, hownz, hbz⟩; have hstr := run_string_bys hownz; have cz16 := (FBw.out.below (Nat.lt_succ_self _) (((Below.refl (w.heap.size + 1) wc).drew).trans hbz)).c 16 (.string (bs xd)) (by rw [HA.out]; rfl)))
      all_goals
        have HBz := Lib.hid (((HB3.out.trans ((Below.refl (w.heap.size + 1) wc).drew)).trans hbz))
        clear hownz hbz
      all_goals go_wp2_with fail
      all_goals refine bodyPost_ret (v := .tuple #[.string (bs (P ++ be 2 xy ++ xd)), .int .i64 0]) (by simp [results, Tryz.results81, go_sem]) rfl ⟨by rw [HRR.out]; simp only [byF, ← HP.out, if_neg (show ¬ (false = true) by decide), List.append_nil], HB2.out.trans (HBz.out.mono (Nat.le_succ _))⟩
    | true =>
      obtain ⟨hp8, hv4⟩ := HOR.out rfl
      have c12 := FB3.out.c 12 (.bool true) (by rw [HA.out]; rfl)
      have wp : IntKind.u16.wrap xp = xp := IntWalk.u16_in _ (by omega)
      have wp2 : IntKind.u16.wrap (xp * 8192) = xp * 8192 := IntWalk.u16_in _ (by omega)
      have hor := or_vid xp xv hp8 hv4
      obtain ⟨n, hn⟩ : ∃ n, xp * 8192 + xv = n := ⟨_, rfl⟩
      rw [hn] at hor
      have hn0 : 0 ≤ n ∧ n < 65536 := by omega
      have HNN := Lib.hid hn
      clear hn
      go_wp2_with fail
      refine (put_uint16 (w.heap.size + 1) u4 P 33024 wc HZ3.out HO3.out (by omega) (by omega) (by omega)).mono ?_
      rintro en w5 ⟨v5, rfl, hown5, hb5⟩
      have HO5 := Lib.hid hown5
      have HB5 := Lib.hid (HB3.out.trans hb5)
      have FB5 := Lib.hid (FB3.out.below (Nat.lt_succ_self _) hb5)
      have c13 := FB5.out.c 13 (.int .u8 xp) (by rw [HA.out]; rfl)
      have c14 := FB5.out.c 14 (.int .u16 xv) (by rw [HA.out]; rfl)
      clear hown5 hb5 c12
      go_wp2_with fail
      refine (put_uint16 (w.heap.size + 1) v5 (P ++ be 2 33024) n w5 (Nat.le_trans HZ2.out HB5.out.size) HO5.out hn0.1 hn0.2 (by rw [List.length_append, be_length]; omega)).mono ?_
      rintro en w6 ⟨v6, rfl, hown6, hb6⟩
      have HO6 := Lib.hid hown6
      have HB6 := Lib.hid (HB5.out.trans hb6)
      have FB6 := Lib.hid (FB5.out.below (Nat.lt_succ_self _) hb6)
      clear hown6 hb6 c13 c14 HO5
      obtain ⟨T, hT⟩ : ∃ T, P ++ be 2 33024 ++ be 2 n = T := ⟨_, rfl⟩
      have hTl : T.length = 16 := by rw [← hT]; simp [be_length, hPl]
      rw [hT] at HO6
      have HT := Lib.hid hT
      clear hT
      have hfin : T ++ be 2 xy ++ xd = byF x0 x1 x2 x3 x4 x5 x6 x7 x8 x9 x10 x11 true xp xv xy xd := by
        unfold byF; rw [if_pos rfl, ← HT.out, ← HP.out, ← HNN.out]; simp only [List.append_assoc]
      have HFIN := Lib.hid hfin
      clear hfin
      have FBw := Lib.hid FB6.out
      have c15 := FBw.out.c 15 (.int .u16 xy) (by rw [HA.out]; rfl)
      have c16 := FBw.out.c 16 (.string (bs xd)) (by rw [HA.out]; rfl)
      have HPz : Hid (∀ W, Bys W (w.heap.size + 1) v6 T → w.heap.size + 1 ≤ W.heap.size → Calls Tryz.prog 142 #[v6, .int .u16 xy] W fun en w' => ∃ v', en = .returned v' ∧ Bys w' (w.heap.size + 1) v' (T ++ be 2 xy) ∧ Below (w.heap.size + 1) W w') :=
        fun W h1 h2 => put_uint16 (w.heap.size + 1) _ T xy W h2 h1 HWY.out.1 HWY.out.2 (by rw [hTl]; omega)
      have hadd := run_add_bs (T ++ be 2 xy) xd (by rw [List.length_append, hTl, be_length]; omega)
      go_wp2_with fail
      go_region_law (first
        | (go_simp; go_at_call 142; refine (HPz.out w6.drew HO6.out (Nat.le_trans HZ2.out HB6.out.size)).mono ?_; rintro en wz ⟨vz, rfl, hownz, hbz⟩; have hstr := run_string_bys hownz; have cz16 := (FBw.out.below (Nat.lt_succ_self _) (((Below.refl (w.heap.size + 1) w6).drew).trans hbz)).c 16 (.string (bs xd)) (by rw [HA.out]; rfl)))
      all_goals
        have HBz := Lib.hid (((HB6.out.trans ((Below.refl (w.heap.size + 1) w6).drew)).trans hbz))
        clear hownz hbz
      all_goals go_wp2_with fail
      all_goals refine bodyPost_ret (v := .tuple #[.string (bs (T ++ be 2 xy ++ xd)), .int .i64 0]) (by simp [results, Tryz.results81, go_sem]) rfl ⟨by rw [HRR.out, ← HFIN.out], HB2.out.trans (HBz.out.mono (Nat.le_succ _))⟩

theorem fput_any (x0 x1 x2 x3 x4 x5 x6 x7 x8 x9 x10 x11 xt xp xv xy xd) (w : World) (hw : wfF x0 x1 x2 x3 x4 x5 x6 x7 x8 x9 x10 x11 xp xv xy) (hd : xd.length ≤ 1000000) : Calls Tryz.prog 81 #[.agg #[.int .u8 x0, .int .u8 x1, .int .u8 x2, .int .u8 x3, .int .u8 x4, .int .u8 x5, .int .u8 x6, .int .u8 x7, .int .u8 x8, .int .u8 x9, .int .u8 x10, .int .u8 x11, .bool xt, .int .u8 xp, .int .u16 xv, .int .u16 xy, .string (bs xd)]] w fun en w' => en = .returned (.tuple #[.string (bs (putF x0 x1 x2 x3 x4 x5 x6 x7 x8 x9 x10 x11 xt xp xv xy xd).1), .int .i64 (putF x0 x1 x2 x3 x4 x5 x6 x7 x8 x9 x10 x11 xt xp xv xy xd).2]) ∧ Below w.heap.size w w' :=
  fput_A _ x0 x1 x2 x3 x4 x5 x6 x7 x8 x9 x10 x11 xt xp xv xy xd rfl w hw hd
end Go.Proofs.YtpkkjbmgbgakdaaGreatDoor
