/- mac: the walk of MacBack. -/
import Derived.Test.YtknahemnmboidaaM17
import Derived.Test.YtknahemnmboidaaM13
set_option linter.unusedVariables false
namespace Go.Proofs.Ytknahemnmboidaa
open Go.RowKit

theorem macEq_iff (a b c d e f a' b' c' d' e' f' : Int) : macEq a b c d e f a' b' c' d' e' f' = true ↔ a = a' ∧ b = b' ∧ c = c' ∧ d = d' ∧ e = e' ∧ f = f' := by simp [macEq]
theorem num_macEq {a b c d e f a' b' c' d' e' f' : Int} (h : wfM a b c d e f) (h' : wfM a' b' c' d' e' f') : (numM a b c d e f == numM a' b' c' d' e' f') = macEq a b c d e f a' b' c' d' e' f' := by
  rw [Bool.eq_iff_iff, macEq_iff, beq_iff_eq]
  exact ⟨num_inj h h', fun ⟨h0, h1, h2, h3, h4, h5⟩ => by rw [h0, h1, h2, h3, h4, h5]⟩
theorem text_macEq {a b c d e f a' b' c' d' e' f' : Int} (h : wfM a b c d e f) (h' : wfM a' b' c' d' e' f') : ((bs (txt6 a b c d e f)).toList == (bs (txt6 a' b' c' d' e' f')).toList) = macEq a b c d e f a' b' c' d' e' f' := by
  rw [bs_tl_eq, Bool.eq_iff_iff, macEq_iff, decide_eq_true_eq]
  exact ⟨text_inj h h', fun ⟨h0, h1, h2, h3, h4, h5⟩ => by rw [h0, h1, h2, h3, h4, h5]⟩
theorem txt_of {a b c d e f : Int} (h : wfM a b c d e f) (w : World) : Calls Try.prog 62 #[.agg #[.int .u8 a, .int .u8 b, .int .u8 c, .int .u8 d, .int .u8 e, .int .u8 f]] w fun en w' => en = .returned (.string (bs (txt6 a b c d e f))) ∧ Below w.heap.size w w' :=
  text_of a b c d e f w h.1 h.2.1 h.2.2.1 h.2.2.2.1 h.2.2.2.2.1 h.2.2.2.2.2
theorem of_form (n : Int) : ∃ (a b c d e f : Int), wfM a b c d e f ∧ ofV n = .tuple #[.agg #[.int .u8 a, .int .u8 b, .int .u8 c, .int .u8 d, .int .u8 e, .int .u8 f], .bool (decide (n < 281474976710656))] ∧ (0 ≤ n → n < 281474976710656 → numM a b c d e f = n) := by
  by_cases h : n < 281474976710656
  · exact ⟨_, _, _, _, _, _, wfM_of n, by unfold ofV; rw [if_pos h, decide_eq_true h]; rfl, fun h0 h1 => num_of n h0 h1⟩
  · exact ⟨0, 0, 0, 0, 0, 0, by unfold wfM; omega, by unfold ofV; rw [if_neg h, decide_eq_false h], fun h0 h1 => absurd h1 h⟩
theorem prs_form2 (l : List UInt8) : ∃ (a b c d e f : Int) (q : Bool), wfM a b c d e f ∧ prsV l = .tuple #[.agg #[.int .u8 a, .int .u8 b, .int .u8 c, .int .u8 d, .int .u8 e, .int .u8 f], .bool q] ∧ (q = true → txt6 a b c d e f = l) := by
  by_cases h : okP l = true
  · exact ⟨pm l 0, pm l 1, pm l 2, pm l 3, pm l 4, pm l 5, true, wfM_pm l h, by unfold prsV; rw [if_pos h], fun _ => okP_text l h⟩
  · exact ⟨0, 0, 0, 0, 0, 0, false, by unfold wfM; omega, prs_no l (by simpa using h), fun h => by cases h⟩

set_option maxRecDepth 100000 in
set_option maxHeartbeats 8000000 in
theorem MacBack_walk (a b c d e f a' b' c' d' e' f' n : Int) (s : ByteArray) (w : World) (h : wfM a b c d e f) (h' : wfM a' b' c' d' e' f') (hn : (Lit.int .u64 n).wf = true) (hs : s.size ≤ maxLen) :
    Calls Try.prog 14 #[.agg #[.int .u8 a, .int .u8 b, .int .u8 c, .int .u8 d, .int .u8 e, .int .u8 f], .agg #[.int .u8 a', .int .u8 b', .int .u8 c', .int .u8 d', .int .u8 e', .int .u8 f'], .int .u64 n, .string s] w fun en w' => en = .returned (.bool true) ∧ Below w.heap.size w w' := by
  unfold maxLen at hs
  obtain ⟨n0, n1⟩ := bounds_u64 hn
  clear hn
  by_cases h1 : 100 < s.size
  · clear h h'
    go_enter Try.func14, Try.ntmps14
    go_wp2_with (go_at_call 27; refine (wakes2_any _).mono ?_; rintro en w' ⟨rfl, hb⟩)
    go_ret
    exact ⟨rfl, (((Below.refl _ _).alloc (Nat.le_refl _) _).alloc (by simp) _).trans (hb.mono (by simp; omega))⟩
  obtain ⟨l, rfl⟩ : ∃ l, s = bs l := ⟨_, bs_of s⟩
  rw [bs_size] at h1 hs
  have hsz := bs_size l
  have heq := run_eql_mac
  have hne := run_neq_mac
  have hrf := macEq_refl
  have e1 := num_macEq h h'
  have e2 := text_macEq h h'
  obtain ⟨q, hq⟩ : ∃ q : Bool, macEq a b c d e f a' b' c' d' e' f' = q := ⟨_, rfl⟩
  rw [hq] at e1 e2
  have qq : ∀ z : Bool, (z == z) = true := fun z => by simp
  have qn : ∀ z : Bool, (z != z) = false := fun z => by simp
  obtain ⟨N, hN⟩ : ∃ N : Int, numM a b c d e f = N := ⟨_, rfl⟩
  obtain ⟨N', hN'⟩ : ∃ N : Int, numM a' b' c' d' e' f' = N := ⟨_, rfl⟩
  obtain ⟨T, hT⟩ : ∃ T : List UInt8, txt6 a b c d e f = T := ⟨_, rfl⟩
  obtain ⟨T', hT'⟩ : ∃ T : List UInt8, txt6 a' b' c' d' e' f' = T := ⟨_, rfl⟩
  rw [hN, hN'] at e1
  rw [hT, hT'] at e2
  have C1 : Hid (∀ w, Calls Try.prog 60 #[.agg #[.int .u8 a, .int .u8 b, .int .u8 c, .int .u8 d, .int .u8 e, .int .u8 f]] w fun en w' => en = .returned (.int .u64 N) ∧ Below w.heap.size w w') := by
    rw [← hN]; exact fun w => number_any a b c d e f w h
  have C2 : Hid (∀ w, Calls Try.prog 60 #[.agg #[.int .u8 a', .int .u8 b', .int .u8 c', .int .u8 d', .int .u8 e', .int .u8 f']] w fun en w' => en = .returned (.int .u64 N') ∧ Below w.heap.size w w') := by
    rw [← hN']; exact fun w => number_any a' b' c' d' e' f' w h'
  have C3 : Hid (∀ w, Calls Try.prog 62 #[.agg #[.int .u8 a, .int .u8 b, .int .u8 c, .int .u8 d, .int .u8 e, .int .u8 f]] w fun en w' => en = .returned (.string (bs T)) ∧ Below w.heap.size w w') := by
    rw [← hT]; exact fun w => txt_of h w
  have C4 : Hid (∀ w, Calls Try.prog 62 #[.agg #[.int .u8 a', .int .u8 b', .int .u8 c', .int .u8 d', .int .u8 e', .int .u8 f']] w fun en w' => en = .returned (.string (bs T')) ∧ Below w.heap.size w w') := by
    rw [← hT']; exact fun w => txt_of h' w
  have C5 : Hid (∀ w, Calls Try.prog 35 #[.int .u64 N] w fun en w' => en = .returned (.tuple #[.agg #[.int .u8 a, .int .u8 b, .int .u8 c, .int .u8 d, .int .u8 e, .int .u8 f], .bool true]) ∧ Below w.heap.size w w') := by
    rw [← hN, ← ofV_num h]; exact fun w => of2_any _ w (numM_bd h).1 (by have := (numM_bd h).2; omega)
  have C6 : Hid (∀ w, Calls Try.prog 38 #[.string (bs T)] w fun en w' => en = .returned (.tuple #[.agg #[.int .u8 a, .int .u8 b, .int .u8 c, .int .u8 d, .int .u8 e, .int .u8 f], .bool true]) ∧ Below w.heap.size w w') := by
    rw [← hT, ← prs_text h]; exact fun w => parse_any _ w (by show 17 ≤ 1000; omega)
  obtain ⟨y0, y1, y2, y3, y4, y5, hy, hY, hY2⟩ := of_form n
  have C7 : Hid (∀ w, Calls Try.prog 35 #[.int .u64 n] w fun en w' => en = .returned (.tuple #[.agg #[.int .u8 y0, .int .u8 y1, .int .u8 y2, .int .u8 y3, .int .u8 y4, .int .u8 y5], .bool (decide (n < 281474976710656))]) ∧ Below w.heap.size w w') := by
    rw [← hY]; exact fun w => of2_any n w n0 (by omega)
  obtain ⟨M, hM⟩ : ∃ M : Int, numM y0 y1 y2 y3 y4 y5 = M := ⟨_, rfl⟩
  have C8 : Hid (∀ w, Calls Try.prog 60 #[.agg #[.int .u8 y0, .int .u8 y1, .int .u8 y2, .int .u8 y3, .int .u8 y4, .int .u8 y5]] w fun en w' => en = .returned (.int .u64 M) ∧ Below w.heap.size w w') := by
    rw [← hM]; exact fun w => number_any _ _ _ _ _ _ w hy
  obtain ⟨z0, z1, z2, z3, z4, z5, Q, hz, hZ, hZ2⟩ := prs_form2 l
  have C9 : Hid (∀ w, Calls Try.prog 38 #[.string (bs l)] w fun en w' => en = .returned (.tuple #[.agg #[.int .u8 z0, .int .u8 z1, .int .u8 z2, .int .u8 z3, .int .u8 z4, .int .u8 z5], .bool Q]) ∧ Below w.heap.size w w') := by
    rw [← hZ]; exact fun w => parse_any l w (by omega)
  have C10 : Q = true → Hid (∀ w, Calls Try.prog 62 #[.agg #[.int .u8 z0, .int .u8 z1, .int .u8 z2, .int .u8 z3, .int .u8 z4, .int .u8 z5]] w fun en w' => en = .returned (.string (bs l)) ∧ Below w.heap.size w w') := fun hQ => by
    rw [← hZ2 hQ]; exact fun w => txt_of hz w
  have HM : Hid (n < 281474976710656 → M = n) := fun hh => by rw [← hM]; exact hY2 n0 hh
  clear h h' hN hN' hT hT' hy hY hY2 hM hz hZ hZ2
  go_enter Try.func14, Try.ntmps14
  go_wp2_with fail
  refine (C1.out _).mono ?_
  rintro en w1 ⟨rfl, hb1⟩
  have P1 : Below w.heap.size w ((w.alloc (.cells #[.int .u8 a, .int .u8 b, .int .u8 c, .int .u8 d, .int .u8 e, .int .u8 f] 34)).alloc (.cells #[.int .u8 a', .int .u8 b', .int .u8 c', .int .u8 d', .int .u8 e', .int .u8 f'] 34)) := ((Below.refl _ _).alloc (Nat.le_refl _) _).alloc (by simp) _
  have A1 := ((MA.new w a b c d e f).later ((Below.refl _ _).alloc (Nat.le_refl _) (.cells #[.int .u8 a', .int .u8 b', .int .u8 c', .int .u8 d', .int .u8 e', .int .u8 f'] 34))).later hb1
  have A2 : MA w1 (w.heap.size + 1) a' b' c' d' e' f' := by
    have hh := (MA.new (w.alloc (.cells #[.int .u8 a, .int .u8 b, .int .u8 c, .int .u8 d, .int .u8 e, .int .u8 f] 34)) a' b' c' d' e' f').later hb1
    simpa only [World.size_alloc] using hh
  have B1 := Lib.hid (P1.trans (hb1.mono P1.size))
  have X1 := Lib.hid A1
  have X2 := Lib.hid A2
  clear P1 A1 A2 hb1
  go_wp2_with fail
  refine (C5.out _).mono ?_
  rintro en w2 ⟨rfl, hb2⟩
  have Y1 := X1.out.later hb2
  have Y2 := X2.out.later hb2
  have B2 := B1.out.trans (hb2.mono B1.out.size)
  clear X1 X2 B1 hb2
  have kk : Below w2.heap.size w2 (w2.alloc (.cells #[.int .u8 a, .int .u8 b, .int .u8 c, .int .u8 d, .int .u8 e, .int .u8 f] 34)) := (Below.refl _ _).alloc (Nat.le_refl _) _
  have X1 := Y1.later kk
  have X2 := Lib.hid (Y2.later kk)
  have X3 := Lib.hid (MA.new w2 a b c d e f)
  have B3 := Lib.hid (B2.trans (kk.mono B2.size))
  have X1' := Lib.hid X1
  obtain ⟨k0, k1, k2, k3, k4, k5⟩ := X1
  clear Y1 Y2 B2 kk
  go_wp2_with fail
  refine (C3.out _).mono ?_
  rintro en w3 ⟨rfl, hb3⟩
  have Y1 := Lib.hid (X1'.out.later hb3)
  have Y2 := Lib.hid (X2.out.later hb3)
  have Y3 := Lib.hid (X3.out.later hb3)
  have B4 := Lib.hid (B3.out.trans (hb3.mono B3.out.size))
  clear k0 k1 k2 k3 k4 k5 X1' X2 X3 B3 hb3
  go_wp2_with fail
  refine (C6.out _).mono ?_
  rintro en w4 ⟨rfl, hb4⟩
  have kk : Below w4.heap.size w4 (w4.alloc (.cells #[.int .u8 a, .int .u8 b, .int .u8 c, .int .u8 d, .int .u8 e, .int .u8 f] 34)) := (Below.refl _ _).alloc (Nat.le_refl _) _
  have X1 := (Y1.out.later hb4).later kk
  have X2 := (Y2.out.later hb4).later kk
  have X3 := (Y3.out.later hb4).later kk
  have X4 := MA.new w4 a b c d e f
  have B5 := Lib.hid ((B4.out.trans (hb4.mono B4.out.size)).trans (kk.mono (Nat.le_trans B4.out.size hb4.size)))
  clear Y1 Y2 Y3 B4 hb4 kk
  have l1 := X1.held
  have l2 := X2.held
  have l3 := X3.held
  have l4 := X4.held
  clear X1 X2 X3 X4
  obtain ⟨k0, k1, k2, k3, k4, k5⟩ := l1
  obtain ⟨i0, i1, i2, i3, i4, i5⟩ := l2
  obtain ⟨j0, j1, j2, j3, j4, j5⟩ := l3
  obtain ⟨m0, m1, m2, m3, m4, m5⟩ := l4
  go_wp2_with fail
  refine wp_region_later (by kernel_rfl) (by kernel_rfl) ?_
  repeat (go_big_quiet_step (first | (go_at_call 60; first | (with_reducible exact Calls.later (C1.out _)) | (with_reducible exact Calls.later (C2.out _))) | (go_at_call 62; first | (with_reducible exact Calls.later (C3.out _)) | (with_reducible exact Calls.later (C4.out _)))))
  refine wpQuiet_nil ?_
  rintro _ ⟨K, rfl⟩
  have B6 := Lib.hid (Later.bel B5.out K)
  clear k0 k1 k2 k3 k4 k5 i0 i1 i2 i3 i4 i5 j0 j1 j2 j3 j4 j5 m0 m1 m2 m3 m4 m5 B5
  go_wp2_with fail
  refine (C7.out _).mono ?_
  rintro en w5 ⟨rfl, hb5⟩
  have Y := MA.new w5 y0 y1 y2 y3 y4 y5
  have B7 := Lib.hid ((B6.out.trans (hb5.mono B6.out.size)).alloc (Nat.le_trans B6.out.size hb5.size) (.cells #[.int .u8 y0, .int .u8 y1, .int .u8 y2, .int .u8 y3, .int .u8 y4, .int .u8 y5] 34))
  obtain ⟨k0, k1, k2, k3, k4, k5⟩ := Y
  clear B6 hb5 hq e1 e2 C1 C2 C3 C4 C5 C6
  by_cases hn : n < 281474976710656
  · have dn : decide (n < 281474976710656) = true := decide_eq_true hn
    have hMn := HM.out hn
    subst hMn
    have dz : M / 281474976710656 = 0 := by omega
    go_wp2_with fail
    refine (C8.out _).mono ?_
    rintro en w6 ⟨rfl, hb6⟩
    have B8 := Lib.hid (B7.out.trans (hb6.mono B7.out.size))
    clear k0 k1 k2 k3 k4 k5 B7 hb6
    go_wp2_with fail
    refine (C9.out _).mono ?_
    rintro en w7 ⟨rfl, hb7⟩
    have Z := MA.new w7 z0 z1 z2 z3 z4 z5
    have B9 := Lib.hid ((B8.out.trans (hb7.mono B8.out.size)).alloc (Nat.le_trans B8.out.size hb7.size) (.cells #[.int .u8 z0, .int .u8 z1, .int .u8 z2, .int .u8 z3, .int .u8 z4, .int .u8 z5] 34))
    obtain ⟨k0, k1, k2, k3, k4, k5⟩ := Z
    clear B8 hb7
    cases Q with
    | true =>
      have C11 := C10 rfl
      go_wp2_with fail
      refine (C11.out _).mono ?_
      rintro en w8 ⟨rfl, hb8⟩
      have ll : ((bs l).toList == (bs l).toList) = true := by simp
      have B10 := Lib.hid (B9.out.trans (hb8.mono B9.out.size))
      clear k0 k1 k2 k3 k4 k5 B9 hb8
      go_wp2_with fail
      refine (wakes2_any _).mono ?_
      rintro en w9 ⟨rfl, hb9⟩
      go_wp2
      go_ret
      exact ⟨rfl, B10.out.trans (hb9.mono B10.out.size)⟩
    | false =>
      go_wp2_with fail
      refine (wakes2_any _).mono ?_
      rintro en w9 ⟨rfl, hb9⟩
      go_wp2
      go_ret
      exact ⟨rfl, B9.out.trans (hb9.mono B9.out.size)⟩
  · have dn : decide (n < 281474976710656) = false := decide_eq_false hn
    have dz : (n / 281474976710656 == 0) = false := beq_eq_false_iff_ne.2 (by omega)
    clear k0 k1 k2 k3 k4 k5
    have B8 := Lib.hid B7.out
    clear B7
    go_wp2_with fail
    refine (C9.out _).mono ?_
    rintro en w7 ⟨rfl, hb7⟩
    have Z := MA.new w7 z0 z1 z2 z3 z4 z5
    have B9 := Lib.hid ((B8.out.trans (hb7.mono B8.out.size)).alloc (Nat.le_trans B8.out.size hb7.size) (.cells #[.int .u8 z0, .int .u8 z1, .int .u8 z2, .int .u8 z3, .int .u8 z4, .int .u8 z5] 34))
    obtain ⟨k0, k1, k2, k3, k4, k5⟩ := Z
    clear B8 hb7
    cases Q with
    | true =>
      have C11 := C10 rfl
      go_wp2_with fail
      refine (C11.out _).mono ?_
      rintro en w8 ⟨rfl, hb8⟩
      have ll : ((bs l).toList == (bs l).toList) = true := by simp
      have B10 := Lib.hid (B9.out.trans (hb8.mono B9.out.size))
      clear k0 k1 k2 k3 k4 k5 B9 hb8
      go_wp2_with fail
      refine (wakes2_any _).mono ?_
      rintro en w9 ⟨rfl, hb9⟩
      go_wp2
      go_ret
      exact ⟨rfl, B10.out.trans (hb9.mono B10.out.size)⟩
    | false =>
      go_wp2_with fail
      refine (wakes2_any _).mono ?_
      rintro en w9 ⟨rfl, hb9⟩
      go_wp2
      go_ret
      exact ⟨rfl, B9.out.trans (hb9.mono B9.out.size)⟩
end Go.Proofs.Ytknahemnmboidaa
