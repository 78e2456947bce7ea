/- maid: the walk of MaidBack. -/
import Derived.Test.YtblmpndaofhmjaaP9
set_option linter.unusedVariables false
namespace Go.Proofs.Ytblmpndaofhmjaa
open Go.RowKit

theorem mPut_eq {a b c d X Y : List UInt8} (h : mPut a b = (X, 0)) (k : mPut c d = (Y, 0)) : decide (X = Y) = (decide (a = c) && decide (b = d)) := by
  rw [Bool.eq_iff_iff, Bool.and_eq_true, decide_eq_true_eq, decide_eq_true_eq, decide_eq_true_eq]
  constructor
  · intro e; subst e; exact mPut_inj h k
  · rintro ⟨rfl, rfl⟩; rw [h] at k; simpa using congrArg Prod.fst k

set_option maxRecDepth 100000 in
set_option maxHeartbeats 8000000 in
theorem MaidBack_walk (sa sb sc sd ss : ByteArray) (w : World) (ha : sa.size ≤ maxLen) (hb : sb.size ≤ maxLen) (hc : sc.size ≤ maxLen) (hd : sd.size ≤ maxLen) (hs : ss.size ≤ maxLen) :
    Calls Try.prog 5 #[.string sa, .string sb, .string sc, .string sd, .string ss] w fun e w' => e = .returned (.bool true) ∧ Below w.heap.size w w' := by
  unfold maxLen at ha hb hc hd hs
  by_cases hsa : 200 < sa.size
  · go_enter Try.func5, Try.ntmps5
    go_wp2_with fail
    with_reducible refine (wakes10_any _).mono ?_
    rintro en w' ⟨rfl, hb⟩
    go_wp2
    go_ret
    exact ⟨rfl, hb⟩
  by_cases hsb : 200 < sb.size
  · go_enter Try.func5, Try.ntmps5
    go_wp2_with fail
    with_reducible refine (wakes10_any _).mono ?_
    rintro en w' ⟨rfl, hb⟩
    go_wp2
    go_ret
    exact ⟨rfl, hb⟩
  by_cases hsc : 200 < sc.size
  · go_enter Try.func5, Try.ntmps5
    go_wp2_with fail
    with_reducible refine (wakes10_any _).mono ?_
    rintro en w' ⟨rfl, hb⟩
    go_wp2
    go_ret
    exact ⟨rfl, hb⟩
  by_cases hsd : 200 < sd.size
  · go_enter Try.func5, Try.ntmps5
    go_wp2_with fail
    with_reducible refine (wakes10_any _).mono ?_
    rintro en w' ⟨rfl, hb⟩
    go_wp2
    go_ret
    exact ⟨rfl, hb⟩
  by_cases hss : 200 < ss.size
  · go_enter Try.func5, Try.ntmps5
    go_wp2_with fail
    with_reducible refine (wakes10_any _).mono ?_
    rintro en w' ⟨rfl, hb⟩
    go_wp2
    go_ret
    exact ⟨rfl, hb⟩
  obtain ⟨a, rfl⟩ : ∃ l, sa = bs l := ⟨_, bs_of sa⟩
  obtain ⟨b, rfl⟩ : ∃ l, sb = bs l := ⟨_, bs_of sb⟩
  obtain ⟨c, rfl⟩ : ∃ l, sc = bs l := ⟨_, bs_of sc⟩
  obtain ⟨d, rfl⟩ : ∃ l, sd = bs l := ⟨_, bs_of sd⟩
  obtain ⟨l, rfl⟩ : ∃ l, ss = bs l := ⟨_, bs_of ss⟩
  rw [bs_size] at hsa hsb hsc hsd hss ha hb hc hd hs
  have za := bs_size a
  have ga : decide ((200 : Int) < (a.length : Int)) = false := decide_eq_false (by omega)
  have zb := bs_size b
  have gb : decide ((200 : Int) < (b.length : Int)) = false := decide_eq_false (by omega)
  have zc := bs_size c
  have gc : decide ((200 : Int) < (c.length : Int)) = false := decide_eq_false (by omega)
  have zd := bs_size d
  have gd : decide ((200 : Int) < (d.length : Int)) = false := decide_eq_false (by omega)
  have zl := bs_size l
  have gl : decide ((200 : Int) < (l.length : Int)) = false := decide_eq_false (by omega)
  obtain ⟨X, e, hX⟩ : ∃ X e, mPut a b = (X, e) := ⟨_, _, rfl⟩
  obtain ⟨Y, f, hY⟩ : ∃ Y f, mPut c d = (Y, f) := ⟨_, _, rfl⟩
  have C1 : Hid (∀ w, Calls Try.prog 16 #[.string (bs a), .string (bs b)] w fun en w' => en = .returned (.tuple #[.string (bs X), .int .i64 e]) ∧ Below w.heap.size w w') := fun w => by
    have h := put10_any a b w (by omega) (by omega)
    rw [hX] at h; exact h
  have C2 : Hid (∀ w, Calls Try.prog 16 #[.string (bs c), .string (bs d)] w fun en w' => en = .returned (.tuple #[.string (bs Y), .int .i64 f]) ∧ Below w.heap.size w w') := fun w => by
    have h := put10_any c d w (by omega) (by omega)
    rw [hY] at h; exact h
  have C3 : e = 0 → Hid (∀ w, Calls Try.prog 18 #[.string (bs X)] w fun en w' => en = .returned (.tuple #[.string (bs a), .string (bs b), .int .i64 0]) ∧ Below w.heap.size w w') := fun he w => by
    subst he
    have h := take10_any X w (by have := mPut_len hX; omega)
    rw [takeR_of hX] at h; exact h
  have ZX : e = 0 → (bs X).size = 48 := fun he => by subst he; rw [bs_size]; exact mPut_len hX
  have EQ : e = 0 → f = 0 → ((bs X).toList == (bs Y).toList) = (((bs a).toList == (bs c).toList) && ((bs b).toList == (bs d).toList)) := fun he hf => by
    subst he; subst hf
    rw [bs_tl_eq, bs_tl_eq, bs_tl_eq]; exact mPut_eq hX hY
  obtain ⟨q1, hq1⟩ : ∃ q, ((bs a).toList == (bs c).toList) = q := ⟨_, rfl⟩
  obtain ⟨q2, hq2⟩ : ∃ q, ((bs b).toList == (bs d).toList) = q := ⟨_, rfl⟩
  rw [hq1, hq2] at EQ
  obtain ⟨m, n, g, hT⟩ : ∃ m n g, takeR l = (m, n, g) := ⟨_, _, _, rfl⟩
  have C4 : Hid (∀ w, Calls Try.prog 18 #[.string (bs l)] w fun en w' => en = .returned (.tuple #[.string (bs m), .string (bs n), .int .i64 g]) ∧ Below w.heap.size w w') := fun w => by
    have h := take10_any l w (by omega)
    rw [hT] at h; exact h
  have T : (g = 4 ∧ m = [] ∧ n = []) ∨ (g = 0 ∧ Hid (∀ w, Calls Try.prog 16 #[.string (bs m), .string (bs n)] w fun en w' => en = .returned (.tuple #[.string (bs l), .int .i64 0]) ∧ Below w.heap.size w w')) := by
    rcases takeR_cases l with ⟨d', o', h1, h2⟩ | ⟨_, h2⟩
    · rw [hT] at h2
      simp only [Prod.mk.injEq] at h2
      obtain ⟨rfl, rfl, rfl⟩ := h2
      refine .inr ⟨rfl, fun w => ?_⟩
      obtain ⟨_, _, _, hle, _⟩ := mPut_ok h1
      have h := put10_any m n w (by omega) (by omega)
      rw [h1] at h; exact h
    · rw [hT] at h2
      simp only [Prod.mk.injEq] at h2
      exact .inl ⟨h2.2.2, h2.1, h2.2.1⟩
  have he0 : (bs []).toList.isEmpty = true := by rw [empty_eq]; rfl
  clear hX hY hT ha hb hc hd hs hsa hsb hsc hsd hss
  go_enter Try.func5, Try.ntmps5
  go_wp2_with fail
  with_reducible refine (C1.out _).mono ?_
  rintro en w1 ⟨rfl, hb1⟩
  go_wp2_with fail
  with_reducible refine (C2.out _).mono ?_
  rintro en w2 ⟨rfl, hb2⟩
  have HB2 := Lib.hid (hb1.trans (hb2.mono hb1.size))
  clear hb1 hb2
  by_cases he : e = 0
  · have C3' := C3 he
    have ZX' := ZX he
    have de : (e == 0) = true := by simpa using he
    by_cases hf : f = 0
    · have EQ' := EQ he hf
      have df : (f == 0) = true := by simpa using hf
      clear he hf C3 ZX EQ
      cases q1 <;> cases q2 <;>
      · simp only [Bool.and_true, Bool.and_false, Bool.and_self] at EQ'
        go_wp2_with fail
        with_reducible refine (C3'.out _).mono ?_
        rintro en w3 ⟨rfl, hb3⟩
        have HB3 := Lib.hid (HB2.out.trans (hb3.mono HB2.out.size))
        clear hb3
        go_wp2_with fail
        with_reducible refine (C4.out _).mono ?_
        rintro en w4 ⟨rfl, hb4⟩
        have HB4 := Lib.hid (HB3.out.trans (hb4.mono HB3.out.size))
        clear hb4
        rcases T with ⟨rfl, rfl, rfl⟩ | ⟨rfl, C5⟩
        · go_wp2_with fail
          with_reducible refine (wakes10_any _).mono ?_
          rintro en w5 ⟨rfl, hb5⟩
          go_wp2
          go_ret
          exact ⟨rfl, HB4.out.trans (hb5.mono HB4.out.size)⟩
        · go_wp2_with fail
          with_reducible refine (C5.out _).mono ?_
          rintro en w5 ⟨rfl, hb5⟩
          have HB5 := Lib.hid (HB4.out.trans (hb5.mono HB4.out.size))
          clear hb5
          go_wp2_with fail
          with_reducible refine (wakes10_any _).mono ?_
          rintro en w6 ⟨rfl, hb6⟩
          go_wp2
          go_ret
          exact ⟨rfl, HB5.out.trans (hb6.mono HB5.out.size)⟩
    · have df : (f == 0) = false := by simpa using hf
      clear he hf C3 ZX EQ
      go_wp2_with fail
      with_reducible refine (C3'.out _).mono ?_
      rintro en w3 ⟨rfl, hb3⟩
      have HB3 := Lib.hid (HB2.out.trans (hb3.mono HB2.out.size))
      clear hb3
      go_wp2_with fail
      with_reducible refine (C4.out _).mono ?_
      rintro en w4 ⟨rfl, hb4⟩
      have HB4 := Lib.hid (HB3.out.trans (hb4.mono HB3.out.size))
      clear hb4
      rcases T with ⟨rfl, rfl, rfl⟩ | ⟨rfl, C5⟩
      · go_wp2_with fail
        with_reducible refine (wakes10_any _).mono ?_
        rintro en w5 ⟨rfl, hb5⟩
        go_wp2
        go_ret
        exact ⟨rfl, HB4.out.trans (hb5.mono HB4.out.size)⟩
      · go_wp2_with fail
        with_reducible refine (C5.out _).mono ?_
        rintro en w5 ⟨rfl, hb5⟩
        have HB5 := Lib.hid (HB4.out.trans (hb5.mono HB4.out.size))
        clear hb5
        go_wp2_with fail
        with_reducible refine (wakes10_any _).mono ?_
        rintro en w6 ⟨rfl, hb6⟩
        go_wp2
        go_ret
        exact ⟨rfl, HB5.out.trans (hb6.mono HB5.out.size)⟩
  · have de : (e == 0) = false := by simpa using he
    clear he C3 ZX EQ
    go_wp2_with fail
    with_reducible refine (C4.out _).mono ?_
    rintro en w4 ⟨rfl, hb4⟩
    have HB4 := Lib.hid (HB2.out.trans (hb4.mono HB2.out.size))
    clear hb4
    rcases T with ⟨rfl, rfl, rfl⟩ | ⟨rfl, C5⟩
    · go_wp2_with fail
      with_reducible refine (wakes10_any _).mono ?_
      rintro en w5 ⟨rfl, hb5⟩
      go_wp2
      go_ret
      exact ⟨rfl, HB4.out.trans (hb5.mono HB4.out.size)⟩
    · go_wp2_with fail
      with_reducible refine (C5.out _).mono ?_
      rintro en w5 ⟨rfl, hb5⟩
      have HB5 := Lib.hid (HB4.out.trans (hb5.mono HB4.out.size))
      clear hb5
      go_wp2_with fail
      with_reducible refine (wakes10_any _).mono ?_
      rintro en w6 ⟨rfl, hb6⟩
      go_wp2
      go_ret
      exact ⟨rfl, HB5.out.trans (hb6.mono HB5.out.size)⟩
end Go.Proofs.Ytblmpndaofhmjaa
