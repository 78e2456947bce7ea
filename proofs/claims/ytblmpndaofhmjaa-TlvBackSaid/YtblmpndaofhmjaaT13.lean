/- tlv: the walk of TlvBack. -/
import Derived.Test.YtblmpndaofhmjaaT11
import Derived.Test.YtblmpndaofhmjaaT12
set_option linter.unusedVariables false
namespace Go.Proofs.Ytblmpndaofhmjaa
open Go.RowKit

theorem putT_zero : ∀ (l : List Th), (putT l).2 = 0 → ∀ x ∈ l, okT x = 0
  | [], _, x, hx => by simp at hx
  | y :: l, h, x, hx => by
    unfold putT at h
    split at h
    · rename_i h1
      split at h
      · rename_i h2
        rcases List.mem_cons.1 hx with rfl | hx
        · exact h1
        · exact putT_zero l h2 x hx
      · rename_i h2; exact absurd h h2
    · rename_i h1; exact absurd h h1

set_option maxRecDepth 100000 in
set_option maxHeartbeats 8000000 in
theorem TlvBack_walk (v : Value) (l : List Th) (t : ByteArray) (w : World) (hv : Tls w v l ∧ l.length ≤ maxLen ∧ ∀ x ∈ l, x.2.length ≤ maxLen) (ht : t.size ≤ maxLen) : Calls Try.prog 8 #[v, .string t] w fun en w' => en = .returned (.bool true) ∧ Below w.heap.size w w' := by
  obtain ⟨hv, hl, hs⟩ := hv
  unfold maxLen at ht
  have G := Lib.hid (great_any v l w hv hl hs)
  cases hg : grT l with
  | true =>
    rw [hg] at G
    clear hv hl hs hg
    go_enter Try.func8, Try.ntmps8
    go_wp2_with fail
    with_reducible refine G.out.mono ?_
    rintro en _ ⟨rfl, rfl⟩
    go_wp2_with fail
    with_reducible refine (wakes11_any _).mono ?_
    rintro en w1 ⟨rfl, hb⟩
    go_wp2
    go_ret
    exact ⟨rfl, hb⟩
  | false =>
    rw [hg] at G
    by_cases h1 : 1400 < t.size
    · clear hv hl hs hg
      go_enter Try.func8, Try.ntmps8
      go_wp2_with fail
      with_reducible refine G.out.mono ?_
      rintro en _ ⟨rfl, rfl⟩
      go_wp2_with fail
      with_reducible refine (wakes11_any _).mono ?_
      rintro en w1 ⟨rfl, hb⟩
      go_wp2
      go_ret
      exact ⟨rfl, hb⟩
    obtain ⟨s, rfl⟩ : ∃ l, t = bs l := ⟨_, bs_of t⟩
    rw [bs_size] at h1 ht
    have hsz := bs_size s
    have ds : decide ((1400 : Int) < (s.length : Int)) = false := decide_eq_false (by omega)
    have hl3 : l.length ≤ 30 := by
      unfold grT at hg; rw [Bool.or_eq_false_iff] at hg
      have := of_decide_eq_false hg.1; omega
    obtain ⟨A, e, hP⟩ : ∃ A e, putT l = (A, e) := ⟨_, _, rfl⟩
    have HV := Lib.hid hv
    have P1 : Hid (∀ v w, Tls w v l → Calls Try.prog 22 #[v] w fun en w' => en = .returned (.tuple #[.string (bs A), .int .i64 e]) ∧ Below w.heap.size w w') := fun v w h => by
      have h := tput_any v l w h (by omega) hs
      rw [hP] at h; exact h
    have P5 : Hid (∀ w, Tls w v l → Calls Try.prog 23 #[v] w fun en w' => ∃ v', en = .returned v' ∧ TlT w' w.heap.size v' l ∧ Below w.heap.size w w') := fun w h => of11_any v l w h (by omega)
    -- what is behind, taken
    obtain ⟨m, r, f, hT⟩ : ∃ m r f, takeT s = (m, r, f) := ⟨_, _, _, rfl⟩
    have P6 : Hid (∀ w, Calls Try.prog 27 #[.string (bs s)] w fun en w' => ∃ v', en = .returned (.tuple #[v', .string (bs r), .int .i64 f]) ∧ TlT w' w.heap.size v' m ∧ Below w.heap.size w w') := fun w => by
      have h := ttake_any s w (by omega)
      rw [hT] at h; exact h
    have T : Hid ((f = 3 ∧ m = [] ∧ r = []) ∨ (f = 0 ∧ ∃ B : List UInt8, (∀ v w, Tls w v m → Calls Try.prog 22 #[v] w fun en w' => en = .returned (.tuple #[.string (bs B), .int .i64 0]) ∧ Below w.heap.size w w') ∧ (∀ W : World, (Op.stringOp .add (bs B) (bs r)).run Try.prog W = .ok (.string (bs s)) W))) := by
      by_cases hf : (takeT s).2.2 = 0
      · right
        obtain ⟨i1, i2⟩ := take_put _ s (Nat.le_refl _) (by omega) hf
        have hm := takeT_len _ s (Nat.le_refl _)
        rw [hT] at i1 i2 hf hm
        refine ⟨hf, m.flatMap thB ++ [0], fun v w h => ?_, ?_⟩
        · have h := tput_any v m w h (by simp at hm; omega) (fun x hx => by have := (ok_parts (i1 x hx)).2; unfold maxLen; omega)
          rw [putT_all m i1] at h; exact h
        · have i3 : m.flatMap thB ++ [0] ++ r = s := by simpa using i2
          have hlen : (m.flatMap thB ++ [0]).length + r.length ≤ 1099511627776 := by
            have := congrArg List.length i3; simp at this ⊢; omega
          have h := run_add_bs (m.flatMap thB ++ [0]) r hlen
          rw [i3] at h; exact h
      · left
        have h := takeT_err _ s (Nat.le_refl _) hf
        rw [hT] at h
        simp only [Prod.mk.injEq] at h
        exact ⟨h.2.2, h.1, h.2.1⟩
    have he0 : (bs []).toList.isEmpty = true := by rw [bs_tl]; rfl
    by_cases he : e = 0
    · have hok := putT_zero l (by rw [hP]; exact he)
      have hA : A = l.flatMap thB ++ [0] := by have := putT_all l hok; rw [hP] at this; simpa using congrArg Prod.fst this
      have hbl := thBs_len l hok
      obtain ⟨B, hB⟩ : ∃ B, l.flatMap thB = B := ⟨_, rfl⟩
      have hAl : A.length = B.length + 1 := by rw [hA, hB]; simp
      have hBl : B.length ≤ 44490 := by rw [← hB]; omega
      have Q1 : Hid (∀ w, Calls Try.prog 27 #[.string (bs (A ++ s))] w fun en w' => ∃ v', en = .returned (.tuple #[v', .string (bs s), .int .i64 0]) ∧ TlT w' w.heap.size v' l ∧ Below w.heap.size w w') := fun w => by
        have h := ttake_any (A ++ s) w (by simp; omega)
        have hh : takeT (A ++ s) = (l, s, 0) := by rw [hA, List.append_assoc]; exact putT_take l s hok
        rw [hh] at h; exact h
      have Q2 : Hid (∀ w, Calls Try.prog 27 #[.string (bs B)] w fun en w' => ∃ v', en = .returned (.tuple #[v', .string (bs []), .int .i64 3]) ∧ Below w.heap.size w w') := fun w => by
        have h := ttake_any B w (by omega)
        rw [← hB, putT_cut l hok, hB] at h
        exact h.mono fun _ _ ⟨v', h1, _, h2⟩ => ⟨v', h1, h2⟩
      have hadd := run_add_bs A s (by omega)
      have hcut : (bs A).extract 0 B.length = bs B := by rw [bs_take, hA, hB]; simp
      have hsA := bs_size A
      have hd1 : ((A.length : Int) - 1) = (B.length : Int) := by omega
      have P7 : Hid (∀ v1 v2 w, Tls w v1 l → Tls w v2 l → Calls Try.prog 29 #[v1, v2] w fun en w' => en = .returned (.bool true) ∧ Below w.heap.size w w') := fun v1 v2 w a1 a2 => by
        have h := same_any v1 v2 l l w a1 a2 (by omega) (by omega)
        rw [show decide (l = l) = true from decide_eq_true rfl] at h; exact h
      have hBA : B.length ≤ A.length := by omega
      subst he
      clear hv hl hs hg hP hT hok hA hbl hB hAl hl3
      go_enter Try.func8, Try.ntmps8
      go_wp2_with fail
      with_reducible refine G.out.mono ?_
      rintro en _ ⟨rfl, rfl⟩
      go_wp2_with fail
      with_reducible refine (P5.out w HV.out).mono ?_
      rintro en w1 ⟨v1, rfl, ho1, hb1⟩
      have HO1 := Lib.hid ho1
      have HB1 := Lib.hid hb1
      clear ho1 hb1
      go_wp2_with fail
      with_reducible refine (P1.out v1 w1 HO1.out.tls).mono ?_
      rintro en w2 ⟨rfl, hb2⟩
      have HB2 := Lib.hid (HB1.out.trans (hb2.mono HB1.out.size))
      clear hb2 HO1
      go_wp2_with fail
      with_reducible refine (Q1.out w2).mono ?_
      rintro en w3 ⟨v3, rfl, ho3, hb3⟩
      have HO3 := Lib.hid ho3
      have HB3 := Lib.hid (HB2.out.trans (hb3.mono HB2.out.size))
      clear ho3 hb3
      go_wp2_with fail
      with_reducible refine (P5.out w3 (HV.out.later HB3.out)).mono ?_
      rintro en w4 ⟨v4, rfl, ho4, hb4⟩
      have HO4 := Lib.hid ho4
      have HO34 := Lib.hid (HO3.out.later hb4)
      have HB4 := Lib.hid (HB3.out.trans (hb4.mono HB3.out.size))
      clear ho4 hb4 HO3
      go_wp2_with fail
      with_reducible refine (P7.out v3 v4 w4 HO34.out.tls HO4.out.tls).mono ?_
      rintro en w5 ⟨rfl, hb5⟩
      have HB5 := Lib.hid (HB4.out.trans (hb5.mono HB4.out.size))
      clear hb5 HO4 HO34
      go_wp2_with fail
      with_reducible refine (Q2.out w5).mono ?_
      rintro en w6 ⟨v6, rfl, hb6⟩
      have HB6 := Lib.hid (HB5.out.trans (hb6.mono HB5.out.size))
      clear hb6
      go_wp2_with fail
      with_reducible refine (P6.out _).mono ?_
      rintro en w7 ⟨v7, rfl, ho7, hb7⟩
      have HO7 := Lib.hid ho7
      have HB7 := Lib.hid (HB6.out.trans (hb7.mono HB6.out.size))
      obtain ⟨a7, c7, hv7, _⟩ := ho7.tls.shape
      subst hv7
      clear ho7 hb7
      rcases T.out with ⟨rfl, rfl, rfl⟩ | ⟨rfl, B7, hB7, hadd7⟩
      · go_wp2_with fail
        with_reducible refine (wakes11_any _).mono ?_
        rintro en w8 ⟨rfl, hb8⟩
        go_wp2
        go_ret
        exact ⟨rfl, HB7.out.trans (hb8.mono HB7.out.size)⟩
      · have HP7 := Lib.hid hB7
        clear hB7
        go_wp2_with fail
        with_reducible refine (HP7.out _ _ HO7.out.tls).mono ?_
        rintro en w8 ⟨rfl, hb8⟩
        have HB8 := Lib.hid (HB7.out.trans (hb8.mono HB7.out.size))
        clear hb8
        go_wp2_with fail
        with_reducible refine (wakes11_any _).mono ?_
        rintro en w9 ⟨rfl, hb9⟩
        go_wp2
        go_ret
        exact ⟨rfl, HB8.out.trans (hb9.mono HB8.out.size)⟩
    · have de : (e == 0) = false := by simpa using he
      clear he hv hl hs hg hP hT hl3
      go_enter Try.func8, Try.ntmps8
      go_wp2_with fail
      with_reducible refine G.out.mono ?_
      rintro en _ ⟨rfl, rfl⟩
      go_wp2_with fail
      with_reducible refine (P5.out w HV.out).mono ?_
      rintro en w1 ⟨v1, rfl, ho1, hb1⟩
      have HO1 := Lib.hid ho1
      have HB1 := Lib.hid hb1
      clear ho1 hb1
      go_wp2_with fail
      with_reducible refine (P1.out v1 w1 HO1.out.tls).mono ?_
      rintro en w2 ⟨rfl, hb2⟩
      have HB2 := Lib.hid (HB1.out.trans (hb2.mono HB1.out.size))
      clear hb2 HO1
      go_wp2_with fail
      with_reducible refine (P6.out _).mono ?_
      rintro en w7 ⟨v7, rfl, ho7, hb7⟩
      have HO7 := Lib.hid ho7
      have HB7 := Lib.hid (HB2.out.trans (hb7.mono HB2.out.size))
      obtain ⟨a7, c7, hv7, _⟩ := ho7.tls.shape
      subst hv7
      clear ho7 hb7
      rcases T.out with ⟨rfl, rfl, rfl⟩ | ⟨rfl, B7, hB7, hadd7⟩
      · go_wp2_with fail
        with_reducible refine (wakes11_any _).mono ?_
        rintro en w8 ⟨rfl, hb8⟩
        go_wp2
        go_ret
        exact ⟨rfl, HB7.out.trans (hb8.mono HB7.out.size)⟩
      · have HP7 := Lib.hid hB7
        clear hB7
        go_wp2_with fail
        with_reducible refine (HP7.out _ _ HO7.out.tls).mono ?_
        rintro en w8 ⟨rfl, hb8⟩
        have HB8 := Lib.hid (HB7.out.trans (hb8.mono HB7.out.size))
        clear hb8
        go_wp2_with fail
        with_reducible refine (wakes11_any _).mono ?_
        rintro en w9 ⟨rfl, hb9⟩
        go_wp2
        go_ret
        exact ⟨rfl, HB8.out.trans (hb9.mono HB8.out.size)⟩
end Go.Proofs.Ytblmpndaofhmjaa
