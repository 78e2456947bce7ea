/- cfm: the walk of CfmPuts. -/
import Derived.Test.YtcbbocdmmehphaaC7
import Derived.Test.YtcbbocdmmehphaaC4
import Derived.Test.YtcbbocdmmehphaaRP
set_option linter.unusedVariables false
namespace Go.Proofs.Ytcbbocdmmehphaa
open Go.RowKit

theorem grP_no {f : List UInt8} {l : List Th} (h : grP f l = false) : f.length ≤ 400 ∧ l.length ≤ 20 ∧ ∀ x ∈ l, x.2.length ≤ 2000 := by
  unfold grP at h
  rw [Bool.or_eq_false_iff, Bool.or_eq_false_iff] at h
  obtain ⟨h1, h2, h3⟩ := h
  refine ⟨Nat.le_of_not_lt (of_decide_eq_false h1), Nat.le_of_not_lt (of_decide_eq_false h2), fun x hx => ?_⟩
  rw [List.any_eq_false] at h3
  have := h3 x hx
  simpa using this
theorem thB_size (x : Th) : (thB x).length = 3 + x.2.length := by unfold thB; simp [be_length]; omega
theorem flat_len : ∀ (l : List Th) (M : Nat), (∀ x ∈ l, x.2.length ≤ M) → (l.flatMap thB).length ≤ l.length * (3 + M)
  | [], _, _ => by simp
  | x :: l, M, h => by
    have ih := flat_len l M (fun y hy => h y (List.mem_cons_of_mem _ hy))
    have := h x (List.mem_cons_self)
    rw [List.flatMap_cons, List.length_append, thB_size, List.length_cons, Nat.add_mul]
    omega
theorem putT_len : ∀ l : List Th, (putT l).1.length ≤ (l.flatMap thB).length + 1
  | [] => by simp [putT]
  | x :: l => by
    have ih := putT_len l
    unfold putT
    rw [List.flatMap_cons, List.length_append]
    repeat' split
    · rw [List.length_append]; omega
    · simp
    · simp
theorem putT_fits {l : List Th} (h : l.length ≤ 100) (hx : ∀ x ∈ l, x.2.length ≤ 100000) : (putT l).1.length ≤ 1000000000 := by
  have h1 := putT_len l
  have h2 := flat_len l 100000 hx
  have h3 : l.length * (3 + 100000) ≤ 100 * (3 + 100000) := Nat.mul_le_mul_right _ h
  omega
theorem TlT.up {w w' : World} {v : Value} {l : List Th} (h : TlT w w.heap.size v l) (hb : Below w.heap.size w w') : Tls w' v l := (h.later hb).tls
set_option maxRecDepth 100000 in
set_option maxHeartbeats 8000000 in
theorem CfmPuts_walk (a b c : Int) (f : List UInt8) (v : Value) (l : List Th) (w : World) (hA : PdA w a b c f v l) : Calls Try.prog 3 #[.agg #[.int .u8 a, .int .u8 b, .int .u8 c, .string (bs f), v]] w fun en w' => en = .returned (.bool true) ∧ Below w.heap.size w w' := by
  obtain ⟨ha, hb, hc, hf, hv, hl, hs⟩ := hA
  have G : Hid (∀ w, Tls w v l → Calls Try.prog 15 #[.agg #[.int .u8 a, .int .u8 b, .int .u8 c, .string (bs f), v]] w fun en w' => en = .returned (.bool (grP f l)) ∧ Below w.heap.size w w') := fun w h => great12_any v a b c f l w h hf hl hs
  have WK := Lib.hid wakes12_any
  obtain ⟨ad, cp, rfl, _⟩ := hv.shape
  have HV := Lib.hid hv
  cases hg : grP f l with
  | true =>
    rw [hg] at G
    clear hv hf hl hs hg ha hb hc
    go_enter Try.func3, Try.ntmps3
    go_upto_region 1 with fail
    have pb := PB.new 24 w a b c f (.slice ad l.length cp)
    have hb0 : Below w.heap.size w (w.alloc (.cells #[.int .u8 a, .int .u8 b, .int .u8 c, .string (bs f), .slice ad l.length cp] 24)) := (Below.refl _ _).alloc (Nat.le_refl _) _
    obtain ⟨w1, hw1⟩ : ∃ k, w.alloc (.cells #[.int .u8 a, .int .u8 b, .int .u8 c, .string (bs f), .slice ad l.length cp] 24) = k := ⟨_, rfl⟩
    rw [hw1] at pb hb0 ⊢
    have c0 := pb.c0
    have c1 := pb.c1
    have c2 := pb.c2
    have c3 := pb.c3
    have c4 := pb.c4
    have HB0 := Lib.hid hb0
    clear hw1 pb hb0
    go_wp2_with fail
    with_reducible refine (G.out _ (HV.out.later HB0.out)).mono ?_
    rintro en w2 ⟨rfl, hb2⟩
    have HB2 := Lib.hid (HB0.out.trans (hb2.mono HB0.out.size))
    clear hb2
    go_wp2_with fail
    with_reducible refine (WK.out _).mono ?_
    rintro en w3 ⟨rfl, hb3⟩
    go_wp2
    go_ret
    exact ⟨rfl, HB2.out.trans (hb3.mono HB2.out.size)⟩
  | false =>
    rw [hg] at G
    obtain ⟨g1, g2, g3⟩ := grP_no hg
    obtain ⟨A, e, hP⟩ : ∃ A e, putP a b c f l = (A, e) := ⟨_, _, rfl⟩
    have hm := putT_fits (l := l) (by omega) (fun x hx => Nat.le_trans (g3 x hx) (by omega))
    have O1 : Hid (∀ w, Tls w (.slice ad l.length cp) l → Calls Try.prog 18 #[.agg #[.int .u8 a, .int .u8 b, .int .u8 c, .string (bs f), .slice ad l.length cp]] w fun en w' => ∃ v', en = .returned (.agg #[.int .u8 a, .int .u8 b, .int .u8 c, .string (bs f), v']) ∧ TlT w' w.heap.size v' l ∧ Below w.heap.size w w') := fun w h => of12_any _ a b c f l w h (by omega)
    have P1 : Hid (∀ v w, Tls w v l → Calls Try.prog 17 #[.agg #[.int .u8 a, .int .u8 b, .int .u8 c, .string (bs f), v]] w fun en w' => en = .returned (.tuple #[.string (bs A), .int .i64 e]) ∧ Below w.heap.size w w') := fun v w h => by
      have h := cput_any v a b c f l w h (by omega) hs (by omega) hm ha hb hc
      rw [hP] at h; exact h
    have P2 : Hid (∀ v w, Tls w v l → Calls Try.prog 19 #[.agg #[.int .u8 a, .int .u8 b, .int .u8 c, .string (bs f), v]] w fun en w' => en = .returned (.tuple #[.string (bs A), .int .i64 e]) ∧ Below w.heap.size w w') := fun v w h => by
      have h := refPut12_any v a b c f l w h (by omega) hs (by omega) hm ha hb hc
      rw [hP] at h; exact h
    clear hv hf hl hs hg ha hb hc g1 g2 g3 hP hm
    go_enter Try.func3, Try.ntmps3
    go_upto_region 1 with fail
    have pb := PB.new 24 w a b c f (.slice ad l.length cp)
    have hb0 : Below w.heap.size w (w.alloc (.cells #[.int .u8 a, .int .u8 b, .int .u8 c, .string (bs f), .slice ad l.length cp] 24)) := (Below.refl _ _).alloc (Nat.le_refl _) _
    obtain ⟨w1, hw1⟩ : ∃ k, w.alloc (.cells #[.int .u8 a, .int .u8 b, .int .u8 c, .string (bs f), .slice ad l.length cp] 24) = k := ⟨_, rfl⟩
    rw [hw1] at pb hb0 ⊢
    have c0 := pb.c0
    have c1 := pb.c1
    have c2 := pb.c2
    have c3 := pb.c3
    have c4 := pb.c4
    have PB0 := Lib.hid pb
    have HB0 := Lib.hid hb0
    clear hw1 pb hb0
    go_wp2_with fail
    with_reducible refine (G.out _ (HV.out.later HB0.out)).mono ?_
    rintro en w2 ⟨rfl, hb2⟩
    have PB2 := Lib.hid (PB0.out.later hb2)
    have HB2 := Lib.hid (HB0.out.trans (hb2.mono HB0.out.size))
    clear hb2 PB0 HB0 c0 c1 c2 c3 c4
    have c0 := PB2.out.c0
    have c1 := PB2.out.c1
    have c2 := PB2.out.c2
    have c3 := PB2.out.c3
    have c4 := PB2.out.c4
    go_wp2_with fail
    with_reducible refine (O1.out _ (HV.out.later HB2.out)).mono ?_
    rintro en w3 ⟨v3, rfl, ho3, hb3⟩
    have PB3 := Lib.hid (PB2.out.later hb3)
    have HB3 := Lib.hid (HB2.out.trans (hb3.mono HB2.out.size))
    have HO3 := Lib.hid ho3.tls
    clear hb3 ho3 PB2 HB2 c0 c1 c2 c3 c4
    go_wp2_with fail
    with_reducible refine (P1.out _ _ HO3.out).mono ?_
    rintro en w4 ⟨rfl, hb4⟩
    have PB4 := Lib.hid (PB3.out.later hb4)
    have HB4 := Lib.hid (HB3.out.trans (hb4.mono HB3.out.size))
    clear hb4 PB3 HB3 HO3
    have c0 := PB4.out.c0
    have c1 := PB4.out.c1
    have c2 := PB4.out.c2
    have c3 := PB4.out.c3
    have c4 := PB4.out.c4
    go_wp2_with fail
    with_reducible refine (P2.out _ _ (HV.out.later HB4.out)).mono ?_
    rintro en w5 ⟨rfl, hb5⟩
    have HB5 := Lib.hid (HB4.out.trans (hb5.mono HB4.out.size))
    clear hb5 PB4 HB4 c0 c1 c2 c3 c4
    go_wp2_with fail
    with_reducible refine (WK.out _).mono ?_
    rintro en w6 ⟨rfl, hb6⟩
    go_wp2
    go_ret
    exact ⟨rfl, HB5.out.trans (hb6.mono HB5.out.size)⟩
end Go.Proofs.Ytcbbocdmmehphaa
