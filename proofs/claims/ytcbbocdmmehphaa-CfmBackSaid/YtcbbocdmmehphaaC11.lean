/- cfm: the walk of CfmBack. -/
import Derived.Test.YtcbbocdmmehphaaC9
import Derived.Test.YtcbbocdmmehphaaC10
set_option linter.unusedVariables false
namespace Go.Proofs.Ytcbbocdmmehphaa
open Go.RowKit

set_option maxRecDepth 100000 in
set_option maxHeartbeats 8000000 in
theorem CfmBack_walk (a b c : Int) (f : List UInt8) (v : Value) (l : List Th) (t : ByteArray) (cut : Int) (w : World) (hA : PdA w a b c f v l) (ht : t.size ≤ maxLen) (hk : (Lit.int .u16 cut).wf = true) : Calls Try.prog 4 #[.agg #[.int .u8 a, .int .u8 b, .int .u8 c, .string (bs f), v], .string t, .int .u16 cut] w fun en w' => en = .returned (.bool true) ∧ Below w.heap.size w w' := by
  obtain ⟨s, rfl⟩ : ∃ l, t = bs l := ⟨_, bs_of t⟩
  rw [bs_size] at ht
  have hss := bs_size s
  have cb := bounds_u16 hk
  obtain ⟨ha, hb, hc, hf, hv, hl, hs⟩ := hA
  have G : Hid (∀ w, Tls w v l → Calls Try.prog 15 #[.agg #[.int .u8 a, .int .u8 b, .int .u8 c, .string (bs f), v]] w fun en w' => en = .returned (.bool (grP f l)) ∧ Below w.heap.size w w') := fun w h => great12_any v a b c f l w h hf hl hs
  have WK := Lib.hid wakes12_any
  obtain ⟨ad, cp, rfl, _⟩ := hv.shape
  have HV := Lib.hid hv
  obtain ⟨g, hg⟩ : ∃ g, grP f l = g := ⟨_, rfl⟩
  rw [hg] at G
  go_enter Try.func4, Try.ntmps4
  go_upto_region 1 with fail
  have pb := PB.new 24 w a b c f (.slice ad l.length cp)
  have hb0 : Below w.heap.size w (w.alloc (.cells #[.int .u8 a, .int .u8 b, .int .u8 c, .string (bs f), .slice ad l.length cp] 24)) := (Below.refl _ _).alloc (Nat.le_refl _) _
  obtain ⟨w1, hw1⟩ : ∃ k, w.alloc (.cells #[.int .u8 a, .int .u8 b, .int .u8 c, .string (bs f), .slice ad l.length cp] 24) = k := ⟨_, rfl⟩
  rw [hw1] at pb hb0 ⊢
  have c0 := pb.c0
  have c1 := pb.c1
  have c2 := pb.c2
  have c3 := pb.c3
  have c4 := pb.c4
  have PB0 := Lib.hid pb
  have HB0 := Lib.hid hb0
  have HHA := Lib.hid ha
  have HHB := Lib.hid hb
  have HHC := Lib.hid hc
  have HCB := Lib.hid cb
  have HF := Lib.hid hf
  have HL := Lib.hid hl
  have HS := Lib.hid hs
  have HGG := Lib.hid hg
  clear hw1 pb hb0 hv ha hb hc cb hk hf hl hs hg
  go_wp2_with fail
  with_reducible refine (G.out _ (HV.out.later HB0.out)).mono ?_
  rintro en w2 ⟨rfl, hb2⟩
  have PB2 := Lib.hid (PB0.out.later hb2)
  have HB2 := Lib.hid (HB0.out.trans (hb2.mono HB0.out.size))
  clear hb2 PB0 HB0 c0 c1 c2 c3 c4
  cases g with
  | true =>
    go_wp2_with fail
    with_reducible refine (WK.out _).mono ?_
    rintro en w3 ⟨rfl, hb3⟩
    go_wp2
    go_ret
    exact ⟨rfl, HB2.out.trans (hb3.mono HB2.out.size)⟩
  | false =>
  by_cases h10 : 1000 < s.length
  · have d10 : decide ((1000 : Int) < (s.length : Int)) = true := decide_eq_true (by omega)
    go_wp2_with fail
    with_reducible refine (WK.out _).mono ?_
    rintro en w3 ⟨rfl, hb3⟩
    go_wp2
    go_ret
    exact ⟨rfl, HB2.out.trans (hb3.mono HB2.out.size)⟩
  have d10 : decide ((1000 : Int) < (s.length : Int)) = false := decide_eq_false (by omega)
  obtain ⟨g1, g2, g3⟩ := grP_no HGG.out
  obtain ⟨A, e, hP⟩ : ∃ A e, putP a b c f l = (A, e) := ⟨_, _, rfl⟩
  have hm := putT_fits (l := l) (by omega) (fun x hx => Nat.le_trans (g3 x hx) (by omega))
  have hAl : A.length ≤ 50000 := by
    have h1 := putP_len a b c f l
    have h2 := putT_len l
    have h3 := flat_len l 2000 g3
    have h4 : l.length * (3 + 2000) ≤ 20 * (3 + 2000) := Nat.mul_le_mul_right _ g2
    rw [hP] at h1
    simp at h1; omega
  have O1 : Hid (∀ v w, Tls w v l → Calls Try.prog 18 #[.agg #[.int .u8 a, .int .u8 b, .int .u8 c, .string (bs f), v]] w fun en w' => ∃ v', en = .returned (.agg #[.int .u8 a, .int .u8 b, .int .u8 c, .string (bs f), v']) ∧ TlT w' w.heap.size v' l ∧ Below w.heap.size w w') := fun v w h => of12_any _ a b c f l w h (by omega)
  have P1 : Hid (∀ v w, Tls w v l → Calls Try.prog 17 #[.agg #[.int .u8 a, .int .u8 b, .int .u8 c, .string (bs f), v]] w fun en w' => en = .returned (.tuple #[.string (bs A), .int .i64 e]) ∧ Below w.heap.size w w') := fun v w h => by
    have h := cput_any v a b c f l w h (by omega) HS.out (by omega) hm HHA.out HHB.out HHC.out
    rw [hP] at h; exact h
  have OK := Lib.hid (putP_ok hP HHA.out HHB.out HHC.out)
  have HG1 := Lib.hid g1
  have HG2 := Lib.hid g2
  have HAL := Lib.hid hAl
  have H10 := Lib.hid h10
  have hsA := bs_size A
  have c0 := PB2.out.c0
  have c1 := PB2.out.c1
  have c2 := PB2.out.c2
  have c3 := PB2.out.c3
  have c4 := PB2.out.c4
  clear hP hm g1 g2 g3 hAl h10
  go_wp2_with fail
  with_reducible refine (O1.out _ _ (HV.out.later HB2.out)).mono ?_
  rintro en w3 ⟨v3, rfl, ho3, hb3⟩
  have PB3 := Lib.hid (PB2.out.later hb3)
  have HB3 := Lib.hid (HB2.out.trans (hb3.mono HB2.out.size))
  have HO3 := Lib.hid ho3.tls
  clear hb3 ho3 PB2 HB2 c0 c1 c2 c3 c4
  go_wp2_with fail
  with_reducible refine (P1.out _ _ HO3.out).mono ?_
  rintro en w4 ⟨rfl, hb4⟩
  have PB4 := Lib.hid (PB3.out.later hb4)
  have HB4 := Lib.hid (HB3.out.trans (hb4.mono HB3.out.size))
  clear hb4 PB3 HB3 HO3
  rcases OK.out with ⟨he, hA0⟩ | ⟨he, k1, k2, k3, k4⟩
  · have de : (e != 0) = true := by rw [bne_iff_ne]; exact he
    have hAe : (bs A).toList = [] := by rw [bs_tl, hA0]
    clear he hA0 OK
    go_wp2_with fail
    with_reducible refine (WK.out _).mono ?_
    rintro en w5 ⟨rfl, hb5⟩
    go_wp2
    go_ret
    exact ⟨rfl, HB4.out.trans (hb5.mono HB4.out.size)⟩
  have de : (e != 0) = false := by rw [he]; rfl
  have hal := HAL.out
  have ad1 := run_add_bs A s (by have := H10.out; omega)
  have T1 : Hid (∀ w, Calls Try.prog 20 #[.string (bs (A ++ s))] w fun en w' => ∃ v', en = .returned (.tuple #[.agg #[.int .u8 a, .int .u8 b, .int .u8 c, .string (bs f), v'], .int .i64 0]) ∧ TlT w' w.heap.size v' l ∧ Below w.heap.size w w') := fun w => by
    have h := ctake_any (A ++ s) w (by have := H10.out; simp; omega)
    rw [k1 s] at h; exact h
  have S1 : Hid (∀ u v w, Tls w u l → Tls w v l → Calls Try.prog 21 #[.agg #[.int .u8 a, .int .u8 b, .int .u8 c, .string (bs f), u], .agg #[.int .u8 a, .int .u8 b, .int .u8 c, .string (bs f), v]] w fun en w' => en = .returned (.bool true) ∧ Below w.heap.size w w') := fun u v w hu hv => by
    have h := same12_any u v a b c a b c f f l l w hu hv (by have := HG2.out; omega) (by have := HG2.out; omega)
    rw [decide_eq_true ⟨rfl, rfl, rfl, rfl, rfl⟩] at h; exact h
  have S2 : Hid (∀ u w, Tls w u [] → Calls Try.prog 21 #[.agg #[.int .u8 0, .int .u8 0, .int .u8 0, .string (bs []), u], .agg #[.int .u8 0, .int .u8 0, .int .u8 0, .string { data := #[] }, .slice none 0 0]] w fun en w' => en = .returned (.bool true) ∧ Below w.heap.size w w') := fun u w hu =>
    same12_any u (.slice none 0 0) 0 0 0 0 0 0 [] [] [] [] w hu (Tls.nil w) (by decide) (by decide)
  obtain ⟨N, hN⟩ : ∃ N : Nat, cut.toNat % (A.length + 1) = N := ⟨_, rfl⟩
  have hNl : N ≤ A.length := by have := Nat.mod_lt cut.toNat (show 0 < A.length + 1 by omega); omega
  have cb := HCB.out
  have tm : cut.tmod ((A.length : Int) + 1) = (N : Int) := by
    rw [Int.tmod_eq_emod_of_nonneg cb.1, ← hN, Int.natCast_emod, Int.toNat_of_nonneg cb.1]; push_cast; rfl
  have wcut : IntKind.i64.wrap cut = cut := IntWalk.i64_in _ (by omega)
  have wN : IntKind.i64.wrap (N : Int) = (N : Int) := IntWalk.i64_in _ (by omega)
  have wl1 : IntKind.i64.wrap ((A.length : Int) + 1) = (A.length : Int) + 1 := IntWalk.i64_in _ (by omega)
  have ex : (bs A).extract 0 N = bs (A.take N) := bs_take _ _
  obtain ⟨x, y, z, hH⟩ : ∃ x y z, hdV (A.take N) = (x, y, z) := ⟨_, _, _, rfl⟩
  obtain ⟨a2, b2, c2, F2, L2, e2, hT2⟩ : ∃ a b c F L e, tkP (A.take N) = (a, b, c, F, L, e) := ⟨_, _, _, _, _, _, rfl⟩
  have H1 : Hid (∀ w, Calls Try.prog 22 #[.string (bs (A.take N))] w fun en w' => en = .returned (.tuple #[.int .u8 x, .int .u8 y, .bool z]) ∧ Below w.heap.size w w') := fun w => by
    have h := Head_any (A.take N) w (by simp; omega)
    rw [hH] at h; exact h
  have T2 : Hid (∀ w, Calls Try.prog 20 #[.string (bs (A.take N))] w fun en w' => ∃ v', en = .returned (.tuple #[.agg #[.int .u8 a2, .int .u8 b2, .int .u8 c2, .string (bs F2), v'], .int .i64 e2]) ∧ TlT w' w.heap.size v' L2 ∧ Below w.heap.size w w') := fun w => by
    have h := ctake_any (A.take N) w (by simp; omega)
    rw [hT2] at h; exact h
  have CASE : Hid ((N < 4 ∧ N < A.length ∧ x = 0 ∧ y = 0 ∧ z = false ∧ a2 = 0 ∧ b2 = 0 ∧ c2 = 0 ∧ F2 = [] ∧ L2 = [] ∧ e2 = 3) ∨ (4 ≤ N ∧ N < A.length ∧ x = a ∧ y = b ∧ z = true ∧ a2 = 0 ∧ b2 = 0 ∧ c2 = 0 ∧ F2 = [] ∧ L2 = [] ∧ e2 = 3) ∨ (4 ≤ N ∧ N = A.length ∧ x = a ∧ y = b ∧ z = true)) := by
    have : (N < 4 ∧ N < A.length ∧ x = 0 ∧ y = 0 ∧ z = false ∧ a2 = 0 ∧ b2 = 0 ∧ c2 = 0 ∧ F2 = [] ∧ L2 = [] ∧ e2 = 3) ∨ (4 ≤ N ∧ N < A.length ∧ x = a ∧ y = b ∧ z = true ∧ a2 = 0 ∧ b2 = 0 ∧ c2 = 0 ∧ F2 = [] ∧ L2 = [] ∧ e2 = 3) ∨ (4 ≤ N ∧ N = A.length ∧ x = a ∧ y = b ∧ z = true) := by
      by_cases h4 : N < 4
      · left
        rw [hdV_short _ (by rw [List.length_take]; omega)] at hH
        rw [k3 N (by omega)] at hT2
        simp only [Prod.mk.injEq] at hH hT2
        obtain ⟨q1, q2, q3⟩ := hH
        obtain ⟨r1, r2, r3, r4, r5, r6⟩ := hT2
        exact ⟨h4, by omega, q1.symm, q2.symm, q3.symm, r1.symm, r2.symm, r3.symm, r4.symm, r5.symm, r6.symm⟩
      · rw [k4 N (by omega)] at hH
        simp only [Prod.mk.injEq] at hH
        obtain ⟨q1, q2, q3⟩ := hH
        by_cases hlt : N < A.length
        · right; left
          rw [k3 N hlt] at hT2
          simp only [Prod.mk.injEq] at hT2
          obtain ⟨r1, r2, r3, r4, r5, r6⟩ := hT2
          exact ⟨by omega, hlt, q1.symm, q2.symm, q3.symm, r1.symm, r2.symm, r3.symm, r4.symm, r5.symm, r6.symm⟩
        · right; right
          exact ⟨by omega, by omega, q1.symm, q2.symm, q3.symm⟩
    exact Lib.hid this
  have K2 := Lib.hid k2
  have HNL := Lib.hid hNl
  clear he k1 k2 k3 k4 OK hN hH hT2 cb
  go_wp2_with fail
  with_reducible refine (T1.out _).mono ?_
  rintro en w5 ⟨v5, rfl, ho5, hb5⟩
  have HB5 := Lib.hid (HB4.out.trans (hb5.mono HB4.out.size))
  have PB5 := Lib.hid (PB4.out.later hb5)
  have HT5 := Lib.hid ho5.tls
  obtain ⟨ad5, cp5, rfl, _⟩ := ho5.tls.shape
  clear ho5 hb5 PB4 HB4
  go_upto_region 7 with fail
  have pr := PB.new 32 w5 a b c f (.slice ad5 l.length cp5)
  have aa := (Below.refl w5.heap.size w5).alloc (Nat.le_refl _) (.cells #[.int .u8 a, .int .u8 b, .int .u8 c, .string (bs f), .slice ad5 l.length cp5] 32)
  obtain ⟨q5, hq5⟩ : ∃ k, w5.heap.size = k := ⟨_, rfl⟩
  obtain ⟨w6, hw6⟩ : ∃ k, w5.alloc (.cells #[.int .u8 a, .int .u8 b, .int .u8 c, .string (bs f), .slice ad5 l.length cp5] 32) = k := ⟨_, rfl⟩
  rw [hw6] at pr aa ⊢
  have pad : PB 24 w6.drew w.heap.size a b c f (.slice ad l.length cp) := PB5.out.later aa.drew
  have ta : Tls w6.drew (.slice ad5 l.length cp5) l := (HT5.out.later aa).later (Below.refl _ _).drew
  have HB6 := Lib.hid (HB5.out.trans (aa.mono HB5.out.size))
  have tr : Tls w6.drew (.slice ad l.length cp) l := (HV.out.later HB6.out).later (Below.refl _ _).drew
  rw [hq5] at pr ⊢
  have prd : PB 32 w6.drew q5 a b c f (.slice ad5 l.length cp5) := pr
  have pa := PB5.out.later aa
  clear aa hw6 hq5 PB5 HT5 HB5
  go_region_held3 (fun W => W.cell? ⟨w.heap.size, 0, none⟩ = some (.int .u8 a) ∧ W.cell? ⟨w.heap.size, 1, none⟩ = some (.int .u8 b) ∧ W.cell? ⟨w.heap.size, 2, none⟩ = some (.int .u8 c) ∧ W.cell? ⟨w.heap.size, 3, none⟩ = some (.string (bs f)) ∧ W.cell? ⟨w.heap.size, 4, none⟩ = some (.slice ad l.length cp) ∧ W.cell? ⟨q5, 0, none⟩ = some (.int .u8 a) ∧ W.cell? ⟨q5, 1, none⟩ = some (.int .u8 b) ∧ W.cell? ⟨q5, 2, none⟩ = some (.int .u8 c) ∧ W.cell? ⟨q5, 3, none⟩ = some (.string (bs f)) ∧ W.cell? ⟨q5, 4, none⟩ = some (.slice ad5 l.length cp5))
    (first | exact PB.ten pad prd | exact PB.ten pax prx | exact PB.ten pay pry)
    (first
      | (go_at_call 18; (with_reducible refine (O1.out _ _ tr).mono ?_); rintro en wx ⟨vx, rfl, hox, hbx⟩; have pax := pad.later hbx; have prx := prd.later hbx; have tax := ta.later hbx; have tvx := hox.tls)
      | (go_at_call 21; (with_reducible refine (S1.out _ _ _ tax tvx).mono ?_); rintro en wy ⟨rfl, hby⟩; have pay := pax.later hby; have pry := prx.later hby))
  have k1 : Below w.heap.size w w6.drew := HB6.out.drew
  have k2 := k1.trans (hbx.mono k1.size)
  have HB7 := Lib.hid (k2.trans (hby.mono k2.size))
  have PB7 := Lib.hid pay
  clear k1 k2 hbx hby pax prx tax tvx pay pry pad prd ta tr pa pr HB6 hox
  go_wp2_with fail
  with_reducible refine (H1.out _).mono ?_
  rintro en w8 ⟨rfl, hb8⟩
  have PB8 := Lib.hid (PB7.out.later hb8)
  have HB8 := Lib.hid (HB7.out.trans (hb8.mono HB7.out.size))
  clear hb8 PB7 HB7
  go_wp2_with fail
  with_reducible refine (T2.out _).mono ?_
  rintro en w9 ⟨v9, rfl, ho9, hb9⟩
  have HB9 := Lib.hid (HB8.out.trans (hb9.mono HB8.out.size))
  have PB9 := Lib.hid (PB8.out.later hb9)
  have HT9 := Lib.hid ho9.tls
  obtain ⟨ad9, cp9, rfl, _⟩ := ho9.tls.shape
  clear ho9 hb9 PB8 HB8
  go_upto_region 12 with fail
  have pr := PB.new 32 w9 a2 b2 c2 F2 (.slice ad9 L2.length cp9)
  have aa := (Below.refl w9.heap.size w9).alloc (Nat.le_refl _) (.cells #[.int .u8 a2, .int .u8 b2, .int .u8 c2, .string (bs F2), .slice ad9 L2.length cp9] 32)
  obtain ⟨q9, hq9⟩ : ∃ k, w9.heap.size = k := ⟨_, rfl⟩
  obtain ⟨wa, hwa⟩ : ∃ k, w9.alloc (.cells #[.int .u8 a2, .int .u8 b2, .int .u8 c2, .string (bs F2), .slice ad9 L2.length cp9] 32) = k := ⟨_, rfl⟩
  rw [hwa] at pr aa ⊢
  have HBa := Lib.hid (HB9.out.trans (aa.mono HB9.out.size))
  have pba := PB9.out.later aa
  have ta := HT9.out.later aa
  rw [hq9] at pr ⊢
  have HTa := Lib.hid ta
  have p0 := pba.c0
  have p1 := pba.c1
  have r0 := pr.c0
  have r1 := pr.c1
  have r2 := pr.c2
  have r3 := pr.c3
  have r4 := pr.c4
  have k2 := K2.out
  clear aa hwa hq9 PB9 HT9 HB9 pr pba ta tm ex
  rcases CASE.out with ⟨n1, n2, rfl, rfl, rfl, rfl, rfl, rfl, rfl, rfl, rfl⟩ | ⟨n1, n2, rfl, rfl, rfl, rfl, rfl, rfl, rfl, rfl, rfl⟩ | ⟨n1, n2, rfl, rfl, rfl⟩
  · have e1 : decide ((4 : Int) ≤ (N : Int)) = false := decide_eq_false (by omega)
    have e2 : decide (4 ≤ N) = false := decide_eq_false (by omega)
    have e3 : decide ((N : Int) < (A.length : Int)) = true := decide_eq_true (by omega)
    have e4 : decide (N < A.length) = true := decide_eq_true (by omega)
    have HT0 : Hid (Tls wa (.slice ad9 0 cp9) []) := HTa
    clear n1 n2 k2 HTa CASE
    go_wp2_with fail
    with_reducible refine (S2.out _ _ HT0.out).mono ?_
    rintro en wb ⟨rfl, hbb⟩
    have HBb := Lib.hid (HBa.out.trans (hbb.mono HBa.out.size))
    clear hbb
    go_wp2_with fail
    with_reducible refine (WK.out _).mono ?_
    rintro en wd ⟨rfl, hbd⟩
    go_wp2
    go_ret
    exact ⟨rfl, HBb.out.trans (hbd.mono HBb.out.size)⟩
  · have e1 : decide ((4 : Int) ≤ (N : Int)) = true := decide_eq_true (by omega)
    have e2 : decide (4 ≤ N) = true := decide_eq_true (by omega)
    have e3 : decide ((N : Int) < (A.length : Int)) = true := decide_eq_true (by omega)
    have e4 : decide (N < A.length) = true := decide_eq_true (by omega)
    have f1 : (x != x) = false := by simp
    have f2 : (y != y) = false := by simp
    have HT0 : Hid (Tls wa (.slice ad9 0 cp9) []) := HTa
    clear n1 n2 k2 HTa CASE
    go_wp2_with fail
    with_reducible refine (S2.out _ _ HT0.out).mono ?_
    rintro en wb ⟨rfl, hbb⟩
    have HBb := Lib.hid (HBa.out.trans (hbb.mono HBa.out.size))
    clear hbb
    go_wp2_with fail
    with_reducible refine (WK.out _).mono ?_
    rintro en wd ⟨rfl, hbd⟩
    go_wp2
    go_ret
    exact ⟨rfl, HBb.out.trans (hbd.mono HBb.out.size)⟩
  · have e1 : decide ((4 : Int) ≤ (N : Int)) = true := decide_eq_true (by omega)
    have e2 : decide (4 ≤ N) = true := decide_eq_true (by omega)
    have e3 : decide ((N : Int) < (A.length : Int)) = false := decide_eq_false (by omega)
    have e4 : decide (N < A.length) = false := decide_eq_false (by omega)
    have f1 : (x != x) = false := by simp
    have f2 : (y != y) = false := by simp
    clear n1 n2 k2 CASE
    go_wp2_with fail
    with_reducible refine (WK.out _).mono ?_
    rintro en wd ⟨rfl, hbd⟩
    go_wp2
    go_ret
    exact ⟨rfl, HBa.out.trans (hbd.mono HBa.out.size)⟩
end Go.Proofs.Ytcbbocdmmehphaa
