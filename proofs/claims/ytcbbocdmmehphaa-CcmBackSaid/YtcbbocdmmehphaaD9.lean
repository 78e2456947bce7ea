/- ccm: the walk of CcmBack. -/
import Derived.Test.YtcbbocdmmehphaaD8
set_option linter.unusedVariables false
namespace Go.Proofs.Ytcbbocdmmehphaa
open Go.RowKit

set_option maxRecDepth 100000 in
set_option maxHeartbeats 8000000 in
theorem CcmBack_walk (xlv : Int) (xrd : Bool) (xiv xsq xme : Int) (xm : List UInt8) (a b c : Int) (f : List UInt8) (v : Value) (l : List Th) (t : ByteArray) (w : World) (hX : CkA xlv xiv xsq xme xm) (hA : PdA w a b c f v l) (ht : t.size ≤ maxLen) : Calls Try.prog 13 #[.agg #[.int .u8 xlv, .bool xrd, .int .u8 xiv, .int .u32 xsq, .int .u16 xme, .string (bs xm)], .agg #[.int .u8 a, .int .u8 b, .int .u8 c, .string (bs f), v], .string t] w fun en w' => en = .returned (.bool true) ∧ Below w.heap.size w w' := by
  obtain ⟨s, rfl⟩ : ∃ l, t = bs l := ⟨_, bs_of t⟩
  rw [bs_size] at ht
  obtain ⟨x1, x2, x3, x4, x5⟩ := hX
  obtain ⟨ha, hb, hc, hf, hv, hl, hs⟩ := hA
  have WK := Lib.hid wakes13_any
  have hsm := bs_size xm
  have hsf := bs_size f
  have hss := bs_size s
  obtain ⟨ad, cp, rfl, _⟩ := hv.shape
  obtain ⟨N, hN⟩ : ∃ N, l.length = N := ⟨_, rfl⟩
  rw [hN] at hl hv ⊢
  have HV := Lib.hid hv
  clear hv
  go_enter Try.func13, Try.ntmps13
  go_upto_region 1 with fail
  have pb := PB.new 24 (w.alloc (.cells #[.int .u8 xlv, .bool xrd, .int .u8 xiv, .int .u32 xsq, .int .u16 xme, .string (bs xm)] 88)) a b c f (.slice ad N cp)
  have cb := (CB.new 88 w xlv xrd xiv xsq xme xm).later ((Below.refl _ _).alloc (Nat.le_refl _) (.cells #[.int .u8 a, .int .u8 b, .int .u8 c, .string (bs f), .slice ad N cp] 24))
  have hb0 : Below w.heap.size w ((w.alloc (.cells #[.int .u8 xlv, .bool xrd, .int .u8 xiv, .int .u32 xsq, .int .u16 xme, .string (bs xm)] 88)).alloc (.cells #[.int .u8 a, .int .u8 b, .int .u8 c, .string (bs f), .slice ad N cp] 24)) := ((Below.refl _ _).alloc (Nat.le_refl _) _).alloc (by simp) _
  rw [show (w.alloc (.cells #[.int .u8 xlv, .bool xrd, .int .u8 xiv, .int .u32 xsq, .int .u16 xme, .string (bs xm)] 88)).heap.size = w.heap.size + 1 by simp] at pb
  obtain ⟨w0, hw0⟩ : ∃ k, (w.alloc (.cells #[.int .u8 xlv, .bool xrd, .int .u8 xiv, .int .u32 xsq, .int .u16 xme, .string (bs xm)] 88)).alloc (.cells #[.int .u8 a, .int .u8 b, .int .u8 c, .string (bs f), .slice ad N cp] 24) = k := ⟨_, rfl⟩
  rw [hw0] at pb cb hb0 ⊢
  have c0 := cb.c0
  have c1 := cb.c1
  have c2 := cb.c2
  have c3 := cb.c3
  have c4 := cb.c4
  have c5 := cb.c5
  have p3 := pb.c3
  have p4 := pb.c4
  have CB0 := Lib.hid cb
  have PB0 := Lib.hid pb
  have HB0 := Lib.hid hb0
  clear hw0 pb cb hb0
  by_cases g0 : 100 < xm.length
  · have d0 : decide ((100 : Int) < (xm.length : Int)) = true := decide_eq_true (by omega)
    go_wp2_with fail
    with_reducible refine (WK.out _).mono ?_
    rintro en w1 ⟨rfl, hb⟩
    go_wp2
    go_ret
    exact ⟨rfl, HB0.out.trans (hb.mono HB0.out.size)⟩
  have d0 : decide ((100 : Int) < (xm.length : Int)) = false := decide_eq_false (by omega)
  by_cases g1 : 400 < f.length
  · have d1 : decide ((400 : Int) < (f.length : Int)) = true := decide_eq_true (by omega)
    go_wp2_with fail
    with_reducible refine (WK.out _).mono ?_
    rintro en w1 ⟨rfl, hb⟩
    go_wp2
    go_ret
    exact ⟨rfl, HB0.out.trans (hb.mono HB0.out.size)⟩
  have d1 : decide ((400 : Int) < (f.length : Int)) = false := decide_eq_false (by omega)
  by_cases g2 : 20 < N
  · have d2 : decide ((20 : Int) < (N : Int)) = true := decide_eq_true (by omega)
    go_wp2_with fail
    with_reducible refine (WK.out _).mono ?_
    rintro en w1 ⟨rfl, hb⟩
    go_wp2
    go_ret
    exact ⟨rfl, HB0.out.trans (hb.mono HB0.out.size)⟩
  have d2 : decide ((20 : Int) < (N : Int)) = false := decide_eq_false (by omega)
  by_cases g3 : 1000 < s.length
  · have d3 : decide ((1000 : Int) < (s.length : Int)) = true := decide_eq_true (by omega)
    go_wp2_with fail
    with_reducible refine (WK.out _).mono ?_
    rintro en w1 ⟨rfl, hb⟩
    go_wp2
    go_ret
    exact ⟨rfl, HB0.out.trans (hb.mono HB0.out.size)⟩
  have d3 : decide ((1000 : Int) < (s.length : Int)) = false := decide_eq_false (by omega)
  obtain ⟨A, B, C, F, e, hP⟩ : ∃ A B C F e, putC xlv xrd xiv xsq xme xm = (A, B, C, F, e) := ⟨_, _, _, _, _, rfl⟩
  obtain ⟨ylv, yrd, yiv, ysq, yme, ym, e2, hT⟩ : ∃ ylv yrd yiv ysq yme ym e2, tkC a b c f = (ylv, yrd, yiv, ysq, yme, ym, e2) := ⟨_, _, _, _, _, _, _, rfl⟩
  have OK1 := Lib.hid (putC_ok x1.1 x3 hP)
  have OK2 := Lib.hid (tkC_ok hc ha.1 hT)
  have P1 : Hid (∀ w, Calls Try.prog 43 #[.agg #[.int .u8 xlv, .bool xrd, .int .u8 xiv, .int .u32 xsq, .int .u16 xme, .string (bs xm)]] w fun en w' => en = .returned (.tuple #[.agg #[.int .u8 A, .int .u8 B, .int .u8 C, .string (bs F), .slice none 0 0], .int .i64 e]) ∧ Below w.heap.size w w') := fun w => by
    have h := ccput_any xlv xrd xiv xsq xme xm w (by omega) x3 x4
    rw [hP] at h; exact h
  have O1 : Hid (∀ w, Tls w (.slice ad N cp) l → Calls Try.prog 18 #[.agg #[.int .u8 a, .int .u8 b, .int .u8 c, .string (bs f), .slice ad N cp]] w fun en w' => ∃ v', en = .returned (.agg #[.int .u8 a, .int .u8 b, .int .u8 c, .string (bs f), v']) ∧ TlT w' w.heap.size v' l ∧ Below w.heap.size w w') := fun w h => of12_any _ a b c f l w h (by omega)
  have T1 : Hid (∀ ad' cp' w, Calls Try.prog 47 #[.agg #[.int .u8 a, .int .u8 b, .int .u8 c, .string (bs f), .slice ad' N cp']] w fun en w' => en = .returned (.tuple #[.agg #[.int .u8 ylv, .bool yrd, .int .u8 yiv, .int .u32 ysq, .int .u16 yme, .string (bs ym)], .int .i64 e2]) ∧ Below w.heap.size w w') := fun ad' cp' w => by
    have h := cctake_any (.slice ad' N cp') a b c f w (by omega) ha hc ⟨_, _, _, rfl⟩
    rw [hT] at h; exact h
  have HN := Lib.hid hN
  have HS := Lib.hid g3
  clear hP hT hN g0 g1 g2 g3 ha hb hc hf hl hs x1 x2 x3 x4 x5 ht
  go_wp2_with fail
  with_reducible refine (P1.out _).mono ?_
  rintro en w1 ⟨rfl, hb1⟩
  have HB1 := Lib.hid (HB0.out.trans (hb1.mono HB0.out.size))
  have CB1 := Lib.hid (CB0.out.later hb1)
  have PB1 := Lib.hid (PB0.out.later hb1)
  clear hb1 CB0 PB0 HB0 c0 c1 c2 c3 c4 c5 p3 p4
  go_upto_region 4 with fail
  have pm := PB.new 32 w1 A B C F (.slice none 0 0)
  have aa := (Below.refl w1.heap.size w1).alloc (Nat.le_refl _) (.cells #[.int .u8 A, .int .u8 B, .int .u8 C, .string (bs F), .slice none 0 0] 32)
  obtain ⟨q, hq⟩ : ∃ k, w1.heap.size = k := ⟨_, rfl⟩
  obtain ⟨w2, hw2⟩ : ∃ k, w1.alloc (.cells #[.int .u8 A, .int .u8 B, .int .u8 C, .string (bs F), .slice none 0 0] 32) = k := ⟨_, rfl⟩
  rw [hw2] at pm aa ⊢
  have HB2 := Lib.hid (HB1.out.trans (aa.mono HB1.out.size))
  have CB2 := Lib.hid (CB1.out.later aa)
  have PB2 := Lib.hid (PB1.out.later aa)
  rw [hq] at pm ⊢
  have PM2 := Lib.hid pm
  clear pm aa hw2 hq CB1 PB1 HB1
  go_upto_if 49 with fail
  go_cut [6] (fun s6 wx => s6 = .bool false ∧ Hid (PB 24 wx (w.heap.size + 1) a b c f (.slice ad N cp)) ∧ Hid (Below w.heap.size w wx))
  case first =>
    rcases OK1.out with ⟨he, _⟩ | ⟨he, k1, k2, k3, k4, k5, X, k6, k7, k8⟩
    · have de : (e == 0) = false := by rw [he]; rfl
      clear he OK1
      go_wp2_with fail
      go_meet
      exact ⟨rfl, PB2, HB2⟩
    have de : (e == 0) = true := by rw [he]; rfl
    have U1 : Hid (∀ w, Calls Try.prog 17 #[.agg #[.int .u8 A, .int .u8 B, .int .u8 C, .string (bs F), .slice none 0 0]] w fun en w' => en = .returned (.tuple #[.string (bs X), .int .i64 0]) ∧ Below w.heap.size w w') := fun w => by
      have h := cput_any (.slice none 0 0) A B C F [] w (Tls.nil w) (by decide) (by simp) (by omega) (by decide) k1 k2 k3
      rw [k6] at h; exact h
    have ad1 := run_add_bs X s (by have := HS.out; omega)
    have U2 : Hid (∀ w, Calls Try.prog 20 #[.string (bs (X ++ s))] w fun en w' => ∃ v', en = .returned (.tuple #[.agg #[.int .u8 A, .int .u8 B, .int .u8 C, .string (bs F), v'], .int .i64 0]) ∧ TlT w' w.heap.size v' [] ∧ Below w.heap.size w w') := fun w => by
      have h := ctake_any (X ++ s) w (by have := HS.out; simp; omega)
      rw [k8 s] at h; exact h
    have U3 : Hid (∀ ad' cp' w, Calls Try.prog 47 #[.agg #[.int .u8 A, .int .u8 B, .int .u8 C, .string (bs F), .slice ad' 0 cp']] w fun en w' => en = .returned (.tuple #[.agg #[.int .u8 xlv, .bool xrd, .int .u8 xiv, .int .u32 xsq, .int .u16 xme, .string (bs xm)], .int .i64 0]) ∧ Below w.heap.size w w') := fun ad' cp' w => by
      have h := cctake_any (.slice ad' 0 cp') A B C F w (by omega) k1 k3 ⟨_, _, _, rfl⟩
      rw [k5] at h; exact h
    have neC : ∀ w : World, (binOp .neq 88 (.agg #[.int .u8 xlv, .bool xrd, .int .u8 xiv, .int .u32 xsq, .int .u16 xme, .string (bs xm)]) (.agg #[.int .u8 xlv, .bool xrd, .int .u8 xiv, .int .u32 xsq, .int .u16 xme, .string (bs xm)])).run Try.prog w = .ok (.bool false) w := run_neq_check xlv xrd xiv xsq xme xm
    have hg := eqGuard_ck
    have hsX := bs_size X
    have m0 := PM2.out.c0
    have m1 := PM2.out.c1
    have m2 := PM2.out.c2
    have m3 := PM2.out.c3
    have m4 := PM2.out.c4
    clear he k1 k2 k3 k4 k5 k6 k7 k8 OK1 P1 O1 T1
    go_wp2_with fail
    with_reducible refine (U1.out _).mono ?_
    rintro en w3 ⟨rfl, hb3⟩
    have HB3 := Lib.hid (HB2.out.trans (hb3.mono HB2.out.size))
    have CB3 := Lib.hid (CB2.out.later hb3)
    have PB3 := Lib.hid (PB2.out.later hb3)
    have PM3 := Lib.hid (PM2.out.later hb3)
    clear hb3 HB2 CB2 PB2 PM2 m0 m1 m2 m3 m4
    go_wp2_with fail
    with_reducible refine (U2.out _).mono ?_
    rintro en w4 ⟨v4, rfl, ho4, hb4⟩
    have HB4 := Lib.hid (HB3.out.trans (hb4.mono HB3.out.size))
    have CB4 := Lib.hid (CB3.out.later hb4)
    have PB4 := Lib.hid (PB3.out.later hb4)
    have PM4 := Lib.hid (PM3.out.later hb4)
    obtain ⟨ad4, cp4, hv4, _⟩ := ho4.tls.shape
    simp only [List.length_nil] at hv4
    subst hv4
    clear hb4 ho4 HB3 CB3 PB3 PM3
    go_upto_region 7 with fail
    have pn := PB.new 32 w4 A B C F (.slice ad4 0 cp4)
    have aa := (Below.refl w4.heap.size w4).alloc (Nat.le_refl _) (.cells #[.int .u8 A, .int .u8 B, .int .u8 C, .string (bs F), .slice ad4 0 cp4] 32)
    obtain ⟨r, hr⟩ : ∃ k, w4.heap.size = k := ⟨_, rfl⟩
    obtain ⟨w5, hw5⟩ : ∃ k, w4.alloc (.cells #[.int .u8 A, .int .u8 B, .int .u8 C, .string (bs F), .slice ad4 0 cp4] 32) = k := ⟨_, rfl⟩
    rw [hw5] at pn aa ⊢
    have HB5 := Lib.hid (HB4.out.trans (aa.mono HB4.out.size))
    have CB5 := Lib.hid (CB4.out.later aa)
    have PB5 := Lib.hid (PB4.out.later aa)
    have PM5 := Lib.hid (PM4.out.later aa)
    rw [hr] at pn ⊢
    have n0 := pn.c0
    have n1 := pn.c1
    have n2 := pn.c2
    have n3 := pn.c3
    have n4 := pn.c4
    clear pn aa hw5 hr HB4 CB4 PB4 PM4
    go_wp2_with fail
    with_reducible refine (U3.out _ _ _).mono ?_
    rintro en w6 ⟨rfl, hb6⟩
    have HB6 := Lib.hid (HB5.out.trans (hb6.mono HB5.out.size))
    have CB6 := Lib.hid (CB5.out.later hb6)
    have PB6 := Lib.hid (PB5.out.later hb6)
    have PM6 := Lib.hid (PM5.out.later hb6)
    clear hb6 HB5 CB5 PB5 PM5 n0 n1 n2 n3 n4
    go_upto_region 8 with fail
    have cn := CB.new 88 w6 xlv xrd xiv xsq xme xm
    have aa := (Below.refl w6.heap.size w6).alloc (Nat.le_refl _) (.cells #[.int .u8 xlv, .bool xrd, .int .u8 xiv, .int .u32 xsq, .int .u16 xme, .string (bs xm)] 88)
    obtain ⟨u, hu⟩ : ∃ k, w6.heap.size = k := ⟨_, rfl⟩
    obtain ⟨w7, hw7⟩ : ∃ k, w6.alloc (.cells #[.int .u8 xlv, .bool xrd, .int .u8 xiv, .int .u32 xsq, .int .u16 xme, .string (bs xm)] 88) = k := ⟨_, rfl⟩
    rw [hw7] at cn aa ⊢
    have HB7 := Lib.hid (HB6.out.trans (aa.mono HB6.out.size))
    have cb7 := CB6.out.later aa
    have PB7 := Lib.hid (PB6.out.later aa)
    have pm7 := PM6.out.later aa
    rw [hu] at cn ⊢
    have c0 := cb7.c0
    have c1 := cb7.c1
    have c2 := cb7.c2
    have c3 := cb7.c3
    have c4 := cb7.c4
    have c5 := cb7.c5
    have n0 := cn.c0
    have n1 := cn.c1
    have n2 := cn.c2
    have n3 := cn.c3
    have n4 := cn.c4
    have n5 := cn.c5
    have m4 := pm7.c4
    clear cn aa hw7 hu HB6 CB6 PB6 PM6 cb7 pm7
    go_wp2_with fail
    go_meet
    exact ⟨rfl, PB7, HB7⟩
  case rest =>
    obtain ⟨rfl, PB3, HB3⟩ := hcut
    have p0 := PB3.out.c0
    have p1 := PB3.out.c1
    have p2 := PB3.out.c2
    have p3 := PB3.out.c3
    have p4 := PB3.out.c4
    have hb03 := HV.out.later HB3.out
    clear P1 OK1 PB2 HB2 CB2 PM2
    go_wp2_with fail
    with_reducible refine (O1.out _ hb03).mono ?_
    rintro en w4 ⟨v4, rfl, ho4, hb4⟩
    have HB4 := Lib.hid (HB3.out.trans (hb4.mono HB3.out.size))
    have PB4 := Lib.hid (PB3.out.later hb4)
    obtain ⟨ad4, cp4, hv4, _⟩ := ho4.tls.shape
    rw [HN.out] at hv4
    subst hv4
    clear hb4 ho4 PB3 HB3 hb03 p0 p1 p2 p3 p4 O1
    go_wp2_with fail
    with_reducible refine (T1.out _ _ _).mono ?_
    rintro en w5 ⟨rfl, hb5⟩
    have HB5 := Lib.hid (HB4.out.trans (hb5.mono HB4.out.size))
    have PB5 := Lib.hid (PB4.out.later hb5)
    clear hb5 PB4 HB4 T1
    go_upto_region 11 with fail
    have cn := CB.new 88 w5 ylv yrd yiv ysq yme ym
    have aa := (Below.refl w5.heap.size w5).alloc (Nat.le_refl _) (.cells #[.int .u8 ylv, .bool yrd, .int .u8 yiv, .int .u32 ysq, .int .u16 yme, .string (bs ym)] 88)
    obtain ⟨u, hu⟩ : ∃ k, w5.heap.size = k := ⟨_, rfl⟩
    obtain ⟨w6, hw6⟩ : ∃ k, w5.alloc (.cells #[.int .u8 ylv, .bool yrd, .int .u8 yiv, .int .u32 ysq, .int .u16 yme, .string (bs ym)] 88) = k := ⟨_, rfl⟩
    rw [hw6] at cn aa ⊢
    have HB6 := Lib.hid (HB5.out.trans (aa.mono HB5.out.size))
    have PB6 := Lib.hid (PB5.out.later aa)
    rw [hu] at cn ⊢
    have CY6 := Lib.hid cn
    have c0 := cn.c0
    have c1 := cn.c1
    have c2 := cn.c2
    have c3 := cn.c3
    have c4 := cn.c4
    have c5 := cn.c5
    clear cn aa hw6 hu HB5 PB5
    have hg := eqGuard_ck
    rcases OK2.out with ⟨rfl, rfl, rfl, rfl, rfl, rfl, rfl⟩ | ⟨rfl, y1, y2, y3, y4, y5, A, B, C, F, y6, y7⟩
    · have eqZ : ∀ w : World, (binOp .eql 88 (.agg #[.int .u8 0, .bool false, .int .u8 0, .int .u32 0, .int .u16 0, .string (bs [])]) (.agg #[.int .u8 0, .bool false, .int .u8 0, .int .u32 0, .int .u16 0, .string { data := #[] }])).run Try.prog w = .ok (.bool true) w := run_eql_check 0 false 0 0 0 []
      clear OK2
      go_wp2_with fail
      with_reducible refine (WK.out _).mono ?_
      rintro en w7 ⟨rfl, hb7⟩
      go_wp2
      go_ret
      exact ⟨rfl, HB6.out.trans (hb7.mono HB6.out.size)⟩
    have OKA := Lib.hid (putC_ok y1 y2 y6)
    have V1 : Hid (∀ w, Calls Try.prog 43 #[.agg #[.int .u8 ylv, .bool yrd, .int .u8 yiv, .int .u32 ysq, .int .u16 yme, .string (bs ym)]] w fun en w' => en = .returned (.tuple #[.agg #[.int .u8 A, .int .u8 B, .int .u8 C, .string (bs F), .slice none 0 0], .int .i64 0]) ∧ Below w.heap.size w w') := fun w => by
      have h := ccput_any ylv yrd yiv ysq yme ym w (by omega) y2 y3
      rw [y6] at h; exact h
    rcases OKA.out with ⟨he, _⟩ | ⟨he, k1, k2, k3, k4, k5, _⟩
    · exact absurd he (by decide)
    have V2 : Hid (∀ w, Calls Try.prog 47 #[.agg #[.int .u8 A, .int .u8 B, .int .u8 C, .string (bs F), .slice none 0 0]] w fun en w' => en = .returned (.tuple #[.agg #[.int .u8 ylv, .bool yrd, .int .u8 yiv, .int .u32 ysq, .int .u16 yme, .string (bs ym)], .int .i64 0]) ∧ Below w.heap.size w w') := fun w => by
      have h := cctake_any (.slice none 0 0) A B C F w (by omega) k1 k3 ⟨_, _, _, rfl⟩
      rw [k5] at h; exact h
    rw [y5] at hsf
    have sF : (bs F).size = 70 := by rw [bs_size, k4]
    have eF : (bs F).extract 0 54 = bs (F.take 54) := bs_take _ _
    have ef : (bs f).extract 0 54 = bs (F.take 54) := by rw [y7]; exact bs_take _ _
    have eqY : ∀ w : World, (binOp .eql 88 (.agg #[.int .u8 ylv, .bool yrd, .int .u8 yiv, .int .u32 ysq, .int .u16 yme, .string (bs ym)]) (.agg #[.int .u8 ylv, .bool yrd, .int .u8 yiv, .int .u32 ysq, .int .u16 yme, .string (bs ym)])).run Try.prog w = .ok (.bool true) w := run_eql_check ylv yrd yiv ysq yme ym
    clear y1 y2 y3 y4 y5 y6 y7 OKA OK2 he k1 k2 k3 k4 k5
    go_wp2_with fail
    with_reducible refine (V1.out _).mono ?_
    rintro en w7 ⟨rfl, hb7⟩
    have HB7 := Lib.hid (HB6.out.trans (hb7.mono HB6.out.size))
    have PB7 := Lib.hid (PB6.out.later hb7)
    have CY7 := Lib.hid (CY6.out.later hb7)
    clear hb7 HB6 PB6 CY6 c0 c1 c2 c3 c4 c5
    go_upto_region 14 with fail
    have pm := PB.new 32 w7 A B C F (.slice none 0 0)
    have aa := (Below.refl w7.heap.size w7).alloc (Nat.le_refl _) (.cells #[.int .u8 A, .int .u8 B, .int .u8 C, .string (bs F), .slice none 0 0] 32)
    obtain ⟨r, hr⟩ : ∃ k, w7.heap.size = k := ⟨_, rfl⟩
    obtain ⟨w8, hw8⟩ : ∃ k, w7.alloc (.cells #[.int .u8 A, .int .u8 B, .int .u8 C, .string (bs F), .slice none 0 0] 32) = k := ⟨_, rfl⟩
    rw [hw8] at pm aa ⊢
    have HB8 := Lib.hid (HB7.out.trans (aa.mono HB7.out.size))
    have PB8 := Lib.hid (PB7.out.later aa)
    have CY8 := Lib.hid (CY7.out.later aa)
    rw [hr] at pm ⊢
    have PM8 := Lib.hid pm
    have c0 := pm.c0
    have c1 := pm.c1
    have c2 := pm.c2
    have c3 := pm.c3
    have c4 := pm.c4
    clear pm aa hw8 hr HB7 PB7 CY7
    go_wp2_with fail
    with_reducible refine (V2.out _).mono ?_
    rintro en w9 ⟨rfl, hb9⟩
    have HB9 := Lib.hid (HB8.out.trans (hb9.mono HB8.out.size))
    have PB9 := Lib.hid (PB8.out.later hb9)
    have CY9 := Lib.hid (CY8.out.later hb9)
    have PM9 := Lib.hid (PM8.out.later hb9)
    clear hb9 HB8 PB8 CY8 PM8 c0 c1 c2 c3 c4
    go_upto_region 15 with fail
    have cn := CB.new 88 w9 ylv yrd yiv ysq yme ym
    have aa := (Below.refl w9.heap.size w9).alloc (Nat.le_refl _) (.cells #[.int .u8 ylv, .bool yrd, .int .u8 yiv, .int .u32 ysq, .int .u16 yme, .string (bs ym)] 88)
    obtain ⟨z, hz⟩ : ∃ k, w9.heap.size = k := ⟨_, rfl⟩
    obtain ⟨wa, hwa⟩ : ∃ k, w9.alloc (.cells #[.int .u8 ylv, .bool yrd, .int .u8 yiv, .int .u32 ysq, .int .u16 yme, .string (bs ym)] 88) = k := ⟨_, rfl⟩
    rw [hwa] at cn aa ⊢
    have HBa := Lib.hid (HB9.out.trans (aa.mono HB9.out.size))
    have PBa := Lib.hid (PB9.out.later aa)
    have CYa := Lib.hid (CY9.out.later aa)
    have PMa := Lib.hid (PM9.out.later aa)
    rw [hz] at cn ⊢
    have CZa := Lib.hid cn
    have m3 := PMa.out.c3
    have p3 := PBa.out.c3
    clear cn aa hwa hz HB9 PB9 CY9 PM9
    go_upto_region 17 with fail
    clear m3 p3
    have cyd : CB 88 wa.drew u ylv yrd yiv ysq yme ym := CYa.out
    have czd : CB 88 wa.drew z ylv yrd yiv ysq yme ym := CZa.out
    have pmd : PB 32 wa.drew r A B C F (.slice none 0 0) := PMa.out
    have pbd : PB 24 wa.drew (w.heap.size + 1) a b c f (.slice ad N cp) := PBa.out
    go_region_held3 (fun W => (W.cell? ⟨r, 3, none⟩ = some (.string (bs F)) ∧ W.cell? ⟨w.heap.size + 1, 3, none⟩ = some (.string (bs f))) ∧ W.cell? ⟨z, 0, none⟩ = some (.int .u8 ylv) ∧ W.cell? ⟨z, 1, none⟩ = some (.bool yrd) ∧ W.cell? ⟨z, 2, none⟩ = some (.int .u8 yiv) ∧ W.cell? ⟨z, 3, none⟩ = some (.int .u32 ysq) ∧ W.cell? ⟨z, 4, none⟩ = some (.int .u16 yme) ∧ W.cell? ⟨z, 5, none⟩ = some (.string (bs ym)) ∧
      W.cell? ⟨u, 0, none⟩ = some (.int .u8 ylv) ∧ W.cell? ⟨u, 1, none⟩ = some (.bool yrd) ∧ W.cell? ⟨u, 2, none⟩ = some (.int .u8 yiv) ∧ W.cell? ⟨u, 3, none⟩ = some (.int .u32 ysq) ∧ W.cell? ⟨u, 4, none⟩ = some (.int .u16 yme) ∧ W.cell? ⟨u, 5, none⟩ = some (.string (bs ym)))
      (first | exact ⟨⟨pmd.c3, pbd.c3⟩, CB.both czd cyd⟩ | exact ⟨⟨pmx.c3, pbx.c3⟩, CB.both czx cyx⟩)
      (first | (go_at_call 42; (with_reducible refine (WK.out _).mono ?_); rintro en wx ⟨rfl, hbx⟩; have cyx := cyd.later hbx; have czx := czd.later hbx; have pmx := pmd.later hbx; have pbx := pbd.later hbx))
    all_goals go_wp2
    all_goals go_ret
    all_goals
      have k1 : Below w.heap.size w wa.drew := HBa.out.drew
      exact ⟨rfl, k1.trans (hbx.mono k1.size)⟩
end Go.Proofs.Ytcbbocdmmehphaa
