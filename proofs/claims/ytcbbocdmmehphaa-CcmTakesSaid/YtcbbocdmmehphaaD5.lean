/- ccm: the walk of CcmPuts. -/
import Derived.Test.YtcbbocdmmehphaaD4
import Derived.Test.YtcbbocdmmehphaaRC
import Derived.Test.YtcbbocdmmehphaaC9
set_option linter.unusedVariables false
namespace Go.Proofs.Ytcbbocdmmehphaa
open Go.RowKit

set_option maxRecDepth 100000 in
set_option maxHeartbeats 8000000 in
theorem CcmPuts_walk (xlv : Int) (xrd : Bool) (xiv xsq xme : Int) (xm : List UInt8) (w : World) (hA : CkA xlv xiv xsq xme xm) : Calls Try.prog 11 #[.agg #[.int .u8 xlv, .bool xrd, .int .u8 xiv, .int .u32 xsq, .int .u16 xme, .string (bs xm)]] w fun en w' => en = .returned (.bool true) ∧ Below w.heap.size w w' := by
  obtain ⟨h1, h2, h3, h4, h5⟩ := hA
  have hsm := bs_size xm
  have WK := Lib.hid wakes13_any
  go_enter Try.func11, Try.ntmps11
  go_upto_region 1 with fail
  have cb0 := CB.new 86 w xlv xrd xiv xsq xme xm
  have hb0 : Below w.heap.size w (w.alloc (.cells #[.int .u8 xlv, .bool xrd, .int .u8 xiv, .int .u32 xsq, .int .u16 xme, .string (bs xm)] 86)) := (Below.refl _ _).alloc (Nat.le_refl _) _
  obtain ⟨w0, hw0⟩ : ∃ k, w.alloc (.cells #[.int .u8 xlv, .bool xrd, .int .u8 xiv, .int .u32 xsq, .int .u16 xme, .string (bs xm)] 86) = k := ⟨_, rfl⟩
  rw [hw0] at cb0 hb0 ⊢
  have c0 := cb0.c0
  have c1 := cb0.c1
  have c2 := cb0.c2
  have c3 := cb0.c3
  have c4 := cb0.c4
  have c5 := cb0.c5
  have CB0 := Lib.hid cb0
  have HB0 := Lib.hid hb0
  clear hw0 cb0 hb0
  by_cases hl : 100 < xm.length
  · have dl : decide ((100 : Int) < (xm.length : Int)) = true := decide_eq_true (by omega)
    go_wp2_with fail
    with_reducible refine (WK.out _).mono ?_
    rintro en w1 ⟨rfl, hb⟩
    go_wp2
    go_ret
    exact ⟨rfl, HB0.out.trans (hb.mono HB0.out.size)⟩
  have dl : decide ((100 : Int) < (xm.length : Int)) = false := decide_eq_false (by omega)
  obtain ⟨A, B, C, F, e, hP⟩ : ∃ A B C F e, putC xlv xrd xiv xsq xme xm = (A, B, C, F, e) := ⟨_, _, _, _, _, rfl⟩
  have O1 : Hid (∀ w, Calls Try.prog 44 #[.agg #[.int .u8 xlv, .bool xrd, .int .u8 xiv, .int .u32 xsq, .int .u16 xme, .string (bs xm)]] w fun en w' => en = .returned (.agg #[.int .u8 xlv, .bool xrd, .int .u8 xiv, .int .u32 xsq, .int .u16 xme, .string (bs xm)]) ∧ Below w.heap.size w w') := fun w => of13_any xlv xrd xiv xsq xme xm w
  have P1 : Hid (∀ w, Calls Try.prog 43 #[.agg #[.int .u8 xlv, .bool xrd, .int .u8 xiv, .int .u32 xsq, .int .u16 xme, .string (bs xm)]] w fun en w' => en = .returned (.tuple #[.agg #[.int .u8 A, .int .u8 B, .int .u8 C, .string (bs F), .slice none 0 0], .int .i64 e]) ∧ Below w.heap.size w w') := fun w => by
    have h := ccput_any xlv xrd xiv xsq xme xm w (by omega) h3 h4
    rw [hP] at h; exact h
  have P2 : Hid (∀ w, Calls Try.prog 45 #[.agg #[.int .u8 xlv, .bool xrd, .int .u8 xiv, .int .u32 xsq, .int .u16 xme, .string (bs xm)]] w fun en w' => en = .returned (.tuple #[.agg #[.int .u8 A, .int .u8 B, .int .u8 C, .string (bs F), .slice none 0 0], .int .i64 e]) ∧ Below w.heap.size w w') := fun w => by
    have h := refPut13_any xlv xrd xiv xsq xme xm w (by omega) h3 h4
    rw [hP] at h; exact h
  have O2 : Hid (∀ w, Calls Try.prog 18 #[.agg #[.int .u8 A, .int .u8 B, .int .u8 C, .string (bs F), .slice none 0 0]] w fun en w' => ∃ v', en = .returned (.agg #[.int .u8 A, .int .u8 B, .int .u8 C, .string (bs F), v']) ∧ TlT w' w.heap.size v' [] ∧ Below w.heap.size w w') := fun w => of12_any _ A B C F [] w (Tls.nil w) (by decide)
  have S1 : Hid (∀ v w, Tls w v [] → Calls Try.prog 21 #[.agg #[.int .u8 A, .int .u8 B, .int .u8 C, .string (bs F), .slice none 0 0], .agg #[.int .u8 A, .int .u8 B, .int .u8 C, .string (bs F), v]] w fun en w' => en = .returned (.bool true) ∧ Below w.heap.size w w') := fun v w hv => by
    have h := same12_any (.slice none 0 0) v A B C A B C F F [] [] w (Tls.nil w) hv (by decide) (by decide)
    rw [decide_eq_true ⟨rfl, rfl, rfl, rfl, rfl⟩] at h; exact h
  obtain ⟨K, hK⟩ : ∃ K, tickC xiv = K := ⟨_, rfl⟩
  have K1 : Hid (∀ w, Calls Try.prog 46 #[.int .u8 xiv] w fun en w' => en = .returned (.int .i64 K) ∧ w = w') := by
    rw [← hK]; exact fun w => ticks_any xiv w
  have HK := Lib.hid hK
  clear hP hK h1 h2 h3 h4 h5 hl
  go_wp2_with fail
  with_reducible refine (O1.out _).mono ?_
  rintro en w1 ⟨rfl, hb1⟩
  have CB1 := Lib.hid (CB0.out.later hb1)
  have HB1 := Lib.hid (HB0.out.trans (hb1.mono HB0.out.size))
  clear hb1 CB0 HB0 c0 c1 c2 c3 c4 c5
  go_wp2_with fail
  with_reducible refine (P1.out _).mono ?_
  rintro en w2 ⟨rfl, hb2⟩
  have CB2 := Lib.hid (CB1.out.later hb2)
  have HB2 := Lib.hid (HB1.out.trans (hb2.mono HB1.out.size))
  clear hb2 CB1 HB1
  go_upto_region 4 with fail
  have pb := PB.new 32 w2 A B C F (.slice none 0 0)
  have aa := (Below.refl w2.heap.size w2).alloc (Nat.le_refl _) (.cells #[.int .u8 A, .int .u8 B, .int .u8 C, .string (bs F), .slice none 0 0] 32)
  obtain ⟨q, hq⟩ : ∃ k, w2.heap.size = k := ⟨_, rfl⟩
  obtain ⟨w3, hw3⟩ : ∃ k, w2.alloc (.cells #[.int .u8 A, .int .u8 B, .int .u8 C, .string (bs F), .slice none 0 0] 32) = k := ⟨_, rfl⟩
  rw [hw3] at pb aa ⊢
  have CB3 := Lib.hid (CB2.out.later aa)
  have HB3 := Lib.hid (HB2.out.trans (aa.mono HB2.out.size))
  rw [hq] at pb ⊢
  have PB3 := Lib.hid pb
  have c0 := CB3.out.c0
  have c1 := CB3.out.c1
  have c2 := CB3.out.c2
  have c3 := CB3.out.c3
  have c4 := CB3.out.c4
  have c5 := CB3.out.c5
  clear pb aa hw3 hq CB2 HB2
  go_wp2_with fail
  with_reducible refine (P2.out _).mono ?_
  rintro en w4 ⟨rfl, hb4⟩
  have CB4 := Lib.hid (CB3.out.later hb4)
  have PB4 := Lib.hid (PB3.out.later hb4)
  have HB4 := Lib.hid (HB3.out.trans (hb4.mono HB3.out.size))
  clear hb4 CB3 PB3 HB3 c0 c1 c2 c3 c4 c5
  go_upto_region 5 with fail
  have pr := PB.new 24 w4 A B C F (.slice none 0 0)
  have aa := (Below.refl w4.heap.size w4).alloc (Nat.le_refl _) (.cells #[.int .u8 A, .int .u8 B, .int .u8 C, .string (bs F), .slice none 0 0] 24)
  obtain ⟨r, hr⟩ : ∃ k, w4.heap.size = k := ⟨_, rfl⟩
  obtain ⟨w5, hw5⟩ : ∃ k, w4.alloc (.cells #[.int .u8 A, .int .u8 B, .int .u8 C, .string (bs F), .slice none 0 0] 24) = k := ⟨_, rfl⟩
  rw [hw5] at pr aa ⊢
  have CB5 := Lib.hid (CB4.out.later aa)
  have PB5 := Lib.hid (PB4.out.later aa)
  have HB5 := Lib.hid (HB4.out.trans (aa.mono HB4.out.size))
  rw [hr] at pr ⊢
  have PR5 := Lib.hid pr
  have c2 := CB5.out.c2
  clear pr aa hw5 hr CB4 PB4 HB4
  obtain ⟨J, hJ⟩ : ∃ J : Int, (if xiv = 4 then (1 : Int) else 0) = J := ⟨_, rfl⟩
  have HJ := Lib.hid hJ
  clear hJ
  go_upto_if 26 with fail
  go_cut [7] (fun s7 wx => s7 = .int .i64 J ∧ wx = w5)
  case first =>
    by_cases h4 : xiv = 4
    · have d4 : (xiv == 4) = true := by rw [h4]; rfl
      have hj : J = 1 := by rw [← HJ.out, if_pos h4]
      have HJ1 := Lib.hid hj
      clear hj h4
      go_wp2_with fail
      go_meet
      exact ⟨by rw [HJ1.out], rfl⟩
    · have d4 : (xiv == 4) = false := by rw [beq_eq_false_iff_ne]; exact h4
      have hj : J = 0 := by rw [← HJ.out, if_neg h4]
      have HJ1 := Lib.hid hj
      clear hj h4
      go_wp2_with fail
      go_meet
      exact ⟨by rw [HJ1.out], rfl⟩
  obtain ⟨rfl, hwc⟩ := hcut
  rw [hwc]
  clear hwc
  go_upto_if 29 with fail
  go_cut [7] (fun s7 wx => s7 = .int .i64 K ∧ wx = w5)
  case first =>
    by_cases h5 : xiv = 5
    · have d5 : (xiv == 5) = true := by rw [h5]; rfl
      have hk : K = 10 := by rw [← HK.out, h5]; rfl
      have HKK := Lib.hid hk
      clear hk h5
      go_wp2_with fail
      go_meet
      exact ⟨by rw [HKK.out], rfl⟩
    · have d5 : (xiv == 5) = false := by rw [beq_eq_false_iff_ne]; exact h5
      have hk : J = K := by rw [← HK.out, ← HJ.out]; unfold tickC; rw [if_neg h5]
      have HKK := Lib.hid hk
      clear hk h5
      go_wp2_with fail
      go_meet
      exact ⟨by rw [HKK.out], rfl⟩
  obtain ⟨rfl, hwc⟩ := hcut
  rw [hwc]
  clear hwc c2
  go_upto_region 10 with fail
  have pad : PB 32 w5.drew q A B C F (.slice none 0 0) := PB5.out
  have prd : PB 24 w5.drew r A B C F (.slice none 0 0) := PR5.out
  have cbd : CB 86 w5.drew w.heap.size xlv xrd xiv xsq xme xm := CB5.out
  have kk : (K == K) = true := by simp
  go_region_held3 (fun W => W.cell? ⟨w.heap.size, 2, none⟩ = some (.int .u8 xiv) ∧ W.cell? ⟨q, 0, none⟩ = some (.int .u8 A) ∧ W.cell? ⟨q, 1, none⟩ = some (.int .u8 B) ∧ W.cell? ⟨q, 2, none⟩ = some (.int .u8 C) ∧ W.cell? ⟨q, 3, none⟩ = some (.string (bs F)) ∧ W.cell? ⟨q, 4, none⟩ = some (.slice none 0 0) ∧ W.cell? ⟨r, 0, none⟩ = some (.int .u8 A) ∧ W.cell? ⟨r, 1, none⟩ = some (.int .u8 B) ∧ W.cell? ⟨r, 2, none⟩ = some (.int .u8 C) ∧ W.cell? ⟨r, 3, none⟩ = some (.string (bs F)) ∧ W.cell? ⟨r, 4, none⟩ = some (.slice none 0 0))
    (first | exact ⟨cbd.c2, PB.ten pad prd⟩ | exact ⟨cbx.c2, PB.ten pax prx⟩ | exact ⟨cby.c2, PB.ten pay pry⟩ | exact ⟨cbz.c2, PB.ten paz prz⟩)
    (first
      | (go_at_call 18; (with_reducible refine (O2.out _).mono ?_); rintro en wx ⟨vx, rfl, hox, hbx⟩; have pax := pad.later hbx; have prx := prd.later hbx; have cbx := cbd.later hbx; have tvx := hox.tls)
      | (go_at_call 21; (with_reducible refine (S1.out _ _ tvx).mono ?_); rintro en wy ⟨rfl, hby⟩; have pay := pax.later hby; have pry := prx.later hby; have cby := cbx.later hby)
      | (go_at_call 46; (with_reducible refine (K1.out _).mono ?_); rintro en _ ⟨rfl, rfl⟩)
      | (go_at_call 42; (with_reducible refine (WK.out _).mono ?_); rintro en wz ⟨rfl, hbz⟩; have paz := pay.later hbz; have prz := pry.later hbz; have cbz := cby.later hbz))
  all_goals go_wp2
  all_goals go_ret
  all_goals
    have k1 : Below w.heap.size w w5.drew := HB5.out.drew
    have k2 := k1.trans (hbx.mono k1.size)
    have k3 := k2.trans (hby.mono k2.size)
    exact ⟨rfl, k3.trans (hbz.mono k3.size)⟩
end Go.Proofs.Ytcbbocdmmehphaa
