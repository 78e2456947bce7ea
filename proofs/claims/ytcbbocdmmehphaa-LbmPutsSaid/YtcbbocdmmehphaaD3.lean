/- ccm: there and back, plain; the reference's Put. -/
import Derived.Test.YtcbbocdmmehphaaD2
import Derived.Test.YtcbbocdmmehphaaP4
import Derived.Deep.RegionHeld3
set_option linter.unusedVariables false
namespace Go.Proofs.Ytcbbocdmmehphaa
open Go.RowKit

set_option maxRecDepth 100000 in
set_option maxHeartbeats 1000000 in
theorem num_far (k : Nat) : ∀ (n : Int) (w : World), 0 ≤ n → n < 18446744073709551616 → k ≤ 100 →
    Calls Try.prog 72 #[.int .u64 n, .int .i64 k] w fun e w' => e = .returned (.string (bs (numR k n))) ∧ Below w.heap.size w w' := by
  induction k with
  | zero =>
    intro n w h0 h1 _
    go_enter Try.func72, Try.ntmps72
    go_wp2_with fail
    go_ret
    exact ⟨rfl, Below.refl _ _⟩
  | succ k ih =>
    intro n w h0 h1 hk
    have IH := Lib.hid ih
    clear ih
    have hk0 : (((k : Int) + 1) == 0) = false := by simp; omega
    have hcast : ((k + 1 : Nat) : Int) = (k : Int) + 1 := by omega
    rw [hcast]
    clear hcast
    have e1 : IntKind.u64.wrap (n.tdiv 256) = n / 256 := by rw [Int.tdiv_eq_ediv_of_nonneg h0]; exact IntWalk.u64_in _ (by omega)
    have e2 : IntKind.i64.wrap (k : Int) = (k : Int) := IntWalk.i64_in _ (by omega)
    have e3 : IntKind.u8.wrap (n.tmod 256) = n % 256 := by rw [Int.tmod_eq_emod_of_nonneg h0]; exact IntWalk.u8_in _ (by omega)
    have e4 : 0 ≤ n % 256 ∧ n % 256 < 256 := by omega
    have b1 : 0 ≤ n / 256 ∧ n / 256 < 18446744073709551616 ∧ k ≤ 100 := by omega
    have B1 := Lib.hid b1
    have hcv := run_string_one (n % 256) e4.1 e4.2
    have hadd := run_add_bs (numR k (n / 256)) [UInt8.ofNat (n % 256).toNat] (by simp [numR_len]; omega)
    have H4 := Lib.hid e4
    clear b1 e4 h0 h1 hk
    go_enter Try.func72, Try.ntmps72
    go_wp2_with fail
    go_region_with (go_at_call 72; with_reducible refine (IH.out (n / 256) _ B1.out.1 B1.out.2.1 B1.out.2.2).mono ?_; rintro e w' ⟨rfl, hb⟩; have hc := bcell hb)
    all_goals go_wp2
    all_goals go_ret
    all_goals refine ⟨rfl, ?_⟩
    all_goals first
      | exact ((Below.refl w.heap.size w).drew.trans hb).alloc (by have := hb.size; simpa using this) _
      | exact (((Below.refl w.heap.size w).alloc (Nat.le_refl _) _).drew.trans (hb.mono (by simp)))

theorem PB.set2 {T : TypeId} {W : World} {q : Nat} {a b c : Int} {f : List UInt8} {v : Value} (h : PB T W q a b c f v) (d : Int) : PB T (W.setCell ⟨q, 2, none⟩ (.int .u8 d)) q a b d f v := by
  unfold PB at *; simp [World.setCell, Array.getElem?_modify, h]
theorem numR_zero : ∀ k, numR k 0 = List.replicate k 0
  | 0 => rfl
  | k + 1 => by
    rw [numR, show (0 : Int) / 256 = 0 from rfl, numR_zero k, List.replicate_succ']
    rfl
theorem mayC_len {lv iv me : Int} {m : List UInt8} (h : mayC lv iv me m = true) : lv < 8 ∧ (iv = 4 ∨ iv = 5) ∧ 1 ≤ me ∧ me ≤ 8191 ∧ (takeR m).2.2 = 0 ∧ m.length = 48 := by
  unfold mayC at h
  simp only [Bool.and_eq_true, decide_eq_true_eq] at h
  obtain ⟨h1, h2, h3, h4, h5⟩ := h
  refine ⟨h1, (tick_pos iv).1 h2, h3, h4, h5, ?_⟩
  rcases takeR_cases m with ⟨d, o, k1, k2⟩ | ⟨k1, k2⟩
  · exact mPut_len k1
  · rw [k2] at h5; exact absurd h5 (by decide)
/-- What is put is taken. -/
theorem cput_take {lv : Int} {rd : Bool} {iv sq me : Int} {m : List UInt8} (h : mayC lv iv me m = true) (hsq : 0 ≤ sq ∧ sq < 4294967296) : tkC lv 1 (iv + (if rd = true then 128 else 0)) (fxC sq me m) = (lv, rd, iv, sq, me, m, 0) := by
  obtain ⟨h1, h2, h3, h4, h5, h6⟩ := mayC_len h
  have q1 : cr1 (fxC sq me m) = (be 4 sq, be 2 me ++ (m ++ List.replicate 16 0), 0) := by
    unfold cr1 fxC
    rw [List.append_assoc, List.append_assoc]
    exact rdText_app (be 4 sq) _ 4 (be_length 4 sq) (by decide)
  have q2 : cr2 (fxC sq me m) = (be 2 me, m ++ List.replicate 16 0, 0) := by
    unfold cr2; rw [q1]; exact rdText_app (be 2 me) _ 2 (be_length 2 me) (by decide)
  have q3 : cr3 (fxC sq me m) = (m, List.replicate 16 0, 0) := by
    unfold cr3; rw [q2]; exact rdText_app m _ 48 h6 (by decide)
  have q4 : cr4 (fxC sq me m) = (List.replicate 16 0, [], 0) := by
    unfold cr4; rw [q3]
    have := rdText_app (List.replicate 16 (0 : UInt8)) [] 16 (by simp) (by decide)
    rw [List.append_nil] at this; exact this
  have qE : crE (fxC sq me m) = 0 := by unfold crE; rw [q4]; rfl
  have n1 : numOf (be 4 sq) = sq := by rw [numOf_be]; exact Int.emod_eq_of_lt hsq.1 (by have := hsq.2; omega)
  have n2 : numOf (be 2 me) = me := by rw [numOf_be]; exact Int.emod_eq_of_lt (by omega) (by omega)
  have e8 : (iv + (if rd = true then 128 else 0)) % 8 = iv := by cases rd <;> rcases h2 with rfl | rfl <;> rfl
  have eg : decide (127 < iv + (if rd = true then 128 else 0)) = rd := by cases rd <;> rcases h2 with rfl | rfl <;> rfl
  unfold tkC
  rw [q1, q2, q3, qE, e8, eg, n1, n2, if_pos ⟨rfl, rfl, h⟩]
set_option maxRecDepth 100000 in
set_option maxHeartbeats 8000000 in
theorem refPut13_any (xlv : Int) (xrd : Bool) (xiv xsq xme : Int) (xm : List UInt8) (w : World) (hm : xm.length ≤ 1000) (hsq : 0 ≤ xsq ∧ xsq < 4294967296) (hme : 0 ≤ xme ∧ xme < 65536) : Calls Try.prog 45 #[.agg #[.int .u8 xlv, .bool xrd, .int .u8 xiv, .int .u32 xsq, .int .u16 xme, .string (bs xm)]] w fun en w' =>
    en = .returned (.tuple #[.agg #[.int .u8 (putC xlv xrd xiv xsq xme xm).1, .int .u8 (putC xlv xrd xiv xsq xme xm).2.1, .int .u8 (putC xlv xrd xiv xsq xme xm).2.2.1, .string (bs (putC xlv xrd xiv xsq xme xm).2.2.2.1), .slice none 0 0], .int .i64 (putC xlv xrd xiv xsq xme xm).2.2.2.2]) ∧ Below w.heap.size w w' := by
  obtain ⟨R, hR⟩ : ∃ R, putC xlv xrd xiv xsq xme xm = R := ⟨_, rfl⟩
  rw [hR]
  obtain ⟨K, hK⟩ : ∃ K, mayC xlv xiv xme xm = K := ⟨_, rfl⟩
  have M1 : Hid (∀ w, Calls Try.prog 83 #[.agg #[.int .u8 xlv, .bool xrd, .int .u8 xiv, .int .u32 xsq, .int .u16 xme, .string (bs xm)]] w fun en w' => en = .returned (.bool K) ∧ Below w.heap.size w w') := by
    rw [← hK]; exact fun w => refMay13_any xlv xrd xiv xsq xme xm w hm
  have HR := Lib.hid hR
  have HK := Lib.hid hK
  have HM := Lib.hid hm
  have N1 : Hid (∀ w, Calls Try.prog 72 #[.int .u64 xsq, .int .i64 4] w fun e w' => e = .returned (.string (bs (be 4 xsq))) ∧ Below w.heap.size w w') := fun w => num_be 4 xsq w (by omega) (by omega) (by omega)
  have N2 : Hid (∀ w, Calls Try.prog 72 #[.int .u64 xme, .int .i64 2] w fun e w' => e = .returned (.string (bs (be 2 xme))) ∧ Below w.heap.size w w') := fun w => num_be 2 xme w (by omega) (by omega) (by omega)
  have N3 : Hid (∀ w, Calls Try.prog 72 #[.int .u64 0, .int .i64 16] w fun e w' => e = .returned (.string (bs (List.replicate 16 0))) ∧ Below w.heap.size w w') := fun w => by
    rw [← numR_zero 16]; exact num_far 16 0 w (by omega) (by omega) (by omega)
  have wq : IntKind.u64.wrap xsq = xsq := IntWalk.u64_in _ (by omega)
  have wm : IntKind.u64.wrap xme = xme := IntWalk.u64_in _ (by omega)
  clear hR hK hm hsq hme
  go_enter Try.func45, Try.ntmps45
  go_upto_region 1 with fail
  have cb0 := (CB.new 86 w xlv xrd xiv xsq xme xm).later ((Below.refl _ _).alloc (Nat.le_refl _) (.cells #[.int .u8 0, .int .u8 0, .int .u8 0, .string { data := #[] }, .slice none 0 0] 24))
  have pz : PB 24 ((w.alloc (.cells #[.int .u8 xlv, .bool xrd, .int .u8 xiv, .int .u32 xsq, .int .u16 xme, .string (bs xm)] 86)).alloc (.cells #[.int .u8 0, .int .u8 0, .int .u8 0, .string { data := #[] }, .slice none 0 0] 24)) (w.heap.size + 1) 0 0 0 [] (.slice none 0 0) := by
    have := PB.new 24 (w.alloc (.cells #[.int .u8 xlv, .bool xrd, .int .u8 xiv, .int .u32 xsq, .int .u16 xme, .string (bs xm)] 86)) 0 0 0 [] (.slice none 0 0)
    rw [show (w.alloc (.cells #[.int .u8 xlv, .bool xrd, .int .u8 xiv, .int .u32 xsq, .int .u16 xme, .string (bs xm)] 86)).heap.size = w.heap.size + 1 by simp] at this
    exact this
  have hb0 : Below w.heap.size w ((w.alloc (.cells #[.int .u8 xlv, .bool xrd, .int .u8 xiv, .int .u32 xsq, .int .u16 xme, .string (bs xm)] 86)).alloc (.cells #[.int .u8 0, .int .u8 0, .int .u8 0, .string { data := #[] }, .slice none 0 0] 24)) := ((Below.refl _ _).alloc (Nat.le_refl _) _).alloc (by simp) _
  obtain ⟨w0, hw0⟩ : ∃ k, (w.alloc (.cells #[.int .u8 xlv, .bool xrd, .int .u8 xiv, .int .u32 xsq, .int .u16 xme, .string (bs xm)] 86)).alloc (.cells #[.int .u8 0, .int .u8 0, .int .u8 0, .string { data := #[] }, .slice none 0 0] 24) = k := ⟨_, rfl⟩
  rw [hw0] at cb0 pz hb0 ⊢
  have c0 := cb0.c0
  have c1 := cb0.c1
  have c2 := cb0.c2
  have c3 := cb0.c3
  have c4 := cb0.c4
  have c5 := cb0.c5
  have CB0 := Lib.hid cb0
  have PZ0 := Lib.hid pz
  have HB0 := Lib.hid hb0
  clear hw0 cb0 pz hb0
  go_wp2_with fail
  with_reducible refine (M1.out _).mono ?_
  rintro en w1 ⟨rfl, hb1⟩
  have CB1 := Lib.hid (CB0.out.later hb1)
  have PZ1 := Lib.hid (PZ0.out.later hb1)
  have HB1 := Lib.hid (HB0.out.trans (hb1.mono HB0.out.size))
  clear hb1 CB0 PZ0 HB0 c0 c1 c2 c3 c4 c5 M1
  cases K with
  | false =>
    have hRR : R = (0, 0, 0, [], 2) := by rw [← HR.out]; unfold putC; rw [HK.out]; rfl
    have HRR := Lib.hid hRR
    clear hRR
    have z0 := PZ1.out.c0
    have z1 := PZ1.out.c1
    have z2 := PZ1.out.c2
    have z3 := PZ1.out.c3
    have z4 := PZ1.out.c4
    have y0 := PZ1.out.fr 0
    have y1 := PZ1.out.fr 1
    have y2 := PZ1.out.fr 2
    have y3 := PZ1.out.fr 3
    have y4 := PZ1.out.fr 4
    go_wp2_with fail
    refine bodyPost_ret (v := .tuple #[.agg #[.int .u8 0, .int .u8 0, .int .u8 0, .string (bs []), .slice none 0 0], .int .i64 2]) (by simp [results, Try.results45, go_sem, z0, z1, z2, z3, z4]; rfl) rfl ⟨by rw [HRR.out], below_set (below_set (below_set (below_set (below_set HB1.out (by omega) _) (by omega) _) (by omega) _) (by omega) _) (by omega) _⟩
  | true =>
  obtain ⟨C, hC⟩ : ∃ C : Int, xiv + (if xrd = true then 128 else 0) = C := ⟨_, rfl⟩
  have hRR : R = (xlv, 1, C, fxC xsq xme xm, 0) := by rw [← HR.out, ← hC]; unfold putC; rw [HK.out, if_pos rfl]
  have HRR := Lib.hid hRR
  have hiv := mayC_iv HK.out
  have c0 := CB1.out.c0
  have c1 := CB1.out.c1
  have c2 := CB1.out.c2
  clear hRR
  go_upto_region 4 with fail
  have pq := PB.new 24 w1 xlv 1 xiv [] (.slice none 0 0)
  have aa := (Below.refl w1.heap.size w1).alloc (Nat.le_refl _) (.cells #[.int .u8 xlv, .int .u8 1, .int .u8 xiv, .string { data := #[] }, .slice none 0 0] 24)
  have hq0 : w.heap.size + 1 < w1.heap.size := PZ1.out.lt
  obtain ⟨q, hq⟩ : ∃ k, w1.heap.size = k := ⟨_, rfl⟩
  obtain ⟨w2, hw2⟩ : ∃ k, w1.alloc (.cells #[.int .u8 xlv, .int .u8 1, .int .u8 xiv, .string { data := #[] }, .slice none 0 0] 24) = k := ⟨_, rfl⟩
  have pq2 : PB 24 w2 w1.heap.size xlv 1 xiv [] (.slice none 0 0) := by rw [← hw2]; exact pq
  rw [hw2] at aa ⊢
  have CB2 := Lib.hid (CB1.out.later aa)
  have PZ2 := Lib.hid (PZ1.out.later aa)
  have HB2 := Lib.hid (HB1.out.trans (aa.mono HB1.out.size))
  rw [hq] at pq2 hq0 ⊢
  have PQ2 := Lib.hid pq2
  have HQ0 := Lib.hid hq0
  clear hw2 pq pq2 aa hq hq0 CB1 PZ1 HB1 c0 c1 c2
  have c1 := CB2.out.c1
  have q2 := PQ2.out.c2
  have g2 := PQ2.out.fr 2
  go_upto_if 15 with fail
  go_cut [] (fun wx => Hid (PB 24 wx q xlv 1 C [] (.slice none 0 0)) ∧ Hid (CB 86 wx w.heap.size xlv xrd xiv xsq xme xm) ∧ Hid (PB 24 wx (w.heap.size + 1) 0 0 0 [] (.slice none 0 0)) ∧ Hid (Below w.heap.size w wx))
  case first =>
    cases xrd with
    | true =>
      rcases hiv with rfl | rfl
      all_goals
        go_wp2_with fail
        go_meet
        refine ⟨Lib.hid ?_, Lib.hid ?_, Lib.hid (PZ2.out.other (by have := HQ0.out; omega) _), Lib.hid (below_set HB2.out (by have := HQ0.out; omega) _)⟩
        · rw [← hC]; exact PQ2.out.set2 _
        · exact CB2.out.other (by have := HQ0.out; omega) _
    | false =>
      rcases hiv with rfl | rfl
      all_goals
        go_wp2_with fail
        go_meet
        refine ⟨?_, CB2, PZ2, HB2⟩
        rw [← hC]; exact PQ2
  case rest =>
  obtain ⟨PQ3, CB3, PZ3, HB3⟩ := hcut
  clear c1 q2 g2 PQ2 CB2 PZ2 HB2 hC hiv
  go_upto_region 6 with fail
  have cbd : CB 86 wc.drew w.heap.size xlv xrd xiv xsq xme xm := CB3.out
  have pqd : PB 24 wc.drew q xlv 1 C [] (.slice none 0 0) := PQ3.out
  have hlm := HM.out
  have a1 := run_add_bs (be 4 xsq) (be 2 xme) (by simp [be_length])
  have a2 := run_add_bs (be 4 xsq ++ be 2 xme) xm (by simp [be_length]; omega)
  have a3 := run_add_bs (be 4 xsq ++ be 2 xme ++ xm) (List.replicate 16 0) (by simp [be_length]; omega)
  obtain ⟨B4, hB4⟩ : ∃ X, be 4 xsq = X := ⟨_, rfl⟩
  obtain ⟨B2, hB2⟩ : ∃ X, be 2 xme = X := ⟨_, rfl⟩
  obtain ⟨Z16, hZ16⟩ : ∃ X : List UInt8, List.replicate 16 0 = X := ⟨_, rfl⟩
  have hR2 := HRR.out
  unfold fxC at hR2
  rw [hB4] at a1 a2 a3 N1 hR2
  rw [hB2] at a1 a2 a3 N2 hR2
  rw [hZ16] at a3 N3 hR2
  obtain ⟨X1, hX1⟩ : ∃ X, B4 ++ B2 = X := ⟨_, rfl⟩
  rw [hX1] at a1 a2 a3 hR2
  obtain ⟨X2, hX2⟩ : ∃ X, X1 ++ xm = X := ⟨_, rfl⟩
  rw [hX2] at a2 a3 hR2
  obtain ⟨X3, hX3⟩ : ∃ X, X2 ++ Z16 = X := ⟨_, rfl⟩
  rw [hX3] at a3 hR2
  have HR2 := Lib.hid hR2
  clear hB4 hB2 hZ16 hR2 HRR hX1 hX2 hX3
  go_region_held3 (fun W => W.cell? ⟨w.heap.size, 3, none⟩ = some (.int .u32 xsq) ∧ W.cell? ⟨w.heap.size, 4, none⟩ = some (.int .u16 xme) ∧ W.cell? ⟨w.heap.size, 5, none⟩ = some (.string (bs xm)))
    (first | (with_reducible exact ⟨cbd.c3, cbd.c4, cbd.c5⟩) | (with_reducible exact ⟨cbx.c3, cbx.c4, cbx.c5⟩) | (with_reducible exact ⟨cby.c3, cby.c4, cby.c5⟩) | (with_reducible exact ⟨cbz.c3, cbz.c4, cbz.c5⟩) | (with_reducible exact ⟨cbs.c3, cbs.c4, cbs.c5⟩))
    (first
      | (go_at_call 72; (with_reducible refine (N1.out _).mono ?_); rintro en wx ⟨rfl, hbx⟩; have cbx := cbd.later hbx; have pqx := pqd.later hbx)
      | (go_at_call 72; (with_reducible refine (N2.out _).mono ?_); rintro en wy ⟨rfl, hby⟩; have cby := cbx.later hby; have pqy := pqx.later hby)
      | (go_at_call 72; (with_reducible refine (N3.out _).mono ?_); rintro en wz ⟨rfl, hbz⟩; have cbz := cby.later hbz; have pqz := pqy.later hbz; have g3 := pqz.c3; have g3f := pqz.fr 3; have cbs := cbz.other (o := 3) (show q ≠ w.heap.size by have := HQ0.out; omega) (.string (bs X3))))
  have hb3 : Below w.heap.size w wc.drew := HB3.out.drew
  have hb4 := hb3.trans (hbx.mono hb3.size)
  have hb5 := hb4.trans (hby.mono hb4.size)
  have hb6 := hb5.trans (hbz.mono hb5.size)
  have pzz := (((PZ3.out.later (Below.refl _ _).drew).later hbx).later hby).later hbz
  have PQs := pqz.set3 X3
  have PZs := pzz.other (t := q) (o := 3) (by have := HQ0.out; omega) (.string (bs X3))
  have hb7 : Below w.heap.size w (wz.setCell ⟨q, 3, none⟩ (.string (bs X3))) := below_set hb6 (by have := HQ0.out; omega) _
  obtain ⟨ws, hws⟩ : ∃ k, wz.setCell ⟨q, 3, none⟩ (.string (bs X3)) = k := ⟨_, rfl⟩
  rw [hws] at PQs PZs hb7 ⊢
  have HB7 := Lib.hid hb7
  have k0 := PQs.c0
  have k1 := PQs.c1
  have k2 := PQs.c2
  have k3 := PQs.c3
  have k4 := PQs.c4
  have z0 := PZs.c0
  have z1 := PZs.c1
  have z2 := PZs.c2
  have z3 := PZs.c3
  have z4 := PZs.c4
  have y0 := PZs.fr 0
  have y1 := PZs.fr 1
  have y2 := PZs.fr 2
  have y3 := PZs.fr 3
  have y4 := PZs.fr 4
  clear hws hb3 hb4 hb5 hb6 hb7 hbx hby hbz pzz PQs PZs g3 g3f cbs cbx cby cbz pqx pqy pqz cbd pqd PQ3 CB3 PZ3 HB3
  go_wp2_with fail
  refine bodyPost_ret (v := .tuple #[.agg #[.int .u8 xlv, .int .u8 1, .int .u8 C, .string (bs X3), .slice none 0 0], .int .i64 0]) (by simp [results, Try.results45, go_sem, z0, z1, z2, z3, z4]) rfl ⟨by rw [HR2.out], below_set (below_set (below_set (below_set (below_set HB7.out (by omega) _) (by omega) _) (by omega) _) (by omega) _) (by omega) _⟩
end Go.Proofs.Ytcbbocdmmehphaa
