/- vlan: the walk of VlanBack. -/
import Derived.Test.YtecoomkpkdapdaaV4
import Derived.Test.YtecoomkpkdapdaaRFV
set_option linter.unusedVariables false
namespace Go.Proofs.Ytecoomkpkdapdaa
open Go.RowKit

theorem andNot_and (u m : Int) (hu : 0 ≤ u ∧ u < 256) (hm : 0 ≤ m ∧ m < 256) : bits .andNot .u8 (bits .and .u8 u m) m = 0 := by
  obtain ⟨a, rfl⟩ : ∃ a : Nat, u = a := ⟨u.toNat, by omega⟩
  obtain ⟨b, rfl⟩ : ∃ b : Nat, m = b := ⟨m.toNat, by omega⟩
  have hb : b < 256 := by omega
  have e0 : b &&& (255 - b) = 0 := by
    have h : ∀ b, b < 256 → b &&& (255 - b) = 0 := by decide +kernel
    exact h b hb
  have hle : a &&& b ≤ b := Nat.and_le_right
  rw [u8_and (a : Int) (b : Int) (by omega) (by omega) (by omega) (by omega)]
  have e1 : (a : Int).toNat &&& (b : Int).toNat = a &&& b := rfl
  rw [e1]
  rw [u8_andNot ((a &&& b : Nat) : Int) (b : Int) (by omega) (by omega) (by omega) (by omega)]
  have e2 : ((a &&& b : Nat) : Int).toNat &&& (255 - (b : Int).toNat) = 0 := by
    show (a &&& b) &&& (255 - b) = 0
    rw [Nat.and_assoc, e0, Nat.and_zero]
  rw [e2]; rfl
theorem and_bd (u m : Int) (hu : 0 ≤ u ∧ u < 256) (hm : 0 ≤ m ∧ m < 256) : 0 ≤ bits .and .u8 u m ∧ bits .and .u8 u m < 256 := by
  obtain ⟨a, rfl⟩ : ∃ a : Nat, u = a := ⟨u.toNat, by omega⟩
  obtain ⟨b, rfl⟩ : ∃ b : Nat, m = b := ⟨m.toNat, by omega⟩
  have hle : a &&& b ≤ b := Nat.and_le_right
  rw [u8_and (a : Int) (b : Int) (by omega) (by omega) (by omega) (by omega)]
  have e1 : (a : Int).toNat &&& (b : Int).toNat = a &&& b := rfl
  rw [e1]; omega
theorem setErr_back (k a u : Int) (hk : 1 ≤ k ∧ k ≤ 4094) (ha : 0 ≤ a ∧ a < 256) (hu : bits .andNot .u8 u a = 0) : setErr 8 [] k a u = 0 := by
  have h8 : a / 2 ^ Int.toNat 8 = 0 := by show a / 2 ^ 8 = 0; omega
  unfold setErr
  rw [if_neg (not_not_intro hk), if_neg (not_not_intro h8), if_neg (not_not_intro hu), if_neg (by intro h; exact absurd h.2 (by decide))]
theorem setErr_bad (k a u : Int) (hk : ¬ (1 ≤ k ∧ k ≤ 4094)) : setErr 8 [] k a u = 2 := by unfold setErr; rw [if_pos hk]
theorem setV_back (k a u : Int) (h : setErr 8 [] k a u = 0) : setV 8 [] k a u = [(k, a, u)] := by unfold setV; rw [if_pos h]; rfl
theorem vGet_one (k a u : Int) : vGet [(k, a, u)] k = (a, u) := by unfold vGet vFind; rw [if_pos rfl]; rfl
theorem TS.only {W W' : World} {q m p : Nat} {n : Int} {o : List Int} {V : List Vn} (h : TS W q n m o V) (ho : Only p W W') (hq : q ≠ p) (hm : m ≠ p) : TS W' q n m o V :=
  h.blk (ho.block q h.tb.lt (by simpa using hq)) (ho.block m h.vm.lt (by simpa using hm))
theorem inF_back (k : Int) (a u : Int) (p : Nat) (U : Bool) (hk : 1 ≤ k ∧ k ≤ 4094) (hp : p < 8) (hm : memB a p = true) : inF 8 (([0, 0, 0, 0, 0, 0, 0, 0] : List Int).set p k) [(k, a, u)] p (outT U) (outV U k) = (k, true) := by
  have hg : (([0, 0, 0, 0, 0, 0, 0, 0] : List Int).set p k).getD p 0 = k := by
    rw [List.getD_eq_getElem?_getD, List.getElem?_set_self (by simpa using hp)]; rfl
  have e : (if outT U = true ∧ outV U k ≠ 0 then outV U k else (([0, 0, 0, 0, 0, 0, 0, 0] : List Int).set p k).getD p 0) = k := by
    rw [hg]; cases U
    · rw [if_pos ⟨rfl, by show k ≠ 0; omega⟩]; rfl
    · rw [if_neg (by rintro ⟨h, _⟩; cases h)]
  unfold inF
  rw [if_neg (by omega), e, vGet_one, if_pos hm]
set_option maxRecDepth 100000 in
set_option maxHeartbeats 16000000 in
theorem VlanBack_walk (k a u pt : Int) (FA : Array Value) (w : World) (hk : (Lit.int .u16 k).wf = true) (ha : (Lit.int .u8 a).wf = true) (hu : (Lit.int .u8 u).wf = true) (hpt : (Lit.int .u8 pt).wf = true) (hA : Fr FA) :
    Calls Try.prog 3 #[.int .u16 k, .int .u8 a, .int .u8 u, .int .u8 pt, .agg FA] w fun en w' => en = .returned (.bool true) ∧ Below w.heap.size w w' := by
  have hk := bounds_u16 hk
  have ha := bounds_u8 ha
  have hu := bounds_u8 hu
  have hpt := bounds_u8 hpt
  obtain ⟨x0, x1, x2, x3, x4, x5, x6, x7, x8, x9, x10, x11, xt, xp, xv, xy, xd, hFA, hw, hd⟩ := hA
  have WK := Lib.hid wakes07_any
  obtain ⟨P, rfl⟩ : ∃ P : Nat, pt = P := ⟨pt.toNat, by omega⟩
  obtain ⟨N, hN⟩ : ∃ N : Nat, P % 8 = N := ⟨_, rfl⟩
  have HP8 : N < 8 := by omega
  have hPN : (P : Int) % 8 = (N : Int) := by omega
  obtain ⟨u', hu'⟩ : ∃ y, bits .and .u8 u a = y := ⟨_, rfl⟩
  have hub : 0 ≤ u' ∧ u' < 256 := by rw [← hu']; exact and_bd u a (by omega) (by omega)
  have hun : bits .andNot .u8 u' a = 0 := by rw [← hu']; exact andNot_and u a (by omega) (by omega)
  have N1 : Hid (∀ w, Calls Try.prog 12 #[.int .i64 8] w fun en w' => ∃ q m : Nat, en = .returned (.tuple #[.pointer (some ⟨q, 0, none⟩), .int .i64 0]) ∧ TS w' q 8 m [0, 0, 0, 0, 0, 0, 0, 0] [] ∧ Below w.heap.size w w' ∧ w.heap.size ≤ q ∧ w.heap.size ≤ m) := Lib.hid fun w => vnew_any 8 w (by decide)
  have S0 : Hid (¬ (1 ≤ k ∧ k ≤ 4094) → ∀ q m o w, TS w q 8 m o [] → Calls Try.prog 13 #[.pointer (some ⟨q, 0, none⟩), .int .u16 k, .int .u8 a, .int .u8 u'] w fun en w' => en = .returned (.int .i64 2) ∧ Only m w w') := Lib.hid fun hbad q m o w h => by
    refine (vset_any q m 8 o [] k a u' w h (by omega) (by omega) hub).mono ?_
    rintro en w' ⟨rfl, _, h2⟩
    exact ⟨by rw [setErr_bad k a u' hbad], h2⟩
  have S1 : Hid ((1 ≤ k ∧ k ≤ 4094) → ∀ q m o w, TS w q 8 m o [] → Calls Try.prog 13 #[.pointer (some ⟨q, 0, none⟩), .int .u16 k, .int .u8 a, .int .u8 u'] w fun en w' => en = .returned (.int .i64 0) ∧ TS w' q 8 m o [(k, a, u')] ∧ Only m w w') := Lib.hid fun hgd q m o w h => by
    have e0 := setErr_back k a u' hgd (by omega) hun
    refine (vset_any q m 8 o [] k a u' w h (by omega) (by omega) hub).mono ?_
    rintro en w' ⟨rfl, h1, h2⟩
    rw [setV_back k a u' e0] at h1
    exact ⟨by rw [e0], h1, h2⟩
  have S2 : Hid ((1 ≤ k ∧ k ≤ 4094) → ∀ q m w, TS w q 8 m [0, 0, 0, 0, 0, 0, 0, 0] [(k, a, u')] → Calls Try.prog 14 #[.pointer (some ⟨q, 0, none⟩), .int .u8 (N : Int), .int .u16 k] w fun en w' => en = .returned (.int .i64 0) ∧ TS w' q 8 m (([0, 0, 0, 0, 0, 0, 0, 0] : List Int).set N k) [(k, a, u')] ∧ Only q w w') := Lib.hid fun hgd q m w h => by
    have e0 : ownErr 8 N k = 0 := by unfold ownErr; rw [if_neg (by omega), if_neg (by omega)]
    refine (vsetOwn_any q m 8 _ _ N k w h (by omega) (by omega)).mono ?_
    rintro en w' ⟨rfl, h1, h2⟩
    unfold ownO at h1
    rw [if_pos e0] at h1
    exact ⟨by rw [e0], h1, h2⟩
  obtain ⟨U, hU⟩ : ∃ U, unB [(k, a, u')] N k = U := ⟨_, rfl⟩
  obtain ⟨Bm, hBm⟩ : ∃ b, memB a N = b := ⟨_, rfl⟩
  obtain ⟨FF, hFF⟩ : ∃ A, frA x0 x1 x2 x3 x4 x5 x6 x7 x8 x9 x10 x11 (outT U) (outP U xp) (outV U k) xy xd = A := ⟨_, rfl⟩
  obtain ⟨R, hR⟩ : ∃ R, outF [(k, a, u')] N k x0 x1 x2 x3 x4 x5 x6 x7 x8 x9 x10 x11 xt xp xv xy xd = R := ⟨_, rfl⟩
  have HRR : Hid ((Bm = false ∧ R = (frZ, false)) ∨ (Bm = true ∧ (R = (frZ, false) ∨ R = (FF, true)))) := Lib.hid (by
    rw [← hR]; unfold outF; rw [vGet_one, hBm, hU, hFF]
    cases Bm
    · left; exact ⟨rfl, rfl⟩
    · right; refine ⟨rfl, ?_⟩
      rw [if_pos rfl]; split
      · right; rfl
      · left; rfl)
  have OU : Hid (∀ q m o w, xd.length ≤ 1000000 → TS w q 8 m o [(k, a, u')] → Calls Try.prog 15 #[.pointer (some ⟨q, 0, none⟩), .int .u8 (N : Int), .int .u16 k, .agg FA] w fun en w' => en = .returned (.tuple #[.agg R.1, .bool R.2]) ∧ Below w.heap.size w w') := Lib.hid fun q m o w hl h => by
    have h := vout_any q m 8 o _ N k x0 x1 x2 x3 x4 x5 x6 x7 x8 x9 x10 x11 xt xp xv xy xd w h (by omega) (by omega) hw hl
    rw [hR] at h; rw [hFA]; exact h
  have hF12 : FF[12]? = some (.bool (outT U)) := by rw [← hFF]; rfl
  have hF14 : FF[14]? = some (.int .u16 (outV U k)) := by rw [← hFF]; rfl
  have IN : Hid ((1 ≤ k ∧ k ≤ 4094) → Bm = true → ∀ q m w, TS w q 8 m (([0, 0, 0, 0, 0, 0, 0, 0] : List Int).set N k) [(k, a, u')] → Calls Try.prog 16 #[.pointer (some ⟨q, 0, none⟩), .int .u8 (N : Int), .agg FF] w fun en w' => en = .returned (.tuple #[.int .u16 k, .bool true]) ∧ Below w.heap.size w w') := Lib.hid fun hgd hm q m w h => by
    have h := vin_A FF q m 8 _ _ N (outT U) (outV U k) w hF12 hF14 h (by omega) (by unfold outV; split <;> omega)
    rw [inF_back k a u' N U hgd HP8 (by rw [hBm]; exact hm)] at h; exact h
  have isA : isFr FA := by rw [hFA]; exact frA_is ..
  have isF : isFr FF := by rw [← hFF]; exact frA_is ..
  have HbU : Hid ((bits .and .u8 (u' / 2 ^ N) 1 == 0) = !U) := Lib.hid (by
    rw [and_shr0 u' N hub, ← hU]; unfold unB; rw [vGet_one])
  have HbM : Hid ((bits .and .u8 (a / 2 ^ N) 1 == 0) = !Bm) := Lib.hid (by
    rw [and_shr0 a N (by omega), ← hBm]; unfold memB; rw [decide_eq_true HP8, Bool.true_and])
  have CA : Hid (FA[0]? = some (.int .u8 x0) ∧ FA[1]? = some (.int .u8 x1) ∧ FA[2]? = some (.int .u8 x2) ∧ FA[3]? = some (.int .u8 x3) ∧ FA[4]? = some (.int .u8 x4) ∧ FA[5]? = some (.int .u8 x5) ∧ FA[6]? = some (.int .u8 x6) ∧ FA[7]? = some (.int .u8 x7) ∧ FA[8]? = some (.int .u8 x8) ∧ FA[9]? = some (.int .u8 x9) ∧ FA[10]? = some (.int .u8 x10) ∧ FA[11]? = some (.int .u8 x11) ∧ FA[13]? = some (.int .u8 xp) ∧ FA[15]? = some (.int .u16 xy) ∧ FA[16]? = some (.string (bs xd))) :=
    Lib.hid (by rw [hFA]; exact ⟨rfl, rfl, rfl, rfl, rfl, rfl, rfl, rfl, rfl, rfl, rfl, rfl, rfl, rfl, rfl⟩)
  have CF : Hid (FF[0]? = some (.int .u8 x0) ∧ FF[1]? = some (.int .u8 x1) ∧ FF[2]? = some (.int .u8 x2) ∧ FF[3]? = some (.int .u8 x3) ∧ FF[4]? = some (.int .u8 x4) ∧ FF[5]? = some (.int .u8 x5) ∧ FF[6]? = some (.int .u8 x6) ∧ FF[7]? = some (.int .u8 x7) ∧ FF[8]? = some (.int .u8 x8) ∧ FF[9]? = some (.int .u8 x9) ∧ FF[10]? = some (.int .u8 x10) ∧ FF[11]? = some (.int .u8 x11) ∧ FF[13]? = some (.int .u8 (outP U xp)) ∧ FF[15]? = some (.int .u16 xy) ∧ FF[16]? = some (.string (bs xd))) :=
    Lib.hid (by rw [← hFF]; exact ⟨rfl, rfl, rfl, rfl, rfl, rfl, rfl, rfl, rfl, rfl, rfl, rfl, rfl, rfl, rfl⟩)
  have HF := Lib.hid (And.intro hF12 hF14)
  have fA := Lib.hid isA
  have fF := Lib.hid isF
  have hmac : ∀ w : World, ∀ a b c d e f : Int, (binOp .eql 24 (.agg #[.int .u8 a, .int .u8 b, .int .u8 c, .int .u8 d, .int .u8 e, .int .u8 f]) (.agg #[.int .u8 a, .int .u8 b, .int .u8 c, .int .u8 d, .int .u8 e, .int .u8 f])).run Try.prog w = .ok (.bool true) w := by
    intro w a b c d e f
    simp only [binOp]
    simp [Op.equal, Op.maxDepth, run_equalIn_mac 9998]
  have HMC := Lib.hid hmac
  have HUU := Lib.hid hu'
  have HKA := Lib.hid (And.intro hk (And.intro ha (And.intro hu hub)))
  have hsz := bs_size xd
  clear hu' hub hun hU hBm hFF hR hF12 hF14 isA isF hmac hw hd hFA hk ha hu hpt
  go_enter Try.func3, Try.ntmps3
  go_upto_region 1 with fail
  have fb0 := FB.new w FA
  have hb0 : Below w.heap.size w (w.alloc (.cells FA 26)) := (Below.refl _ _).alloc (Nat.le_refl _) _
  obtain ⟨w0, hw0⟩ : ∃ x, w.alloc (.cells FA 26) = x := ⟨_, rfl⟩
  rw [hw0] at fb0 hb0 ⊢
  have FB0 := Lib.hid fb0
  have HB0 := Lib.hid hb0
  have c16 := fb0.c 16 _ CA.out.2.2.2.2.2.2.2.2.2.2.2.2.2.2
  clear hw0 fb0 hb0
  by_cases g0 : 2000 < xd.length
  · have d0 : decide ((2000 : Int) < (xd.length : Int)) = true := decide_eq_true (by omega)
    clear g0
    go_wp2_with fail
    with_reducible refine (WK.out _).mono ?_
    rintro en w1 ⟨rfl, hb⟩
    go_wp2
    go_ret
    exact ⟨rfl, HB0.out.trans (hb.mono HB0.out.size)⟩
  have d0 : decide ((2000 : Int) < (xd.length : Int)) = false := decide_eq_false (by omega)
  have HXD := Lib.hid g0
  clear g0
  go_wp2_with fail
  with_reducible refine (N1.out _).mono ?_
  rintro en w1 ⟨qa, ma, rfl, ts1, hb1, hqa, hma⟩
  have FB1 := Lib.hid (FB0.out.later hb1)
  have HB1 := Lib.hid (HB0.out.trans (hb1.mono HB0.out.size))
  have TA1 := Lib.hid ts1
  have HQA := Lib.hid (show w.heap.size < qa ∧ w.heap.size < ma by have := FB0.out.lt; omega)
  clear hb1 ts1 hqa hma FB0 HB0 c16
  go_wp2_with fail
  with_reducible refine (N1.out _).mono ?_
  rintro en w2 ⟨qb, mb, rfl, ts2, hb2, hqb, hmb⟩
  have FB2 := Lib.hid (FB1.out.later hb2)
  have HB2 := Lib.hid (HB1.out.trans (hb2.mono HB1.out.size))
  have TA2 := Lib.hid (TA1.out.later hb2)
  have TB2 := Lib.hid ts2
  have HQB := Lib.hid (show qa < qb ∧ ma < qb ∧ qa < mb ∧ ma < mb by have := TA1.out.tb.lt; have := TA1.out.vm.lt; omega)
  clear hb2 ts2 hqb hmb FB1 HB1 TA1
  have hu' := HUU.out
  go_upto_region 8 with fail
  by_cases hkk : 1 ≤ k ∧ k ≤ 4094
  rotate_left
  · have HK := Lib.hid hkk
    go_wp2_with fail
    with_reducible refine (S0.out HK.out _ _ _ _ TA2.out).mono ?_
    rintro en w3 ⟨rfl, ho3⟩
    have HB3 := Lib.hid (HB2.out.trans (ho3.below (by have := HQA.out; omega) HB2.out.size))
    clear ho3
    by_cases hk1 : k < 1
    · have dk : decide (k < 1) = true := decide_eq_true hk1
      clear hk1 hkk
      go_wp2_with fail
      with_reducible refine (WK.out _).mono ?_
      rintro en w4 ⟨rfl, hb4⟩
      go_wp2
      go_ret
      exact ⟨rfl, HB3.out.trans (hb4.mono HB3.out.size)⟩
    · have dk : decide (k < 1) = false := decide_eq_false hk1
      have dk2 : decide ((4094 : Int) < k) = true := decide_eq_true (by omega)
      clear hk1 hkk
      go_wp2_with fail
      with_reducible refine (WK.out _).mono ?_
      rintro en w4 ⟨rfl, hb4⟩
      go_wp2
      go_ret
      exact ⟨rfl, HB3.out.trans (hb4.mono HB3.out.size)⟩
  have HK := Lib.hid hkk
  clear hkk S0
  go_wp2_with fail
  with_reducible refine (S1.out HK.out _ _ _ _ TA2.out).mono ?_
  rintro en w3 ⟨rfl, ts3, ho3⟩
  have TA3 := Lib.hid ts3
  have HB3 := Lib.hid (HB2.out.trans (ho3.below (by have := HQA.out; omega) HB2.out.size))
  have TB3 := Lib.hid (TB2.out.only ho3 (by have := HQB.out; omega) (by have := HQB.out; omega))
  have FB3 := Lib.hid (FB2.out.only ho3 (by have := HQA.out; omega))
  clear ts3 ho3 TA2 HB2 TB2 FB2
  go_wp2_with fail
  with_reducible refine (S1.out HK.out _ _ _ _ TB3.out).mono ?_
  rintro en w4 ⟨rfl, ts4, ho4⟩
  have TB4 := Lib.hid ts4
  have HB4 := Lib.hid (HB3.out.trans (ho4.below (by have := HQA.out; have := HQB.out; omega) HB3.out.size))
  have TA4 := Lib.hid (TA3.out.only ho4 (by have := HQB.out; omega) (by have := HQB.out; omega))
  have FB4 := Lib.hid (FB3.out.only ho4 (by have := HQA.out; have := HQB.out; omega))
  clear ts4 ho4 TA3 HB3 TB3 FB3
  go_upto_region 11 with fail
  rw [hPN]
  have p0 : (0 : Int) ≤ (N : Int) := by omega
  have p8 : (N : Int) ≤ 8 := by omega
  have eqZ : ∀ w : World, (binOp .eql 26 (.agg frZ) (.agg #[.int .u8 0, .int .u8 0, .int .u8 0, .int .u8 0, .int .u8 0, .int .u8 0, .int .u8 0, .int .u8 0, .int .u8 0, .int .u8 0, .int .u8 0, .int .u8 0, .bool false, .int .u8 0, .int .u16 0, .int .u16 0, .string { data := #[] }])).run Try.prog w = .ok (.bool true) w := run_eql_frame frZ isFr_Z
  have hg := eqGuard_fr
  have iAL := Lib.hid (frame_infoL fA.out)
  have iF := Lib.hid (frame_info fF.out)
  have iFL := Lib.hid (frame_infoL fF.out)
  have oF := Lib.hid fF.out.one
  have iZ := Lib.hid (frame_info isFr_Z)
  have iZL := Lib.hid (frame_infoL isFr_Z)
  have oZ := Lib.hid isFr_Z.one
  clear hPN hN hu' N1 S1
  go_wp2_with fail
  with_reducible refine (S2.out HK.out _ _ _ TB4.out).mono ?_
  rintro en w5 ⟨rfl, ts5, ho5⟩
  have TB5 := Lib.hid ts5
  have HB5 := Lib.hid (HB4.out.trans (ho5.below (by have := HQA.out; have := HQB.out; omega) HB4.out.size))
  have TA5 := Lib.hid (TA4.out.only ho5 (by have := HQB.out; omega) (by have := HQB.out; omega))
  have FB5 := Lib.hid (FB4.out.only ho5 (by have := HQA.out; have := HQB.out; omega))
  clear ts5 ho5 TB4 HB4 TA4 FB4 S2
  rcases HRR.out with ⟨hm, hR⟩ | ⟨hm, hR | hR⟩
  · have OV : Hid (∀ q m o w, TS w q 8 m o [(k, a, u')] → Calls Try.prog 15 #[.pointer (some ⟨q, 0, none⟩), .int .u8 (N : Int), .int .u16 k, .agg FA] w fun en w' => en = .returned (.tuple #[.agg frZ, .bool false]) ∧ Below w.heap.size w w') := Lib.hid fun q m o w h => by
      have h := OU.out q m o w (by have := HXD.out; omega) h
      rw [hR] at h; exact h
    have hbm : (bits .and .u8 (a / 2 ^ N) 1 == 0) = true := by rw [HbM.out, hm]; rfl
    clear hR hm HRR OU IN
    go_wp2_with ((with_reducible refine wpList_load_mid rfl 26 (.tmp 9) rfl w.heap.size 0 ?hx FA.toList _ FB5.out.range Try.underlying26 ?hu iAL.out ?_); (case hx => rfl); (case hu => rfl))
    with_reducible refine (OV.out _ _ _ _ TA5.out).mono ?_
    rintro en w6 ⟨rfl, hb6⟩
    have HB6 := Lib.hid (HB5.out.trans (hb6.mono HB5.out.size))
    clear hb6 HB5 TA5 TB5 FB5 OV
    have TH := Lib.hid (fr_there w6 isFr_Z)
    go_upto_region 14 with ((with_reducible refine wpList_store_mid rfl 26 (.tmp 15) (.tmp 85) rfl w6.heap.size 0 frZ ?hx ?hy TH.out iZ.out oZ.out ?_); (case hx => rfl); (case hy => rfl))
    have fs := fr_stored w6 isFr_Z
    have hbz : Below w6.heap.size w6 ((w6.alloc (.cells #[.int .u8 0, .int .u8 0, .int .u8 0, .int .u8 0, .int .u8 0, .int .u8 0, .int .u8 0, .int .u8 0, .int .u8 0, .int .u8 0, .int .u8 0, .int .u8 0, .bool false, .int .u8 0, .int .u16 0, .int .u16 0, .string { data := #[] }] 26)).setCells w6.heap.size 0 frZ.toList) := below_cells (Nat.le_refl _) _ _ _ ((Below.refl _ _).alloc (Nat.le_refl _) _)
    obtain ⟨bx, hbx⟩ : ∃ k, w6.heap.size = k := ⟨_, rfl⟩
    obtain ⟨w7, hw7⟩ : ∃ k, (w6.alloc (.cells #[.int .u8 0, .int .u8 0, .int .u8 0, .int .u8 0, .int .u8 0, .int .u8 0, .int .u8 0, .int .u8 0, .int .u8 0, .int .u8 0, .int .u8 0, .int .u8 0, .bool false, .int .u8 0, .int .u16 0, .int .u16 0, .string { data := #[] }] 26)).setCells w6.heap.size 0 frZ.toList = k := ⟨_, rfl⟩
    have HB7 := Lib.hid (HB6.out.trans (hbz.mono HB6.out.size))
    rw [hbx] at hw7
    rw [hbx, hw7] at fs HB7 ⊢
    have FX := Lib.hid fs
    clear fs hbz hw7 hbx TH HB6
    go_wp2_with ((with_reducible refine wpList_load_gV ?hw 26 (.tmp 15) rfl bx 0 ?hx frZ.toList _ FX.out.range Try.underlying26 ?hu iZL.out ?_); (case hw => rfl); (case hx => rfl); (case hu => rfl))
    with_reducible refine (WK.out _).mono ?_
    rintro en w8 ⟨rfl, hb8⟩
    go_wp2
    go_ret
    exact ⟨rfl, HB7.out.trans (hb8.mono HB7.out.size)⟩
  · have OV : Hid (∀ q m o w, TS w q 8 m o [(k, a, u')] → Calls Try.prog 15 #[.pointer (some ⟨q, 0, none⟩), .int .u8 (N : Int), .int .u16 k, .agg FA] w fun en w' => en = .returned (.tuple #[.agg frZ, .bool false]) ∧ Below w.heap.size w w') := Lib.hid fun q m o w h => by
      have h := OU.out q m o w (by have := HXD.out; omega) h
      rw [hR] at h; exact h
    have hbm : (bits .and .u8 (a / 2 ^ N) 1 == 0) = false := by rw [HbM.out, hm]; rfl
    clear hR hm HRR OU IN
    go_wp2_with ((with_reducible refine wpList_load_mid rfl 26 (.tmp 9) rfl w.heap.size 0 ?hx FA.toList _ FB5.out.range Try.underlying26 ?hu iAL.out ?_); (case hx => rfl); (case hu => rfl))
    with_reducible refine (OV.out _ _ _ _ TA5.out).mono ?_
    rintro en w6 ⟨rfl, hb6⟩
    have HB6 := Lib.hid (HB5.out.trans (hb6.mono HB5.out.size))
    clear hb6 HB5 TA5 TB5 FB5 OV
    have TH := Lib.hid (fr_there w6 isFr_Z)
    go_upto_region 14 with ((with_reducible refine wpList_store_mid rfl 26 (.tmp 15) (.tmp 85) rfl w6.heap.size 0 frZ ?hx ?hy TH.out iZ.out oZ.out ?_); (case hx => rfl); (case hy => rfl))
    have fs := fr_stored w6 isFr_Z
    have hbz : Below w6.heap.size w6 ((w6.alloc (.cells #[.int .u8 0, .int .u8 0, .int .u8 0, .int .u8 0, .int .u8 0, .int .u8 0, .int .u8 0, .int .u8 0, .int .u8 0, .int .u8 0, .int .u8 0, .int .u8 0, .bool false, .int .u8 0, .int .u16 0, .int .u16 0, .string { data := #[] }] 26)).setCells w6.heap.size 0 frZ.toList) := below_cells (Nat.le_refl _) _ _ _ ((Below.refl _ _).alloc (Nat.le_refl _) _)
    obtain ⟨bx, hbx⟩ : ∃ k, w6.heap.size = k := ⟨_, rfl⟩
    obtain ⟨w7, hw7⟩ : ∃ k, (w6.alloc (.cells #[.int .u8 0, .int .u8 0, .int .u8 0, .int .u8 0, .int .u8 0, .int .u8 0, .int .u8 0, .int .u8 0, .int .u8 0, .int .u8 0, .int .u8 0, .int .u8 0, .bool false, .int .u8 0, .int .u16 0, .int .u16 0, .string { data := #[] }] 26)).setCells w6.heap.size 0 frZ.toList = k := ⟨_, rfl⟩
    have HB7 := Lib.hid (HB6.out.trans (hbz.mono HB6.out.size))
    rw [hbx] at hw7
    rw [hbx, hw7] at fs HB7 ⊢
    have FX := Lib.hid fs
    clear fs hbz hw7 hbx TH HB6
    go_wp2_with ((with_reducible refine wpList_load_mid rfl 26 (.tmp 15) rfl bx 0 ?hx frZ.toList _ FX.out.range Try.underlying26 ?hu iZL.out ?_); (case hx => rfl); (case hu => rfl))
    with_reducible refine (WK.out _).mono ?_
    rintro en w8 ⟨rfl, hb8⟩
    go_wp2
    go_ret
    exact ⟨rfl, HB7.out.trans (hb8.mono HB7.out.size)⟩
  have OV : Hid (∀ q m o w, TS w q 8 m o [(k, a, u')] → Calls Try.prog 15 #[.pointer (some ⟨q, 0, none⟩), .int .u8 (N : Int), .int .u16 k, .agg FA] w fun en w' => en = .returned (.tuple #[.agg FF, .bool true]) ∧ Below w.heap.size w w') := Lib.hid fun q m o w h => by
    have h := OU.out q m o w (by have := HXD.out; omega) h
    rw [hR] at h; exact h
  have IV : Hid (∀ q m w, TS w q 8 m (([0, 0, 0, 0, 0, 0, 0, 0] : List Int).set N k) [(k, a, u')] → Calls Try.prog 16 #[.pointer (some ⟨q, 0, none⟩), .int .u8 (N : Int), .agg FF] w fun en w' => en = .returned (.tuple #[.int .u16 k, .bool true]) ∧ Below w.heap.size w w') := Lib.hid (IN.out HK.out hm)
  have hbm : (bits .and .u8 (a / 2 ^ N) 1 == 0) = false := by rw [HbM.out, hm]; rfl
  clear hR hm HRR OU IN
  go_wp2_with ((with_reducible refine wpList_load_mid rfl 26 (.tmp 9) rfl w.heap.size 0 ?hx FA.toList _ FB5.out.range Try.underlying26 ?hu iAL.out ?_); (case hx => rfl); (case hu => rfl))
  with_reducible refine (OV.out _ _ _ _ TA5.out).mono ?_
  rintro en w6 ⟨rfl, hb6⟩
  have HB6 := Lib.hid (HB5.out.trans (hb6.mono HB5.out.size))
  have TB6 := Lib.hid (TB5.out.later hb6)
  have FB6 := Lib.hid (FB5.out.later hb6)
  clear hb6 HB5 TA5 TB5 FB5 OV
  have TH := Lib.hid (fr_there w6 fF.out)
  go_upto_region 14 with ((with_reducible refine wpList_store_mid rfl 26 (.tmp 15) (.tmp 85) rfl w6.heap.size 0 FF ?hx ?hy TH.out iF.out oF.out ?_); (case hx => rfl); (case hy => rfl))
  have fs := fr_stored w6 fF.out
  have hbz : Below w6.heap.size w6 ((w6.alloc (.cells #[.int .u8 0, .int .u8 0, .int .u8 0, .int .u8 0, .int .u8 0, .int .u8 0, .int .u8 0, .int .u8 0, .int .u8 0, .int .u8 0, .int .u8 0, .int .u8 0, .bool false, .int .u8 0, .int .u16 0, .int .u16 0, .string { data := #[] }] 26)).setCells w6.heap.size 0 FF.toList) := below_cells (Nat.le_refl _) _ _ _ ((Below.refl _ _).alloc (Nat.le_refl _) _)
  obtain ⟨bx, hbx⟩ : ∃ k, w6.heap.size = k := ⟨_, rfl⟩
  obtain ⟨w7, hw7⟩ : ∃ k, (w6.alloc (.cells #[.int .u8 0, .int .u8 0, .int .u8 0, .int .u8 0, .int .u8 0, .int .u8 0, .int .u8 0, .int .u8 0, .int .u8 0, .int .u8 0, .int .u8 0, .int .u8 0, .bool false, .int .u8 0, .int .u16 0, .int .u16 0, .string { data := #[] }] 26)).setCells w6.heap.size 0 FF.toList = k := ⟨_, rfl⟩
  have HB7 := Lib.hid (HB6.out.trans (hbz.mono HB6.out.size))
  have TB7 := Lib.hid (TB6.out.later hbz)
  have FB7 := Lib.hid (FB6.out.later hbz)
  rw [hbx] at hw7
  rw [hbx, hw7] at fs HB7 TB7 FB7 ⊢
  have FX := Lib.hid fs
  clear fs hbz hw7 hbx TH HB6 TB6 FB6
  go_wp2_with ((with_reducible refine wpList_load_mid rfl 26 (.tmp 15) rfl bx 0 ?hx FF.toList _ FX.out.range Try.underlying26 ?hu iFL.out ?_); (case hx => rfl); (case hu => rfl))
  with_reducible refine (IV.out _ _ _ TB7.out).mono ?_
  rintro en w8 ⟨rfl, hb8⟩
  have HB8 := Lib.hid (HB7.out.trans (hb8.mono HB7.out.size))
  have fx := FX.out.later hb8
  have fb := FB7.out.later hb8
  clear hb8 HB7 TB7 FB7 FX IV
  obtain ⟨a0, a1, a2, a3, a4, a5, a6, a7, a8, a9, a10, a11, a13, a15, a16⟩ := CA.out
  obtain ⟨f0, f1, f2, f3, f4, f5, f6, f7, f8, f9, f10, f11, f13, f15, f16⟩ := CF.out
  have ca0 := fb.c 0 _ a0
  have cf0 := fx.c 0 _ f0
  have ca1 := fb.c 1 _ a1
  have cf1 := fx.c 1 _ f1
  have ca2 := fb.c 2 _ a2
  have cf2 := fx.c 2 _ f2
  have ca3 := fb.c 3 _ a3
  have cf3 := fx.c 3 _ f3
  have ca4 := fb.c 4 _ a4
  have cf4 := fx.c 4 _ f4
  have ca5 := fb.c 5 _ a5
  have cf5 := fx.c 5 _ f5
  have ca6 := fb.c 6 _ a6
  have cf6 := fx.c 6 _ f6
  have ca7 := fb.c 7 _ a7
  have cf7 := fx.c 7 _ f7
  have ca8 := fb.c 8 _ a8
  have cf8 := fx.c 8 _ f8
  have ca9 := fb.c 9 _ a9
  have cf9 := fx.c 9 _ f9
  have ca10 := fb.c 10 _ a10
  have cf10 := fx.c 10 _ f10
  have ca11 := fb.c 11 _ a11
  have cf11 := fx.c 11 _ f11
  have ca13 := fb.c 13 _ a13
  have cf13 := fx.c 13 _ f13
  have ca15 := fb.c 15 _ a15
  have cf15 := fx.c 15 _ f15
  have ca16 := fb.c 16 _ a16
  have cf16 := fx.c 16 _ f16
  have cf12 := fx.c 12 _ HF.out.1
  have cf14 := fx.c 14 _ HF.out.2
  have mq := HMC.out
  have hbu := HbU.out
  clear fb fx a0 f0 a1 f1 a2 f2 a3 f3 a4 f4 a5 f5 a6 f6 a7 f7 a8 f8 a9 f9 a10 f10 a11 f11 a13 f13 a15 f15 a16 f16 CA CF HMC HbU HbM HF
  cases U with
  | false =>
    replace cf12 : w8.cell? ⟨bx, 12, none⟩ = some (.bool true) := cf12
    replace cf13 : w8.cell? ⟨bx, 13, none⟩ = some (.int .u8 xp) := cf13
    replace cf14 : w8.cell? ⟨bx, 14, none⟩ = some (.int .u16 k) := cf14
    replace hbu : (bits .and .u8 (u' / 2 ^ N) 1 == 0) = true := hbu
    go_wp2_with fail
    with_reducible refine (WK.out _).mono ?_
    rintro en w9 ⟨rfl, hb9⟩
    go_wp2
    go_ret
    exact ⟨rfl, HB8.out.trans (hb9.mono HB8.out.size)⟩
  | true =>
    replace cf12 : w8.cell? ⟨bx, 12, none⟩ = some (.bool false) := cf12
    replace cf13 : w8.cell? ⟨bx, 13, none⟩ = some (.int .u8 0) := cf13
    replace cf14 : w8.cell? ⟨bx, 14, none⟩ = some (.int .u16 0) := cf14
    replace hbu : (bits .and .u8 (u' / 2 ^ N) 1 == 0) = false := hbu
    have hud : ∀ b : Bool, some undef = some (Value.bool b) → False := fun b h => by unfold undef at h; cases h
    go_wp2_with fail
    all_goals (try (exact (hud _ (by assumption)).elim))
    with_reducible refine (WK.out _).mono ?_
    rintro en w9 ⟨rfl, hb9⟩
    go_wp2
    go_ret
    exact ⟨rfl, HB8.out.trans (hb9.mono HB8.out.size)⟩
end Go.Proofs.Ytecoomkpkdapdaa
