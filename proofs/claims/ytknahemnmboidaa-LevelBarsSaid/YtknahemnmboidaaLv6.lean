/- Layer 17: the walk of LevelBars. -/
import Derived.Test.YtknahemnmboidaaLv5
import Derived.Test.YtknahemnmboidaaR17
import Derived.Deep.DeepCutAuto
set_option linter.unusedVariables false
namespace Go.Proofs.Ytknahemnmboidaa
open Go.RowKit

/-- Does an end point of a level stand? -/
def standsB (s l : Int) : Bool := decide (l < 8) && hasB s l
set_option maxHeartbeats 400000 in
theorem stands_any (s l : Int) (w : World) (hs : 0 ≤ s) (hs2 : s < 256) (hl : 0 ≤ l) (hl2 : l < 256) :
    Calls Try.prog 20 #[.int .u8 s, .int .u8 l] w fun e w' => e = .returned (.bool (standsB s l)) ∧ w = w' := by
  by_cases h8 : l < 8
  · have e1 := shr_min s l hs hs2
    have e2 := shr_lt s l hs hs2
    have e3 := and_one_u8 (s / 2 ^ l.toNat) e2.1 e2.2
    have e4 : standsB s l = (bits .and .u8 (s / 2 ^ l.toNat) 1 == 1) := by rw [e3]; simp [standsB, h8, hasB]
    clear e1 e2 e3
    have E4 := Lib.hid e4; clear e4
    go_enter Try.func20, Try.ntmps20
    go_wp2
    go_ret
    exact ⟨by rw [E4.out]; rfl, rfl⟩
  · have e4 : standsB s l = false := by simp [standsB, h8]
    have E4 := Lib.hid e4; clear e4
    go_enter Try.func20, Try.ntmps20
    go_wp2
    go_ret
    exact ⟨by rw [E4.out]; rfl, rfl⟩
theorem stands_v (s l : Int) (v : Bool) (hv : standsB s l = v) (w : World) (hs : 0 ≤ s) (hs2 : s < 256) (hl : 0 ≤ l) (hl2 : l < 256) :
    Calls Try.prog 20 #[.int .u8 s, .int .u8 l] w fun e w' => e = .returned (.bool v) ∧ w = w' := by
  rw [← hv]; exact stands_any s l w hs hs2 hl hl2

/-- Nothing that a level's end point stands at, or above, passes. -/
theorem bars1 : ∀ d : Fin 256, ∀ l : Fin 8, ∀ o : Fin 8, hasB d.val o.val = true → l.val ≤ o.val → fromB d.val l.val = true := by decide +kernel
theorem has_from : ∀ d : Fin 256, ∀ l : Fin 8, hasB d.val l.val = true → fromB d.val l.val = true := by decide +kernel
theorem bars2 (d l o : Int) (hd : 0 ≤ d) (hd2 : d < 256) (hl : 0 ≤ l) (ho : 0 ≤ o) (hlo : l ≤ o) (h : standsB d o = true) : fromB d l = true := by
  simp only [standsB, Bool.and_eq_true, decide_eq_true_eq] at h
  have := bars1 ⟨d.toNat, by omega⟩ ⟨l.toNat, by omega⟩ ⟨o.toNat, by omega⟩
  simp only [Int.toNat_of_nonneg hd, Int.toNat_of_nonneg hl, Int.toNat_of_nonneg ho] at this
  exact this h.2 (by omega)
theorem goesV_bars (f o m l : Int) (hl : l < 8) (h : fromB f l = true ∨ fromB o l = true) : goesV f o m l = 0 ∨ goesV f o m l = 2 := by
  unfold goesV
  rw [if_neg (by omega)]
  by_cases h1 : hasB f l = true
  · rw [if_pos h1]; exact .inr rfl
  · rw [if_neg h1, if_pos (by rcases h with h | h <;> simp [h])]; exact .inl rfl
theorem goesV_take (f o m l : Int) : (goesV f o m l == 2) = standsB f l := by
  unfold goesV standsB
  by_cases h7 : 7 < l
  · rw [if_pos h7]; simp [show ¬ l < 8 by omega]
  rw [if_neg h7]
  simp only [show l < 8 by omega, decide_true, Bool.true_and]
  cases hasB f l
  · by_cases h : (fromB f l || fromB o l) = true
    · simp [h]
    · by_cases h2 : m = l <;> simp [h, h2]
  · simp
theorem or_shift1 : ∀ d : Fin 256, ∀ l : Fin 8, (fromB d.val l.val = decide (2 ^ l.val ≤ d.val)) := by decide +kernel
theorem fromB_ge (d l : Int) (hd : 0 ≤ d) (hd2 : d < 256) (hl : 0 ≤ l) (hl2 : l < 8) : fromB d l = decide (2 ^ l.toNat ≤ d.toNat) := by
  have := or_shift1 ⟨d.toNat, by omega⟩ ⟨l.toNat, by omega⟩
  simp only [Int.toNat_of_nonneg hd, Int.toNat_of_nonneg hl] at this
  exact this
/-- A set of both is empty from a level on just if both are. -/
theorem fromB_or (d u l : Int) (hd : 0 ≤ d) (hd2 : d < 256) (hu : 0 ≤ u) (hu2 : u < 256) (hl : 0 ≤ l) (hl2 : l < 8) : fromB (bits .or .u8 d u) l = (fromB d l || fromB u l) ∧ 0 ≤ bits .or .u8 d u ∧ bits .or .u8 d u < 256 := by
  have e : bits .or .u8 d u = ((d.toNat ||| u.toNat : Nat) : Int) := u8_or d u hd hd2 hu hu2
  have lt : d.toNat ||| u.toNat < 256 := Nat.or_lt_two_pow (n := 8) (by omega) (by omega)
  rw [e]
  refine ⟨?_, by omega, by omega⟩
  rw [fromB_ge _ l (by omega) (by omega) hl hl2, fromB_ge d l hd hd2 hl hl2, fromB_ge u l hu hu2 hl hl2, Int.toNat_natCast]
  have key : 2 ^ l.toNat ≤ d.toNat ||| u.toNat ↔ 2 ^ l.toNat ≤ d.toNat ∨ 2 ^ l.toNat ≤ u.toNat := by
    constructor
    · intro h
      by_cases h1 : 2 ^ l.toNat ≤ d.toNat
      · exact .inl h1
      by_cases h2 : 2 ^ l.toNat ≤ u.toNat
      · exact .inr h2
      have := Nat.or_lt_two_pow (n := l.toNat) (x := d.toNat) (y := u.toNat) (by omega) (by omega)
      omega
    · rintro (h | h)
      · exact Nat.le_trans h Nat.left_le_or
      · exact Nat.le_trans h Nat.right_le_or
  by_cases h1 : 2 ^ l.toNat ≤ d.toNat <;> by_cases h2 : 2 ^ l.toNat ≤ u.toNat <;> simp [key, h1, h2]

set_option maxRecDepth 100000 in
set_option maxHeartbeats 2000000 in
theorem LevelBars_walk (d u m l o : Int) (w : World) (hA : (Lit.int .u8 d).wf = true ∧ (Lit.int .u8 u).wf = true ∧ (Lit.int .i64 m).wf = true) (hl : (Lit.int .u8 l).wf = true) (ho : (Lit.int .u8 o).wf = true) :
    Calls Try.prog 4 #[.agg #[.int .u8 d, .int .u8 u, .int .i64 m], .int .u8 l, .int .u8 o] w fun e w' => e = .returned (.bool true) ∧ Below w.heap.size w w' := by
  obtain ⟨d0, d1⟩ := bounds_u8 hA.1
  obtain ⟨u0, u1⟩ := bounds_u8 hA.2.1
  obtain ⟨l0, l1⟩ := bounds_u8 hl
  obtain ⟨o0, o1⟩ := bounds_u8 ho
  clear hA hl ho
  have g1 := goesV_r d u m l
  have g2 := goesV_r u d m l
  go_enter Try.func4, Try.ntmps4
  go_wp2_with fail
  refine forget (fun W => SidesL w W d u m) (SidesL.first w d u m) ?_
  rintro W ⟨c0, c1, c2, hsz, hb⟩
  have l0 := Later.cell c0
  have l1 := Later.cell c1
  have l2 := Later.cell c2
  refine wp_region_later (by kernel_rfl) (by kernel_rfl) ?_
  repeat (go_big_quiet_step (first | (go_at_call 16; exact Calls.later (wire_any _ _ _ _ _ (by omega) (by omega) (by omega) (by omega) (by omega) (by omega))) | (go_at_call 18; exact Calls.later (relay_any _ _ _ _ _ (by omega) (by omega) (by omega) (by omega) (by omega) (by omega)))))
  refine wpQuiet_nil ?_
  rintro _ ⟨K, rfl⟩
  have b0 := l0 K
  have b1 := l1 K
  have b2 := l2 K
  have hb' := Later.bel hb K
  clear hb l0 l1 l2 c0 c1 c2
  generalize K.out = w1 at *
  clear K hsz W
  have HB := Lib.hid hb'
  clear hb'
  generalize hx : goesV d u m l = x at *
  generalize hy : goesV u d m l = y at *
  have HX := Lib.hid hx
  have HY := Lib.hid hy
  clear hx hy
  go_upto_region 3 with fail
  go_cut [49] (fun s49 wx => s49 = .bool false ∧ wx = w1)
  case first =>
    have key : ∀ s, standsB s o = true → (s = d ∨ s = u) → l ≤ o → ((x == 1) = false ∧ (x == 3) = false) ∧ ((y == 1) = false ∧ (y == 3) = false) := by
      intro s h1 h2 h3
      have o8 : o < 8 := by simp only [standsB, Bool.and_eq_true, decide_eq_true_eq] at h1; exact h1.1
      have hf : fromB d l = true ∨ fromB u l = true := by
        rcases h2 with rfl | rfl
        · exact .inl (bars2 _ l o (by omega) (by omega) (by omega) (by omega) h3 h1)
        · exact .inr (bars2 _ l o (by omega) (by omega) (by omega) (by omega) h3 h1)
      have e1 := goesV_bars d u m l (by omega) hf
      have e2 := goesV_bars u d m l (by omega) hf.symm
      rw [HX.out] at e1
      rw [HY.out] at e2
      constructor
      · rcases e1 with rfl | rfl <;> decide
      · rcases e2 with rfl | rfl <;> decide
    have KEY := Lib.hid key
    clear key
    cases hd : standsB d o <;> cases hu : standsB u o
    · have D := Lib.hid hd; have U := Lib.hid hu; clear hd hu
      go_wp2_with (first | (go_at_call_of 20 (Value.int .u8 d); refine (stands_v d o _ D.out _ (by omega) (by omega) (by omega) (by omega)).mono ?_; rintro e w' ⟨rfl, rfl⟩) | (go_at_call_of 20 (Value.int .u8 u); refine (stands_v u o _ U.out _ (by omega) (by omega) (by omega) (by omega)).mono ?_; rintro e w' ⟨rfl, rfl⟩))
      go_meet
      exact ⟨rfl, rfl⟩
    · have D := Lib.hid hd; have U := Lib.hid hu; clear hd hu
      by_cases hlo : l ≤ o
      · obtain ⟨⟨k1, k2⟩, k3, k4⟩ := KEY.out u U.out (.inr rfl) hlo
        go_wp2_with (first | (go_at_call_of 20 (Value.int .u8 d); refine (stands_v d o _ D.out _ (by omega) (by omega) (by omega) (by omega)).mono ?_; rintro e w' ⟨rfl, rfl⟩) | (go_at_call_of 20 (Value.int .u8 u); refine (stands_v u o _ U.out _ (by omega) (by omega) (by omega) (by omega)).mono ?_; rintro e w' ⟨rfl, rfl⟩))
        go_meet
        exact ⟨rfl, rfl⟩
      · have hlo' : decide (l ≤ o) = false := by simpa using hlo
        go_wp2_with (first | (go_at_call_of 20 (Value.int .u8 d); refine (stands_v d o _ D.out _ (by omega) (by omega) (by omega) (by omega)).mono ?_; rintro e w' ⟨rfl, rfl⟩) | (go_at_call_of 20 (Value.int .u8 u); refine (stands_v u o _ U.out _ (by omega) (by omega) (by omega) (by omega)).mono ?_; rintro e w' ⟨rfl, rfl⟩))
        go_meet
        exact ⟨rfl, rfl⟩
    all_goals
      have D := Lib.hid hd; clear hd hu
      by_cases hlo : l ≤ o
      · obtain ⟨⟨k1, k2⟩, k3, k4⟩ := KEY.out d D.out (.inl rfl) hlo
        go_wp2_with (first | (go_at_call_of 20 (Value.int .u8 d); refine (stands_v d o _ D.out _ (by omega) (by omega) (by omega) (by omega)).mono ?_; rintro e w' ⟨rfl, rfl⟩))
        go_meet
        exact ⟨rfl, rfl⟩
      · have hlo' : decide (l ≤ o) = false := by simpa using hlo
        go_wp2_with (first | (go_at_call_of 20 (Value.int .u8 d); refine (stands_v d o _ D.out _ (by omega) (by omega) (by omega) (by omega)).mono ?_; rintro e w' ⟨rfl, rfl⟩))
        go_meet
        exact ⟨rfl, rfl⟩
  case rest =>
    obtain ⟨rfl, rfl⟩ := hcut
    have t1 : (x == 2) = standsB d l := by rw [← HX.out]; exact goesV_take d u m l
    have t2 : (y == 2) = standsB u l := by rw [← HY.out]; exact goesV_take u d m l
    have T1 := Lib.hid t1
    have T2 := Lib.hid t2
    go_upto_region 7 with (go_at_call 20; refine (stands_any _ _ _ (by omega) (by omega) (by omega) (by omega)).mono ?_; rintro e w' ⟨rfl, rfl⟩)
    clear t1 t2
    by_cases h8 : l < 8
    · by_cases hq : (bits .or .u8 d u / 2 ^ l.toNat == 0) = true
      · have hn : fromB d l = false ∧ fromB u l = false := by
          have := (fromB_or d u l (by omega) (by omega) (by omega) (by omega) (by omega) h8).1
          rw [fromB, bne, hq] at this
          simpa using this.symm
        have hh : ∀ s, 0 ≤ s → s < 256 → fromB s l = false → hasB s l = false := by
          intro s h1 h2 h3
          cases hc : hasB s l
          · rfl
          · have := has_from ⟨s.toNat, by omega⟩ ⟨l.toNat, by omega⟩
            simp only [Int.toNat_of_nonneg h1, Int.toNat_of_nonneg l0] at this
            rw [this hc] at h3
            exact h3
        have h1 := hh d (by omega) (by omega) hn.1
        have h2 := hh u (by omega) (by omega) hn.2
        by_cases hm : m = l
        · have ex : x = 3 := by rw [← HX.out]; unfold goesV; rw [if_neg (by omega), if_neg (by rw [h1]; decide), if_neg (by rw [hn.1, hn.2]; decide), if_pos hm]
          have ey : y = 3 := by rw [← HY.out]; unfold goesV; rw [if_neg (by omega), if_neg (by rw [h2]; decide), if_neg (by rw [hn.1, hn.2]; decide), if_pos hm]
          subst ex ey
          have hm' : (m == l) = true := by simp [hm]
          clear hm h1 h2 hn hh
          go_wp2_with (go_at_call 19; refine (wakesL_any _).mono ?_; rintro e w' ⟨rfl, hb2⟩)
          go_ret
          exact ⟨rfl, HB.out.trans (hb2.mono HB.out.size)⟩
        · have ex : x = 1 := by rw [← HX.out]; unfold goesV; rw [if_neg (by omega), if_neg (by rw [h1]; decide), if_neg (by rw [hn.1, hn.2]; decide), if_neg hm]
          have ey : y = 1 := by rw [← HY.out]; unfold goesV; rw [if_neg (by omega), if_neg (by rw [h2]; decide), if_neg (by rw [hn.1, hn.2]; decide), if_neg hm]
          subst ex ey
          have hm' : (m == l) = false := by simp [hm]
          clear hm h1 h2 hn hh
          go_wp2_with (go_at_call 19; refine (wakesL_any _).mono ?_; rintro e w' ⟨rfl, hb2⟩)
          go_ret
          exact ⟨rfl, HB.out.trans (hb2.mono HB.out.size)⟩
      · have hq' : (bits .or .u8 d u / 2 ^ l.toNat == 0) = false := by simpa using hq
        have hf : fromB d l = true ∨ fromB u l = true := by
          have := (fromB_or d u l (by omega) (by omega) (by omega) (by omega) (by omega) h8).1
          rw [fromB, bne, hq'] at this
          simpa using this.symm
        have e1 := goesV_bars d u m l (by omega) hf
        have e2 := goesV_bars u d m l (by omega) hf.symm
        rw [HX.out] at e1
        rw [HY.out] at e2
        clear hq hf
        rcases e1 with rfl | rfl <;> rcases e2 with rfl | rfl
        all_goals
          go_wp2_with (go_at_call 19; refine (wakesL_any _).mono ?_; rintro e w' ⟨rfl, hb2⟩)
          go_ret
          exact ⟨rfl, HB.out.trans (hb2.mono HB.out.size)⟩
    · have ex : x = 0 := by rw [← HX.out]; unfold goesV; rw [if_pos (by omega)]
      have ey : y = 0 := by rw [← HY.out]; unfold goesV; rw [if_pos (by omega)]
      subst ex ey
      have h8' : decide (l < 8) = false := by simpa using h8
      go_wp2_with (go_at_call 19; refine (wakesL_any _).mono ?_; rintro e w' ⟨rfl, hb2⟩)
      go_ret
      exact ⟨rfl, HB.out.trans (hb2.mono HB.out.size)⟩
end Go.Proofs.Ytknahemnmboidaa
