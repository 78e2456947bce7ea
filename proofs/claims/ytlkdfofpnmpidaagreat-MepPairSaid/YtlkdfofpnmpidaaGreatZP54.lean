/- ZP54: the texts PA3, PA4 as one. -/
import Derived.Test.YtlkdfofpnmpidaaGreatZP53
import Derived.Test.YtlkdfofpnmpidaaGreatZP44
import Derived.Test.YtlkdfofpnmpidaaGreatZP51
import Derived.Test.YtlkdfofpnmpidaaGreatZP18
/- MepPair: the plain law: what one sends comes to the other one, and back; ticks of both; what holds all along. -/
set_option linter.unusedVariables false
set_option linter.unusedSimpArgs false
namespace Go.Proofs.YtlkdfofpnmpidaaGreat
open Go.RowKit

/-- What one sends (false: the first one) comes to the other one, and what that sends back. -/
inductive Exch (o0 o1 : Ow20) : Nat → Bool → List Sn → Ms → Ms → Ms → Ms → Prop
  | done (n b s0 s1) : Exch o0 o1 n b [] s0 s1 s0 s1
  | to1 (n x s0 s1 s1' r t0 t1) : s1.Ok → x.m.Ok → x.d.length ≤ 1600 → takeM o1 s1 o0.mc x.m x.d = (s1', r) → r.length ≤ 1 → Exch o0 o1 n true r s0 s1' t0 t1 → Exch o0 o1 (n + 1) false [x] s0 s1 t0 t1
  | to0 (n x s0 s1 s0' r t0 t1) : s0.Ok → x.m.Ok → x.d.length ≤ 1600 → takeM o0 s0 o1.mc x.m x.d = (s0', r) → r.length ≤ 1 → Exch o0 o1 n false r s0' s1 t0 t1 → Exch o0 o1 (n + 1) true [x] s0 s1 t0 t1
/-- Both tick; the first one's are lost, or come. -/
def AllR (o0 o1 : Ow20) (lost : Bool) (s0 s1 t0 t1 : Ms) : Prop :=
  s0.Ok ∧ ∃ u0 l0 e0 v0 v1 w1 l1 e1, tickM o0 s0 = (u0, l0, e0) ∧ l0.length ≤ 1 ∧ (if lost = true then v0 = u0 ∧ v1 = s1 else Exch o0 o1 20 false l0 u0 s1 v0 v1) ∧ v1.Ok ∧ tickM o1 v1 = (w1, l1, e1) ∧ l1.length ≤ 1 ∧ Exch o0 o1 20 true l1 v0 w1 t0 t1
section
variable {lv iv l0 r0 l1 r1 f Q : Int} {E0 E1 : Ex} {s0 s1 : Ms}
theorem chkG_ok {lv : Int} (h : 0 ≤ lv ∧ lv < 8) : (chkG lv).Ok := ⟨⟨show (0 : Int) ≤ 1 by decide, show (1 : Int) < 256 by decide⟩, ⟨show (0 : Int) ≤ 128 by decide, show (128 : Int) < 256 by decide⟩, ⟨show (0 : Int) ≤ 194 by decide, show (194 : Int) < 256 by decide⟩, ⟨show (0 : Int) ≤ 0 by decide, show (0 : Int) < 256 by decide⟩, ⟨show (0 : Int) ≤ 0 by decide, show (0 : Int) < 256 by decide⟩, by show 0 ≤ 48 + lv ∧ 48 + lv < 256; omega⟩
/-- A tick of both without checks. -/
theorem all_quiet (h0 : PX 2 l0 r0 f Q E0 s0) (h1 : PX 1 l1 r1 f Q E1 s1) (e0 : ExOk E0) (e1 : ExOk E1) (hf : 2 ≤ f) (lost : Bool) : ∃ t0 t1, AllR (pO lv iv 1) (pO lv iv 2) lost s0 s1 t0 t1 ∧ PX 2 (dn1 l0) r0 (f - 1) Q E0 t0 ∧ PX 1 (dn1 l1) r1 (f - 1) Q E1 t1 := by
  obtain ⟨t0, x0, a0, b0⟩ := h0.quiet hf (pO lv iv 1)
  obtain ⟨t1, x1, a1, b1⟩ := h1.quiet hf (pO lv iv 2)
  refine ⟨t0, t1, ⟨h0.ok e0, t0, [], x0, t0, s1, t1, [], x1, a0, by decide, ?_, h1.ok e1, a1, by decide, .done ..⟩, b0, b1⟩
  cases lost
  · exact .done ..
  · exact ⟨rfl, rfl⟩
theorem wX_lt {l r : Int} : ¬ l = 0 → ¬ 2 ≤ wX l r := fun h => by unfold wX; rw [if_neg h]; split <;> omega
theorem last_b {iv : Int} (h : iv = 4 ∨ iv = 5) : (lastC iv = 4 ∧ tickC iv = 1) ∨ (lastC iv = 35 ∧ tickC iv = 10) := by rcases h with rfl | rfl <;> decide
/-- A tick of both with checks that come. -/
theorem all_send (hlv : 0 ≤ lv ∧ lv < 8) (hiv : iv = 4 ∨ iv = 5) (h0 : PX 2 l0 r0 1 Q E0 s0) (h1 : PX 1 l1 r1 1 Q E1 s1) (e0 : ExOk E0) (e1 : ExOk E1) (hq : Q < 1000) (hl : 2 ≤ l0) :
    ∃ t0 t1, AllR (pO lv iv 1) (pO lv iv 2) false s0 s1 t0 t1 ∧ PX 2 (lastC iv) 0 (tickC iv) (Q + 1) E0 t0 ∧ PX 1 (lastC iv - 1) 0 (tickC iv) (Q + 1) E1 t1 := by
  have hL := last_b hiv
  obtain ⟨u0, x0, a0, b0⟩ := h0.send hq (pO lv iv 1) hiv
  have hs0 := h0.sq
  have hs1 := h1.sq
  obtain ⟨d0, c0, cl0, ct0⟩ := check_msg hlv hiv (k := 1) (.inl rfl) (wX (dn1 l0) r0) (s0.sq + 1) (by omega)
  have hd : dn1 l0 = l0 - 1 := by unfold dn1; rw [if_pos (by omega)]
  obtain ⟨v1, g1, p1⟩ := ct0 2 (pM 1) _ _ _ _ _ _ h1
  rw [if_neg (wX_lt (by omega))] at p1
  obtain ⟨w1, x1, a1, b1⟩ := p1.send hq (pO lv iv 2) hiv
  have hv1 := p1.sq
  obtain ⟨d1, c1, cl1, ct1⟩ := check_msg hlv hiv (k := 2) (.inr rfl) (wX (dn1 (lastC iv)) 0) (v1.sq + 1) (by omega)
  have hd1 : dn1 (lastC iv) = lastC iv - 1 := by unfold dn1; rw [if_pos (by omega)]
  obtain ⟨t0, g0, p0⟩ := ct1 1 (pM 2) _ _ _ _ _ _ b0
  rw [if_neg (wX_lt (by omega))] at p0
  rw [c0] at a0
  rw [c1] at a1
  rw [hd1] at b1
  exact ⟨t0, w1, ⟨h0.ok e0, u0, _, x0, u0, v1, w1, _, x1, a0, by simp, .to1 _ _ _ _ _ _ _ _ (h1.ok e1) (chkG_ok hlv) cl0 g1 (by simp) (.done ..), p1.ok e1, a1, by simp, .to0 _ _ _ _ _ _ _ _ (b0.ok e0) (chkG_ok hlv) cl1 g0 (by simp) (.done ..)⟩, p0, b1⟩
/-- A tick of both with checks, of which the first one's is lost. -/
theorem all_lost (hlv : 0 ≤ lv ∧ lv < 8) (hiv : iv = 4 ∨ iv = 5) (h0 : PX 2 l0 r0 1 Q E0 s0) (h1 : PX 1 l1 r1 1 Q E1 s1) (e0 : ExOk E0) (e1 : ExOk E1) (hq : Q < 1000) :
    ∃ t0 t1, AllR (pO lv iv 1) (pO lv iv 2) true s0 s1 t0 t1 ∧ PX 2 (lastC iv) (if dn1 l1 = 0 then 1 else 0) (tickC iv) (Q + 1) E0 t0 ∧ PX 1 (dn1 l1) r1 (tickC iv) (Q + 1) E1 t1 := by
  obtain ⟨u0, x0, a0, b0⟩ := h0.send hq (pO lv iv 1) hiv
  have hs0 := h0.sq
  have hs1 := h1.sq
  obtain ⟨d0, c0, cl0, ct0⟩ := check_msg hlv hiv (k := 1) (.inl rfl) (wX (dn1 l0) r0) (s0.sq + 1) (by omega)
  obtain ⟨w1, x1, a1, b1⟩ := h1.send hq (pO lv iv 2) hiv
  obtain ⟨d1, c1, cl1, ct1⟩ := check_msg hlv hiv (k := 2) (.inr rfl) (wX (dn1 l1) r1) (s1.sq + 1) (by omega)
  obtain ⟨t0, g0, p0⟩ := ct1 1 (pM 2) _ _ _ _ _ _ b0
  have hw : (if 2 ≤ wX (dn1 l1) r1 then (1 : Int) else 0) = if dn1 l1 = 0 then 1 else 0 := by
    by_cases h : dn1 l1 = 0
    · rw [if_pos h, if_pos (by unfold wX; rw [if_pos h]; decide)]
    · rw [if_neg h, if_neg (wX_lt h)]
  rw [hw] at p0
  rw [c0] at a0
  rw [c1] at a1
  exact ⟨t0, w1, ⟨h0.ok e0, u0, _, x0, u0, s1, w1, _, x1, a0, by simp, ⟨rfl, rfl⟩, h1.ok e1, a1, by simp, .to0 _ _ _ _ _ _ _ _ (b0.ok e0) (chkG_ok hlv) cl1 g0 (by simp) (.done ..)⟩, p0, b1⟩
/-- What holds while all comes: each one hears the other one in time. -/
def Inv1 (iv Q : Int) (E0 E1 : Ex) (f : Int) (s0 s1 : Ms) : Prop := f ≤ tickC iv ∧ PX 2 (lastC iv - (tickC iv - f)) 0 f Q E0 s0 ∧ PX 1 (lastC iv - 1 - (tickC iv - f)) 0 f Q E1 s1
theorem inv1_step (hlv : 0 ≤ lv ∧ lv < 8) (hiv : iv = 4 ∨ iv = 5) (e0 : ExOk E0) (e1 : ExOk E1) (hq : Q < 1000) (h : Inv1 iv Q E0 E1 f s0 s1) : ∃ f' t0 t1, AllR (pO lv iv 1) (pO lv iv 2) false s0 s1 t0 t1 ∧ Inv1 iv (Q + 1) E0 E1 f' t0 t1 := by
  obtain ⟨hf, h0, h1⟩ := h
  have hL := last_b hiv
  have hf0 := h0.f0
  by_cases h2 : 2 ≤ f
  · obtain ⟨t0, t1, a, b0, b1⟩ := all_quiet (lv := lv) (iv := iv) h0 h1 e0 e1 h2 false
    refine ⟨f - 1, t0, t1, a, by omega, ?_, ?_⟩
    · have : dn1 (lastC iv - (tickC iv - f)) = lastC iv - (tickC iv - (f - 1)) := by unfold dn1; rw [if_pos (by omega)]; omega
      rw [← this]; exact b0.mono (by omega) (by omega)
    · have : dn1 (lastC iv - 1 - (tickC iv - f)) = lastC iv - 1 - (tickC iv - (f - 1)) := by unfold dn1; rw [if_pos (by omega)]; omega
      rw [← this]; exact b1.mono (by omega) (by omega)
  · obtain rfl : f = 1 := by omega
    obtain ⟨t0, t1, a, b0, b1⟩ := all_send hlv hiv h0 h1 e0 e1 hq (by omega)
    exact ⟨tickC iv, t0, t1, a, Int.le_refl _, by rw [show lastC iv - (tickC iv - tickC iv) = lastC iv by omega]; exact b0, by rw [show lastC iv - 1 - (tickC iv - tickC iv) = lastC iv - 1 by omega]; exact b1⟩
/-- While the first one's are lost: the second one hears less and less; the first one hears all. -/
def Inv2 (iv Q : Int) (E0 E1 : Ex) (j : Int) (s0 s1 : Ms) : Prop := ∃ f l1 r0, f ≤ tickC iv ∧ (l1 = 0 ∨ l1 ≤ lastC iv - 1 - j) ∧ PX 2 (lastC iv - (tickC iv - f)) r0 f Q E0 s0 ∧ PX 1 l1 0 f Q E1 s1
theorem Inv1.two (h : Inv1 iv Q E0 E1 f s0 s1) : Inv2 iv Q E0 E1 0 s0 s1 := ⟨f, _, 0, h.1, .inr (by have := h.1; omega), h.2.1, h.2.2⟩
theorem dn1_cases (x : Int) (h : 0 ≤ x) : (x = 0 ∧ dn1 x = 0) ∨ (1 ≤ x ∧ dn1 x = x - 1) := by unfold dn1; by_cases h1 : 1 ≤ x <;> simp [h1] <;> omega
theorem inv2_step {j : Int} (hlv : 0 ≤ lv ∧ lv < 8) (hiv : iv = 4 ∨ iv = 5) (e0 : ExOk E0) (e1 : ExOk E1) (hq : Q < 1000) (h : Inv2 iv Q E0 E1 j s0 s1) : ∃ t0 t1, AllR (pO lv iv 1) (pO lv iv 2) true s0 s1 t0 t1 ∧ Inv2 iv (Q + 1) E0 E1 (j + 1) t0 t1 := by
  obtain ⟨f, l1, r0, hf, hl1, h0, h1⟩ := h
  have hL := last_b hiv
  have hf0 := h0.f0
  have hl := dn1_cases l1 h1.l0.1
  by_cases h2 : 2 ≤ f
  · obtain ⟨t0, t1, a, b0, b1⟩ := all_quiet (lv := lv) (iv := iv) h0 h1 e0 e1 h2 true
    refine ⟨t0, t1, a, f - 1, dn1 l1, r0, by omega, by omega, ?_, b1.mono (by omega) (by omega)⟩
    have : dn1 (lastC iv - (tickC iv - f)) = lastC iv - (tickC iv - (f - 1)) := by unfold dn1; rw [if_pos (by omega)]; omega
    rw [← this]; exact b0.mono (by omega) (by omega)
  · obtain rfl : f = 1 := by omega
    obtain ⟨t0, t1, a, b0, b1⟩ := all_lost hlv hiv h0 h1 e0 e1 hq
    exact ⟨t0, t1, a, tickC iv, dn1 l1, _, Int.le_refl _, by omega, by rw [show lastC iv - (tickC iv - tickC iv) = lastC iv by omega]; exact b0, b1⟩
/-- The second one has lost the first one, and tells of it. -/
def Inv3 (iv Q : Int) (E0 E1 : Ex) (j : Int) (s0 s1 : Ms) : Prop := ∃ f r0, f ≤ tickC iv ∧ (r0 = 1 ∨ f ≤ tickC iv - j) ∧ PX 2 (lastC iv - (tickC iv - f)) r0 f Q E0 s0 ∧ PX 1 0 0 f Q E1 s1
theorem Inv2.three (hiv : iv = 4 ∨ iv = 5) {j : Int} (h : Inv2 iv Q E0 E1 j s0 s1) (hj : lastC iv ≤ j) : Inv3 iv Q E0 E1 0 s0 s1 := by
  obtain ⟨f, l1, r0, hf, hl1, h0, h1⟩ := h
  have := h1.l0
  obtain rfl : l1 = 0 := by omega
  exact ⟨f, r0, hf, .inr (by omega), h0, h1⟩
theorem inv3_step {j : Int} (hlv : 0 ≤ lv ∧ lv < 8) (hiv : iv = 4 ∨ iv = 5) (e0 : ExOk E0) (e1 : ExOk E1) (hq : Q < 1000) (h : Inv3 iv Q E0 E1 j s0 s1) : ∃ t0 t1, AllR (pO lv iv 1) (pO lv iv 2) true s0 s1 t0 t1 ∧ Inv3 iv (Q + 1) E0 E1 (j + 1) t0 t1 := by
  obtain ⟨f, r0, hf, hr, h0, h1⟩ := h
  have hL := last_b hiv
  have hf0 := h0.f0
  by_cases h2 : 2 ≤ f
  · obtain ⟨t0, t1, a, b0, b1⟩ := all_quiet (lv := lv) (iv := iv) h0 h1 e0 e1 h2 true
    refine ⟨t0, t1, a, f - 1, r0, by omega, by omega, ?_, b1.mono (by omega) (by omega)⟩
    have : dn1 (lastC iv - (tickC iv - f)) = lastC iv - (tickC iv - (f - 1)) := by unfold dn1; rw [if_pos (by omega)]; omega
    rw [← this]; exact b0.mono (by omega) (by omega)
  · obtain rfl : f = 1 := by omega
    obtain ⟨t0, t1, a, b0, b1⟩ := all_lost hlv hiv h0 h1 e0 e1 hq
    exact ⟨t0, t1, a, tickC iv, 1, Int.le_refl _, .inl rfl, by rw [show lastC iv - (tickC iv - tickC iv) = lastC iv by omega]; exact b0, b1⟩
/-- All comes again. -/
def Inv4 (iv Q : Int) (E0 E1 : Ex) (j : Int) (s0 s1 : Ms) : Prop := ∃ f, Inv1 iv Q E0 E1 f s0 s1 ∨ (f ≤ tickC iv - j ∧ f ≤ tickC iv ∧ ∃ r0 l1, PX 2 (lastC iv - (tickC iv - f)) r0 f Q E0 s0 ∧ PX 1 l1 0 f Q E1 s1)
theorem Inv3.four {j : Int} (h : Inv3 iv Q E0 E1 j s0 s1) : Inv4 iv Q E0 E1 0 s0 s1 := by
  obtain ⟨f, r0, hf, hr, h0, h1⟩ := h
  exact ⟨f, .inr ⟨by omega, hf, r0, 0, h0, h1⟩⟩
theorem inv4_step {j : Int} (hlv : 0 ≤ lv ∧ lv < 8) (hiv : iv = 4 ∨ iv = 5) (e0 : ExOk E0) (e1 : ExOk E1) (hq : Q < 1000) (h : Inv4 iv Q E0 E1 j s0 s1) : ∃ t0 t1, AllR (pO lv iv 1) (pO lv iv 2) false s0 s1 t0 t1 ∧ Inv4 iv (Q + 1) E0 E1 (j + 1) t0 t1 := by
  obtain ⟨f, h | ⟨hj, hf, r0, l1, h0, h1⟩⟩ := h
  · obtain ⟨f', t0, t1, a, b⟩ := inv1_step hlv hiv e0 e1 hq h
    exact ⟨t0, t1, a, f', .inl b⟩
  have hL := last_b hiv
  have hf0 := h0.f0
  by_cases h2 : 2 ≤ f
  · obtain ⟨t0, t1, a, b0, b1⟩ := all_quiet (lv := lv) (iv := iv) h0 h1 e0 e1 h2 false
    refine ⟨t0, t1, a, f - 1, .inr ⟨by omega, by omega, r0, dn1 l1, ?_, b1.mono (by omega) (by omega)⟩⟩
    have : dn1 (lastC iv - (tickC iv - f)) = lastC iv - (tickC iv - (f - 1)) := by unfold dn1; rw [if_pos (by omega)]; omega
    rw [← this]; exact b0.mono (by omega) (by omega)
  · obtain rfl : f = 1 := by omega
    obtain ⟨t0, t1, a, b0, b1⟩ := all_send hlv hiv h0 h1 e0 e1 hq (by omega)
    exact ⟨t0, t1, a, tickC iv, .inl ⟨Int.le_refl _, by rw [show lastC iv - (tickC iv - tickC iv) = lastC iv by omega]; exact b0, by rw [show lastC iv - 1 - (tickC iv - tickC iv) = lastC iv - 1 by omega]; exact b1⟩⟩
theorem Inv4.one (hiv : iv = 4 ∨ iv = 5) {j : Int} (h : Inv4 iv Q E0 E1 j s0 s1) (hj : tickC iv ≤ j) : ∃ f, Inv1 iv Q E0 E1 f s0 s1 := by
  obtain ⟨f, h | ⟨hj', hf, r0, l1, h0, h1⟩⟩ := h
  · exact ⟨f, h⟩
  · have := h0.f0
    omega
/-- What is asked for: nothing is wrong; who is lost; who tells of a defect. -/
theorem Inv1.calm (hiv : iv = 4 ∨ iv = 5) (h : Inv1 iv Q E0 E1 f s0 s1) : wstM s0 = 0 ∧ wstM s1 = 0 := by
  have hL := last_b hiv
  have := h.2.1.f0
  have := h.1
  rw [h.2.1.worst, h.2.2.worst]
  unfold wX
  rw [if_neg (by omega), if_neg (by decide), if_neg (by omega)]
  exact ⟨rfl, rfl⟩
theorem Inv3.lost {j : Int} (h : Inv3 iv Q E0 E1 j s0 s1) : thoseV isL s1.V = [1] := by
  obtain ⟨f, r0, hf, hr, h0, h1⟩ := h
  rw [h1.lost]; rfl
theorem Inv3.rdis (hiv : iv = 4 ∨ iv = 5) {j : Int} (h : Inv3 iv Q E0 E1 j s0 s1) (hj : tickC iv ≤ j) : thoseV isR s0.V = [2] := by
  obtain ⟨f, r0, hf, hr, h0, h1⟩ := h
  have hL := last_b hiv
  have := h0.f0
  obtain rfl : r0 = 1 := by omega
  rw [h0.rdis, if_pos ⟨by omega, rfl⟩]
/-- The start. -/
def ex0 : Ex := (0, [], 0, 0, 0, [])
theorem ex0_ok : ExOk ex0 := ⟨by decide, by decide, by decide, by decide, by decide, by decide, by simp [ex0]⟩
theorem al0P : (⟨0, 0, 0⟩ : Al).Ok := ⟨by decide, by decide, by decide⟩
theorem px0 {k : Int} (hk : k = 1 ∨ k = 2) (hiv : iv = 4 ∨ iv = 5) : PX k (lastC iv) 0 1 0 ex0 (ms0 [(k, lastC iv, 0)]) :=
  ⟨rfl, by omega, by have := last_b hiv; omega, rfl, rfl, al0P, rfl, by decide, ⟨show (0 : Int) ≤ 0 by decide, show (0 : Int) ≤ 0 by decide⟩, by decide, rfl, rfl, rfl, rfl, rfl, rfl, rfl⟩
theorem first_step (hlv : 0 ≤ lv ∧ lv < 8) (hiv : iv = 4 ∨ iv = 5) : ∃ f t0 t1, AllR (pO lv iv 1) (pO lv iv 2) false (ms0 [(2, lastC iv, 0)]) (ms0 [(1, lastC iv, 0)]) t0 t1 ∧ Inv1 iv 1 ex0 ex0 f t0 t1 := by
  have hL := last_b hiv
  obtain ⟨t0, t1, a, b0, b1⟩ := all_send hlv hiv (px0 (.inr rfl) hiv) (px0 (.inl rfl) hiv) ex0_ok ex0_ok (by decide) (by omega)
  exact ⟨tickC iv, t0, t1, a, Int.le_refl _, by rw [show lastC iv - (tickC iv - tickC iv) = lastC iv by omega]; exact b0, by rw [show lastC iv - 1 - (tickC iv - tickC iv) = lastC iv - 1 by omega]; exact b1⟩
/-- The first one's state behind the loopback and the trace. -/
def exE (lv ttl : Int) (dt : List UInt8) : Ex := (1, dt, 1, 1, 1, [endX lv ttl])
theorem exE_ok (hlv : 0 ≤ lv ∧ lv < 8) {ttl : Int} (ht : 1 ≤ ttl ∧ ttl < 256) {dt : List UInt8} (hd : dt.length ≤ 64) : ExOk (exE lv ttl dt) :=
  ⟨show (0 : Int) ≤ 1 ∧ (1 : Int) ≤ 1000 by decide, by show dt.length ≤ 1000; omega, show (0 : Int) ≤ 1 ∧ (1 : Int) ≤ 1000 by decide, show (0 : Int) ≤ 1 ∧ (1 : Int) ≤ 1000 by decide, show (0 : Int) ≤ 1 ∧ (1 : Int) ≤ 1000 by decide, show 1 ≤ 32 by decide, fun r hr => by
    have : r = endX lv ttl := by simpa [exE] using hr
    rw [this]
    exact ⟨⟨hlv.1, by show lv < 256; omega⟩, by show (0 : Int) ≤ 1 ∧ (1 : Int) < 4294967296; decide, by show 0 ≤ ttl - 1 ∧ ttl - 1 < 256; omega, pM_ok (.inr rfl), by show mc0.Ok; exact ⟨by decide, by decide, by decide, by decide, by decide, by decide⟩⟩⟩
end
/-- The loopback and the trace leave what is heard as it was. -/
theorem PX.asked {l r f Q lv ttl : Int} {dt : List UInt8} {s : Ms} (h : PX 2 l r f Q ex0 s) : PX 2 l r f Q (exE lv ttl dt) { s with lp := 1, dat := dt, rep := 1, ali := 1, tr := 1, way := [endX lv ttl] } :=
  ⟨h.V, h.k0, h.l0, h.bd, h.cr, h.al, h.lf, h.f0, h.sq, h.q0, h.bad, rfl, rfl, rfl, rfl, rfl, rfl⟩
end Go.Proofs.YtlkdfofpnmpidaaGreat

/- MepPair: the pair's blocks; 'comes'. -/
set_option linter.unusedVariables false
set_option linter.unusedSimpArgs false
namespace Go.Proofs.YtlkdfofpnmpidaaGreat
open Go.RowKit

theorem Fr.trans2 {D D' : Nat → Prop} {w w' w'' : World} (h : Fr D w w') (k : Fr D' w' w'') (hd : ∀ j, j < w.heap.size → D' j → D j) : Fr D w w'' :=
  ⟨k.os.trans h.os, k.tape.trans h.tape, k.output.trans h.output, Nat.le_trans h.size k.size, fun j hj h1 => (k.block j (Nat.lt_of_lt_of_le hj h.size) (fun e => h1 (hd j hj e))).trans (h.block j hj h1)⟩
/-- A row's own block is as it was, or new. -/
def Gr (y z : Value) (N : Nat) : Prop := ∀ g, z.ownBlock = some g → y.ownBlock = some g ∨ N ≤ g
theorem Gr.refl (y : Value) (N : Nat) : Gr y y N := fun g h => .inl h
theorem Gr.trans {x y z : Value} {N M : Nat} (h : Gr x y N) (k : Gr y z M) (hn : N ≤ M) : Gr x z N := fun g hg => by
  rcases k g hg with e | e
  · exact h g e
  · exact .inr (Nat.le_trans hn e)
theorem Gr.d {x : Mp} {y z : Value} {N : Nat} (h : Gr y z N) {k : Nat} (hk : x.D z k) : x.D y k ∨ N ≤ k := by
  rcases hk with e | e | e | e | e
  · exact .inl (.inl e)
  · exact .inl (.inr (.inl e))
  · exact .inl (.inr (.inr (.inl e)))
  · exact .inl (.inr (.inr (.inr (.inl e))))
  · rcases h k e with e | e
    · exact .inl (.inr (.inr (.inr (.inr e))))
    · exact .inr e
def pairA (o0 o1 : Ow20) (x0 x1 : Mp) : Array Value := #[.pointer (some ⟨x0.p, 0, none⟩), .pointer (some ⟨x1.p, 0, none⟩), .int .u8 o0.mc.a, .int .u8 o0.mc.b, .int .u8 o0.mc.c, .int .u8 o0.mc.d, .int .u8 o0.mc.e, .int .u8 o0.mc.f, .int .u8 o1.mc.a, .int .u8 o1.mc.b, .int .u8 o1.mc.c, .int .u8 o1.mc.d, .int .u8 o1.mc.e, .int .u8 o1.mc.f]
/-- The pair's block, the two points. -/
structure PW (w W : World) (P : Nat) (o0 o1 : Ow20) (v0 v1 : Value) (x0 x1 : Mp) (s0 s1 : Ms) (y0 y1 : Value) : Prop where
  gb : GB 77 W P (pairA o0 o1 x0 x1)
  m0 : MM W o0 v0 x0 s0 y0
  m1 : MM W o1 v1 x1 s1 y1
  ap : ∀ k, x0.D y0 k → x1.D y1 k → False
  n0 : ¬ x0.D y0 P
  n1 : ¬ x1.D y1 P
  lo0 : ∀ k, x0.D y0 k → w.heap.size ≤ k
  lo1 : ∀ k, x1.D y1 k → w.heap.size ≤ k
  bel : Below w.heap.size w W
/-- What a step may turn. -/
structure PF (x0 x1 : Mp) (y0 y1 z0 z1 : Value) (W W' : World) : Prop where
  fr : Fr (fun k => x0.D y0 k ∨ x1.D y1 k) W W'
  g0 : Gr y0 z0 W.heap.size
  g1 : Gr y1 z1 W.heap.size
section
variable {w W W' W'' : World} {P : Nat} {o0 o1 : Ow20} {v0 v1 : Value} {x0 x1 : Mp} {s0 s1 s' : Ms} {y0 y1 z0 z1 u0 u1 : Value}
theorem PF.refl (x0 x1 : Mp) (y0 y1 : Value) (W : World) : PF x0 x1 y0 y1 y0 y1 W W := ⟨.refl _ _, .refl _ _, .refl _ _⟩
theorem PF.below (hb : Below W.heap.size W W') : PF x0 x1 y0 y1 y0 y1 W W' := ⟨.of_below hb, .refl _ _, .refl _ _⟩
theorem PF.drew : PF x0 x1 y0 y1 y0 y1 W W.drew := ⟨(Fr.refl _ _).drew, .refl _ _, .refl _ _⟩
theorem PF.trans (h : PF x0 x1 y0 y1 z0 z1 W W') (k : PF x0 x1 z0 z1 u0 u1 W' W'') : PF x0 x1 y0 y1 u0 u1 W W'' :=
  ⟨h.fr.trans2 k.fr fun j hj hd => by
      have hs := h.fr.size
      rcases hd with e | e
      · rcases h.g0.d e with e | e
        · exact .inl e
        · omega
      · rcases h.g1.d e with e | e
        · exact .inr e
        · omega, h.g0.trans k.g0 h.fr.size, h.g1.trans k.g1 h.fr.size⟩
theorem PW.later (h : PW w W P o0 o1 v0 v1 x0 x1 s0 s1 y0 y1) (hb : Below W.heap.size W W') : PW w W' P o0 o1 v0 v1 x0 x1 s0 s1 y0 y1 :=
  ⟨h.gb.later hb, h.m0.later hb, h.m1.later hb, h.ap, h.n0, h.n1, h.lo0, h.lo1, h.bel.trans (hb.mono h.bel.size)⟩
theorem PW.drew (h : PW w W P o0 o1 v0 v1 x0 x1 s0 s1 y0 y1) : PW w W.drew P o0 o1 v0 v1 x0 x1 s0 s1 y0 y1 := h.later (Below.refl _ _).drew
theorem MM.frD {W W' : World} {o : Ow20} {ov : Value} {x : Mp} {s : Ms} {wv : Value} {D : Nat → Prop} (h : MM W o ov x s wv) (hf : Fr D W W') (hd : ∀ k, x.D wv k → ¬ D k) : MM W' o ov x s wv := h.fr hf hd
/-- The first point goes on; the second one. -/
theorem PW.st0 (h : PW w W P o0 o1 v0 v1 x0 x1 s0 s1 y0 y1) (hm : MM W' o0 v0 x0 s' z0) (hf : Fr (x0.D y0) W W') (hw : Gr y0 z0 W.heap.size) : PW w W' P o0 o1 v0 v1 x0 x1 s' s1 z0 y1 ∧ PF x0 x1 y0 y1 z0 y1 W W' := by
  have hP := h.gb.lt
  have hs := h.bel.size
  refine ⟨⟨h.gb.fr' hf h.n0, hm, h.m1.fr hf (fun k hk hd => h.ap k hd hk), fun k hk hk1 => ?_, fun hk => ?_, h.n1, fun k hk => ?_, h.lo1, h.bel.trans (hf.below hs (fun k hk hd => by have := h.lo0 k hd; omega))⟩, ⟨hf.mono fun k _ hk => .inl hk, hw, .refl _ _⟩⟩
  · rcases hw.d hk with e | e
    · exact h.ap k e hk1
    · have := h.m1.ltD hk1; omega
  · rcases hw.d hk with e | e
    · exact h.n0 e
    · omega
  · rcases hw.d hk with e | e
    · exact h.lo0 k e
    · omega
theorem PW.st1 (h : PW w W P o0 o1 v0 v1 x0 x1 s0 s1 y0 y1) (hm : MM W' o1 v1 x1 s' z1) (hf : Fr (x1.D y1) W W') (hw : Gr y1 z1 W.heap.size) : PW w W' P o0 o1 v0 v1 x0 x1 s0 s' y0 z1 ∧ PF x0 x1 y0 y1 y0 z1 W W' := by
  have hP := h.gb.lt
  have hs := h.bel.size
  refine ⟨⟨h.gb.fr' hf h.n1, h.m0.fr hf (fun k hk hd => h.ap k hk hd), hm, fun k hk hk1 => ?_, h.n0, fun hk => ?_, h.lo0, fun k hk => ?_, h.bel.trans (hf.below hs (fun k hk hd => by have := h.lo1 k hd; omega))⟩, ⟨hf.mono fun k _ hk => .inr hk, .refl _ _, hw⟩⟩
  · rcases hw.d hk1 with e | e
    · exact h.ap k hk e
    · have := h.m0.ltD hk; omega
  · rcases hw.d hk with e | e
    · exact h.n1 e
    · omega
  · rcases hw.d hk with e | e
    · exact h.lo1 k e
    · omega
theorem PW.c14 (h : PW w W P o0 o1 v0 v1 x0 x1 s0 s1 y0 y1) : W.cell? ⟨P, 0, none⟩ = some (.pointer (some ⟨x0.p, 0, none⟩)) ∧ W.cell? ⟨P, 1, none⟩ = some (.pointer (some ⟨x1.p, 0, none⟩)) ∧ W.cell? ⟨P, 2, none⟩ = some (.int .u8 o0.mc.a) ∧ W.cell? ⟨P, 3, none⟩ = some (.int .u8 o0.mc.b) ∧ W.cell? ⟨P, 4, none⟩ = some (.int .u8 o0.mc.c) ∧ W.cell? ⟨P, 5, none⟩ = some (.int .u8 o0.mc.d) ∧ W.cell? ⟨P, 6, none⟩ = some (.int .u8 o0.mc.e) ∧ W.cell? ⟨P, 7, none⟩ = some (.int .u8 o0.mc.f) ∧
    W.cell? ⟨P, 8, none⟩ = some (.int .u8 o1.mc.a) ∧ W.cell? ⟨P, 9, none⟩ = some (.int .u8 o1.mc.b) ∧ W.cell? ⟨P, 10, none⟩ = some (.int .u8 o1.mc.c) ∧ W.cell? ⟨P, 11, none⟩ = some (.int .u8 o1.mc.d) ∧ W.cell? ⟨P, 12, none⟩ = some (.int .u8 o1.mc.e) ∧ W.cell? ⟨P, 13, none⟩ = some (.int .u8 o1.mc.f) :=
  ⟨h.gb.c 0 _ rfl, h.gb.c 1 _ rfl, h.gb.c 2 _ rfl, h.gb.c 3 _ rfl, h.gb.c 4 _ rfl, h.gb.c 5 _ rfl, h.gb.c 6 _ rfl, h.gb.c 7 _ rfl, h.gb.c 8 _ rfl, h.gb.c 9 _ rfl, h.gb.c 10 _ rfl, h.gb.c 11 _ rfl, h.gb.c 12 _ rfl, h.gb.c 13 _ rfl⟩
theorem opM_badP (o : Ow20) (s : Ms) (sr ds : Mc) (a b c : Int) (f : List UInt8) (l : List Th) : (opM o s sr ds a b c f l).1.bad = s.bad := by
  unfold opM
  split
  · unfold chkM; split <;> rfl
  · split
    · unfold answM; (repeat' split) <;> rfl
    · split
      · rfl
      · split
        · unfold fndM; (repeat' split) <;> rfl
        · rfl
/-- A message comes to one of them. -/
theorem PW.take1 (h : PW w W P o0 o1 v0 v1 x0 x1 s0 s1 y0 y1) (ho : o1.Ok) (hlv : o1.a.lv < 8) (hs : s1.Ok) (sr ds : Mc) (hsr : sr.Ok) (d : List UInt8) (hd : d.length ≤ 1600) :
    Calls Tryz.prog 18 #[.pointer (some ⟨x1.p, 0, none⟩), .agg #[.int .u8 sr.a, .int .u8 sr.b, .int .u8 sr.c, .int .u8 sr.d, .int .u8 sr.e, .int .u8 sr.f], .agg #[.int .u8 ds.a, .int .u8 ds.b, .int .u8 ds.c, .int .u8 ds.d, .int .u8 ds.e, .int .u8 ds.f], .string (bs d)] W fun en w' => ∃ u z1, en = .returned u ∧ Ow 7 snC 55 w' W.heap.size u (takeM o1 s1 sr ds d).2 ∧ PW w w' P o0 o1 v0 v1 x0 x1 s0 (takeM o1 s1 sr ds d).1 y0 z1 ∧ PF x0 x1 y0 y1 y0 z1 W w' :=
  (mtake_any o1 ho hlv v1 x1 s1 y1 hs sr ds hsr d hd W h.m1 (by
    intro p hp
    rw [opM_badP] at hp
    rw [← hp]; exact hs.bad)).mono fun en w' ⟨u, z1, he, hu, hm, hf, hw⟩ => ⟨u, z1, he, hu, (h.st1 hm hf hw).1, (h.st1 hm hf hw).2⟩
theorem PW.take0 (h : PW w W P o0 o1 v0 v1 x0 x1 s0 s1 y0 y1) (ho : o0.Ok) (hlv : o0.a.lv < 8) (hs : s0.Ok) (sr ds : Mc) (hsr : sr.Ok) (d : List UInt8) (hd : d.length ≤ 1600) :
    Calls Tryz.prog 18 #[.pointer (some ⟨x0.p, 0, none⟩), .agg #[.int .u8 sr.a, .int .u8 sr.b, .int .u8 sr.c, .int .u8 sr.d, .int .u8 sr.e, .int .u8 sr.f], .agg #[.int .u8 ds.a, .int .u8 ds.b, .int .u8 ds.c, .int .u8 ds.d, .int .u8 ds.e, .int .u8 ds.f], .string (bs d)] W fun en w' => ∃ u z0, en = .returned u ∧ Ow 7 snC 55 w' W.heap.size u (takeM o0 s0 sr ds d).2 ∧ PW w w' P o0 o1 v0 v1 x0 x1 (takeM o0 s0 sr ds d).1 s1 z0 y1 ∧ PF x0 x1 y0 y1 z0 y1 W w' :=
  (mtake_any o0 ho hlv v0 x0 s0 y0 hs sr ds hsr d hd W h.m0 (by
    intro p hp
    rw [opM_badP] at hp
    rw [← hp]; exact hs.bad)).mono fun en w' ⟨u, z0, he, hu, hm, hf, hw⟩ => ⟨u, z0, he, hu, (h.st0 hm hf hw).1, (h.st0 hm hf hw).2⟩
end
theorem info_snZ : (Tryz.prog.info? 55).map (fun i => (i.zero, i.size, i.bytes)) = some (some (.agg #[.int .u8 0, .int .u8 0, .int .u8 0, .int .u8 0, .int .u8 0, .int .u8 0, .string { data := #[] }]), 7, 24) := by kernel_rfl
theorem snC_one (x : Sn) : ∀ u ∈ snC x, u.oneCell' = true := by
  intro u hu
  unfold snC at hu
  simp only [List.mem_cons, List.not_mem_nil, or_false] at hu
  rcases hu with rfl | rfl | rfl | rfl | rfl | rfl | rfl <;> rfl
set_option maxRecDepth 100000 in
set_option maxHeartbeats 16000000 in
theorem comes_any (o0 o1 : Ow20) (ho0 : o0.Ok) (hv0 : o0.a.lv < 8) (ho1 : o1.Ok) (hv1 : o1.a.lv < 8) (v0 v1 : Value) (x0 x1 : Mp) (P : Nat) (w0 : World) (b : Bool) (ls : List Sn) (s0 s1 t0 t1 : Ms) (y0 y1 u : Value) (w : World)
    (hE : Exch o0 o1 20 b ls s0 s1 t0 t1) (hl : ls.length ≤ 1) (hu : Rw 7 snC w u ls) (hg : ∀ g o' n c, u = .slice (some ⟨g, o', none⟩) n c → ¬ x0.D y0 g ∧ ¬ x1.D y1 g) (hP : PW w0 w P o0 o1 v0 v1 x0 x1 s0 s1 y0 y1) :
    Calls Tryz.prog 24 #[.pointer (some ⟨P, 0, none⟩), .int .i64 (if b = true then 1 else 0), u] w fun en w' => en = .returned (.tuple #[]) ∧ ∃ z0 z1, PW w0 w' P o0 o1 v0 v1 x0 x1 t0 t1 z0 z1 ∧ PF x0 x1 y0 y1 z0 z1 w w' := by
  have HO := Lib.hid (And.intro ho0 (And.intro hv0 (And.intro ho1 hv1)))
  have HE := Lib.hid hE
  have HU := Lib.hid hu
  have HG := Lib.hid hg
  have HP := Lib.hid hP
  clear hE hu hg hP ho0 hv0 ho1 hv1
  obtain ⟨fv, hfv⟩ : ∃ fv : Int, (if b = true then (1 : Int) else 0) = fv := ⟨_, rfl⟩
  rw [hfv]
  go_enter Tryz.func24, Tryz.ntmps24
  go_wp2_with fail
  go_loopw [1, 2, 6] (fun f v i wr => ∃ (n : Nat) (b : Bool) (ls : List Sn) (s0 s1 : Ms) (z0 z1 : Value) (a : Option Addr) (len cap : Nat), n ≤ 20 ∧ i = .int .i64 (20 - (n : Int)) ∧ f = .int .i64 (if b = true then 1 else 0) ∧ v = .slice a len cap ∧ len = ls.length ∧ len ≤ 1 ∧ Hid (Exch o0 o1 n b ls s0 s1 t0 t1 ∧ Rw 7 snC wr (.slice a len cap) ls ∧ ∀ g o', a = some ⟨g, o', none⟩ → ¬ x0.D z0 g ∧ ¬ x1.D z1 g) ∧ Hid (PW w0 wr P o0 o1 v0 v1 x0 x1 s0 s1 z0 z1 ∧ PF x0 x1 y0 y1 z0 z1 w wr)) (fun _ _ i _ => 20 - (intOf i).toNat)
  case atStart =>
    obtain ⟨a, cap, rfl, -⟩ := HU.out.shape
    exact ⟨20, b, ls, s0, s1, y0, y1, a, _, cap, Nat.le_refl _, (by show Value.int .i64 0 = .int .i64 (20 - 20); rfl), by rw [hfv], rfl, rfl, hl, Lib.hid ⟨HE.out, HU.out, fun g o' e => HG.out g o' _ _ (by rw [e])⟩, Lib.hid ⟨HP.out, .refl ..⟩⟩
  case round =>
    obtain ⟨n, b, ls, s0, s1, z0, z1, a, len, cap, hn, rfl, rfl, rfl, hll, hl1, HX, HW⟩ := hrel
    clear HE HU HG HP hfv
    by_cases h0 : len = 0
    · subst h0
      obtain rfl : ls = [] := List.eq_nil_of_length_eq_zero hll.symm
      have hx : s0 = t0 ∧ s1 = t1 := by
        have := HX.out.1
        cases this
        exact ⟨rfl, rfl⟩
      obtain ⟨rfl, rfl⟩ := hx
      clear hl hll
      obtain ⟨fv, hfv⟩ : ∃ fv : Int, (if b = true then (1 : Int) else 0) = fv := ⟨_, rfl⟩
      rw [hfv]
      clear hfv
      go_wp2_with fail
      go_end0
      exact ⟨rfl, z0, z1, HW.out.1, HW.out.2⟩
    obtain rfl : len = 1 := by omega
    obtain ⟨x, rfl⟩ : ∃ x, ls = [x] := by
      cases ls with
      | nil => simp at hll
      | cons x r => cases r with
        | nil => exact ⟨x, rfl⟩
        | cons => simp at hll
    obtain ⟨ag, hag, hrow⟩ : ∃ g : Nat × Nat, a = some ⟨g.1, g.2, none⟩ ∧ ∀ i, i < 7 → wr.cell? ⟨g.1, g.2 + i, none⟩ = (snC x)[i]? := by
      obtain ⟨a', c', e, h⟩ := HX.out.2.1.shape
      cases e
      rcases h with h | ⟨b', off, rfl, h⟩
      · cases h
      · refine ⟨(b', off), rfl, fun i hi => ?_⟩
        have h1 := h 0 (by simp) i hi
        simpa only [Nat.zero_mul, Nat.add_zero, List.getElem_cons_zero] using h1
    obtain ⟨gb, go⟩ := ag
    subst hag
    have hnd := HX.out.2.2 gb go rfl
    have hgb : gb < wr.heap.size := World.block_lt_of_cell? wr _ (hrow 0 (by decide) : wr.cell? ⟨gb, go + 0, none⟩ = some (.int .u8 x.m.a))
    have HROW : Hid (∀ W, Fr (fun k => x0.D z0 k ∨ x1.D z1 k) wr W → W.cell? ⟨gb, go, none⟩ = some (.int .u8 x.m.a) ∧ W.cell? ⟨gb, go + 1, none⟩ = some (.int .u8 x.m.b) ∧ W.cell? ⟨gb, go + 2, none⟩ = some (.int .u8 x.m.c) ∧ W.cell? ⟨gb, go + 3, none⟩ = some (.int .u8 x.m.d) ∧ W.cell? ⟨gb, go + 4, none⟩ = some (.int .u8 x.m.e) ∧ W.cell? ⟨gb, go + 5, none⟩ = some (.int .u8 x.m.f) ∧ W.cell? ⟨gb, go + 6, none⟩ = some (.string (bs x.d))) :=
      Lib.hid fun W hf => by
        have hb := hf.block gb hgb (fun e => e.elim hnd.1 hnd.2)
        have hc : ∀ i, i < 7 → W.cell? ⟨gb, go + i, none⟩ = (snC x)[i]? := fun i hi => by
          rw [← hrow i hi]; simp only [World.cell?, hb]
        exact ⟨hc 0 (by decide), hc 1 (by decide), hc 2 (by decide), hc 3 (by decide), hc 4 (by decide), hc 5 (by decide), hc 6 (by decide)⟩
    clear hl hll hl1 hrow h0 hnd hgb
    cases b
    case false =>
      obtain ⟨n', rfl, s1', r, hs1, hxm, hxd, ht, hr, hrest⟩ : ∃ n', n = n' + 1 ∧ ∃ s1' r, s1.Ok ∧ x.m.Ok ∧ x.d.length ≤ 1600 ∧ takeM o1 s1 o0.mc x.m x.d = (s1', r) ∧ r.length ≤ 1 ∧ Exch o0 o1 n' true r s0 s1' t0 t1 := by
        have h := HX.out.1
        cases h with
        | to1 n x s0 s1 sx r t0 t1 a b c d e f => exact ⟨n, rfl, sx, r, a, b, c, d, e, f⟩
      have TK : Hid (∀ W, PW w0 W P o0 o1 v0 v1 x0 x1 s0 s1 z0 z1 → Calls Tryz.prog 18 #[.pointer (some ⟨x1.p, 0, none⟩), .agg #[.int .u8 o0.mc.a, .int .u8 o0.mc.b, .int .u8 o0.mc.c, .int .u8 o0.mc.d, .int .u8 o0.mc.e, .int .u8 o0.mc.f], .agg #[.int .u8 x.m.a, .int .u8 x.m.b, .int .u8 x.m.c, .int .u8 x.m.d, .int .u8 x.m.e, .int .u8 x.m.f], .string (bs x.d)] W fun en w' => ∃ u z, en = .returned u ∧ Ow 7 snC 55 w' W.heap.size u r ∧ PW w0 w' P o0 o1 v0 v1 x0 x1 s0 s1' z0 z ∧ PF x0 x1 z0 z1 z0 z W w') := Lib.hid fun W h => by
        have := h.take1 HO.out.2.2.1 HO.out.2.2.2 hs1 o0.mc x.m HO.out.1.mc x.d hxd
        rw [ht] at this
        exact this
      obtain ⟨L, hL⟩ : ∃ L, r.length = L := ⟨_, rfl⟩
      have HR := Lib.hid (And.intro hr (And.intro hrest hL))
      have hLb : L ≤ 1 := by omega
      clear hs1 hxm hxd ht hr hrest hL
      have SX : Hid (∀ W sA sB zA zB, PW w0 W P o0 o1 v0 v1 x0 x1 sA sB zA zB → Fr (fun k => x0.D z0 k ∨ x1.D z1 k) wr W → W.cell? ⟨P, 1, none⟩ = some (.pointer (some ⟨x1.p, 0, none⟩)) ∧ (W.cell? ⟨P, 2, none⟩ = some (.int .u8 o0.mc.a) ∧ W.cell? ⟨P, 3, none⟩ = some (.int .u8 o0.mc.b) ∧ W.cell? ⟨P, 4, none⟩ = some (.int .u8 o0.mc.c) ∧ W.cell? ⟨P, 5, none⟩ = some (.int .u8 o0.mc.d) ∧ W.cell? ⟨P, 6, none⟩ = some (.int .u8 o0.mc.e) ∧ W.cell? ⟨P, 7, none⟩ = some (.int .u8 o0.mc.f)) ∧
        W.cell? ⟨gb, go, none⟩ = some (.int .u8 x.m.a) ∧ W.cell? ⟨gb, go + 1, none⟩ = some (.int .u8 x.m.b) ∧ W.cell? ⟨gb, go + 2, none⟩ = some (.int .u8 x.m.c) ∧ W.cell? ⟨gb, go + 3, none⟩ = some (.int .u8 x.m.d) ∧ W.cell? ⟨gb, go + 4, none⟩ = some (.int .u8 x.m.e) ∧ W.cell? ⟨gb, go + 5, none⟩ = some (.int .u8 x.m.f) ∧ W.cell? ⟨gb, go + 6, none⟩ = some (.string (bs x.d))) := Lib.hid fun W _ _ _ _ hp hf =>
        ⟨hp.gb.c 1 _ rfl, ⟨hp.gb.c 2 _ rfl, hp.gb.c 3 _ rfl, hp.gb.c 4 _ rfl, hp.gb.c 5 _ rfl, hp.gb.c 6 _ rfl, hp.gb.c 7 _ rfl⟩, HROW.out W hf⟩
      have dn : decide (20 - ((n' + 1 : Nat) : Int) < 20) = true := decide_eq_true (by omega)
      have hnb : (n' : Int) + 1 ≤ 20 := by omega
      clear HX
      go_wp2_with fail
      refine wp_loop_rounds 2 ?_
      rw [rounds_succ]
      go_upto_region 8 with fail
      have HD := Lib.hid HW.out.1.drew
      refine wp_region_held_drew (S := fun W => W.cell? ⟨P, 1, none⟩ = some (.pointer (some ⟨x1.p, 0, none⟩)) ∧ (W.cell? ⟨P, 2, none⟩ = some (.int .u8 o0.mc.a) ∧ W.cell? ⟨P, 3, none⟩ = some (.int .u8 o0.mc.b) ∧ W.cell? ⟨P, 4, none⟩ = some (.int .u8 o0.mc.c) ∧ W.cell? ⟨P, 5, none⟩ = some (.int .u8 o0.mc.d) ∧ W.cell? ⟨P, 6, none⟩ = some (.int .u8 o0.mc.e) ∧ W.cell? ⟨P, 7, none⟩ = some (.int .u8 o0.mc.f)) ∧
        W.cell? ⟨gb, go, none⟩ = some (.int .u8 x.m.a) ∧ W.cell? ⟨gb, go + 1, none⟩ = some (.int .u8 x.m.b) ∧ W.cell? ⟨gb, go + 2, none⟩ = some (.int .u8 x.m.c) ∧ W.cell? ⟨gb, go + 3, none⟩ = some (.int .u8 x.m.d) ∧ W.cell? ⟨gb, go + 4, none⟩ = some (.int .u8 x.m.e) ∧ W.cell? ⟨gb, go + 5, none⟩ = some (.int .u8 x.m.f) ∧ W.cell? ⟨gb, go + 6, none⟩ = some (.string (bs x.d))) (by kernel_rfl) (SX.out _ _ _ _ _ HD.out (Fr.refl _ _).drew) (fun hHeld => ?_)
      refine wpAnyH_take (i := 0) (v := ?_) rfl (by kernel_rfl) (by kernel_rfl) (by kernel_rfl) (fun _ _ _ h => h) (Or.inl ⟨by rfl, ?hy0⟩) (by assumption) ?_
      case hy0 => (intro w hSw; (try dsimp only at hSw); go_simp; try with_reducible rfl)
      try simp only [Act.put, List.setIfInBounds_toArray, List.set_cons_zero, List.set_cons_succ, List.getElem_toArray, List.getElem_cons_zero, List.getElem_cons_succ]
      refine wpAnyH_take (i := 1) (v := ?_) rfl (by kernel_rfl) (by kernel_rfl) (by kernel_rfl) (fun _ _ _ h => h) (Or.inl ⟨by rfl, ?hy1⟩) (by assumption) ?_
      case hy1 => (intro w hSw; (try dsimp only at hSw); go_simp; try with_reducible rfl)
      try simp only [Act.put, List.setIfInBounds_toArray, List.set_cons_zero, List.set_cons_succ, List.getElem_toArray, List.getElem_cons_zero, List.getElem_cons_succ]
      refine wpAnyH_take (i := 2) (v := ?_) rfl (by kernel_rfl) (by kernel_rfl) (by kernel_rfl) (fun _ _ _ h => h) (Or.inl ⟨by rfl, ?hy2⟩) (by assumption) ?_
      case hy2 => (intro w hSw; (try dsimp only at hSw); go_simp; try with_reducible rfl)
      try simp only [Act.put, List.setIfInBounds_toArray, List.set_cons_zero, List.set_cons_succ, List.getElem_toArray, List.getElem_cons_zero, List.getElem_cons_succ]
      refine wpAnyH_take (i := 3) (v := ?_) rfl (by kernel_rfl) (by kernel_rfl) (by kernel_rfl) (fun _ _ _ h => h) (Or.inl ⟨by rfl, ?hy3⟩) (by assumption) ?_
      case hy3 => (intro w hSw; (try dsimp only at hSw); go_simp; try with_reducible rfl)
      try simp only [Act.put, List.setIfInBounds_toArray, List.set_cons_zero, List.set_cons_succ, List.getElem_toArray, List.getElem_cons_zero, List.getElem_cons_succ]
      refine wpAnyH_take (i := 4) (v := ?_) rfl (by kernel_rfl) (by kernel_rfl) (by kernel_rfl) (fun _ _ _ h => h) (Or.inl ⟨by rfl, ?hy4⟩) (by assumption) ?_
      case hy4 => (intro w hSw; (try dsimp only at hSw); go_simp; try with_reducible rfl)
      try simp only [Act.put, List.setIfInBounds_toArray, List.set_cons_zero, List.set_cons_succ, List.getElem_toArray, List.getElem_cons_zero, List.getElem_cons_succ]
      refine wpAnyH_take (i := 5) (v := ?_) rfl (by kernel_rfl) (by kernel_rfl) (by kernel_rfl) (fun _ _ _ h => h) (Or.inl ⟨by rfl, ?hy5⟩) (by assumption) ?_
      case hy5 => (intro w hSw; (try dsimp only at hSw); go_simp; try with_reducible rfl)
      try simp only [Act.put, List.setIfInBounds_toArray, List.set_cons_zero, List.set_cons_succ, List.getElem_toArray, List.getElem_cons_zero, List.getElem_cons_succ]
      refine wpAnyH_take (i := 6) (v := ?_) rfl (by kernel_rfl) (by kernel_rfl) (by kernel_rfl) (fun _ _ _ h => h) (Or.inl ⟨by rfl, ?hy6⟩) (by assumption) ?_
      case hy6 => (intro w hSw; (try dsimp only at hSw); go_simp; try with_reducible rfl)
      try simp only [Act.put, List.setIfInBounds_toArray, List.set_cons_zero, List.set_cons_succ, List.getElem_toArray, List.getElem_cons_zero, List.getElem_cons_succ]
      refine wpAnyH_take (i := 7) (v := ?_) rfl (by kernel_rfl) (by kernel_rfl) (by kernel_rfl) (fun _ _ _ h => h) (Or.inl ⟨by rfl, ?hy7⟩) (by assumption) ?_
      case hy7 => (intro w hSw; (try dsimp only at hSw); go_simp; try with_reducible rfl)
      try simp only [Act.put, List.setIfInBounds_toArray, List.set_cons_zero, List.set_cons_succ, List.getElem_toArray, List.getElem_cons_zero, List.getElem_cons_succ]
      refine wpAnyH_take (i := 8) (v := ?_) rfl (by kernel_rfl) (by kernel_rfl) (by kernel_rfl) (fun _ _ _ h => h) (Or.inl ⟨by rfl, ?hy8⟩) (by assumption) ?_
      case hy8 => (intro w hSw; (try dsimp only at hSw); go_simp; try with_reducible rfl)
      try simp only [Act.put, List.setIfInBounds_toArray, List.set_cons_zero, List.set_cons_succ, List.getElem_toArray, List.getElem_cons_zero, List.getElem_cons_succ]
      refine wpAnyH_take (i := 9) (v := ?_) rfl (by kernel_rfl) (by kernel_rfl) (by kernel_rfl) (fun _ _ _ h => h) (Or.inl ⟨by rfl, ?hy9⟩) (by assumption) ?_
      case hy9 => (intro w hSw; (try dsimp only at hSw); go_simp; try with_reducible rfl)
      try simp only [Act.put, List.setIfInBounds_toArray, List.set_cons_zero, List.set_cons_succ, List.getElem_toArray, List.getElem_cons_zero, List.getElem_cons_succ]
      refine wpAnyH_take (i := 10) (v := ?_) rfl (by kernel_rfl) (by kernel_rfl) (by kernel_rfl) (fun _ _ _ h => h) (Or.inl ⟨by rfl, ?hy10⟩) (by assumption) ?_
      case hy10 => (intro w hSw; (try dsimp only at hSw); go_simp; try with_reducible rfl)
      try simp only [Act.put, List.setIfInBounds_toArray, List.set_cons_zero, List.set_cons_succ, List.getElem_toArray, List.getElem_cons_zero, List.getElem_cons_succ]
      refine wpAnyH_take (i := 11) (v := ?_) rfl (by kernel_rfl) (by kernel_rfl) (by kernel_rfl) (fun _ _ _ h => h) (Or.inl ⟨by rfl, ?hy11⟩) (by assumption) ?_
      case hy11 => (intro w hSw; (try dsimp only at hSw); go_simp; try with_reducible rfl)
      try simp only [Act.put, List.setIfInBounds_toArray, List.set_cons_zero, List.set_cons_succ, List.getElem_toArray, List.getElem_cons_zero, List.getElem_cons_succ]
      refine wpAnyH_take (i := 12) (v := ?_) rfl (by kernel_rfl) (by kernel_rfl) (by kernel_rfl) (fun _ _ _ h => h) (Or.inl ⟨by rfl, ?hy12⟩) (by assumption) ?_
      case hy12 => (intro w hSw; (try dsimp only at hSw); go_simp; try with_reducible rfl)
      try simp only [Act.put, List.setIfInBounds_toArray, List.set_cons_zero, List.set_cons_succ, List.getElem_toArray, List.getElem_cons_zero, List.getElem_cons_succ]
      refine wpAnyH_take (i := 13) (v := ?_) rfl (by kernel_rfl) (by kernel_rfl) (by kernel_rfl) (fun _ _ _ h => h) (Or.inl ⟨by rfl, ?hy13⟩) (by assumption) ?_
      case hy13 => (intro w hSw; (try dsimp only at hSw); go_simp; try with_reducible rfl)
      try simp only [Act.put, List.setIfInBounds_toArray, List.set_cons_zero, List.set_cons_succ, List.getElem_toArray, List.getElem_cons_zero, List.getElem_cons_succ]
      refine wpAnyH_take (i := 14) (v := ?_) rfl (by kernel_rfl) (by kernel_rfl) (by kernel_rfl) (fun _ _ _ h => h) (Or.inl ⟨by rfl, ?hy14⟩) (by assumption) ?_
      case hy14 => (intro w hSw; (try dsimp only at hSw); go_simp; try with_reducible rfl)
      try simp only [Act.put, List.setIfInBounds_toArray, List.set_cons_zero, List.set_cons_succ, List.getElem_toArray, List.getElem_cons_zero, List.getElem_cons_succ]
      refine wpAnyH_take (i := 15) (v := ?_) rfl (by kernel_rfl) (by kernel_rfl) (by kernel_rfl) (fun _ _ _ h => h) (Or.inl ⟨by rfl, ?hy15⟩) (by assumption) ?_
      case hy15 => (intro w hSw; (try dsimp only at hSw); go_simp; try with_reducible rfl)
      try simp only [Act.put, List.setIfInBounds_toArray, List.set_cons_zero, List.set_cons_succ, List.getElem_toArray, List.getElem_cons_zero, List.getElem_cons_succ]
      refine wpAnyH_take (i := 16) (v := ?_) rfl (by kernel_rfl) (by kernel_rfl) (by kernel_rfl) (fun _ _ _ h => h) (Or.inl ⟨by rfl, ?hy16⟩) (by assumption) ?_
      case hy16 => (intro w hSw; (try dsimp only at hSw); go_simp; try with_reducible rfl)
      try simp only [Act.put, List.setIfInBounds_toArray, List.set_cons_zero, List.set_cons_succ, List.getElem_toArray, List.getElem_cons_zero, List.getElem_cons_succ]
      refine wpAnyH_take (i := 17) (v := ?_) rfl (by kernel_rfl) (by kernel_rfl) (by kernel_rfl) (fun _ _ _ h => h) (Or.inl ⟨by rfl, ?hy17⟩) (by assumption) ?_
      case hy17 => (intro w hSw; (try dsimp only at hSw); go_simp; try with_reducible rfl)
      try simp only [Act.put, List.setIfInBounds_toArray, List.set_cons_zero, List.set_cons_succ, List.getElem_toArray, List.getElem_cons_zero, List.getElem_cons_succ]
      refine wpAnyH_take (i := 18) (v := ?_) rfl (by kernel_rfl) (by kernel_rfl) (by kernel_rfl) (fun _ _ _ h => h) (Or.inl ⟨by rfl, ?hy18⟩) (by assumption) ?_
      case hy18 => (intro w hSw; (try dsimp only at hSw); go_simp; try with_reducible rfl)
      try simp only [Act.put, List.setIfInBounds_toArray, List.set_cons_zero, List.set_cons_succ, List.getElem_toArray, List.getElem_cons_zero, List.getElem_cons_succ]
      refine wpAnyH_take (i := 19) (v := ?_) rfl (by kernel_rfl) (by kernel_rfl) (by kernel_rfl) (fun _ _ _ h => h) (Or.inl ⟨by rfl, ?hy19⟩) (by assumption) ?_
      case hy19 => (intro w hSw; (try dsimp only at hSw); go_simp; try with_reducible rfl)
      try simp only [Act.put, List.setIfInBounds_toArray, List.set_cons_zero, List.set_cons_succ, List.getElem_toArray, List.getElem_cons_zero, List.getElem_cons_succ]
      refine wpAnyH_take (i := 20) (v := ?_) rfl (by kernel_rfl) (by kernel_rfl) (by kernel_rfl) (fun _ _ _ h => h) (Or.inl ⟨by rfl, ?hy20⟩) (by assumption) ?_
      case hy20 => (intro w hSw; (try dsimp only at hSw); go_simp; try with_reducible rfl)
      try simp only [Act.put, List.setIfInBounds_toArray, List.set_cons_zero, List.set_cons_succ, List.getElem_toArray, List.getElem_cons_zero, List.getElem_cons_succ]
      refine wpAnyH_take (i := 21) (v := ?_) rfl (by kernel_rfl) (by kernel_rfl) (by kernel_rfl) (fun _ _ _ h => h) (Or.inl ⟨by rfl, ?hy21⟩) (by assumption) ?_
      case hy21 => (intro w hSw; (try dsimp only at hSw); go_simp; try with_reducible rfl)
      try simp only [Act.put, List.setIfInBounds_toArray, List.set_cons_zero, List.set_cons_succ, List.getElem_toArray, List.getElem_cons_zero, List.getElem_cons_succ]
      refine wpAnyH_take (i := 22) (v := ?_) rfl (by kernel_rfl) (by kernel_rfl) (by kernel_rfl) (fun _ _ _ h => h) (Or.inl ⟨by rfl, ?hy22⟩) (by assumption) ?_
      case hy22 => (intro w hSw; (try dsimp only at hSw); go_simp; try with_reducible rfl)
      try simp only [Act.put, List.setIfInBounds_toArray, List.set_cons_zero, List.set_cons_succ, List.getElem_toArray, List.getElem_cons_zero, List.getElem_cons_succ]
      refine wpAnyH_ready (rs := [23]) (by kernel_rfl) (by simp) (AllReadyH.cons rfl (fun K hK => ?_) AllReadyH.nil)
      (go_simp; go_at_call 18; (with_reducible refine (TK.out _ HD.out).mono ?_); rintro en wx ⟨u', z, rfl, hu', hp', hf'⟩; have U1 := Lib.hid hu'; have P1 := Lib.hid hp'; have F1 := Lib.hid (PF.drew.trans hf'); clear hu' hp' hf'; refine hK.out _ _ (SX.out _ _ _ _ _ P1.out F1.out.fr) (fun hHeld => ?_); clear hK K; try simp only [Act.put, List.setIfInBounds_toArray, List.set_cons_zero, List.set_cons_succ, List.getElem_toArray, List.getElem_cons_zero, List.getElem_cons_succ])
      refine wpAnyH_ready (rs := [24]) (by kernel_rfl) (by simp) (AllReadyH.cons rfl (fun K hK => ?_) AllReadyH.nil)
      (rw [if_pos (by rfl)]; refine wp_append_rw snC_len snC_one 55 47 _ 24 Tryz.underlying47 info_snZ rfl (by decide) (by decide) (.tmp 27) (.tmp 50) rfl wx.heap.size (.slice none 0 0) [] rfl (Ow.none _ _) u' r rfl (U1.out.rw snC_len) (by have := HR.out; simp; omega) (Nat.le_refl _) ?_; intro v2 w4 ho4 hb4; rw [List.nil_append] at ho4; obtain ⟨a2, k2, rfl, -⟩ := (ho4.rw snC_len).shape; rw [HR.out.2.2] at ho4 ⊢; have U2 := Lib.hid ho4; have P2 := Lib.hid (P1.out.later hb4); have F2 := Lib.hid (F1.out.trans (.below hb4)); have HZ := Lib.hid P1.out; clear ho4 hb4; refine hK.out _ _ (SX.out _ _ _ _ _ P2.out F2.out.fr) (fun hHeld => ?_); clear hK K; try simp only [Act.put, List.setIfInBounds_toArray, List.set_cons_zero, List.set_cons_succ, List.getElem_toArray, List.getElem_cons_zero, List.getElem_cons_succ])
      refine wpAnyH_take (i := 25) (v := ?_) rfl (by kernel_rfl) (by kernel_rfl) (by kernel_rfl) (fun _ _ _ h => h) (Or.inl ⟨by rfl, ?hy25⟩) (by assumption) ?_
      case hy25 => (intro w hSw; (try dsimp only at hSw); go_simp; try with_reducible rfl)
      try simp only [Act.put, List.setIfInBounds_toArray, List.set_cons_zero, List.set_cons_succ, List.getElem_toArray, List.getElem_cons_zero, List.getElem_cons_succ]
      refine wpAnyH_done (by kernel_rfl) ?_ _
      clear hHeld
      have HND : Hid (∀ g o', a2 = some ⟨g, o', none⟩ → ¬ x0.D z0 g ∧ ¬ x1.D z g) := Lib.hid fun g o' e => by
        subst e
        have hlt : wx.heap.size ≤ g := (U2.out.lt (g := g) (by simp [Value.ownBlock])).1
        exact ⟨fun h => by have := HZ.out.m0.ltD h; omega, fun h => by have := HZ.out.m1.ltD h; omega⟩
      go_wp2_with fail
      rw [rounds_succ]
      go_wp2_with fail
      exact ⟨⟨n', true, r, s0, s1', z0, z, a2, L, k2, by omega, by congr 1; omega, rfl, rfl, HR.out.2.2.symm, hLb, Lib.hid ⟨HR.out.2.1, U2.out.rw snC_len, HND.out⟩, Lib.hid ⟨P2.out, HW.out.2.trans F2.out⟩⟩, by simp [intOf]; omega⟩
    case true =>
      obtain ⟨n', rfl, s0', r, hs1, hxm, hxd, ht, hr, hrest⟩ : ∃ n', n = n' + 1 ∧ ∃ s0' r, s0.Ok ∧ x.m.Ok ∧ x.d.length ≤ 1600 ∧ takeM o0 s0 o1.mc x.m x.d = (s0', r) ∧ r.length ≤ 1 ∧ Exch o0 o1 n' false r s0' s1 t0 t1 := by
        have h := HX.out.1
        cases h with
        | to0 n x s0 s1 sx r t0 t1 a b c d e f => exact ⟨n, rfl, sx, r, a, b, c, d, e, f⟩
      have TK : Hid (∀ W, PW w0 W P o0 o1 v0 v1 x0 x1 s0 s1 z0 z1 → Calls Tryz.prog 18 #[.pointer (some ⟨x0.p, 0, none⟩), .agg #[.int .u8 o1.mc.a, .int .u8 o1.mc.b, .int .u8 o1.mc.c, .int .u8 o1.mc.d, .int .u8 o1.mc.e, .int .u8 o1.mc.f], .agg #[.int .u8 x.m.a, .int .u8 x.m.b, .int .u8 x.m.c, .int .u8 x.m.d, .int .u8 x.m.e, .int .u8 x.m.f], .string (bs x.d)] W fun en w' => ∃ u z, en = .returned u ∧ Ow 7 snC 55 w' W.heap.size u r ∧ PW w0 w' P o0 o1 v0 v1 x0 x1 s0' s1 z z1 ∧ PF x0 x1 z0 z1 z z1 W w') := Lib.hid fun W h => by
        have := h.take0 HO.out.1 HO.out.2.1 hs1 o1.mc x.m HO.out.2.2.1.mc x.d hxd
        rw [ht] at this
        exact this
      obtain ⟨L, hL⟩ : ∃ L, r.length = L := ⟨_, rfl⟩
      have HR := Lib.hid (And.intro hr (And.intro hrest hL))
      have hLb : L ≤ 1 := by omega
      clear hs1 hxm hxd ht hr hrest hL
      have SX : Hid (∀ W sA sB zA zB, PW w0 W P o0 o1 v0 v1 x0 x1 sA sB zA zB → Fr (fun k => x0.D z0 k ∨ x1.D z1 k) wr W → W.cell? ⟨P, 0, none⟩ = some (.pointer (some ⟨x0.p, 0, none⟩)) ∧ (W.cell? ⟨P, 8, none⟩ = some (.int .u8 o1.mc.a) ∧ W.cell? ⟨P, 9, none⟩ = some (.int .u8 o1.mc.b) ∧ W.cell? ⟨P, 10, none⟩ = some (.int .u8 o1.mc.c) ∧ W.cell? ⟨P, 11, none⟩ = some (.int .u8 o1.mc.d) ∧ W.cell? ⟨P, 12, none⟩ = some (.int .u8 o1.mc.e) ∧ W.cell? ⟨P, 13, none⟩ = some (.int .u8 o1.mc.f)) ∧
        W.cell? ⟨gb, go, none⟩ = some (.int .u8 x.m.a) ∧ W.cell? ⟨gb, go + 1, none⟩ = some (.int .u8 x.m.b) ∧ W.cell? ⟨gb, go + 2, none⟩ = some (.int .u8 x.m.c) ∧ W.cell? ⟨gb, go + 3, none⟩ = some (.int .u8 x.m.d) ∧ W.cell? ⟨gb, go + 4, none⟩ = some (.int .u8 x.m.e) ∧ W.cell? ⟨gb, go + 5, none⟩ = some (.int .u8 x.m.f) ∧ W.cell? ⟨gb, go + 6, none⟩ = some (.string (bs x.d))) := Lib.hid fun W _ _ _ _ hp hf =>
        ⟨hp.gb.c 0 _ rfl, ⟨hp.gb.c 8 _ rfl, hp.gb.c 9 _ rfl, hp.gb.c 10 _ rfl, hp.gb.c 11 _ rfl, hp.gb.c 12 _ rfl, hp.gb.c 13 _ rfl⟩, HROW.out W hf⟩
      have dn : decide (20 - ((n' + 1 : Nat) : Int) < 20) = true := decide_eq_true (by omega)
      have hnb : (n' : Int) + 1 ≤ 20 := by omega
      clear HX
      go_wp2_with fail
      refine wp_loop_rounds 2 ?_
      rw [rounds_succ]
      go_upto_region 8 with fail
      have HD := Lib.hid HW.out.1.drew
      refine wp_region_held_drew (S := fun W => W.cell? ⟨P, 0, none⟩ = some (.pointer (some ⟨x0.p, 0, none⟩)) ∧ (W.cell? ⟨P, 8, none⟩ = some (.int .u8 o1.mc.a) ∧ W.cell? ⟨P, 9, none⟩ = some (.int .u8 o1.mc.b) ∧ W.cell? ⟨P, 10, none⟩ = some (.int .u8 o1.mc.c) ∧ W.cell? ⟨P, 11, none⟩ = some (.int .u8 o1.mc.d) ∧ W.cell? ⟨P, 12, none⟩ = some (.int .u8 o1.mc.e) ∧ W.cell? ⟨P, 13, none⟩ = some (.int .u8 o1.mc.f)) ∧
        W.cell? ⟨gb, go, none⟩ = some (.int .u8 x.m.a) ∧ W.cell? ⟨gb, go + 1, none⟩ = some (.int .u8 x.m.b) ∧ W.cell? ⟨gb, go + 2, none⟩ = some (.int .u8 x.m.c) ∧ W.cell? ⟨gb, go + 3, none⟩ = some (.int .u8 x.m.d) ∧ W.cell? ⟨gb, go + 4, none⟩ = some (.int .u8 x.m.e) ∧ W.cell? ⟨gb, go + 5, none⟩ = some (.int .u8 x.m.f) ∧ W.cell? ⟨gb, go + 6, none⟩ = some (.string (bs x.d))) (by kernel_rfl) (SX.out _ _ _ _ _ HD.out (Fr.refl _ _).drew) (fun hHeld => ?_)
      refine wpAnyH_take (i := 0) (v := ?_) rfl (by kernel_rfl) (by kernel_rfl) (by kernel_rfl) (fun _ _ _ h => h) (Or.inl ⟨by rfl, ?hy0⟩) (by assumption) ?_
      case hy0 => (intro w hSw; (try dsimp only at hSw); go_simp; try with_reducible rfl)
      try simp only [Act.put, List.setIfInBounds_toArray, List.set_cons_zero, List.set_cons_succ, List.getElem_toArray, List.getElem_cons_zero, List.getElem_cons_succ]
      refine wpAnyH_take (i := 1) (v := ?_) rfl (by kernel_rfl) (by kernel_rfl) (by kernel_rfl) (fun _ _ _ h => h) (Or.inl ⟨by rfl, ?hy1⟩) (by assumption) ?_
      case hy1 => (intro w hSw; (try dsimp only at hSw); go_simp; try with_reducible rfl)
      try simp only [Act.put, List.setIfInBounds_toArray, List.set_cons_zero, List.set_cons_succ, List.getElem_toArray, List.getElem_cons_zero, List.getElem_cons_succ]
      refine wpAnyH_take (i := 2) (v := ?_) rfl (by kernel_rfl) (by kernel_rfl) (by kernel_rfl) (fun _ _ _ h => h) (Or.inl ⟨by rfl, ?hy2⟩) (by assumption) ?_
      case hy2 => (intro w hSw; (try dsimp only at hSw); go_simp; try with_reducible rfl)
      try simp only [Act.put, List.setIfInBounds_toArray, List.set_cons_zero, List.set_cons_succ, List.getElem_toArray, List.getElem_cons_zero, List.getElem_cons_succ]
      refine wpAnyH_take (i := 3) (v := ?_) rfl (by kernel_rfl) (by kernel_rfl) (by kernel_rfl) (fun _ _ _ h => h) (Or.inl ⟨by rfl, ?hy3⟩) (by assumption) ?_
      case hy3 => (intro w hSw; (try dsimp only at hSw); go_simp; try with_reducible rfl)
      try simp only [Act.put, List.setIfInBounds_toArray, List.set_cons_zero, List.set_cons_succ, List.getElem_toArray, List.getElem_cons_zero, List.getElem_cons_succ]
      refine wpAnyH_take (i := 4) (v := ?_) rfl (by kernel_rfl) (by kernel_rfl) (by kernel_rfl) (fun _ _ _ h => h) (Or.inl ⟨by rfl, ?hy4⟩) (by assumption) ?_
      case hy4 => (intro w hSw; (try dsimp only at hSw); go_simp; try with_reducible rfl)
      try simp only [Act.put, List.setIfInBounds_toArray, List.set_cons_zero, List.set_cons_succ, List.getElem_toArray, List.getElem_cons_zero, List.getElem_cons_succ]
      refine wpAnyH_take (i := 5) (v := ?_) rfl (by kernel_rfl) (by kernel_rfl) (by kernel_rfl) (fun _ _ _ h => h) (Or.inl ⟨by rfl, ?hy5⟩) (by assumption) ?_
      case hy5 => (intro w hSw; (try dsimp only at hSw); go_simp; try with_reducible rfl)
      try simp only [Act.put, List.setIfInBounds_toArray, List.set_cons_zero, List.set_cons_succ, List.getElem_toArray, List.getElem_cons_zero, List.getElem_cons_succ]
      refine wpAnyH_take (i := 6) (v := ?_) rfl (by kernel_rfl) (by kernel_rfl) (by kernel_rfl) (fun _ _ _ h => h) (Or.inl ⟨by rfl, ?hy6⟩) (by assumption) ?_
      case hy6 => (intro w hSw; (try dsimp only at hSw); go_simp; try with_reducible rfl)
      try simp only [Act.put, List.setIfInBounds_toArray, List.set_cons_zero, List.set_cons_succ, List.getElem_toArray, List.getElem_cons_zero, List.getElem_cons_succ]
      refine wpAnyH_take (i := 7) (v := ?_) rfl (by kernel_rfl) (by kernel_rfl) (by kernel_rfl) (fun _ _ _ h => h) (Or.inl ⟨by rfl, ?hy7⟩) (by assumption) ?_
      case hy7 => (intro w hSw; (try dsimp only at hSw); go_simp; try with_reducible rfl)
      try simp only [Act.put, List.setIfInBounds_toArray, List.set_cons_zero, List.set_cons_succ, List.getElem_toArray, List.getElem_cons_zero, List.getElem_cons_succ]
      refine wpAnyH_take (i := 8) (v := ?_) rfl (by kernel_rfl) (by kernel_rfl) (by kernel_rfl) (fun _ _ _ h => h) (Or.inl ⟨by rfl, ?hy8⟩) (by assumption) ?_
      case hy8 => (intro w hSw; (try dsimp only at hSw); go_simp; try with_reducible rfl)
      try simp only [Act.put, List.setIfInBounds_toArray, List.set_cons_zero, List.set_cons_succ, List.getElem_toArray, List.getElem_cons_zero, List.getElem_cons_succ]
      refine wpAnyH_take (i := 9) (v := ?_) rfl (by kernel_rfl) (by kernel_rfl) (by kernel_rfl) (fun _ _ _ h => h) (Or.inl ⟨by rfl, ?hy9⟩) (by assumption) ?_
      case hy9 => (intro w hSw; (try dsimp only at hSw); go_simp; try with_reducible rfl)
      try simp only [Act.put, List.setIfInBounds_toArray, List.set_cons_zero, List.set_cons_succ, List.getElem_toArray, List.getElem_cons_zero, List.getElem_cons_succ]
      refine wpAnyH_take (i := 10) (v := ?_) rfl (by kernel_rfl) (by kernel_rfl) (by kernel_rfl) (fun _ _ _ h => h) (Or.inl ⟨by rfl, ?hy10⟩) (by assumption) ?_
      case hy10 => (intro w hSw; (try dsimp only at hSw); go_simp; try with_reducible rfl)
      try simp only [Act.put, List.setIfInBounds_toArray, List.set_cons_zero, List.set_cons_succ, List.getElem_toArray, List.getElem_cons_zero, List.getElem_cons_succ]
      refine wpAnyH_take (i := 11) (v := ?_) rfl (by kernel_rfl) (by kernel_rfl) (by kernel_rfl) (fun _ _ _ h => h) (Or.inl ⟨by rfl, ?hy11⟩) (by assumption) ?_
      case hy11 => (intro w hSw; (try dsimp only at hSw); go_simp; try with_reducible rfl)
      try simp only [Act.put, List.setIfInBounds_toArray, List.set_cons_zero, List.set_cons_succ, List.getElem_toArray, List.getElem_cons_zero, List.getElem_cons_succ]
      refine wpAnyH_take (i := 12) (v := ?_) rfl (by kernel_rfl) (by kernel_rfl) (by kernel_rfl) (fun _ _ _ h => h) (Or.inl ⟨by rfl, ?hy12⟩) (by assumption) ?_
      case hy12 => (intro w hSw; (try dsimp only at hSw); go_simp; try with_reducible rfl)
      try simp only [Act.put, List.setIfInBounds_toArray, List.set_cons_zero, List.set_cons_succ, List.getElem_toArray, List.getElem_cons_zero, List.getElem_cons_succ]
      refine wpAnyH_take (i := 13) (v := ?_) rfl (by kernel_rfl) (by kernel_rfl) (by kernel_rfl) (fun _ _ _ h => h) (Or.inl ⟨by rfl, ?hy13⟩) (by assumption) ?_
      case hy13 => (intro w hSw; (try dsimp only at hSw); go_simp; try with_reducible rfl)
      try simp only [Act.put, List.setIfInBounds_toArray, List.set_cons_zero, List.set_cons_succ, List.getElem_toArray, List.getElem_cons_zero, List.getElem_cons_succ]
      refine wpAnyH_take (i := 14) (v := ?_) rfl (by kernel_rfl) (by kernel_rfl) (by kernel_rfl) (fun _ _ _ h => h) (Or.inl ⟨by rfl, ?hy14⟩) (by assumption) ?_
      case hy14 => (intro w hSw; (try dsimp only at hSw); go_simp; try with_reducible rfl)
      try simp only [Act.put, List.setIfInBounds_toArray, List.set_cons_zero, List.set_cons_succ, List.getElem_toArray, List.getElem_cons_zero, List.getElem_cons_succ]
      refine wpAnyH_take (i := 15) (v := ?_) rfl (by kernel_rfl) (by kernel_rfl) (by kernel_rfl) (fun _ _ _ h => h) (Or.inl ⟨by rfl, ?hy15⟩) (by assumption) ?_
      case hy15 => (intro w hSw; (try dsimp only at hSw); go_simp; try with_reducible rfl)
      try simp only [Act.put, List.setIfInBounds_toArray, List.set_cons_zero, List.set_cons_succ, List.getElem_toArray, List.getElem_cons_zero, List.getElem_cons_succ]
      refine wpAnyH_take (i := 16) (v := ?_) rfl (by kernel_rfl) (by kernel_rfl) (by kernel_rfl) (fun _ _ _ h => h) (Or.inl ⟨by rfl, ?hy16⟩) (by assumption) ?_
      case hy16 => (intro w hSw; (try dsimp only at hSw); go_simp; try with_reducible rfl)
      try simp only [Act.put, List.setIfInBounds_toArray, List.set_cons_zero, List.set_cons_succ, List.getElem_toArray, List.getElem_cons_zero, List.getElem_cons_succ]
      refine wpAnyH_take (i := 17) (v := ?_) rfl (by kernel_rfl) (by kernel_rfl) (by kernel_rfl) (fun _ _ _ h => h) (Or.inl ⟨by rfl, ?hy17⟩) (by assumption) ?_
      case hy17 => (intro w hSw; (try dsimp only at hSw); go_simp; try with_reducible rfl)
      try simp only [Act.put, List.setIfInBounds_toArray, List.set_cons_zero, List.set_cons_succ, List.getElem_toArray, List.getElem_cons_zero, List.getElem_cons_succ]
      refine wpAnyH_take (i := 18) (v := ?_) rfl (by kernel_rfl) (by kernel_rfl) (by kernel_rfl) (fun _ _ _ h => h) (Or.inl ⟨by rfl, ?hy18⟩) (by assumption) ?_
      case hy18 => (intro w hSw; (try dsimp only at hSw); go_simp; try with_reducible rfl)
      try simp only [Act.put, List.setIfInBounds_toArray, List.set_cons_zero, List.set_cons_succ, List.getElem_toArray, List.getElem_cons_zero, List.getElem_cons_succ]
      refine wpAnyH_take (i := 19) (v := ?_) rfl (by kernel_rfl) (by kernel_rfl) (by kernel_rfl) (fun _ _ _ h => h) (Or.inl ⟨by rfl, ?hy19⟩) (by assumption) ?_
      case hy19 => (intro w hSw; (try dsimp only at hSw); go_simp; try with_reducible rfl)
      try simp only [Act.put, List.setIfInBounds_toArray, List.set_cons_zero, List.set_cons_succ, List.getElem_toArray, List.getElem_cons_zero, List.getElem_cons_succ]
      refine wpAnyH_take (i := 20) (v := ?_) rfl (by kernel_rfl) (by kernel_rfl) (by kernel_rfl) (fun _ _ _ h => h) (Or.inl ⟨by rfl, ?hy20⟩) (by assumption) ?_
      case hy20 => (intro w hSw; (try dsimp only at hSw); go_simp; try with_reducible rfl)
      try simp only [Act.put, List.setIfInBounds_toArray, List.set_cons_zero, List.set_cons_succ, List.getElem_toArray, List.getElem_cons_zero, List.getElem_cons_succ]
      refine wpAnyH_take (i := 21) (v := ?_) rfl (by kernel_rfl) (by kernel_rfl) (by kernel_rfl) (fun _ _ _ h => h) (Or.inl ⟨by rfl, ?hy21⟩) (by assumption) ?_
      case hy21 => (intro w hSw; (try dsimp only at hSw); go_simp; try with_reducible rfl)
      try simp only [Act.put, List.setIfInBounds_toArray, List.set_cons_zero, List.set_cons_succ, List.getElem_toArray, List.getElem_cons_zero, List.getElem_cons_succ]
      refine wpAnyH_take (i := 22) (v := ?_) rfl (by kernel_rfl) (by kernel_rfl) (by kernel_rfl) (fun _ _ _ h => h) (Or.inl ⟨by rfl, ?hy22⟩) (by assumption) ?_
      case hy22 => (intro w hSw; (try dsimp only at hSw); go_simp; try with_reducible rfl)
      try simp only [Act.put, List.setIfInBounds_toArray, List.set_cons_zero, List.set_cons_succ, List.getElem_toArray, List.getElem_cons_zero, List.getElem_cons_succ]
      refine wpAnyH_ready (rs := [23]) (by kernel_rfl) (by simp) (AllReadyH.cons rfl (fun K hK => ?_) AllReadyH.nil)
      (go_simp; go_at_call 18; (with_reducible refine (TK.out _ HD.out).mono ?_); rintro en wx ⟨u', z, rfl, hu', hp', hf'⟩; have U1 := Lib.hid hu'; have P1 := Lib.hid hp'; have F1 := Lib.hid (PF.drew.trans hf'); clear hu' hp' hf'; refine hK.out _ _ (SX.out _ _ _ _ _ P1.out F1.out.fr) (fun hHeld => ?_); clear hK K; try simp only [Act.put, List.setIfInBounds_toArray, List.set_cons_zero, List.set_cons_succ, List.getElem_toArray, List.getElem_cons_zero, List.getElem_cons_succ])
      refine wpAnyH_ready (rs := [24]) (by kernel_rfl) (by simp) (AllReadyH.cons rfl (fun K hK => ?_) AllReadyH.nil)
      (rw [if_pos (by rfl)]; refine wp_append_rw snC_len snC_one 55 47 _ 24 Tryz.underlying47 info_snZ rfl (by decide) (by decide) (.tmp 27) (.tmp 50) rfl wx.heap.size (.slice none 0 0) [] rfl (Ow.none _ _) u' r rfl (U1.out.rw snC_len) (by have := HR.out; simp; omega) (Nat.le_refl _) ?_; intro v2 w4 ho4 hb4; rw [List.nil_append] at ho4; obtain ⟨a2, k2, rfl, -⟩ := (ho4.rw snC_len).shape; rw [HR.out.2.2] at ho4 ⊢; have U2 := Lib.hid ho4; have P2 := Lib.hid (P1.out.later hb4); have F2 := Lib.hid (F1.out.trans (.below hb4)); have HZ := Lib.hid P1.out; clear ho4 hb4; refine hK.out _ _ (SX.out _ _ _ _ _ P2.out F2.out.fr) (fun hHeld => ?_); clear hK K; try simp only [Act.put, List.setIfInBounds_toArray, List.set_cons_zero, List.set_cons_succ, List.getElem_toArray, List.getElem_cons_zero, List.getElem_cons_succ])
      refine wpAnyH_take (i := 25) (v := ?_) rfl (by kernel_rfl) (by kernel_rfl) (by kernel_rfl) (fun _ _ _ h => h) (Or.inl ⟨by rfl, ?hy25⟩) (by assumption) ?_
      case hy25 => (intro w hSw; (try dsimp only at hSw); go_simp; try with_reducible rfl)
      try simp only [Act.put, List.setIfInBounds_toArray, List.set_cons_zero, List.set_cons_succ, List.getElem_toArray, List.getElem_cons_zero, List.getElem_cons_succ]
      refine wpAnyH_done (by kernel_rfl) ?_ _
      clear hHeld
      have HND : Hid (∀ g o', a2 = some ⟨g, o', none⟩ → ¬ x0.D z g ∧ ¬ x1.D z1 g) := Lib.hid fun g o' e => by
        subst e
        have hlt : wx.heap.size ≤ g := (U2.out.lt (g := g) (by simp [Value.ownBlock])).1
        exact ⟨fun h => by have := HZ.out.m0.ltD h; omega, fun h => by have := HZ.out.m1.ltD h; omega⟩
      go_wp2_with fail
      rw [rounds_succ]
      go_wp2_with fail
      exact ⟨⟨n', false, r, s0', s1, z, z1, a2, L, k2, by omega, by congr 1; omega, rfl, rfl, HR.out.2.2.symm, hLb, Lib.hid ⟨HR.out.2.1, U2.out.rw snC_len, HND.out⟩, Lib.hid ⟨P2.out, HW.out.2.trans F2.out⟩⟩, by simp [intOf]; omega⟩
end Go.Proofs.YtlkdfofpnmpidaaGreat
