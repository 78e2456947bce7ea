/- bpdu: Take and the reference's Take answer alike, plain; the reference's Take of any bytes. -/
import Derived.Test.YtecoomkpkdapdaaDoorH9
set_option linter.unusedVariables false
namespace Go.Proofs.YtecoomkpkdapdaaDoor
open Go.RowKit

/-- A reader after k of L bytes. -/
def Inv (L : Nat) (l : List UInt8) (e : Int) (k : Nat) : Prop := (e = 0 ∧ l.length + k = L) ∨ (e = 3 ∧ l = [] ∧ L < k)
theorem Inv.step {L : Nat} {l : List UInt8} {e : Int} {k : Nat} (h : Inv L l e k) (n : Nat) (hn : 1 ≤ n) : Inv L (rdText l e n).2.1 (rdText l e n).2.2 (k + n) := by
  unfold rdText
  rcases h with ⟨rfl, h⟩ | ⟨rfl, rfl, h⟩
  · rw [if_neg (by simp; omega)]
    by_cases hl : (l.length : Int) < n
    · rw [if_pos hl]; right; exact ⟨rfl, rfl, by omega⟩
    · rw [if_neg hl]; left; exact ⟨rfl, by simp; omega⟩
  · rw [if_pos (Or.inr (by decide))]; right; exact ⟨rfl, rfl, by omega⟩
theorem tkB_short (s : List UInt8) (h : s.length < 42) : tkB s = (bp0, 3) := by
  have h0 : Inv s.length s 0 0 := Or.inl ⟨rfl, rfl⟩
  have h1 := h0.step 2 (by decide)
  have h2 := h1.step 1 (by decide)
  have h3 := h2.step 1 (by decide)
  have h4 := h3.step 8 (by decide)
  have h5 := h4.step 4 (by decide)
  have h6 := h5.step 8 (by decide)
  have h7 := h6.step 1 (by decide)
  have h8 := h7.step 1 (by decide)
  have h9 := h8.step 8 (by decide)
  have hA : Inv s.length (bt10 s).2.1 (bt10 s).2.2 42 := h9.step 8 (by decide)
  have hR : (btR s).2 = ([], 3) := by
    rcases hA with ⟨_, h'⟩ | ⟨he, hl, _⟩
    · omega
    · unfold btR rdRest rdText; rw [he, hl]; rfl
  have hE : errB s = 3 := by
    unfold errB
    rw [hR]
    split
    · rfl
    · rfl
  unfold tkB
  rw [hE]; rfl
theorem flB_mod (b : Bp) (n : Nat) (h1 : b.pr = decide ((n : Int) % 2 = 1)) (h2 : b.ag = decide ((n : Int) / 2 % 2 = 1)) (h4 : b.tp = decide ((n : Int) / 4 % 2 = 1)) : flB b = ((n % 8 : Nat) : Int) := by
  unfold flB
  rw [h1, h2, h4]
  simp only [decide_eq_true_eq]
  split <;> split <;> split <;> omega
theorem be1_eq (x : Int) (c : UInt8) (h : 0 ≤ x ∧ x ≤ 7) : be 1 x = [c] ↔ x = (c.toNat : Int) := by
  constructor
  · intro e
    have := numOf_beM 1 x 256 (by decide) (by omega)
    rw [e, numOf_one] at this; exact this.symm
  · intro e
    rw [e, ← numOf_one]; exact be_numOf [c] 1 rfl
theorem tkB_parts (p1 p4 p5 p6 p9 p10 z : List UInt8) (c2 c3 c7 c8 : UInt8) (h1 : p1.length = 2) (h4 : p4.length = 8) (h5 : p5.length = 4) (h6 : p6.length = 8) (h9 : p9.length = 8) (h10 : p10.length = 8) (s Q : List UInt8)
    (hQ : Q = p1 ++ ([c2] ++ ([c3] ++ (p4 ++ (p5 ++ (p6 ++ ([c7] ++ ([c8] ++ (p9 ++ p10))))))))) (hs : s = Q ++ z) : tkB s = refA (bpP p4 p5 p6 p9 p10 c2 c3 c7 c8) Q z := by
  obtain ⟨q1, q2, q3, q4, q5, q6, q7, q8, q9, q10, qR⟩ := bt_parts (p1 := p1) (p2 := [c2]) (p3 := [c3]) (p4 := p4) (p5 := p5) (p6 := p6) (p7 := [c7]) (p8 := [c8]) (p9 := p9) (p10 := p10) (z := z) h1 rfl rfl h4 h5 h6 rfl rfl h9 h10 (s := s) (by rw [hs, hQ]; simp only [List.append_assoc])
  obtain ⟨b, hb⟩ : ∃ b, bpP p4 p5 p6 p9 p10 c2 c3 c7 c8 = b := ⟨_, rfl⟩
  have hbp : bpOf s = b := by
    rw [← hb]; unfold bpOf bpP
    rw [q2, q3, q4, q5, q6, q7, q8, q9, q10, numOf_one, numOf_one, numOf_one, numOf_one]
  have hf : flB b = ((c3.toNat % 8 : Nat) : Int) := flB_mod b c3.toNat (by rw [← hb]; rfl) (by rw [← hb]; rfl) (by rw [← hb]; rfl)
  have hbd := flB_bd b
  have hby : byB b = Q ↔ numOf p1 = 17229 ∧ (c3.toNat : Int) ≤ 7 := by
    have e : byB b = [67, 77] ++ ([c2] ++ (be 1 (flB b) ++ (p4 ++ (p5 ++ (p6 ++ ([c7] ++ ([c8] ++ (p9 ++ p10)))))))) := by
      have r2 : be 1 b.ro = [c2] := by rw [← hb]; show be 1 (c2.toNat : Int) = _; rw [← numOf_one]; exact be_numOf [c2] 1 rfl
      have r4 : be 8 b.rt = p4 := by rw [← hb]; exact be_numOf p4 8 h4
      have r5 : be 4 b.co = p5 := by rw [← hb]; exact be_numOf p5 4 h5
      have r6 : be 8 b.br = p6 := by rw [← hb]; exact be_numOf p6 8 h6
      have r7 : be 1 b.po = [c7] := by rw [← hb]; show be 1 (c7.toNat : Int) = _; rw [← numOf_one]; exact be_numOf [c7] 1 rfl
      have r8 : be 1 b.ho = [c8] := by rw [← hb]; show be 1 (c8.toNat : Int) = _; rw [← numOf_one]; exact be_numOf [c8] 1 rfl
      have r9 : be 8 b.ve = p9 := by rw [← hb]; exact be_numOf p9 8 h9
      have r10 : be 8 b.ec = p10 := by rw [← hb]; exact be_numOf p10 8 h10
      unfold byB
      rw [r2, r4, r5, r6, r7, r8, r9, r10]; simp only [List.append_assoc]
    have hm : numOf p1 = 17229 ↔ [67, 77] = p1 := by
      constructor
      · intro h
        rw [← be_numOf p1 2 h1, h]; decide
      · intro h; rw [← h]; decide
    have hc : (c3.toNat : Int) ≤ 7 ↔ be 1 (flB b) = [c3] := by
      rw [be1_eq _ _ hbd, hf]; omega
    rw [hm, hc, e, hQ]
    constructor
    · intro h
      have i1 := List.append_inj h (by rw [h1]; rfl)
      have i2 := List.append_inj i1.2 rfl
      have i3 := List.append_inj i2.2 (by rw [be_length]; rfl)
      exact ⟨i1.1, i3.1⟩
    · rintro ⟨ha, hb'⟩; rw [ha, hb']
  have hz : stL 0 (stR 0 z) = [] ↔ z.all (· == 0) = true := by
    rw [trim_nil, List.all_eq_true]
    constructor
    · intro h x hx; rw [h x hx]; rfl
    · intro h x hx; exact eq_of_beq (h x hx)
  have hg : goodB s = true ↔ (mayB b = true ∧ z.all (· == 0) = true ∧ byB b = Q) := by
    unfold goodB
    rw [q1, q3, hbp, qR, numOf_one, Bool.and_eq_true, Bool.and_eq_true, Bool.and_eq_true, decide_eq_true_eq, decide_eq_true_eq, decide_eq_true_eq, hz, hby]
    constructor
    · rintro ⟨a, b, c, d⟩; exact ⟨c, d, a, b⟩
    · rintro ⟨c, d, a, b⟩; exact ⟨a, b, c, d⟩
  rw [hb]
  unfold refA tkB errB
  rw [qR]
  by_cases h : goodB s = true
  · rw [if_pos (hg.1 h), if_pos h, if_pos rfl, hbp]
  · rw [if_neg (fun k => h (hg.2 k)), if_neg h]; rfl
theorem cut_of (s : List UInt8) (k : Nat) (h : k ≤ s.length) : ∃ p r, p.length = k ∧ s = p ++ r ∧ r.length + k = s.length := ⟨s.take k, s.drop k, by simp; omega, by simp, by simp; omega⟩
theorem cut_one (s : List UInt8) (h : 1 ≤ s.length) : ∃ (c : UInt8) (r : List UInt8), s = [c] ++ r ∧ r.length + 1 = s.length := by
  cases s with
  | nil => simp at h
  | cons c r => exact ⟨c, r, rfl, rfl⟩
theorem refTake05_all (s : List UInt8) (w : World) (hl : s.length ≤ 10000) : Calls Tryd.prog 13 #[.string (bs s)] w fun en w' => en = .returned (.tuple #[.agg #[.int .u64 (tkB s).1.rt, .int .u32 (tkB s).1.co, .int .u64 (tkB s).1.br, .int .u8 (tkB s).1.po, .int .u8 (tkB s).1.ho, .int .u64 (tkB s).1.ve, .int .u8 (tkB s).1.ro, .bool (tkB s).1.pr, .bool (tkB s).1.ag, .bool (tkB s).1.tp, .int .u64 (tkB s).1.ec], .int .i64 (tkB s).2]) ∧ Below w.heap.size w w' := by
  by_cases h : s.length < 42
  · rw [tkB_short s h]; exact refTakeShort_any s w h
  · obtain ⟨p1, r1, l1, e1, n1⟩ := cut_of s 2 (by omega)
    obtain ⟨c2, r2, e2, n2⟩ := cut_one r1 (by omega)
    obtain ⟨c3, r3, e3, n3⟩ := cut_one r2 (by omega)
    obtain ⟨p4, r4, l4, e4, n4⟩ := cut_of r3 8 (by omega)
    obtain ⟨p5, r5, l5, e5, n5⟩ := cut_of r4 4 (by omega)
    obtain ⟨p6, r6, l6, e6, n6⟩ := cut_of r5 8 (by omega)
    obtain ⟨c7, r7, e7, n7⟩ := cut_one r6 (by omega)
    obtain ⟨c8, r8, e8, n8⟩ := cut_one r7 (by omega)
    obtain ⟨p9, r9, l9, e9, n9⟩ := cut_of r8 8 (by omega)
    obtain ⟨p10, z, l10, e10, n10⟩ := cut_of r9 8 (by omega)
    have hs : s = (p1 ++ ([c2] ++ ([c3] ++ (p4 ++ (p5 ++ (p6 ++ ([c7] ++ ([c8] ++ (p9 ++ p10))))))))) ++ z := by
      rw [e1, e2, e3, e4, e5, e6, e7, e8, e9, e10]; simp only [List.append_assoc]
    rw [tkB_parts p1 p4 p5 p6 p9 p10 z c2 c3 c7 c8 l1 l4 l5 l6 l9 l10 s _ rfl hs]
    exact refTake05_any p1 p4 p5 p6 p9 p10 z c2 c3 c7 c8 w l1 l4 l5 l6 l9 l10 (by omega) s _ rfl hs
end Go.Proofs.YtecoomkpkdapdaaDoor
