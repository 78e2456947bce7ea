/- bpdu: there and back, plain. -/
import Derived.Test.YtecoomkpkdapdaaDoorJ0
import Derived.Test.YtecoomkpkdapdaaDoorH8
set_option linter.unusedVariables false
namespace Go.Proofs.YtecoomkpkdapdaaDoor
open Go.RowKit

theorem all_zero (z : List UInt8) : z.all (· == 0) = true ↔ ∀ x ∈ z, x = 0 := by
  rw [List.all_eq_true]
  constructor
  · intro h x hx; exact eq_of_beq (h x hx)
  · intro h x hx; rw [h x hx]; rfl
theorem byt_toNat (n : Int) (h : 0 ≤ n ∧ n < 256) : ((byt n).toNat : Int) = n := byt_nat n h
/-- Bytes that are taken are a word's, with noughts behind. -/
theorem tkB_ok (s : List UInt8) (t : Bp) (h : tkB s = (t, 0)) : mayB t = true ∧ t.Ok ∧ ∃ z, s = byB t ++ z ∧ ∀ x ∈ z, x = 0 := by
  by_cases hl : s.length < 42
  · rw [tkB_short s hl] at h
    exact absurd (congrArg Prod.snd h) (fun k => absurd (show (3 : Int) = 0 from k) (by decide))
  · obtain ⟨p1, r1, l1, e1, n1⟩ := cut_of s 2 (by omega)
    obtain ⟨c2, r2, e2, n2⟩ := cut_one r1 (by omega)
    obtain ⟨c3, r3, e3, n3⟩ := cut_one r2 (by omega)
    obtain ⟨p4, r4, l4, e4, n4⟩ := cut_of r3 8 (by omega)
    obtain ⟨p5, r5, l5, e5, n5⟩ := cut_of r4 4 (by omega)
    obtain ⟨p6, r6, l6, e6, n6⟩ := cut_of r5 8 (by omega)
    obtain ⟨c7, r7, e7, n7⟩ := cut_one r6 (by omega)
    obtain ⟨c8, r8, e8, n8⟩ := cut_one r7 (by omega)
    obtain ⟨p9, r9, l9, e9, n9⟩ := cut_of r8 8 (by omega)
    obtain ⟨p10, z, l10, e10, n10⟩ := cut_of r9 8 (by omega)
    have hs : s = (p1 ++ ([c2] ++ ([c3] ++ (p4 ++ (p5 ++ (p6 ++ ([c7] ++ ([c8] ++ (p9 ++ p10))))))))) ++ z := by
      rw [e1, e2, e3, e4, e5, e6, e7, e8, e9, e10]; simp only [List.append_assoc]
    obtain ⟨Q, hQ⟩ : ∃ Q, p1 ++ ([c2] ++ ([c3] ++ (p4 ++ (p5 ++ (p6 ++ ([c7] ++ ([c8] ++ (p9 ++ p10)))))))) = Q := ⟨_, rfl⟩
    rw [hQ] at hs
    rw [tkB_parts p1 p4 p5 p6 p9 p10 z c2 c3 c7 c8 l1 l4 l5 l6 l9 l10 s Q hQ.symm hs] at h
    unfold refA at h
    by_cases hc : mayB (bpP p4 p5 p6 p9 p10 c2 c3 c7 c8) = true ∧ z.all (· == 0) = true ∧ byB (bpP p4 p5 p6 p9 p10 c2 c3 c7 c8) = Q
    · rw [if_pos hc] at h
      have ht : bpP p4 p5 p6 p9 p10 c2 c3 c7 c8 = t := congrArg Prod.fst h
      have ho := Bp.ok_of p4 p5 p6 p9 p10 c2 c3 c7 c8 l4 l5 l6 l9 l10
      rw [ht] at hc ho
      exact ⟨hc.1, ho, z, by rw [hc.2.2]; exact hs, (all_zero z).1 hc.2.1⟩
    · rw [if_neg hc] at h
      exact absurd (congrArg Prod.snd h) (fun k => absurd (show (4 : Int) = 0 from k) (by decide))
theorem tkB_err (s : List UInt8) (t : Bp) (e : Int) (h : tkB s = (t, e)) (he : e ≠ 0) : t = bp0 := by
  unfold tkB at h
  by_cases hc : errB s = 0
  · rw [if_pos hc] at h; exact absurd (congrArg Prod.snd h).symm he
  · rw [if_neg hc] at h; exact (congrArg Prod.fst h).symm
theorem byB_inj (a b : Bp) (ha : a.Ok) (hb : b.Ok) (ma : mayB a = true) (mb : mayB b = true) (h : byB a = byB b) : a = b := by
  have e1 := tkB_put a ha ma [] (by simp)
  have e2 := tkB_put b hb mb [] (by simp)
  rw [h, e2] at e1
  exact (congrArg Prod.fst e1).symm
/-- Other bytes than the word's, as many, aren't taken as the word. -/
theorem tkB_other (b : Bp) (s : List UInt8) (hl : s.length = 42) (hne : s ≠ byB b) : tkB s ≠ (b, 0) := by
  intro h
  obtain ⟨_, _, z, hz, _⟩ := tkB_ok s b h
  have : z.length = 0 := by
    have := congrArg List.length hz
    rw [List.length_append, byB_len, hl] at this; omega
  rw [List.eq_nil_of_length_eq_zero this, List.append_nil] at hz
  exact hne hz
theorem mayB_bp0 : mayB bp0 = false := by decide
end Go.Proofs.YtecoomkpkdapdaaDoor
