/- frame: there and back, the plain laws. -/
import Derived.Test.YtblmpndaofhmjaaF10
import Derived.Test.YtblmpndaofhmjaaF3
import Derived.Test.YtblmpndaofhmjaaF8
set_option linter.unusedVariables false
namespace Go.Proofs.Ytblmpndaofhmjaa
open Go.RowKit

theorem be2_cases (n : Int) (h0 : 0 ≤ n) (h1 : n < 65536) : ∃ c d : UInt8, be 2 n = [c, d] ∧ (c.toNat : Int) * 256 + d.toNat = n := by
  obtain ⟨c, d, h⟩ : ∃ c d, be 2 n = [c, d] := by
    match h : be 2 n, be_length 2 n with
    | [c, d], _ => exact ⟨c, d, rfl⟩
  refine ⟨c, d, h, ?_⟩
  have h2 := numOf_be 2 n
  rw [h, numOf_two, Int.emod_eq_of_lt h0 (by omega)] at h2
  omega
theorem be2_of (c d : UInt8) : be 2 ((c.toNat : Int) * 256 + d.toNat) = [c, d] := by
  have h := be_numOf [c, d] 2 rfl
  rw [numOf_two] at h
  rw [← h]; congr 1
theorem byt_of (c : UInt8) : byt (c.toNat : Int) = c := by unfold byt; simp
theorem adI_byM (a b c d e f : Int) (h : wfM a b c d e f) : adI (byM a b c d e f) 0 = a ∧ adI (byM a b c d e f) 1 = b ∧ adI (byM a b c d e f) 2 = c ∧ adI (byM a b c d e f) 3 = d ∧ adI (byM a b c d e f) 4 = e ∧ adI (byM a b c d e f) 5 = f := by
  obtain ⟨h0, h1, h2, h3, h4, h5⟩ := h
  exact ⟨byt_nat a h0, byt_nat b h1, byt_nat c h2, byt_nat d h3, byt_nat e h4, byt_nat f h5⟩
theorem frC_byM (x0 x1 x2 x3 x4 x5 x6 x7 x8 x9 x10 x11 xt xp xv xy xd) (hw : wfF x0 x1 x2 x3 x4 x5 x6 x7 x8 x9 x10 x11 xp xv xy) : frC (byM x0 x1 x2 x3 x4 x5) (byM x6 x7 x8 x9 x10 x11) xt xp xv xy xd = #[.int .u8 x0, .int .u8 x1, .int .u8 x2, .int .u8 x3, .int .u8 x4, .int .u8 x5, .int .u8 x6, .int .u8 x7, .int .u8 x8, .int .u8 x9, .int .u8 x10, .int .u8 x11, .bool xt, .int .u8 xp, .int .u16 xv, .int .u16 xy, .string (bs xd)] := by
  obtain ⟨w1, w2, _⟩ := hw
  obtain ⟨e0, e1, e2, e3, e4, e5⟩ := adI_byM _ _ _ _ _ _ w1
  obtain ⟨e6, e7, e8, e9, e10, e11⟩ := adI_byM _ _ _ _ _ _ w2
  unfold frC
  rw [e0, e1, e2, e3, e4, e5, e6, e7, e8, e9, e10, e11]

/-- What is put is taken. -/
theorem put_take (x0 x1 x2 x3 x4 x5 x6 x7 x8 x9 x10 x11 xt xp xv xy xd) (b : List UInt8) (hw : wfF x0 x1 x2 x3 x4 x5 x6 x7 x8 x9 x10 x11 xp xv xy) (hp : putF x0 x1 x2 x3 x4 x5 x6 x7 x8 x9 x10 x11 xt xp xv xy xd = (b, 0)) : tkF b = (#[.int .u8 x0, .int .u8 x1, .int .u8 x2, .int .u8 x3, .int .u8 x4, .int .u8 x5, .int .u8 x6, .int .u8 x7, .int .u8 x8, .int .u8 x9, .int .u8 x10, .int .u8 x11, .bool xt, .int .u8 xp, .int .u16 xv, .int .u16 xy, .string (bs xd)], 0) ∧ (b.length : Int) = lenF xt xd := by
  have hlen := byF_len x0 x1 x2 x3 x4 x5 x6 x7 x8 x9 x10 x11 xt xp xv xy xd
  unfold putF at hp
  by_cases hm : mayF xt xp xv xy = true
  · rw [if_pos hm] at hp
    by_cases hl : 1522 < lenF xt xd
    · rw [if_pos hl] at hp; injection hp with _ h2; exact absurd h2 (by decide)
    · rw [if_neg hl] at hp
      injection hp with hb _
      rw [hb] at hlen
      refine ⟨?_, hlen⟩
      rw [← frC_byM x0 x1 x2 x3 x4 x5 x6 x7 x8 x9 x10 x11 xt xp xv xy xd hw]
      obtain ⟨_, _, hp3, hv3, hy3⟩ := hw
      obtain ⟨c, d, hbe, hcd⟩ := be2_cases xy hy3.1 hy3.2
      unfold byF at hb
      cases xt with
      | false =>
        have hm' : xp = 0 ∧ xv = 0 ∧ xy ≠ 33024 := by simpa [mayF] using hm
        obtain ⟨rfl, rfl, hy⟩ := hm'
        rw [if_neg (by decide), hbe] at hb
        rw [tkF_plain _ _ _ _ _ _ _ _ _ _ _ _ c d xd b (by rw [← hb]; rfl) (by omega) (by omega), hcd]
        rfl
      | true =>
        have hm' : xp < 8 ∧ xv < 4096 := by simpa [mayF] using hm
        obtain ⟨h, l, hbe2, hhl⟩ := be2_cases (xp * 8192 + xv) (by omega) (by omega)
        rw [if_pos rfl, hbe, hbe2, show be 2 33024 = [129, 0] by decide] at hb
        have hh := h.toNat_lt
        have hl' := l.toNat_lt
        rw [tkF_tagD _ _ _ _ _ _ _ _ _ _ _ _ 129 0 h l c d xd b (by rw [← hb]; rfl) (by omega) (by decide) (by omega), hcd, show (h.toNat : Int) / 32 = xp by omega, show (h.toNat : Int) % 16 * 256 + l.toNat = xv by omega]
        rfl
  · rw [if_neg hm] at hp; injection hp with _ h2; exact absurd h2 (by decide)
theorem wfM_of (a b c d e f : UInt8) : wfM (a.toNat : Int) b.toNat c.toNat d.toNat e.toNat f.toNat := by
  have := a.toNat_lt; have := b.toNat_lt; have := c.toNat_lt; have := d.toNat_lt; have := e.toNat_lt; have := f.toNat_lt
  unfold wfM; omega
theorem byM_of (a b c d e f : UInt8) : byM (a.toNat : Int) b.toNat c.toNat d.toNat e.toNat f.toNat = [a, b, c, d, e, f] := by
  unfold byM; rw [byt_of, byt_of, byt_of, byt_of, byt_of, byt_of]
/-- What was taken is put as itself. -/
theorem take_put (s : List UInt8) (A : Array Value) (e : Int) (ht : tkF s = (A, e)) : (e ≠ 0 ∧ A = frZ) ∨ (e = 0 ∧ s.length ≤ 1522 ∧ ∃ x0 x1 x2 x3 x4 x5 x6 x7 x8 x9 x10 x11 xt xp xv xy xd, A = #[.int .u8 x0, .int .u8 x1, .int .u8 x2, .int .u8 x3, .int .u8 x4, .int .u8 x5, .int .u8 x6, .int .u8 x7, .int .u8 x8, .int .u8 x9, .int .u8 x10, .int .u8 x11, .bool xt, .int .u8 xp, .int .u16 xv, .int .u16 xy, .string (bs xd)] ∧ wfF x0 x1 x2 x3 x4 x5 x6 x7 x8 x9 x10 x11 xp xv xy ∧ xd.length ≤ 1522 ∧ putF x0 x1 x2 x3 x4 x5 x6 x7 x8 x9 x10 x11 xt xp xv xy xd = (s, 0)) := by
  by_cases h15 : 1522 < s.length
  · rw [tkF_long s h15] at ht; injection ht with h1 h2; left; exact ⟨by omega, h1.symm⟩
  by_cases h14 : s.length < 14
  · rw [tkF_short s h14] at ht; injection ht with h1 h2; left; exact ⟨by omega, h1.symm⟩
  have hl : s.length ≤ 1522 := by omega
  obtain ⟨a0, a1, a2, a3, a4, a5, b0, b1, b2, b3, b4, b5, c, d, t, rfl⟩ := list14 s (by omega)
  · have hc := c.toNat_lt
    have hd := d.toNat_lt
    by_cases h3 : c.toNat = 129 ∧ d.toNat = 0
    · match t with
      | [] => rw [tkF_tag16 _ _ _ _ _ _ _ _ _ _ _ _ c d [] _ rfl hl h3 (by decide)] at ht; injection ht with h1 h2; left; exact ⟨by omega, h1.symm⟩
      | [x] => rw [tkF_tag16 _ _ _ _ _ _ _ _ _ _ _ _ c d [x] _ rfl hl h3 (by simp)] at ht; injection ht with h1 h2; left; exact ⟨by omega, h1.symm⟩
      | x :: y :: t =>
        have hx' := x.toNat_lt
        have hy' := y.toNat_lt
        by_cases hx : x.toNat / 16 % 2 = 1
        · rw [tkF_tagF _ _ _ _ _ _ _ _ _ _ _ _ c d x y t _ rfl hl h3 hx] at ht; injection ht with h1 h2; left; exact ⟨by omega, h1.symm⟩
        · match t with
          | [] => rw [tkF_tag18 _ _ _ _ _ _ _ _ _ _ _ _ c d x y [] _ rfl hl h3 hx (by decide)] at ht; injection ht with h1 h2; left; exact ⟨by omega, h1.symm⟩
          | [u] => rw [tkF_tag18 _ _ _ _ _ _ _ _ _ _ _ _ c d x y [u] _ rfl hl h3 hx (by simp)] at ht; injection ht with h1 h2; left; exact ⟨by omega, h1.symm⟩
          | u :: v :: t =>
            rw [tkF_tagD _ _ _ _ _ _ _ _ _ _ _ _ c d x y u v t _ rfl hl h3 hx] at ht
            injection ht with h1 h2
            right
            have hu := u.toNat_lt
            have hv := v.toNat_lt
            have hl2 : t.length + 18 ≤ 1522 := by simpa using hl
            refine ⟨h2.symm, hl, a0.toNat, a1.toNat, a2.toNat, a3.toNat, a4.toNat, a5.toNat, b0.toNat, b1.toNat, b2.toNat, b3.toNat, b4.toNat, b5.toNat, true, (x.toNat : Int) / 32, (x.toNat : Int) % 16 * 256 + y.toNat, (u.toNat : Int) * 256 + v.toNat, t, h1.symm, ?_, by omega, ?_⟩
            · exact ⟨wfM_of _ _ _ _ _ _, wfM_of _ _ _ _ _ _, by omega, by omega, by omega⟩
            · unfold putF
              rw [if_pos (by simp [mayF]; omega), if_neg (by simp [lenF]; omega)]
              unfold byF
              rw [byM_of, byM_of, be2_of u v, if_pos rfl, show (x.toNat : Int) / 32 * 8192 + ((x.toNat : Int) % 16 * 256 + y.toNat) = (x.toNat : Int) * 256 + y.toNat by omega, be2_of x y, show be 2 33024 = [129, 0] by decide]
              have hc1 : c = 129 := UInt8.toNat_inj.1 h3.1
              have hd1 : d = 0 := UInt8.toNat_inj.1 h3.2
              rw [hc1, hd1]; rfl
    · rw [tkF_plain _ _ _ _ _ _ _ _ _ _ _ _ c d t _ rfl hl h3] at ht
      injection ht with h1 h2
      right
      have hl2 : t.length + 14 ≤ 1522 := by simpa using hl
      refine ⟨h2.symm, hl, a0.toNat, a1.toNat, a2.toNat, a3.toNat, a4.toNat, a5.toNat, b0.toNat, b1.toNat, b2.toNat, b3.toNat, b4.toNat, b5.toNat, false, 0, 0, (c.toNat : Int) * 256 + d.toNat, t, h1.symm, ?_, by omega, ?_⟩
      · exact ⟨wfM_of _ _ _ _ _ _, wfM_of _ _ _ _ _ _, by omega, by omega, by omega⟩
      · unfold putF
        rw [if_pos (by simp [mayF]; omega), if_neg (by simp [lenF]; omega)]
        unfold byF
        rw [byM_of, byM_of, be2_of c d]
        rfl
end Go.Proofs.Ytblmpndaofhmjaa
