/- remote: small functions. -/
import Derived.Test.YtecoomkpkdapdaaS0
import Derived.Test.YtecoomkpkdapdaaQM
import Derived.Test.YtecoomkpkdapdaaD1r
set_option linter.unusedVariables false
namespace Go.Proofs.Ytecoomkpkdapdaa
open Go.RowKit

theorem rmay_any (xlv : Int) (xrd : Bool) (xiv xsq xme : Int) (xm : List UInt8) (w : World) (hm : xm.length ≤ 1000) (hsq : 0 ≤ xsq ∧ xsq < 4294967296) (hme : 0 ≤ xme ∧ xme < 65536) : Calls Try.prog 71 #[.agg #[.int .u8 xlv, .bool xrd, .int .u8 xiv, .int .u32 xsq, .int .u16 xme, .string (bs xm)]] w fun en w' => en = .returned (.bool (mayC xlv xiv xme xm)) ∧ Below w.heap.size w w' := by
  have CP := fun w => ccput_any xlv xrd xiv xsq xme xm w hm hsq hme
  obtain ⟨K, hK⟩ : ∃ K, mayC xlv xiv xme xm = K := ⟨_, rfl⟩
  have hP : (putC xlv xrd xiv xsq xme xm).2.2.2.2 = if K = true then 0 else 2 := by
    unfold putC; rw [hK]; cases K <;> rfl
  obtain ⟨P0, P1, P2, P3, P4, hPP⟩ : ∃ a b c d e, putC xlv xrd xiv xsq xme xm = (a, b, c, d, e) := ⟨_, _, _, _, _, rfl⟩
  rw [hPP] at CP hP
  simp only at CP hP
  rw [hK]
  have HP := Lib.hid hP
  clear hK hP hPP hm hsq hme
  go_enter Try.func71, Try.ntmps71
  go_upto_region 1 with fail
  have cb := CB.new 73 w xlv xrd xiv xsq xme xm
  have bb : Below w.heap.size w (w.alloc (.cells #[.int .u8 xlv, .bool xrd, .int .u8 xiv, .int .u32 xsq, .int .u16 xme, .string (bs xm)] 73)) := (Below.refl _ _).alloc (Nat.le_refl _) _
  obtain ⟨w0, hw0⟩ : ∃ k, w.alloc (.cells #[.int .u8 xlv, .bool xrd, .int .u8 xiv, .int .u32 xsq, .int .u16 xme, .string (bs xm)] 73) = k := ⟨_, rfl⟩
  rw [hw0] at cb bb ⊢
  have c0 := cb.c0
  have c1 := cb.c1
  have c2 := cb.c2
  have c3 := cb.c3
  have c4 := cb.c4
  have c5 := cb.c5
  have B0 := Lib.hid bb
  clear hw0 cb bb
  go_wp2_with fail
  with_reducible refine (CP _).mono ?_
  rintro en w1 ⟨rfl, hb1⟩
  have B1 := Lib.hid (B0.out.trans (hb1.mono B0.out.size))
  clear hb1 c0 c1 c2 c3 c4 c5
  cases K
  · have h4 : Hid (P4 = 2) := HP
    have e4 : (P4 == 0) = false := by rw [h4.out]; rfl
    go_wp2
    go_ret
    exact ⟨rfl, B1.out.alloc B1.out.size _⟩
  · have h4 : Hid (P4 = 0) := HP
    have e4 : (P4 == 0) = true := by rw [h4.out]; rfl
    go_wp2
    go_ret
    exact ⟨rfl, B1.out.alloc B1.out.size _⟩
theorem lasts_any (n : Int) (w : World) : Calls Try.prog 38 #[.int .u8 n] w fun en w' => en = .returned (.int .i64 (lastC n)) ∧ w' = w := by
  have hc : lastC n = 4 ∧ tickC n = 1 ∨ lastC n = 35 ∧ tickC n = 10 ∨ lastC n = 0 ∧ tickC n = 0 := by
    unfold lastC tickC
    by_cases h4 : n = 4
    · left; rw [if_pos h4, if_pos h4]; exact ⟨rfl, rfl⟩
    · by_cases h5 : n = 5
      · right; left; rw [if_neg h4, if_pos h5, if_neg h4, if_pos h5]; exact ⟨rfl, rfl⟩
      · right; right; rw [if_neg h4, if_neg h5, if_neg h4, if_neg h5]; exact ⟨rfl, rfl⟩
  have T := ticks_any n
  rcases hc with ⟨h1, h2⟩ | ⟨h1, h2⟩ | ⟨h1, h2⟩
  all_goals
    rw [h1]
    rw [h2] at T
    clear h1 h2
    go_enter Try.func38, Try.ntmps38
    go_wp2_with (go_at_call 41; refine (T _).mono ?_; rintro e w' ⟨rfl, rfl⟩)
    go_ret
    exact ⟨rfl, rfl⟩
theorem lost1_any (a : Int) (b : Bool) (w : World) : Calls Try.prog 78 #[.agg #[.int .i64 a, .bool b]] w fun en w' => en = .returned (.bool (decide (a = 0))) ∧ Below w.heap.size w w' := by
  have hd : (a == 0) = decide (a = 0) := by rw [Bool.eq_iff_iff]; simp
  obtain ⟨R, hR⟩ : ∃ R, decide (a = 0) = R := ⟨_, rfl⟩
  rw [hR] at hd ⊢
  clear hR
  go_enter Try.func78, Try.ntmps78
  go_wp2
  go_ret
  exact ⟨rfl, (Below.refl _ _).alloc (Nat.le_refl _) _⟩
theorem rdis1_any (a : Int) (b : Bool) (w : World) : Calls Try.prog 79 #[.agg #[.int .i64 a, .bool b]] w fun en w' => en = .returned (.bool (decide (0 < a) && b)) ∧ Below w.heap.size w w' := by
  cases hd : decide (0 < a)
  all_goals
    go_enter Try.func79, Try.ntmps79
    go_wp2
    go_ret
    exact ⟨by simp, (Below.refl _ _).alloc (Nat.le_refl _) _⟩
/-- One less, but not below nothing. -/
def dn1 (x : Int) : Int := if 1 ≤ x then x - 1 else 0
theorem less1_any (p : Nat) (o : Nat) (x : Int) (w : World) (hx : 0 ≤ x ∧ x ≤ 1000) (hc : w.cell? ⟨p, o, none⟩ = some (.int .i64 x)) (hf : w.frozen? ⟨p, o, none⟩ = false) : Calls Try.prog 98 #[.pointer (some ⟨p, o, none⟩)] w fun en w' => en = .returned (.tuple #[]) ∧ w' = w.setCell ⟨p, o, none⟩ (.int .i64 (dn1 x)) := by
  have hd : (max 0 (x - 1) : Int) = dn1 x := by unfold dn1; split <;> omega
  have hb1 : x - 1 ≤ 1000 := by omega
  have hb0 : -1 ≤ x - 1 := by omega
  obtain ⟨R, hR⟩ : ∃ R, dn1 x = R := ⟨_, rfl⟩
  rw [hR] at hd ⊢
  clear hR
  go_enter Try.func98, Try.ntmps98
  go_wp2
  all_goals
    go_end0
    refine ⟨rfl, ?_⟩
    first
      | (have e : R = x - 1 := by omega
         rw [e])
      | (have e : R = 0 := by omega
         rw [e])
end Go.Proofs.Ytecoomkpkdapdaa
