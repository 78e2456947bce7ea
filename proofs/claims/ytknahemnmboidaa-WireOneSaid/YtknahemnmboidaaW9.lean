/- wire: a law's own put, read and most; numbers and their bytes answer each other. -/
import Derived.Test.YtknahemnmboidaaW7
import Derived.Test.YtknahemnmboidaaRW1
set_option linter.unusedVariables false
namespace Go.Proofs.Ytknahemnmboidaa
open Go.RowKit

/-- How many bytes a part has. -/
def wid (d : Int) : Nat := if d = 0 then 1 else if d = 1 then 2 else if d = 2 then 4 else 8
theorem wid_le (d : Int) : 1 ≤ wid d ∧ wid d ≤ 8 := by unfold wid; repeat' split
                                                       all_goals omega
theorem emod_step (n m : Int) (hm : 0 < m) : n % (256 * m) = (n / 256 % m) * 256 + n % 256 := by
  have h1 := Int.mul_ediv_add_emod n 256
  have h2 := Int.mul_ediv_add_emod (n / 256) m
  have b1 := Int.emod_nonneg n (show (256 : Int) ≠ 0 by decide)
  have b2 := Int.emod_lt_of_pos n (show (0 : Int) < 256 by decide)
  have b3 := Int.emod_nonneg (n / 256) (show m ≠ 0 by omega)
  have b4 := Int.emod_lt_of_pos (n / 256) hm
  have e : n = (n / 256 % m) * 256 + n % 256 + (256 * m) * (n / 256 / m) := by
    calc n = 256 * (n / 256) + n % 256 := h1.symm
      _ = 256 * (m * (n / 256 / m) + n / 256 % m) + n % 256 := by rw [h2]
      _ = _ := by rw [Int.mul_add, ← Int.mul_assoc]; omega
  have e2 : ((n / 256 % m) * 256 + n % 256 + (256 * m) * (n / 256 / m)) % (256 * m) = ((n / 256 % m) * 256 + n % 256) % (256 * m) := Int.add_mul_emod_self_left _ _ _
  rw [← e] at e2
  rw [e2]
  exact Int.emod_eq_of_lt (by omega) (by omega)
theorem numOf_numR : ∀ (k : Nat) (n : Int), numOf (numR k n) = n % 256 ^ k
  | 0, n => by simp [numR, numOf, Int.emod_one]
  | k + 1, n => by
    have hb : (UInt8.ofNat (n % 256).toNat).toNat = (n % 256).toNat := by simp; omega
    rw [numR, numOf_snoc, numOf_numR k, hb, Int.pow_succ, Int.mul_comm (256 ^ k) 256, emod_step n (256 ^ k) (Int.pow_pos (by decide))]
    omega
theorem numOf_be (k : Nat) (n : Int) : numOf (be k n) = n % 256 ^ k := by rw [← numR_be]; exact numOf_numR k n
theorem numR_numOf : ∀ t : List UInt8, numR t.length (numOf t) = t := by
  intro t
  have key : ∀ r : List UInt8, numR r.length (numOf r.reverse) = r.reverse := by
    intro r
    induction r with
    | nil => rfl
    | cons b r ih =>
      have hb := b.toNat_lt
      have h0 := (numOf_bd r.reverse).1
      rw [List.reverse_cons, List.length_cons, numR, numOf_snoc]
      rw [show (numOf r.reverse * 256 + (b.toNat : Int)) / 256 = numOf r.reverse by omega, ih]
      rw [show (numOf r.reverse * 256 + (b.toNat : Int)) % 256 = (b.toNat : Int) by omega]
      simp
  have := key t.reverse
  simpa using this
theorem be_numOf (t : List UInt8) (k : Nat) (h : t.length = k) : be k (numOf t) = t := by rw [← numR_be, ← h]; exact numR_numOf t
theorem be_mod (k : Nat) (n : Int) : be k (n % 256 ^ k) = be k n := by
  rw [← be_numOf (be k n) k (be_length k n), numOf_be]

set_option maxRecDepth 100000 in
set_option maxHeartbeats 2000000 in
theorem lread_any (p : Nat) (l : List UInt8) (e d : Int) (w : World) (hr : Rd w p l e) (hl : l.length ≤ 9223372036854775807) :
    Calls Try.prog 41 #[.pointer (some ⟨p, 0, none⟩), .int .u8 d] w fun en w' => en = .returned (.int .u64 (numOf (rdText l e (wid d)).1)) ∧ Rd w' p (rdText l e (wid d)).2.1 (rdText l e (wid d)).2.2 ∧ Only p w w' := by
  have HR := Lib.hid hr; clear hr
  by_cases d0 : d = 0
  · subst d0
    have hN0 := (numOf_bd (rdText l e 1).1).1
    have hN1 := numOf_lt (rdText l e 1).1 1 256 (rdText_len _ _ _) (by decide)
    have hw : wid 0 = 1 := by decide
    rw [hw]; clear hw
    go_enter Try.func41, Try.ntmps41
    go_wp2_with (go_at_call 47; refine (U8_any p l e _ HR.out hl).mono ?_; rintro en w' ⟨rfl, hr', ho'⟩)
    go_ret
    exact ⟨rfl, hr', ho'⟩
  by_cases d1 : d = 1
  · subst d1
    have hN0 := (numOf_bd (rdText l e 2).1).1
    have hN1 := numOf_lt (rdText l e 2).1 2 65536 (rdText_len _ _ _) (by decide)
    have hw : wid 1 = 2 := by decide
    rw [hw]; clear hw
    go_enter Try.func41, Try.ntmps41
    go_wp2_with (go_at_call 49; refine (U16_any p l e _ HR.out hl).mono ?_; rintro en w' ⟨rfl, hr', ho'⟩)
    go_ret
    exact ⟨rfl, hr', ho'⟩
  by_cases d2 : d = 2
  · subst d2
    have hN0 := (numOf_bd (rdText l e 4).1).1
    have hN1 := numOf_lt (rdText l e 4).1 4 4294967296 (rdText_len _ _ _) (by decide)
    have hw : wid 2 = 4 := by decide
    rw [hw]; clear hw
    go_enter Try.func41, Try.ntmps41
    go_wp2_with (go_at_call 50; refine (U32_any p l e _ HR.out hl).mono ?_; rintro en w' ⟨rfl, hr', ho'⟩)
    go_ret
    exact ⟨rfl, hr', ho'⟩
  have hw : wid d = 8 := by unfold wid; rw [if_neg d0, if_neg d1, if_neg d2]
  have x0 : (d == 0) = false := by simp [d0]
  have x1 : (d == 1) = false := by simp [d1]
  have x2 : (d == 2) = false := by simp [d2]
  clear d0 d1 d2
  rw [hw]; clear hw
  go_enter Try.func41, Try.ntmps41
  go_wp2_with (go_at_call 51; refine (U64_any p l e _ HR.out hl).mono ?_; rintro en w' ⟨rfl, hr', ho'⟩)
  go_ret
  exact ⟨rfl, hr', ho'⟩

set_option maxRecDepth 100000 in
set_option maxHeartbeats 2000000 in
theorem lput_any (B : Nat) (v : Value) (l : List UInt8) (d n : Int) (w : World) (hB : B ≤ w.heap.size) (hv : Bys w B v l) (hn : 0 ≤ n) (hn2 : n < 18446744073709551616) (hl : l.length ≤ 1000000000000) :
    Calls Try.prog 43 #[v, .agg #[.int .u8 d, .int .u64 n]] w fun e w' => ∃ v', e = .returned v' ∧ Bys w' B v' (l ++ be (wid d) n) ∧ Below B w w' := by
  have HV := Lib.hid hv; clear hv
  by_cases d0 : d = 0
  · subst d0
    have hw : wid 0 = 1 := by decide
    rw [hw]; clear hw
    have hm : IntKind.u8.wrap n = n % 256 := wrap_u8 n hn
    go_enter Try.func43, Try.ntmps43
    go_wp2_with (go_at_call 29; refine (put_uint8 B v l (n % 256) _ (by simp; omega) (HV.out.alloc _) (by omega) (by omega) hl).mono ?_; rintro e w' ⟨v', rfl, ho', hb'⟩)
    go_ret
    rw [show (256 : Int) = 256 ^ 1 by decide, be_mod] at ho'
    exact ⟨_, rfl, ho', ((Below.refl _ _).alloc hB _).trans hb'⟩
  by_cases d1 : d = 1
  · subst d1
    have hw : wid 1 = 2 := by decide
    rw [hw]; clear hw
    have hm : IntKind.u16.wrap n = n % 65536 := wrap_u16 n hn
    go_enter Try.func43, Try.ntmps43
    go_wp2_with (go_at_call 31; refine (put_uint16 B v l (n % 65536) _ (by simp; omega) (HV.out.alloc _) (by omega) (by omega) hl).mono ?_; rintro e w' ⟨v', rfl, ho', hb'⟩)
    go_ret
    rw [show (65536 : Int) = 256 ^ 2 by decide, be_mod] at ho'
    exact ⟨_, rfl, ho', ((Below.refl _ _).alloc hB _).trans hb'⟩
  by_cases d2 : d = 2
  · subst d2
    have hw : wid 2 = 4 := by decide
    rw [hw]; clear hw
    have hm : IntKind.u32.wrap n = n % 4294967296 := wrap_u32 n hn
    go_enter Try.func43, Try.ntmps43
    go_wp2_with (go_at_call 32; refine (put_uint32 B v l (n % 4294967296) _ (by simp; omega) (HV.out.alloc _) (by omega) (by omega) hl).mono ?_; rintro e w' ⟨v', rfl, ho', hb'⟩)
    go_ret
    rw [show (4294967296 : Int) = 256 ^ 4 by decide, be_mod] at ho'
    exact ⟨_, rfl, ho', ((Below.refl _ _).alloc hB _).trans hb'⟩
  have hw : wid d = 8 := by unfold wid; rw [if_neg d0, if_neg d1, if_neg d2]
  have x0 : (d == 0) = false := by simp [d0]
  have x1 : (d == 1) = false := by simp [d1]
  have x2 : (d == 2) = false := by simp [d2]
  clear d0 d1 d2
  rw [hw]; clear hw
  go_enter Try.func43, Try.ntmps43
  go_wp2_with (go_at_call 33; refine (put_uint64 B v l n _ (by simp; omega) (HV.out.alloc _) hn hn2 hl).mono ?_; rintro e w' ⟨v', rfl, ho', hb'⟩)
  go_ret
  exact ⟨_, rfl, ho', ((Below.refl _ _).alloc hB _).trans hb'⟩

/-- The numbers of a width, as a mask. -/
def mostV (d : Int) : Int := 256 ^ wid d - 1
/-- A number of a width. -/
def modV (d n : Int) : Int := n % 256 ^ wid d
set_option maxRecDepth 100000 in
set_option maxHeartbeats 2000000 in
theorem most_any (d : Int) (w : World) :
    Calls Try.prog 45 #[.int .u8 d] w fun e w' => e = .returned (.int .u64 (mostV d)) ∧ w = w' := by
  unfold mostV
  by_cases d0 : d = 0
  · subst d0
    have hw : (256 : Int) ^ wid 0 - 1 = 255 := by decide
    rw [hw]; clear hw
    go_enter Try.func45, Try.ntmps45
    go_wp2
    go_ret
    exact ⟨rfl, rfl⟩
  by_cases d1 : d = 1
  · subst d1
    have hw : (256 : Int) ^ wid 1 - 1 = 65535 := by decide
    rw [hw]; clear hw
    go_enter Try.func45, Try.ntmps45
    go_wp2
    go_ret
    exact ⟨rfl, rfl⟩
  by_cases d2 : d = 2
  · subst d2
    have hw : (256 : Int) ^ wid 2 - 1 = 4294967295 := by decide
    rw [hw]; clear hw
    go_enter Try.func45, Try.ntmps45
    go_wp2
    go_ret
    exact ⟨rfl, rfl⟩
  have hw : (256 : Int) ^ wid d - 1 = 18446744073709551615 := by unfold wid; rw [if_neg d0, if_neg d1, if_neg d2]; decide
  have x0 : (d == 0) = false := by simp [d0]
  have x1 : (d == 1) = false := by simp [d1]
  have x2 : (d == 2) = false := by simp [d2]
  clear d0 d1 d2
  rw [hw]; clear hw
  go_enter Try.func45, Try.ntmps45
  go_wp2
  go_ret
  exact ⟨rfl, rfl⟩
theorem and_most (d n : Int) (h0 : 0 ≤ n) (h1 : n < 18446744073709551616) : bits BinOp.and IntKind.u64 n (mostV d) = modV d n := by
  unfold mostV modV
  obtain ⟨h2, h3⟩ := wid_le d
  obtain ⟨m, rfl⟩ := Int.eq_ofNat_of_zero_le h0
  have e1 : (256 : Int) ^ wid d - 1 = ((2 ^ (8 * wid d) - 1 : Nat) : Int) := by
    have : 1 ≤ 2 ^ (8 * wid d) := Nat.one_le_two_pow
    rw [Int.ofNat_sub this, Nat.pow_mul]
    simp
  have e2 : 2 ^ (8 * wid d) ≤ 2 ^ 64 := Nat.pow_le_pow_right (by decide) (by omega)
  rw [e1, u64_and_nat m _ (by omega) (by have := Nat.one_le_two_pow (n := 8 * wid d); omega), Nat.and_two_pow_sub_one_eq_mod, Nat.pow_mul]
  simp
end Go.Proofs.Ytknahemnmboidaa
