/- wire: what other packages use of it (out of W6, W9, W10a, M11). -/
import Derived.Test.YtecoomkpkdapdaaW3
import Derived.Test.YtecoomkpkdapdaaK2
set_option linter.unusedVariables false
namespace Go.Proofs.Ytecoomkpkdapdaa
open Go.RowKit

theorem num_be (k : Nat) (n : Int) (w : World) (h0 : 0 ≤ n) (h1 : n < 18446744073709551616) (hk : k ≤ 8) :
    Calls Try.prog 109 #[.int .u64 n, .int .i64 k] w fun e w' => e = .returned (.string (bs (be k n))) ∧ Below w.heap.size w w' := by
  rw [← numR_be]; exact num_any k n w h0 h1 hk
theorem wrap_u8 (n : Int) (h0 : 0 ≤ n) : IntKind.u8.wrap n = n % 256 := by
  rw [← IntWalk.u8_in (n % 256) (by omega)]
  simp [IntKind.wrap, IntKind.signed, IntKind.bits]
theorem wrap_u16 (n : Int) (h0 : 0 ≤ n) : IntKind.u16.wrap n = n % 65536 := by
  rw [← IntWalk.u16_in (n % 65536) (by omega)]
  simp [IntKind.wrap, IntKind.signed, IntKind.bits]
theorem wrap_u32 (n : Int) (h0 : 0 ≤ n) : IntKind.u32.wrap n = n % 4294967296 := by
  rw [← IntWalk.u32_in (n % 4294967296) (by omega)]
  simp [IntKind.wrap, IntKind.signed, IntKind.bits]
theorem emod_step (n m : Int) (hm : 0 < m) : n % (256 * m) = (n / 256 % m) * 256 + n % 256 := by
  have h1 := Int.mul_ediv_add_emod n 256
  have h2 := Int.mul_ediv_add_emod (n / 256) m
  have b1 := Int.emod_nonneg n (show (256 : Int) ≠ 0 by decide)
  have b2 := Int.emod_lt_of_pos n (show (0 : Int) < 256 by decide)
  have b3 := Int.emod_nonneg (n / 256) (show m ≠ 0 by omega)
  have b4 := Int.emod_lt_of_pos (n / 256) hm
  have e : n = (n / 256 % m) * 256 + n % 256 + (256 * m) * (n / 256 / m) := by
    calc n = 256 * (n / 256) + n % 256 := h1.symm
      _ = 256 * (m * (n / 256 / m) + n / 256 % m) + n % 256 := by rw [h2]
      _ = _ := by rw [Int.mul_add, ← Int.mul_assoc]; omega
  have e2 : ((n / 256 % m) * 256 + n % 256 + (256 * m) * (n / 256 / m)) % (256 * m) = ((n / 256 % m) * 256 + n % 256) % (256 * m) := Int.add_mul_emod_self_left _ _ _
  rw [← e] at e2
  rw [e2]
  exact Int.emod_eq_of_lt (by omega) (by omega)
theorem numOf_numR : ∀ (k : Nat) (n : Int), numOf (numR k n) = n % 256 ^ k
  | 0, n => by simp [numR, numOf, Int.emod_one]
  | k + 1, n => by
    have hb : (UInt8.ofNat (n % 256).toNat).toNat = (n % 256).toNat := by simp; omega
    rw [numR, numOf_snoc, numOf_numR k, hb, Int.pow_succ, Int.mul_comm (256 ^ k) 256, emod_step n (256 ^ k) (Int.pow_pos (by decide))]
    omega
theorem numOf_be (k : Nat) (n : Int) : numOf (be k n) = n % 256 ^ k := by rw [← numR_be]; exact numOf_numR k n
theorem numR_numOf : ∀ t : List UInt8, numR t.length (numOf t) = t := by
  intro t
  have key : ∀ r : List UInt8, numR r.length (numOf r.reverse) = r.reverse := by
    intro r
    induction r with
    | nil => rfl
    | cons b r ih =>
      have hb := b.toNat_lt
      have h0 := (numOf_bd r.reverse).1
      rw [List.reverse_cons, List.length_cons, numR, numOf_snoc]
      rw [show (numOf r.reverse * 256 + (b.toNat : Int)) / 256 = numOf r.reverse by omega, ih]
      rw [show (numOf r.reverse * 256 + (b.toNat : Int)) % 256 = (b.toNat : Int) by omega]
      simp
  have := key t.reverse
  simpa using this
theorem be_numOf (t : List UInt8) (k : Nat) (h : t.length = k) : be k (numOf t) = t := by rw [← numR_be, ← h]; exact numR_numOf t
theorem be_mod (k : Nat) (n : Int) : be k (n % 256 ^ k) = be k n := by
  rw [← be_numOf (be k n) k (be_length k n), numOf_be]

theorem rdText_app (a r : List UInt8) (k : Nat) (ha : a.length = k) (hk : 1 ≤ k) : rdText (a ++ r) 0 k = (a, r, 0) := by
  unfold rdText
  rw [if_neg (by simp; omega), if_neg (by simp; omega)]
  subst ha
  simp
theorem rdText_short (a : List UInt8) (k : Nat) (ha : a.length < k) : rdText a 0 k = ([], [], 3) := by
  unfold rdText
  rw [if_neg (by simp; omega), if_pos (by omega)]
theorem bs_beq (a b : List UInt8) : (bs a == bs b) = decide (a = b) := by
  have h : (bs a == bs b) = (a.toArray == b.toArray) := rfl
  rw [h, Bool.eq_iff_iff]; simp
theorem bs_bne (a b : List UInt8) : (bs a != bs b) = decide (a ≠ b) := by
  unfold bne; rw [bs_beq]; simp
theorem bs_tl (l : List UInt8) : (bs l).toList = l := by rw [ByteArray.toList_eq]; simp [bs]
theorem bs_tl_eq (a b : List UInt8) : ((bs a).toList == (bs b).toList) = decide (a = b) := by
  rw [bs_tl, bs_tl, Bool.eq_iff_iff]; simp
/-- A store into a block of the call's own. -/
theorem below_set {B b o : Nat} {w W : World} (h : Below B w W) (hb : B ≤ b) (v : Value) : Below B w (W.setCell ⟨b, o, none⟩ v) := h.setCell (p := ⟨b, o, none⟩) hb v

end Go.Proofs.Ytecoomkpkdapdaa
