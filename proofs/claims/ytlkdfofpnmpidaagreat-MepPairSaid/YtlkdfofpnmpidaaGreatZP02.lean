/- ZP02: the texts W2, W3, R0 as one. -/
import Derived.Test.YtlkdfofpnmpidaaGreatZP01
import Derived.Deep.RegionHeld3
import Derived.ProofKit
import Derived.OpenShut
import Derived.ShutString
import Derived.Lib.SmallJoins
/- wire: what the reader answers. -/
set_option linter.unusedVariables false
namespace Go.Proofs.YtlkdfofpnmpidaaGreat
open Go.RowKit

/-- The next n bytes; what is left; the error. -/
def rdText (l : List UInt8) (e n : Int) : List UInt8 × List UInt8 × Int :=
  if n ≤ 0 ∨ e ≠ 0 then ([], l, e) else if (l.length : Int) < n then ([], [], 3) else (l.take n.toNat, l.drop n.toNat, e)
set_option maxRecDepth 100000 in
set_option maxHeartbeats 2000000 in
theorem text_any (p : Nat) (l : List UInt8) (e n : Int) (w : World) (hr : Rd w p l e) (hl : l.length ≤ 9223372036854775807) :
    Calls Tryz.prog 91 #[.pointer (some ⟨p, 0, none⟩), .int .i64 n] w fun en w' => en = .returned (.string (bs (rdText l e n).1)) ∧ Rd w' p (rdText l e n).2.1 (rdText l e n).2.2 ∧ Only p w w' := by
  have c0 := hr.c0
  have c1 := hr.c1
  have f0 := hr.f0
  have f1 := hr.f1
  have HR := Lib.hid hr; clear hr
  have hsz := bs_size l
  by_cases hn : n ≤ 0
  · have hv : rdText l e n = ([], l, e) := by unfold rdText; rw [if_pos (.inl hn)]
    rw [hv]; clear hv
    go_enter Tryz.func91, Tryz.ntmps91
    go_wp2
    go_ret
    exact ⟨rfl, HR.out, Only.refl _ _⟩
  by_cases he : e = 0
  · subst he
    by_cases hln : (l.length : Int) < n
    · have hv : rdText l 0 n = ([], [], 3) := by unfold rdText; rw [if_neg (by simp; omega), if_pos hln]
      rw [hv]; clear hv
      go_enter Tryz.func91, Tryz.ntmps91
      go_wp2_with (go_at_call 119; refine (fail_any p l 0 3 _ HR.out).mono ?_; rintro en w' ⟨rfl, hr', ho'⟩)
      go_ret
      exact ⟨rfl, hr', ho'⟩
    · have hv : rdText l 0 n = (l.take n.toNat, l.drop n.toNat, 0) := by unfold rdText; rw [if_neg (by simp; omega), if_neg hln]
      rw [hv]; clear hv
      go_enter Tryz.func91, Tryz.ntmps91
      go_wp2
      go_ret
      refine ⟨?_, ?_, Only.set p w 0 _⟩
      · rw [← bs_take]; rfl
      · rw [bs_drop l n.toNat l.length (by omega)]; exact HR.out.set0 _
  · have hv : rdText l e n = ([], l, e) := by unfold rdText; rw [if_pos (.inr he)]
    have he' : (e != 0) = true := by simp [he]
    rw [hv]; clear hv he
    go_enter Tryz.func91, Tryz.ntmps91
    go_wp2
    go_ret
    exact ⟨rfl, HR.out, Only.refl _ _⟩

set_option maxHeartbeats 1000000 in
theorem left_any (p : Nat) (l : List UInt8) (e : Int) (w : World) (hr : Rd w p l e) (hl : l.length ≤ 9223372036854775807) :
    Calls Tryz.prog 122 #[.pointer (some ⟨p, 0, none⟩)] w fun en w' => en = .returned (.int .i64 l.length) ∧ w = w' := by
  have c0 := hr.c0
  have hsz := bs_size l
  clear hr
  go_enter Tryz.func122, Tryz.ntmps122
  go_wp2
  go_ret
  exact ⟨rfl, rfl⟩
set_option maxHeartbeats 1000000 in
theorem err_any (p : Nat) (l : List UInt8) (e : Int) (w : World) (hr : Rd w p l e) :
    Calls Tryz.prog 94 #[.pointer (some ⟨p, 0, none⟩)] w fun en w' => en = .returned (.int .i64 e) ∧ w = w' := by
  have c1 := hr.c1
  clear hr
  go_enter Tryz.func94, Tryz.ntmps94
  go_wp2
  go_ret
  exact ⟨rfl, rfl⟩
set_option maxHeartbeats 1000000 in
theorem bad_any (p : Nat) (l : List UInt8) (e : Int) (w : World) (hr : Rd w p l e) :
    Calls Tryz.prog 153 #[.pointer (some ⟨p, 0, none⟩)] w fun en w' => en = .returned (.tuple #[]) ∧ Rd w' p (rdFail l e 4).1 (rdFail l e 4).2 ∧ Only p w w' := by
  have HR := Lib.hid hr; clear hr
  go_enter Tryz.func153, Tryz.ntmps153
  go_wp2_with (go_at_call 119; refine (fail_any p l e 4 _ HR.out).mono ?_; rintro en w' ⟨rfl, hr', ho'⟩)
  go_end0
  exact ⟨rfl, hr', ho'⟩
/-- All that is left. -/
def rdRest (l : List UInt8) (e : Int) : List UInt8 × List UInt8 × Int := rdText l e l.length
set_option maxHeartbeats 1000000 in
theorem rest_any (p : Nat) (l : List UInt8) (e : Int) (w : World) (hr : Rd w p l e) (hl : l.length ≤ 9223372036854775807) :
    Calls Tryz.prog 93 #[.pointer (some ⟨p, 0, none⟩)] w fun en w' => en = .returned (.string (bs (rdRest l e).1)) ∧ Rd w' p (rdRest l e).2.1 (rdRest l e).2.2 ∧ Only p w w' := by
  have HR := Lib.hid hr; clear hr
  go_enter Tryz.func93, Tryz.ntmps93
  go_wp2_with (first | (go_at_call 122; refine (left_any p l e _ HR.out hl).mono ?_; rintro en w' ⟨rfl, rfl⟩) | (go_at_call 91; refine (text_any p l e _ _ HR.out hl).mono ?_; rintro en w' ⟨rfl, hr', ho'⟩))
  go_ret
  exact ⟨rfl, hr', ho'⟩
/-- The error, or that bytes are left. -/
def rdEnd (l : List UInt8) (e : Int) : List UInt8 × Int := if 0 < l.length then rdFail l e 4 else (l, e)
set_option maxHeartbeats 1000000 in
theorem end_any (p : Nat) (l : List UInt8) (e : Int) (w : World) (hr : Rd w p l e) (hl : l.length ≤ 9223372036854775807) :
    Calls Tryz.prog 140 #[.pointer (some ⟨p, 0, none⟩)] w fun en w' => en = .returned (.int .i64 (rdEnd l e).2) ∧ Rd w' p (rdEnd l e).1 (rdEnd l e).2 ∧ Only p w w' := by
  have HR := Lib.hid hr; clear hr
  by_cases h0 : 0 < l.length
  · have hv : rdEnd l e = rdFail l e 4 := by unfold rdEnd; rw [if_pos h0]
    rw [hv]; clear hv
    go_enter Tryz.func140, Tryz.ntmps140
    go_wp2_with (first | (go_at_call 122; refine (left_any p l e _ HR.out hl).mono ?_; rintro en w' ⟨rfl, rfl⟩) | (go_at_call 153; refine (bad_any p l e _ HR.out).mono ?_; rintro en w' ⟨rfl, hr', ho'⟩) | (go_at_call 94; refine (err_any p _ _ _ hr').mono ?_; rintro en w' ⟨rfl, rfl⟩))
    go_ret
    exact ⟨rfl, hr', ho'⟩
  · have hv : rdEnd l e = (l, e) := by unfold rdEnd; rw [if_neg h0]
    rw [hv]; clear hv
    go_enter Tryz.func140, Tryz.ntmps140
    go_wp2_with (first | (go_at_call 122; refine (left_any p l e _ HR.out hl).mono ?_; rintro en w' ⟨rfl, rfl⟩) | (go_at_call 94; refine (err_any p l e _ HR.out).mono ?_; rintro en w' ⟨rfl, rfl⟩))
    go_ret
    exact ⟨rfl, HR.out, Only.refl _ _⟩

/-- The number of bytes. -/
def numOf (t : List UInt8) : Int := t.foldl (fun n b => n * 256 + (b.toNat : Int)) 0
theorem numOf_snoc (t : List UInt8) (b : UInt8) : numOf (t ++ [b]) = numOf t * 256 + (b.toNat : Int) := by simp [numOf]
theorem numFrom_bd : ∀ (t : List UInt8) (a : Int), 0 ≤ a → 0 ≤ t.foldl (fun n b => n * 256 + (b.toNat : Int)) a ∧ t.foldl (fun n b => n * 256 + (b.toNat : Int)) a < (a + 1) * 256 ^ t.length
  | [], a, h => by simp; omega
  | b :: t, a, h => by
    have hb := b.toNat_lt
    have ih := numFrom_bd t (a * 256 + (b.toNat : Int)) (by omega)
    simp only [List.foldl_cons, List.length_cons, Int.pow_succ]
    refine ⟨ih.1, Int.lt_of_lt_of_le ih.2 ?_⟩
    have h1 : (0 : Int) ≤ 256 ^ t.length := Int.le_of_lt (Int.pow_pos (by decide))
    have h2 : (a * 256 + (b.toNat : Int) + 1) * 256 ^ t.length ≤ ((a + 1) * 256) * 256 ^ t.length := Int.mul_le_mul_of_nonneg_right (by omega) h1
    rw [Int.mul_comm (256 ^ t.length) 256, ← Int.mul_assoc]
    exact h2
theorem numOf_bd (t : List UInt8) : 0 ≤ numOf t ∧ numOf t < 256 ^ t.length := by
  have := numFrom_bd t 0 (by omega)
  simpa [numOf] using this

theorem numOf_lt (t : List UInt8) (K : Nat) (M : Int) (h : t.length ≤ K) (hM : (256 : Int) ^ K = M) : numOf t < M := by
  have h1 := (numOf_bd t).2
  have h2 : ((256 ^ t.length : Nat) : Int) ≤ ((256 ^ K : Nat) : Int) := Int.ofNat_le.2 (Nat.pow_le_pow_right (by decide) h)
  rw [Int.natCast_pow, Int.natCast_pow] at h2
  rw [← hM]
  exact Int.lt_of_lt_of_le h1 h2
theorem or_byte (x : Int) (b : UInt8) (h0 : 0 ≤ x) (h1 : x < 72057594037927936) : bits BinOp.or IntKind.u64 (x * 256) (IntKind.u64.wrap (b.toNat : Int)) = x * 256 + (b.toNat : Int) := by
  have hb := b.toNat_lt
  have e1 : IntKind.u64.wrap (b.toNat : Int) = (b.toNat : Int) := IntWalk.u64_in _ (by omega)
  rw [e1]
  obtain ⟨n, rfl⟩ := Int.eq_ofNat_of_zero_le h0
  have e2 : bits BinOp.or IntKind.u64 ((n : Int) * 256) (b.toNat : Int) = ((n * 256 ||| b.toNat : Nat) : Int) := by
    have := u64_or ((n : Int) * 256) (b.toNat : Int) (by omega) (by omega) (by omega) (by omega)
    rw [this]
    congr 2
  rw [e2]
  have e3 : n * 256 ||| b.toNat = n * 256 + b.toNat := by
    have := Nat.two_pow_add_eq_or_of_lt (i := 8) (b := b.toNat) (by omega) n
    rw [show n * 256 = 2 ^ 8 * n by omega]
    exact this.symm
  rw [e3]
  simp
theorem numOf_step (t : List UInt8) (k : Nat) (h : k < t.length) (h' : k < (bs t).size) (hK : k ≤ 7) :
    bits BinOp.or IntKind.u64 (numOf (t.take k) * 256) (IntKind.u64.wrap (((bs t)[k]'h').toNat : Int)) = numOf (t.take (k + 1)) := by
  rw [bs_get t k h' h, or_byte _ _ (numOf_bd _).1 (numOf_lt _ 7 _ (by simp; omega) (by decide)), ← numOf_snoc, List.take_append_getElem]
theorem rdText_len (l : List UInt8) (e : Int) (K : Nat) : (rdText l e K).1.length ≤ K := by
  unfold rdText
  repeat' split
  all_goals simp
  omega

set_option maxRecDepth 100000 in
set_option maxHeartbeats 2000000 in
theorem read_uint8 (p : Nat) (l : List UInt8) (e : Int) (w : World) (hr : Rd w p l e) (hl : l.length ≤ 9223372036854775807) :
    Calls Tryz.prog 118 #[.pointer (some ⟨p, 0, none⟩)] w fun en w' => en = .returned (.int .u8 (numOf (rdText l e 1).1)) ∧ Rd w' p (rdText l e 1).2.1 (rdText l e 1).2.2 ∧ Only p w w' := by
  have HR := Lib.hid hr; clear hr
  have hlen : (rdText l e 1).1.length ≤ 1 := rdText_len l e 1
  generalize hrt : rdText l e 1 = rt at *
  obtain ⟨t, l', e'⟩ := rt
  have HT := Lib.hid hrt; clear hrt
  simp only at hlen ⊢
  have hsz : (bs t).size = t.length := bs_size t
  have hN := numOf_lt t 1 256 hlen (by decide)
  have hN0 := (numOf_bd t).1
  go_enter Tryz.func118, Tryz.ntmps118
  go_wp2_with (first | (go_at_call 137; refine (width_uint8 _).mono ?_; rintro en w' ⟨rfl, rfl⟩) | (go_at_call 91; refine (text_any p l e 1 _ HR.out hl).mono ?_; rw [HT.out]; rintro en w' ⟨rfl, hr', ho'⟩))
  go_loop [4, 11] (fun n i => ∃ k : Nat, k ≤ t.length ∧ i = .int .i64 k ∧ n = .int .u64 (numOf (t.take k))) (fun _ i => t.length - (intOf i).toNat)
  case atStart => exact ⟨0, by omega, rfl, rfl⟩
  case round =>
    obtain ⟨k, hk, rfl, rfl⟩ := hrel
    by_cases hlt : k < t.length
    · have hb2 : numOf (t.take k) < 72057594037927936 := numOf_lt _ 7 _ (by simp; omega) (by decide)
      have hb1 := (numOf_bd (t.take k)).1
      go_wp2
      go_round
      case rel => exact ⟨k + 1, by omega, by go_num, by rw [numOf_step t k hlt _ (by omega)]⟩
      case measure => simp [intOf]; omega
    · obtain rfl : k = t.length := by omega
      have HX : Hid (numOf (t.take t.length) = numOf t) := by show _ = _; rw [List.take_length]
      rw [HX.out]
      go_wp2
      go_ret
      exact ⟨rfl, hr', ho'⟩
set_option maxRecDepth 100000 in
set_option maxHeartbeats 2000000 in
theorem read_uint16 (p : Nat) (l : List UInt8) (e : Int) (w : World) (hr : Rd w p l e) (hl : l.length ≤ 9223372036854775807) :
    Calls Tryz.prog 138 #[.pointer (some ⟨p, 0, none⟩)] w fun en w' => en = .returned (.int .u16 (numOf (rdText l e 2).1)) ∧ Rd w' p (rdText l e 2).2.1 (rdText l e 2).2.2 ∧ Only p w w' := by
  have HR := Lib.hid hr; clear hr
  have hlen : (rdText l e 2).1.length ≤ 2 := rdText_len l e 2
  generalize hrt : rdText l e 2 = rt at *
  obtain ⟨t, l', e'⟩ := rt
  have HT := Lib.hid hrt; clear hrt
  simp only at hlen ⊢
  have hsz : (bs t).size = t.length := bs_size t
  have hN := numOf_lt t 2 65536 hlen (by decide)
  have hN0 := (numOf_bd t).1
  go_enter Tryz.func138, Tryz.ntmps138
  go_wp2_with (first | (go_at_call 113; refine (width_uint16 _).mono ?_; rintro en w' ⟨rfl, rfl⟩) | (go_at_call 91; refine (text_any p l e 2 _ HR.out hl).mono ?_; rw [HT.out]; rintro en w' ⟨rfl, hr', ho'⟩))
  go_loop [4, 11] (fun n i => ∃ k : Nat, k ≤ t.length ∧ i = .int .i64 k ∧ n = .int .u64 (numOf (t.take k))) (fun _ i => t.length - (intOf i).toNat)
  case atStart => exact ⟨0, by omega, rfl, rfl⟩
  case round =>
    obtain ⟨k, hk, rfl, rfl⟩ := hrel
    by_cases hlt : k < t.length
    · have hb2 : numOf (t.take k) < 72057594037927936 := numOf_lt _ 7 _ (by simp; omega) (by decide)
      have hb1 := (numOf_bd (t.take k)).1
      go_wp2
      go_round
      case rel => exact ⟨k + 1, by omega, by go_num, by rw [numOf_step t k hlt _ (by omega)]⟩
      case measure => simp [intOf]; omega
    · obtain rfl : k = t.length := by omega
      have HX : Hid (numOf (t.take t.length) = numOf t) := by show _ = _; rw [List.take_length]
      rw [HX.out]
      go_wp2
      go_ret
      exact ⟨rfl, hr', ho'⟩
set_option maxRecDepth 100000 in
set_option maxHeartbeats 2000000 in
theorem read_uint32 (p : Nat) (l : List UInt8) (e : Int) (w : World) (hr : Rd w p l e) (hl : l.length ≤ 9223372036854775807) :
    Calls Tryz.prog 152 #[.pointer (some ⟨p, 0, none⟩)] w fun en w' => en = .returned (.int .u32 (numOf (rdText l e 4).1)) ∧ Rd w' p (rdText l e 4).2.1 (rdText l e 4).2.2 ∧ Only p w w' := by
  have HR := Lib.hid hr; clear hr
  have hlen : (rdText l e 4).1.length ≤ 4 := rdText_len l e 4
  generalize hrt : rdText l e 4 = rt at *
  obtain ⟨t, l', e'⟩ := rt
  have HT := Lib.hid hrt; clear hrt
  simp only at hlen ⊢
  have hsz : (bs t).size = t.length := bs_size t
  have hN := numOf_lt t 4 4294967296 hlen (by decide)
  have hN0 := (numOf_bd t).1
  go_enter Tryz.func152, Tryz.ntmps152
  go_wp2_with (first | (go_at_call 114; refine (width_uint32 _).mono ?_; rintro en w' ⟨rfl, rfl⟩) | (go_at_call 91; refine (text_any p l e 4 _ HR.out hl).mono ?_; rw [HT.out]; rintro en w' ⟨rfl, hr', ho'⟩))
  go_loop [4, 11] (fun n i => ∃ k : Nat, k ≤ t.length ∧ i = .int .i64 k ∧ n = .int .u64 (numOf (t.take k))) (fun _ i => t.length - (intOf i).toNat)
  case atStart => exact ⟨0, by omega, rfl, rfl⟩
  case round =>
    obtain ⟨k, hk, rfl, rfl⟩ := hrel
    by_cases hlt : k < t.length
    · have hb2 : numOf (t.take k) < 72057594037927936 := numOf_lt _ 7 _ (by simp; omega) (by decide)
      have hb1 := (numOf_bd (t.take k)).1
      go_wp2
      go_round
      case rel => exact ⟨k + 1, by omega, by go_num, by rw [numOf_step t k hlt _ (by omega)]⟩
      case measure => simp [intOf]; omega
    · obtain rfl : k = t.length := by omega
      have HX : Hid (numOf (t.take t.length) = numOf t) := by show _ = _; rw [List.take_length]
      rw [HX.out]
      go_wp2
      go_ret
      exact ⟨rfl, hr', ho'⟩
set_option maxHeartbeats 1000000 in
theorem U8_any (p : Nat) (l : List UInt8) (e : Int) (w : World) (hr : Rd w p l e) (hl : l.length ≤ 9223372036854775807) :
    Calls Tryz.prog 90 #[.pointer (some ⟨p, 0, none⟩)] w fun en w' => en = .returned (.int .u8 (numOf (rdText l e 1).1)) ∧ Rd w' p (rdText l e 1).2.1 (rdText l e 1).2.2 ∧ Only p w w' := by
  have HR := Lib.hid hr; clear hr
  go_enter Tryz.func90, Tryz.ntmps90
  go_wp2_with (go_at_call 118; refine (read_uint8 p l e _ HR.out hl).mono ?_; rintro en w' ⟨rfl, hr', ho'⟩)
  go_ret
  exact ⟨rfl, hr', ho'⟩
set_option maxHeartbeats 1000000 in
theorem U16_any (p : Nat) (l : List UInt8) (e : Int) (w : World) (hr : Rd w p l e) (hl : l.length ≤ 9223372036854775807) :
    Calls Tryz.prog 121 #[.pointer (some ⟨p, 0, none⟩)] w fun en w' => en = .returned (.int .u16 (numOf (rdText l e 2).1)) ∧ Rd w' p (rdText l e 2).2.1 (rdText l e 2).2.2 ∧ Only p w w' := by
  have HR := Lib.hid hr; clear hr
  go_enter Tryz.func121, Tryz.ntmps121
  go_wp2_with (go_at_call 138; refine (read_uint16 p l e _ HR.out hl).mono ?_; rintro en w' ⟨rfl, hr', ho'⟩)
  go_ret
  exact ⟨rfl, hr', ho'⟩
set_option maxHeartbeats 1000000 in
theorem U32_any (p : Nat) (l : List UInt8) (e : Int) (w : World) (hr : Rd w p l e) (hl : l.length ≤ 9223372036854775807) :
    Calls Tryz.prog 139 #[.pointer (some ⟨p, 0, none⟩)] w fun en w' => en = .returned (.int .u32 (numOf (rdText l e 4).1)) ∧ Rd w' p (rdText l e 4).2.1 (rdText l e 4).2.2 ∧ Only p w w' := by
  have HR := Lib.hid hr; clear hr
  go_enter Tryz.func139, Tryz.ntmps139
  go_wp2_with (go_at_call 152; refine (read_uint32 p l e _ HR.out hl).mono ?_; rintro en w' ⟨rfl, hr', ho'⟩)
  go_ret
  exact ⟨rfl, hr', ho'⟩
end Go.Proofs.YtlkdfofpnmpidaaGreat

/- wire: the reference's numbers. -/
set_option linter.unusedVariables false
namespace Go.Proofs.YtlkdfofpnmpidaaGreat
open Go.RowKit

/-- The reference's bytes of a number. -/
def numR : Nat → Int → List UInt8
  | 0, _ => []
  | k + 1, n => numR k (n / 256) ++ [UInt8.ofNat (n % 256).toNat]
theorem numR_len : ∀ (k : Nat) (n : Int), (numR k n).length = k
  | 0, _ => rfl
  | k + 1, n => by simp [numR, numR_len k]
theorem numR_be : ∀ (k : Nat) (n : Int), numR k n = be k n
  | 0, _ => rfl
  | k + 1, n => by
    rw [numR, numR_be k, be, be, List.range_succ, List.map_append, List.map_singleton]
    congr 1
    · apply List.map_congr_left
      intro i hi
      have hi' : i < k := List.mem_range.1 hi
      unfold beB
      have e : 8 * (k + 1 - 1 - i) = 8 + 8 * (k - 1 - i) := by omega
      rw [e, Int.pow_add, ← Int.ediv_ediv_of_nonneg (by decide)]
      rfl
    · simp [beB]

set_option maxRecDepth 100000 in
set_option maxHeartbeats 1000000 in
theorem num_any (k : Nat) : ∀ (n : Int) (w : World), 0 ≤ n → n < 18446744073709551616 → k ≤ 8 →
    Calls Tryz.prog 84 #[.int .u64 n, .int .i64 k] w fun e w' => e = .returned (.string (bs (numR k n))) ∧ Below w.heap.size w w' := by
  induction k with
  | zero =>
    intro n w h0 h1 _
    go_enter Tryz.func84, Tryz.ntmps84
    go_wp2_with fail
    go_ret
    exact ⟨rfl, Below.refl _ _⟩
  | succ k ih =>
    intro n w h0 h1 hk
    have IH := Lib.hid ih
    clear ih
    have hk0 : (((k : Int) + 1) == 0) = false := by simp; omega
    have hcast : ((k + 1 : Nat) : Int) = (k : Int) + 1 := by omega
    rw [hcast]
    clear hcast
    have e1 : IntKind.u64.wrap (n.tdiv 256) = n / 256 := by rw [Int.tdiv_eq_ediv_of_nonneg h0]; exact IntWalk.u64_in _ (by omega)
    have e2 : IntKind.i64.wrap (k : Int) = (k : Int) := IntWalk.i64_in _ (by omega)
    have e3 : IntKind.u8.wrap (n.tmod 256) = n % 256 := by rw [Int.tmod_eq_emod_of_nonneg h0]; exact IntWalk.u8_in _ (by omega)
    have e4 : 0 ≤ n % 256 ∧ n % 256 < 256 := by omega
    have b1 : 0 ≤ n / 256 ∧ n / 256 < 18446744073709551616 ∧ k ≤ 8 := by omega
    have B1 := Lib.hid b1
    have hcv := run_string_one (n % 256) e4.1 e4.2
    have hadd := run_add_bs (numR k (n / 256)) [UInt8.ofNat (n % 256).toNat] (by simp [numR_len]; omega)
    have H4 := Lib.hid e4
    clear b1 e4 h0 h1 hk
    go_enter Tryz.func84, Tryz.ntmps84
    go_wp2_with fail
    go_region_with (go_at_call 84; with_reducible refine (IH.out (n / 256) _ B1.out.1 B1.out.2.1 B1.out.2.2).mono ?_; rintro e w' ⟨rfl, hb⟩; have hc := bcell hb)
    all_goals go_wp2
    all_goals go_ret
    all_goals refine ⟨rfl, ?_⟩
    all_goals first
      | exact ((Below.refl w.heap.size w).drew.trans hb).alloc (by have := hb.size; simpa using this) _
      | exact (((Below.refl w.heap.size w).alloc (Nat.le_refl _) _).drew.trans (hb.mono (by simp)))
end Go.Proofs.YtlkdfofpnmpidaaGreat

/- Readers: what an argument of a type is, out of its reading. -/
set_option linter.unusedVariables false
namespace Go.Proofs.YtlkdfofpnmpidaaGreat
open Go.ChangeShapes Go.WideShapes Go.ChangeAt Go.RowKit Go.Joins
open Go.ChangeMaps (open_string shut_string)

section
variable {H : Type} {enc : TypeId × Value → H} {P : Program} {w : World} {r : Reach} {b0 base : Nat} {spare : Nat → Bool} {held : Bool} {t : TypeId} {v : Value} {d : DataW H} {p : List MemPlace}
/-- A struct's or an array's value: its cells. -/
theorem okWide_arr {n : Nat} {e : TypeId} (ht : P.underlying t = some (.array n e)) (h : Value.okWide P w r b0 t v) : ∃ cs, v = .agg cs ∧ cs.size = P.cellsOf t := by
  simp only [Value.okWide, ht] at h
  obtain ⟨cs, h1, h2, _⟩ := h
  exact ⟨cs, h1, h2⟩
/-- A number among cells. -/
theorem trod_int1 {k : IntKind} {n : Nat} {c : Value} {y : Option (DataW H × List MemPlace)} (ht : P.underlying t = some (.int k)) (h : DataW.trod enc P w base spare held n t [c] = y) (hy : y.isSome = true) : ∃ a, c = .int k a ∧ (Lit.int k a).wf = true := by
  obtain ⟨x, rfl⟩ := Option.isSome_iff_exists.1 hy
  obtain ⟨a, h1, _, h2⟩ := DataW.trod_int ht h
  exact ⟨a, by simpa using h1, h2⟩
end
end Go.Proofs.YtlkdfofpnmpidaaGreat
