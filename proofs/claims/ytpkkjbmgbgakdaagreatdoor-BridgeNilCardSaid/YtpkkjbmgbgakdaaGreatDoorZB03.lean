/- ZB03: the texts W2 as one. -/
import Derived.Test.YtpkkjbmgbgakdaaGreatDoorZB02
/- wire: what the reader answers. -/
set_option linter.unusedVariables false
namespace Go.Proofs.YtpkkjbmgbgakdaaGreatDoor
open Go.RowKit

/-- The next n bytes; what is left; the error. -/
def rdText (l : List UInt8) (e n : Int) : List UInt8 × List UInt8 × Int :=
  if n ≤ 0 ∨ e ≠ 0 then ([], l, e) else if (l.length : Int) < n then ([], [], 3) else (l.take n.toNat, l.drop n.toNat, e)
set_option maxRecDepth 100000 in
set_option maxHeartbeats 2000000 in
theorem text_any (p : Nat) (l : List UInt8) (e n : Int) (w : World) (hr : Rd w p l e) (hl : l.length ≤ 9223372036854775807) :
    Calls Tryz.prog 52 #[.pointer (some ⟨p, 0, none⟩), .int .i64 n] w fun en w' => en = .returned (.string (bs (rdText l e n).1)) ∧ Rd w' p (rdText l e n).2.1 (rdText l e n).2.2 ∧ Only p w w' := by
  have c0 := hr.c0
  have c1 := hr.c1
  have f0 := hr.f0
  have f1 := hr.f1
  have HR := Lib.hid hr; clear hr
  have hsz := bs_size l
  by_cases hn : n ≤ 0
  · have hv : rdText l e n = ([], l, e) := by unfold rdText; rw [if_pos (.inl hn)]
    rw [hv]; clear hv
    go_enter Tryz.func52, Tryz.ntmps52
    go_wp2
    go_ret
    exact ⟨rfl, HR.out, Only.refl _ _⟩
  by_cases he : e = 0
  · subst he
    by_cases hln : (l.length : Int) < n
    · have hv : rdText l 0 n = ([], [], 3) := by unfold rdText; rw [if_neg (by simp; omega), if_pos hln]
      rw [hv]; clear hv
      go_enter Tryz.func52, Tryz.ntmps52
      go_wp2_with (go_at_call 117; refine (fail_any p l 0 3 _ HR.out).mono ?_; rintro en w' ⟨rfl, hr', ho'⟩)
      go_ret
      exact ⟨rfl, hr', ho'⟩
    · have hv : rdText l 0 n = (l.take n.toNat, l.drop n.toNat, 0) := by unfold rdText; rw [if_neg (by simp; omega), if_neg hln]
      rw [hv]; clear hv
      go_enter Tryz.func52, Tryz.ntmps52
      go_wp2
      go_ret
      refine ⟨?_, ?_, Only.set p w 0 _⟩
      · rw [← bs_take]; rfl
      · rw [bs_drop l n.toNat l.length (by omega)]; exact HR.out.set0 _
  · have hv : rdText l e n = ([], l, e) := by unfold rdText; rw [if_pos (.inr he)]
    have he' : (e != 0) = true := by simp [he]
    rw [hv]; clear hv he
    go_enter Tryz.func52, Tryz.ntmps52
    go_wp2
    go_ret
    exact ⟨rfl, HR.out, Only.refl _ _⟩

set_option maxHeartbeats 1000000 in
theorem left_any (p : Nat) (l : List UInt8) (e : Int) (w : World) (hr : Rd w p l e) (hl : l.length ≤ 9223372036854775807) :
    Calls Tryz.prog 119 #[.pointer (some ⟨p, 0, none⟩)] w fun en w' => en = .returned (.int .i64 l.length) ∧ w = w' := by
  have c0 := hr.c0
  have hsz := bs_size l
  clear hr
  go_enter Tryz.func119, Tryz.ntmps119
  go_wp2
  go_ret
  exact ⟨rfl, rfl⟩
set_option maxHeartbeats 1000000 in
theorem err_any (p : Nat) (l : List UInt8) (e : Int) (w : World) (hr : Rd w p l e) :
    Calls Tryz.prog 56 #[.pointer (some ⟨p, 0, none⟩)] w fun en w' => en = .returned (.int .i64 e) ∧ w = w' := by
  have c1 := hr.c1
  clear hr
  go_enter Tryz.func56, Tryz.ntmps56
  go_wp2
  go_ret
  exact ⟨rfl, rfl⟩
set_option maxHeartbeats 1000000 in
theorem bad_any (p : Nat) (l : List UInt8) (e : Int) (w : World) (hr : Rd w p l e) :
    Calls Tryz.prog 54 #[.pointer (some ⟨p, 0, none⟩)] w fun en w' => en = .returned (.tuple #[]) ∧ Rd w' p (rdFail l e 4).1 (rdFail l e 4).2 ∧ Only p w w' := by
  have HR := Lib.hid hr; clear hr
  go_enter Tryz.func54, Tryz.ntmps54
  go_wp2_with (go_at_call 117; refine (fail_any p l e 4 _ HR.out).mono ?_; rintro en w' ⟨rfl, hr', ho'⟩)
  go_end0
  exact ⟨rfl, hr', ho'⟩
/-- All that is left. -/
def rdRest (l : List UInt8) (e : Int) : List UInt8 × List UInt8 × Int := rdText l e l.length
set_option maxHeartbeats 1000000 in
theorem rest_any (p : Nat) (l : List UInt8) (e : Int) (w : World) (hr : Rd w p l e) (hl : l.length ≤ 9223372036854775807) :
    Calls Tryz.prog 55 #[.pointer (some ⟨p, 0, none⟩)] w fun en w' => en = .returned (.string (bs (rdRest l e).1)) ∧ Rd w' p (rdRest l e).2.1 (rdRest l e).2.2 ∧ Only p w w' := by
  have HR := Lib.hid hr; clear hr
  go_enter Tryz.func55, Tryz.ntmps55
  go_wp2_with (first | (go_at_call 119; refine (left_any p l e _ HR.out hl).mono ?_; rintro en w' ⟨rfl, rfl⟩) | (go_at_call 52; refine (text_any p l e _ _ HR.out hl).mono ?_; rintro en w' ⟨rfl, hr', ho'⟩))
  go_ret
  exact ⟨rfl, hr', ho'⟩
/-- The error, or that bytes are left. -/
def rdEnd (l : List UInt8) (e : Int) : List UInt8 × Int := if 0 < l.length then rdFail l e 4 else (l, e)
set_option maxHeartbeats 1000000 in
theorem end_any (p : Nat) (l : List UInt8) (e : Int) (w : World) (hr : Rd w p l e) (hl : l.length ≤ 9223372036854775807) :
    Calls Tryz.prog 267 #[.pointer (some ⟨p, 0, none⟩)] w fun en w' => en = .returned (.int .i64 (rdEnd l e).2) ∧ Rd w' p (rdEnd l e).1 (rdEnd l e).2 ∧ Only p w w' := by
  have HR := Lib.hid hr; clear hr
  by_cases h0 : 0 < l.length
  · have hv : rdEnd l e = rdFail l e 4 := by unfold rdEnd; rw [if_pos h0]
    rw [hv]; clear hv
    go_enter Tryz.func267, Tryz.ntmps267
    go_wp2_with (first | (go_at_call 119; refine (left_any p l e _ HR.out hl).mono ?_; rintro en w' ⟨rfl, rfl⟩) | (go_at_call 54; refine (bad_any p l e _ HR.out).mono ?_; rintro en w' ⟨rfl, hr', ho'⟩) | (go_at_call 56; refine (err_any p _ _ _ hr').mono ?_; rintro en w' ⟨rfl, rfl⟩))
    go_ret
    exact ⟨rfl, hr', ho'⟩
  · have hv : rdEnd l e = (l, e) := by unfold rdEnd; rw [if_neg h0]
    rw [hv]; clear hv
    go_enter Tryz.func267, Tryz.ntmps267
    go_wp2_with (first | (go_at_call 119; refine (left_any p l e _ HR.out hl).mono ?_; rintro en w' ⟨rfl, rfl⟩) | (go_at_call 56; refine (err_any p l e _ HR.out).mono ?_; rintro en w' ⟨rfl, rfl⟩))
    go_ret
    exact ⟨rfl, HR.out, Only.refl _ _⟩

/-- The number of bytes. -/
def numOf (t : List UInt8) : Int := t.foldl (fun n b => n * 256 + (b.toNat : Int)) 0
theorem numOf_snoc (t : List UInt8) (b : UInt8) : numOf (t ++ [b]) = numOf t * 256 + (b.toNat : Int) := by simp [numOf]
theorem numFrom_bd : ∀ (t : List UInt8) (a : Int), 0 ≤ a → 0 ≤ t.foldl (fun n b => n * 256 + (b.toNat : Int)) a ∧ t.foldl (fun n b => n * 256 + (b.toNat : Int)) a < (a + 1) * 256 ^ t.length
  | [], a, h => by simp; omega
  | b :: t, a, h => by
    have hb := b.toNat_lt
    have ih := numFrom_bd t (a * 256 + (b.toNat : Int)) (by omega)
    simp only [List.foldl_cons, List.length_cons, Int.pow_succ]
    refine ⟨ih.1, Int.lt_of_lt_of_le ih.2 ?_⟩
    have h1 : (0 : Int) ≤ 256 ^ t.length := Int.le_of_lt (Int.pow_pos (by decide))
    have h2 : (a * 256 + (b.toNat : Int) + 1) * 256 ^ t.length ≤ ((a + 1) * 256) * 256 ^ t.length := Int.mul_le_mul_of_nonneg_right (by omega) h1
    rw [Int.mul_comm (256 ^ t.length) 256, ← Int.mul_assoc]
    exact h2
theorem numOf_bd (t : List UInt8) : 0 ≤ numOf t ∧ numOf t < 256 ^ t.length := by
  have := numFrom_bd t 0 (by omega)
  simpa [numOf] using this

theorem numOf_lt (t : List UInt8) (K : Nat) (M : Int) (h : t.length ≤ K) (hM : (256 : Int) ^ K = M) : numOf t < M := by
  have h1 := (numOf_bd t).2
  have h2 : ((256 ^ t.length : Nat) : Int) ≤ ((256 ^ K : Nat) : Int) := Int.ofNat_le.2 (Nat.pow_le_pow_right (by decide) h)
  rw [Int.natCast_pow, Int.natCast_pow] at h2
  rw [← hM]
  exact Int.lt_of_lt_of_le h1 h2
theorem or_byte (x : Int) (b : UInt8) (h0 : 0 ≤ x) (h1 : x < 72057594037927936) : bits BinOp.or IntKind.u64 (x * 256) (IntKind.u64.wrap (b.toNat : Int)) = x * 256 + (b.toNat : Int) := by
  have hb := b.toNat_lt
  have e1 : IntKind.u64.wrap (b.toNat : Int) = (b.toNat : Int) := IntWalk.u64_in _ (by omega)
  rw [e1]
  obtain ⟨n, rfl⟩ := Int.eq_ofNat_of_zero_le h0
  have e2 : bits BinOp.or IntKind.u64 ((n : Int) * 256) (b.toNat : Int) = ((n * 256 ||| b.toNat : Nat) : Int) := by
    have := u64_or ((n : Int) * 256) (b.toNat : Int) (by omega) (by omega) (by omega) (by omega)
    rw [this]
    congr 2
  rw [e2]
  have e3 : n * 256 ||| b.toNat = n * 256 + b.toNat := by
    have := Nat.two_pow_add_eq_or_of_lt (i := 8) (b := b.toNat) (by omega) n
    rw [show n * 256 = 2 ^ 8 * n by omega]
    exact this.symm
  rw [e3]
  simp
theorem numOf_step (t : List UInt8) (k : Nat) (h : k < t.length) (h' : k < (bs t).size) (hK : k ≤ 7) :
    bits BinOp.or IntKind.u64 (numOf (t.take k) * 256) (IntKind.u64.wrap (((bs t)[k]'h').toNat : Int)) = numOf (t.take (k + 1)) := by
  rw [bs_get t k h' h, or_byte _ _ (numOf_bd _).1 (numOf_lt _ 7 _ (by simp; omega) (by decide)), ← numOf_snoc, List.take_append_getElem]
theorem rdText_len (l : List UInt8) (e : Int) (K : Nat) : (rdText l e K).1.length ≤ K := by
  unfold rdText
  repeat' split
  all_goals simp
  omega

set_option maxRecDepth 100000 in
set_option maxHeartbeats 2000000 in
theorem read_uint8 (p : Nat) (l : List UInt8) (e : Int) (w : World) (hr : Rd w p l e) (hl : l.length ≤ 9223372036854775807) :
    Calls Tryz.prog 226 #[.pointer (some ⟨p, 0, none⟩)] w fun en w' => en = .returned (.int .u8 (numOf (rdText l e 1).1)) ∧ Rd w' p (rdText l e 1).2.1 (rdText l e 1).2.2 ∧ Only p w w' := by
  have HR := Lib.hid hr; clear hr
  have hlen : (rdText l e 1).1.length ≤ 1 := rdText_len l e 1
  generalize hrt : rdText l e 1 = rt at *
  obtain ⟨t, l', e'⟩ := rt
  have HT := Lib.hid hrt; clear hrt
  simp only at hlen ⊢
  have hsz : (bs t).size = t.length := bs_size t
  have hN := numOf_lt t 1 256 hlen (by decide)
  have hN0 := (numOf_bd t).1
  go_enter Tryz.func226, Tryz.ntmps226
  go_wp2_with (first | (go_at_call 254; refine (width_uint8 _).mono ?_; rintro en w' ⟨rfl, rfl⟩) | (go_at_call 52; refine (text_any p l e 1 _ HR.out hl).mono ?_; rw [HT.out]; rintro en w' ⟨rfl, hr', ho'⟩))
  go_loop [4, 11] (fun n i => ∃ k : Nat, k ≤ t.length ∧ i = .int .i64 k ∧ n = .int .u64 (numOf (t.take k))) (fun _ i => t.length - (intOf i).toNat)
  case atStart => exact ⟨0, by omega, rfl, rfl⟩
  case round =>
    obtain ⟨k, hk, rfl, rfl⟩ := hrel
    by_cases hlt : k < t.length
    · have hb2 : numOf (t.take k) < 72057594037927936 := numOf_lt _ 7 _ (by simp; omega) (by decide)
      have hb1 := (numOf_bd (t.take k)).1
      go_wp2
      go_round
      case rel => exact ⟨k + 1, by omega, by go_num, by rw [numOf_step t k hlt _ (by omega)]⟩
      case measure => simp [intOf]; omega
    · obtain rfl : k = t.length := by omega
      have HX : Hid (numOf (t.take t.length) = numOf t) := by show _ = _; rw [List.take_length]
      rw [HX.out]
      go_wp2
      go_ret
      exact ⟨rfl, hr', ho'⟩
set_option maxRecDepth 100000 in
set_option maxHeartbeats 2000000 in
theorem read_uint16 (p : Nat) (l : List UInt8) (e : Int) (w : World) (hr : Rd w p l e) (hl : l.length ≤ 9223372036854775807) :
    Calls Tryz.prog 118 #[.pointer (some ⟨p, 0, none⟩)] w fun en w' => en = .returned (.int .u16 (numOf (rdText l e 2).1)) ∧ Rd w' p (rdText l e 2).2.1 (rdText l e 2).2.2 ∧ Only p w w' := by
  have HR := Lib.hid hr; clear hr
  have hlen : (rdText l e 2).1.length ≤ 2 := rdText_len l e 2
  generalize hrt : rdText l e 2 = rt at *
  obtain ⟨t, l', e'⟩ := rt
  have HT := Lib.hid hrt; clear hrt
  simp only at hlen ⊢
  have hsz : (bs t).size = t.length := bs_size t
  have hN := numOf_lt t 2 65536 hlen (by decide)
  have hN0 := (numOf_bd t).1
  go_enter Tryz.func118, Tryz.ntmps118
  go_wp2_with (first | (go_at_call 174; refine (width_uint16 _).mono ?_; rintro en w' ⟨rfl, rfl⟩) | (go_at_call 52; refine (text_any p l e 2 _ HR.out hl).mono ?_; rw [HT.out]; rintro en w' ⟨rfl, hr', ho'⟩))
  go_loop [4, 11] (fun n i => ∃ k : Nat, k ≤ t.length ∧ i = .int .i64 k ∧ n = .int .u64 (numOf (t.take k))) (fun _ i => t.length - (intOf i).toNat)
  case atStart => exact ⟨0, by omega, rfl, rfl⟩
  case round =>
    obtain ⟨k, hk, rfl, rfl⟩ := hrel
    by_cases hlt : k < t.length
    · have hb2 : numOf (t.take k) < 72057594037927936 := numOf_lt _ 7 _ (by simp; omega) (by decide)
      have hb1 := (numOf_bd (t.take k)).1
      go_wp2
      go_round
      case rel => exact ⟨k + 1, by omega, by go_num, by rw [numOf_step t k hlt _ (by omega)]⟩
      case measure => simp [intOf]; omega
    · obtain rfl : k = t.length := by omega
      have HX : Hid (numOf (t.take t.length) = numOf t) := by show _ = _; rw [List.take_length]
      rw [HX.out]
      go_wp2
      go_ret
      exact ⟨rfl, hr', ho'⟩
set_option maxRecDepth 100000 in
set_option maxHeartbeats 2000000 in
theorem read_uint32 (p : Nat) (l : List UInt8) (e : Int) (w : World) (hr : Rd w p l e) (hl : l.length ≤ 9223372036854775807) :
    Calls Tryz.prog 228 #[.pointer (some ⟨p, 0, none⟩)] w fun en w' => en = .returned (.int .u32 (numOf (rdText l e 4).1)) ∧ Rd w' p (rdText l e 4).2.1 (rdText l e 4).2.2 ∧ Only p w w' := by
  have HR := Lib.hid hr; clear hr
  have hlen : (rdText l e 4).1.length ≤ 4 := rdText_len l e 4
  generalize hrt : rdText l e 4 = rt at *
  obtain ⟨t, l', e'⟩ := rt
  have HT := Lib.hid hrt; clear hrt
  simp only at hlen ⊢
  have hsz : (bs t).size = t.length := bs_size t
  have hN := numOf_lt t 4 4294967296 hlen (by decide)
  have hN0 := (numOf_bd t).1
  go_enter Tryz.func228, Tryz.ntmps228
  go_wp2_with (first | (go_at_call 197; refine (width_uint32 _).mono ?_; rintro en w' ⟨rfl, rfl⟩) | (go_at_call 52; refine (text_any p l e 4 _ HR.out hl).mono ?_; rw [HT.out]; rintro en w' ⟨rfl, hr', ho'⟩))
  go_loop [4, 11] (fun n i => ∃ k : Nat, k ≤ t.length ∧ i = .int .i64 k ∧ n = .int .u64 (numOf (t.take k))) (fun _ i => t.length - (intOf i).toNat)
  case atStart => exact ⟨0, by omega, rfl, rfl⟩
  case round =>
    obtain ⟨k, hk, rfl, rfl⟩ := hrel
    by_cases hlt : k < t.length
    · have hb2 : numOf (t.take k) < 72057594037927936 := numOf_lt _ 7 _ (by simp; omega) (by decide)
      have hb1 := (numOf_bd (t.take k)).1
      go_wp2
      go_round
      case rel => exact ⟨k + 1, by omega, by go_num, by rw [numOf_step t k hlt _ (by omega)]⟩
      case measure => simp [intOf]; omega
    · obtain rfl : k = t.length := by omega
      have HX : Hid (numOf (t.take t.length) = numOf t) := by show _ = _; rw [List.take_length]
      rw [HX.out]
      go_wp2
      go_ret
      exact ⟨rfl, hr', ho'⟩
set_option maxRecDepth 100000 in
set_option maxHeartbeats 2000000 in
theorem read_uint64 (p : Nat) (l : List UInt8) (e : Int) (w : World) (hr : Rd w p l e) (hl : l.length ≤ 9223372036854775807) :
    Calls Tryz.prog 227 #[.pointer (some ⟨p, 0, none⟩)] w fun en w' => en = .returned (.int .u64 (numOf (rdText l e 8).1)) ∧ Rd w' p (rdText l e 8).2.1 (rdText l e 8).2.2 ∧ Only p w w' := by
  have HR := Lib.hid hr; clear hr
  have hlen : (rdText l e 8).1.length ≤ 8 := rdText_len l e 8
  generalize hrt : rdText l e 8 = rt at *
  obtain ⟨t, l', e'⟩ := rt
  have HT := Lib.hid hrt; clear hrt
  simp only at hlen ⊢
  have hsz : (bs t).size = t.length := bs_size t
  have hN := numOf_lt t 8 18446744073709551616 hlen (by decide)
  have hN0 := (numOf_bd t).1
  go_enter Tryz.func227, Tryz.ntmps227
  go_wp2_with (first | (go_at_call 138; refine (width_uint64 _).mono ?_; rintro en w' ⟨rfl, rfl⟩) | (go_at_call 52; refine (text_any p l e 8 _ HR.out hl).mono ?_; rw [HT.out]; rintro en w' ⟨rfl, hr', ho'⟩))
  go_loop [4, 11] (fun n i => ∃ k : Nat, k ≤ t.length ∧ i = .int .i64 k ∧ n = .int .u64 (numOf (t.take k))) (fun _ i => t.length - (intOf i).toNat)
  case atStart => exact ⟨0, by omega, rfl, rfl⟩
  case round =>
    obtain ⟨k, hk, rfl, rfl⟩ := hrel
    by_cases hlt : k < t.length
    · have hb2 : numOf (t.take k) < 72057594037927936 := numOf_lt _ 7 _ (by simp; omega) (by decide)
      have hb1 := (numOf_bd (t.take k)).1
      go_wp2
      go_round
      case rel => exact ⟨k + 1, by omega, by go_num, by rw [numOf_step t k hlt _ (by omega)]⟩
      case measure => simp [intOf]; omega
    · obtain rfl : k = t.length := by omega
      have HX : Hid (numOf (t.take t.length) = numOf t) := by show _ = _; rw [List.take_length]
      rw [HX.out]
      go_wp2
      go_ret
      exact ⟨rfl, hr', ho'⟩
set_option maxHeartbeats 1000000 in
theorem U8_any (p : Nat) (l : List UInt8) (e : Int) (w : World) (hr : Rd w p l e) (hl : l.length ≤ 9223372036854775807) :
    Calls Tryz.prog 179 #[.pointer (some ⟨p, 0, none⟩)] w fun en w' => en = .returned (.int .u8 (numOf (rdText l e 1).1)) ∧ Rd w' p (rdText l e 1).2.1 (rdText l e 1).2.2 ∧ Only p w w' := by
  have HR := Lib.hid hr; clear hr
  go_enter Tryz.func179, Tryz.ntmps179
  go_wp2_with (go_at_call 226; refine (read_uint8 p l e _ HR.out hl).mono ?_; rintro en w' ⟨rfl, hr', ho'⟩)
  go_ret
  exact ⟨rfl, hr', ho'⟩
set_option maxHeartbeats 1000000 in
theorem U16_any (p : Nat) (l : List UInt8) (e : Int) (w : World) (hr : Rd w p l e) (hl : l.length ≤ 9223372036854775807) :
    Calls Tryz.prog 53 #[.pointer (some ⟨p, 0, none⟩)] w fun en w' => en = .returned (.int .u16 (numOf (rdText l e 2).1)) ∧ Rd w' p (rdText l e 2).2.1 (rdText l e 2).2.2 ∧ Only p w w' := by
  have HR := Lib.hid hr; clear hr
  go_enter Tryz.func53, Tryz.ntmps53
  go_wp2_with (go_at_call 118; refine (read_uint16 p l e _ HR.out hl).mono ?_; rintro en w' ⟨rfl, hr', ho'⟩)
  go_ret
  exact ⟨rfl, hr', ho'⟩
set_option maxHeartbeats 1000000 in
theorem U32_any (p : Nat) (l : List UInt8) (e : Int) (w : World) (hr : Rd w p l e) (hl : l.length ≤ 9223372036854775807) :
    Calls Tryz.prog 181 #[.pointer (some ⟨p, 0, none⟩)] w fun en w' => en = .returned (.int .u32 (numOf (rdText l e 4).1)) ∧ Rd w' p (rdText l e 4).2.1 (rdText l e 4).2.2 ∧ Only p w w' := by
  have HR := Lib.hid hr; clear hr
  go_enter Tryz.func181, Tryz.ntmps181
  go_wp2_with (go_at_call 228; refine (read_uint32 p l e _ HR.out hl).mono ?_; rintro en w' ⟨rfl, hr', ho'⟩)
  go_ret
  exact ⟨rfl, hr', ho'⟩
set_option maxHeartbeats 1000000 in
theorem U64_any (p : Nat) (l : List UInt8) (e : Int) (w : World) (hr : Rd w p l e) (hl : l.length ≤ 9223372036854775807) :
    Calls Tryz.prog 180 #[.pointer (some ⟨p, 0, none⟩)] w fun en w' => en = .returned (.int .u64 (numOf (rdText l e 8).1)) ∧ Rd w' p (rdText l e 8).2.1 (rdText l e 8).2.2 ∧ Only p w w' := by
  have HR := Lib.hid hr; clear hr
  go_enter Tryz.func180, Tryz.ntmps180
  go_wp2_with (go_at_call 227; refine (read_uint64 p l e _ HR.out hl).mono ?_; rintro en w' ⟨rfl, hr', ho'⟩)
  go_ret
  exact ⟨rfl, hr', ho'⟩
end Go.Proofs.YtpkkjbmgbgakdaaGreatDoor
