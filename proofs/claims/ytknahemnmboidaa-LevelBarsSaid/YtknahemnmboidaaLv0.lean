/- Layer 17: contracts of level's functions. -/
import Derived.Test.YtknahemnmboidaaK0
set_option linter.unusedVariables false
namespace Go.Proofs.Ytknahemnmboidaa
open Go.RowKit

/-- Is a level one of a set? -/
def hasB (s l : Int) : Bool := s / 2 ^ l.toNat % 2 == 1
/-- Is a level, or one above it, one of a set? -/
def fromB (s l : Int) : Bool := s / 2 ^ l.toNat != 0

theorem shr_min (s l : Int) (hs : 0 ≤ s) (hs2 : s < 256) : s / 2 ^ min l.toNat 8 = s / 2 ^ l.toNat := by
  by_cases h : l.toNat ≤ 8
  · rw [Nat.min_eq_left h]
  · rw [Nat.min_eq_right (by omega)]
    have e1 : s / 2 ^ 8 = 0 := Int.ediv_eq_zero_of_lt hs (by omega)
    have h2 : (256 : Int) ≤ 2 ^ l.toNat := by
      have : (2 : Int) ^ 8 ≤ 2 ^ l.toNat := by
        have := Nat.pow_le_pow_right (n := 2) (by decide) (show 8 ≤ l.toNat by omega)
        exact_mod_cast this
      omega
    have e2 : s / 2 ^ l.toNat = 0 := Int.ediv_eq_zero_of_lt hs (by omega)
    rw [e1, e2]
theorem shr_lt (s l : Int) (hs : 0 ≤ s) (hs2 : s < 256) : 0 ≤ s / 2 ^ l.toNat ∧ s / 2 ^ l.toNat < 256 := by
  have hp : (0 : Int) < 2 ^ l.toNat := Int.pow_pos (by decide)
  exact ⟨Int.ediv_nonneg hs (by omega), by have := Int.ediv_le_self (2 ^ l.toNat) hs; omega⟩
theorem and_one_u8 (x : Int) (h0 : 0 ≤ x) (h1 : x < 256) : bits .and .u8 x 1 = x % 2 := bits_mask .u8 8 (by decide) wraps_u8 1 (by decide) x h0 h1

set_option maxHeartbeats 400000 in
theorem has_any (s l : Int) (w : World) (hs : 0 ≤ s) (hs2 : s < 256) (hl : 0 ≤ l) (hl2 : l < 256) :
    Calls Try.prog 79 #[.int .u8 s, .int .u8 l] w fun e w' => e = .returned (.bool (hasB s l)) ∧ w = w' := by
  have e1 := shr_min s l hs hs2
  have e2 := shr_lt s l hs hs2
  have e3 := and_one_u8 (s / 2 ^ l.toNat) e2.1 e2.2
  have e4 : hasB s l = (bits .and .u8 (s / 2 ^ min l.toNat 8) 1 == 1) := by rw [e1, e3]; rfl
  clear e1 e2 e3
  have E4 := Lib.hid e4; clear e4
  go_enter Try.func79, Try.ntmps79
  go_wp2
  go_ret
  exact ⟨by rw [E4.out]; rfl, rfl⟩
set_option maxHeartbeats 400000 in
theorem from_any (s l : Int) (w : World) (hs : 0 ≤ s) (hs2 : s < 256) (hl : 0 ≤ l) (hl2 : l < 256) :
    Calls Try.prog 80 #[.int .u8 s, .int .u8 l] w fun e w' => e = .returned (.bool (fromB s l)) ∧ w = w' := by
  have e4 : fromB s l = (s / 2 ^ min l.toNat 8 != 0) := by rw [shr_min s l hs hs2]; rfl
  have E4 := Lib.hid e4; clear e4
  go_enter Try.func80, Try.ntmps80
  go_wp2
  go_ret
  exact ⟨by rw [E4.out]; rfl, rfl⟩
/-- What becomes of a message: 0 Drop, 1 Pass, 2 Take, 3 Middle. -/
def goesV (f o m l : Int) : Int := if 7 < l then 0 else if hasB f l then 2 else if fromB f l || fromB o l then 0 else if m = l then 3 else 1
theorem goesV_r (f o m l : Int) : 0 ≤ goesV f o m l ∧ goesV f o m l ≤ 3 := by
  unfold goesV; repeat' split
  all_goals omega
set_option maxHeartbeats 1000000 in
theorem goes_any (f o m l : Int) (w : World) (hf : 0 ≤ f) (hf2 : f < 256) (ho : 0 ≤ o) (ho2 : o < 256) (hl : 0 ≤ l) (hl2 : l < 256) :
    Calls Try.prog 64 #[.int .u8 f, .int .u8 o, .int .i64 m, .int .u8 l] w fun e w' => e = .returned (.int .u8 (goesV f o m l)) ∧ w = w' := by
  have hmf : ∀ (fn : Fn) (first cap : Array Value) (w : World), (Instr.makeFunc fn first cap).run Try.prog w = .ok (.func fn first cap) w := fun _ _ _ _ => rfl
  by_cases h7 : 7 < l
  · have e : goesV f o m l = 0 := by unfold goesV; rw [if_pos h7]
    have E := Lib.hid e; clear e
    go_enter Try.func64, Try.ntmps64
    go_wp2
    go_ret
    exact ⟨by rw [E.out]; rfl, rfl⟩
  by_cases h1 : hasB f l = true
  · have e : goesV f o m l = 2 := by unfold goesV; rw [if_neg h7, if_pos h1]
    have E := Lib.hid e; clear e
    go_enter Try.func64, Try.ntmps64
    go_wp2_with (go_at_call 79; refine (has_any _ _ _ hf hf2 hl hl2).mono ?_; rintro e w' ⟨rfl, rfl⟩)
    go_ret
    exact ⟨by rw [E.out]; rfl, rfl⟩
  have h1' : hasB f l = false := by simpa using h1
  clear h1
  by_cases h2 : fromB f l = true
  · have e : goesV f o m l = 0 := by unfold goesV; rw [if_neg h7, if_neg (by rw [h1']; decide), if_pos (by rw [h2]; rfl)]
    have E := Lib.hid e; clear e
    go_enter Try.func64, Try.ntmps64
    go_wp2_with (first | (go_at_call 79; refine (has_any _ _ _ hf hf2 hl hl2).mono ?_; rintro e w' ⟨rfl, rfl⟩) | (go_at_call 80; refine (from_any _ _ _ hf hf2 hl hl2).mono ?_; rintro e w' ⟨rfl, rfl⟩))
    go_ret
    exact ⟨by rw [E.out]; rfl, rfl⟩
  have h2' : fromB f l = false := by simpa using h2
  clear h2
  by_cases h3 : fromB o l = true
  · have e : goesV f o m l = 0 := by unfold goesV; rw [if_neg h7, if_neg (by rw [h1']; decide), if_pos (by rw [h2', h3]; rfl)]
    have E := Lib.hid e; clear e
    go_enter Try.func64, Try.ntmps64
    go_wp2_with (first | (go_at_call 79; refine (has_any _ _ _ hf hf2 hl hl2).mono ?_; rintro e w' ⟨rfl, rfl⟩) | (go_at_call_of 80 (Value.int .u8 f); refine (from_any f _ _ hf hf2 hl hl2).mono ?_; rintro e w' ⟨rfl, rfl⟩) | (go_at_call_of 80 (Value.int .u8 o); refine (from_any o _ _ ho ho2 hl hl2).mono ?_; rintro e w' ⟨rfl, rfl⟩))
    go_ret
    exact ⟨by rw [E.out]; rfl, rfl⟩
  have h3' : fromB o l = false := by simpa using h3
  clear h3
  by_cases h4 : m = l
  · have e : goesV f o m l = 3 := by unfold goesV; rw [if_neg h7, if_neg (by rw [h1']; decide), if_neg (by rw [h2', h3']; decide), if_pos h4]
    have E := Lib.hid e; clear e
    have h4' : (m == l) = true := by simp [h4]
    clear h4
    go_enter Try.func64, Try.ntmps64
    go_wp2_with (first | (go_at_call 79; refine (has_any _ _ _ hf hf2 hl hl2).mono ?_; rintro e w' ⟨rfl, rfl⟩) | (go_at_call_of 80 (Value.int .u8 f); refine (from_any f _ _ hf hf2 hl hl2).mono ?_; rintro e w' ⟨rfl, rfl⟩) | (go_at_call_of 80 (Value.int .u8 o); refine (from_any o _ _ ho ho2 hl hl2).mono ?_; rintro e w' ⟨rfl, rfl⟩))
    go_ret
    exact ⟨by rw [E.out]; rfl, rfl⟩
  · have e : goesV f o m l = 1 := by unfold goesV; rw [if_neg h7, if_neg (by rw [h1']; decide), if_neg (by rw [h2', h3']; decide), if_neg h4]
    have E := Lib.hid e; clear e
    have h4' : (m == l) = false := by simp [h4]
    clear h4
    go_enter Try.func64, Try.ntmps64
    go_wp2_with (first | (go_at_call 79; refine (has_any _ _ _ hf hf2 hl hl2).mono ?_; rintro e w' ⟨rfl, rfl⟩) | (go_at_call_of 80 (Value.int .u8 f); refine (from_any f _ _ hf hf2 hl hl2).mono ?_; rintro e w' ⟨rfl, rfl⟩) | (go_at_call_of 80 (Value.int .u8 o); refine (from_any o _ _ ho ho2 hl hl2).mono ?_; rintro e w' ⟨rfl, rfl⟩))
    go_ret
    exact ⟨by rw [E.out]; rfl, rfl⟩
end Go.Proofs.Ytknahemnmboidaa
