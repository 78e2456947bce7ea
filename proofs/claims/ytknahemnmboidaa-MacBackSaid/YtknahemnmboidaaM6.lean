/- mac: digits. -/
import Derived.Test.YtknahemnmboidaaM5
set_option linter.unusedVariables false
namespace Go.Proofs.Ytknahemnmboidaa
open Go.RowKit

/-- A digit's number; below 0: it is none. -/
def digI (c : Int) : Int := if 48 ≤ c ∧ c ≤ 57 then c - 48 else if 97 ≤ c ∧ c ≤ 102 then c - 97 + 10 else -1
def valV (c : Int) : Value := if 48 ≤ c ∧ c ≤ 57 then .tuple #[.int .u8 (c - 48), .bool true] else if 97 ≤ c ∧ c ≤ 102 then .tuple #[.int .u8 (c - 97 + 10), .bool true] else .tuple #[.int .u8 0, .bool false]

set_option maxRecDepth 100000 in
set_option maxHeartbeats 1000000 in
theorem value_any (c : Int) (w : World) (h0 : 0 ≤ c) (h1 : c < 256) : Calls Try.prog 71 #[.int .u8 c] w fun en w' => en = .returned (valV c) ∧ w = w' := by
  unfold valV
  by_cases ha : 48 ≤ c
  · by_cases hb : c ≤ 57
    · rw [if_pos ⟨ha, hb⟩]
      have d1 : decide (48 ≤ c) = true := by simpa using ha
      have d2 : decide (c ≤ 57) = true := by simpa using hb
      go_enter Try.func71, Try.ntmps71
      go_wp2
      refine bodyPost_ret (v := .tuple #[.int .u8 (c - 48), .bool true]) (by simp [results, Try.results71, go_sem]) rfl ⟨rfl, rfl⟩
    · rw [if_neg (fun h => hb h.2)]
      have d1 : decide (48 ≤ c) = true := by simpa using ha
      have d2 : decide (c ≤ 57) = false := by simpa using hb
      by_cases hc : 97 ≤ c
      · by_cases hd : c ≤ 102
        · rw [if_pos ⟨hc, hd⟩]
          have d3 : decide (97 ≤ c) = true := by simpa using hc
          have d4 : decide (c ≤ 102) = true := by simpa using hd
          go_enter Try.func71, Try.ntmps71
          go_wp2
          refine bodyPost_ret (v := .tuple #[.int .u8 (c - 97 + 10), .bool true]) (by simp [results, Try.results71, go_sem]) rfl ⟨rfl, rfl⟩
        · rw [if_neg (fun h => hd h.2)]
          have d3 : decide (97 ≤ c) = true := by simpa using hc
          have d4 : decide (c ≤ 102) = false := by simpa using hd
          go_enter Try.func71, Try.ntmps71
          go_wp2
          refine bodyPost_ret (v := .tuple #[.int .u8 0, .bool false]) (by simp [results, Try.results71, go_sem]) rfl ⟨rfl, rfl⟩
      · rw [if_neg (fun h => hc h.1)]
        have d3 : decide (97 ≤ c) = false := by simpa using hc
        go_enter Try.func71, Try.ntmps71
        go_wp2
        refine bodyPost_ret (v := .tuple #[.int .u8 0, .bool false]) (by simp [results, Try.results71, go_sem]) rfl ⟨rfl, rfl⟩
  · rw [if_neg (fun h => ha h.1), if_neg (fun h => by omega)]
    have d1 : decide (48 ≤ c) = false := by simpa using ha
    have d3 : decide (97 ≤ c) = false := by simp; omega
    go_enter Try.func71, Try.ntmps71
    go_wp2
    refine bodyPost_ret (v := .tuple #[.int .u8 0, .bool false]) (by simp [results, Try.results71, go_sem]) rfl ⟨rfl, rfl⟩

set_option maxRecDepth 100000 in
set_option maxHeartbeats 4000000 in
theorem refDigit_any (c : Int) (w : World) (h0 : 0 ≤ c) (h1 : c < 256) : Calls Try.prog 72 #[.int .u8 c] w fun en w' => en = .returned (.int .i64 (digI c)) ∧ w = w' := by
  have g0 : ((({ data := #[48, 49, 50, 51, 52, 53, 54, 55, 56, 57, 97, 98, 99, 100, 101, 102] } : ByteArray)[0]'(by decide)).toNat : Int) = 48 := rfl
  have g1 : ((({ data := #[48, 49, 50, 51, 52, 53, 54, 55, 56, 57, 97, 98, 99, 100, 101, 102] } : ByteArray)[1]'(by decide)).toNat : Int) = 49 := rfl
  have g2 : ((({ data := #[48, 49, 50, 51, 52, 53, 54, 55, 56, 57, 97, 98, 99, 100, 101, 102] } : ByteArray)[2]'(by decide)).toNat : Int) = 50 := rfl
  have g3 : ((({ data := #[48, 49, 50, 51, 52, 53, 54, 55, 56, 57, 97, 98, 99, 100, 101, 102] } : ByteArray)[3]'(by decide)).toNat : Int) = 51 := rfl
  have g4 : ((({ data := #[48, 49, 50, 51, 52, 53, 54, 55, 56, 57, 97, 98, 99, 100, 101, 102] } : ByteArray)[4]'(by decide)).toNat : Int) = 52 := rfl
  have g5 : ((({ data := #[48, 49, 50, 51, 52, 53, 54, 55, 56, 57, 97, 98, 99, 100, 101, 102] } : ByteArray)[5]'(by decide)).toNat : Int) = 53 := rfl
  have g6 : ((({ data := #[48, 49, 50, 51, 52, 53, 54, 55, 56, 57, 97, 98, 99, 100, 101, 102] } : ByteArray)[6]'(by decide)).toNat : Int) = 54 := rfl
  have g7 : ((({ data := #[48, 49, 50, 51, 52, 53, 54, 55, 56, 57, 97, 98, 99, 100, 101, 102] } : ByteArray)[7]'(by decide)).toNat : Int) = 55 := rfl
  have g8 : ((({ data := #[48, 49, 50, 51, 52, 53, 54, 55, 56, 57, 97, 98, 99, 100, 101, 102] } : ByteArray)[8]'(by decide)).toNat : Int) = 56 := rfl
  have g9 : ((({ data := #[48, 49, 50, 51, 52, 53, 54, 55, 56, 57, 97, 98, 99, 100, 101, 102] } : ByteArray)[9]'(by decide)).toNat : Int) = 57 := rfl
  have g10 : ((({ data := #[48, 49, 50, 51, 52, 53, 54, 55, 56, 57, 97, 98, 99, 100, 101, 102] } : ByteArray)[10]'(by decide)).toNat : Int) = 97 := rfl
  have g11 : ((({ data := #[48, 49, 50, 51, 52, 53, 54, 55, 56, 57, 97, 98, 99, 100, 101, 102] } : ByteArray)[11]'(by decide)).toNat : Int) = 98 := rfl
  have g12 : ((({ data := #[48, 49, 50, 51, 52, 53, 54, 55, 56, 57, 97, 98, 99, 100, 101, 102] } : ByteArray)[12]'(by decide)).toNat : Int) = 99 := rfl
  have g13 : ((({ data := #[48, 49, 50, 51, 52, 53, 54, 55, 56, 57, 97, 98, 99, 100, 101, 102] } : ByteArray)[13]'(by decide)).toNat : Int) = 100 := rfl
  have g14 : ((({ data := #[48, 49, 50, 51, 52, 53, 54, 55, 56, 57, 97, 98, 99, 100, 101, 102] } : ByteArray)[14]'(by decide)).toNat : Int) = 101 := rfl
  have g15 : ((({ data := #[48, 49, 50, 51, 52, 53, 54, 55, 56, 57, 97, 98, 99, 100, 101, 102] } : ByteArray)[15]'(by decide)).toNat : Int) = 102 := rfl
  go_enter Try.func72, Try.ntmps72
  go_wp2_with fail
  refine wp_loop_rounds 17 ?_
  by_cases e0 : c = 48
  · subst e0
    rw [rounds_succ]
    go_wp2
    go_ret
    exact ⟨rfl, rfl⟩
  have d0 : (48 == c) = false := beq_eq_false_iff_ne.2 (by omega)
  rw [rounds_succ]
  go_wp2
  by_cases e1 : c = 49
  · subst e1
    rw [rounds_succ]
    go_wp2
    go_ret
    exact ⟨rfl, rfl⟩
  have d1 : (49 == c) = false := beq_eq_false_iff_ne.2 (by omega)
  rw [rounds_succ]
  go_wp2
  by_cases e2 : c = 50
  · subst e2
    rw [rounds_succ]
    go_wp2
    go_ret
    exact ⟨rfl, rfl⟩
  have d2 : (50 == c) = false := beq_eq_false_iff_ne.2 (by omega)
  rw [rounds_succ]
  go_wp2
  by_cases e3 : c = 51
  · subst e3
    rw [rounds_succ]
    go_wp2
    go_ret
    exact ⟨rfl, rfl⟩
  have d3 : (51 == c) = false := beq_eq_false_iff_ne.2 (by omega)
  rw [rounds_succ]
  go_wp2
  by_cases e4 : c = 52
  · subst e4
    rw [rounds_succ]
    go_wp2
    go_ret
    exact ⟨rfl, rfl⟩
  have d4 : (52 == c) = false := beq_eq_false_iff_ne.2 (by omega)
  rw [rounds_succ]
  go_wp2
  by_cases e5 : c = 53
  · subst e5
    rw [rounds_succ]
    go_wp2
    go_ret
    exact ⟨rfl, rfl⟩
  have d5 : (53 == c) = false := beq_eq_false_iff_ne.2 (by omega)
  rw [rounds_succ]
  go_wp2
  by_cases e6 : c = 54
  · subst e6
    rw [rounds_succ]
    go_wp2
    go_ret
    exact ⟨rfl, rfl⟩
  have d6 : (54 == c) = false := beq_eq_false_iff_ne.2 (by omega)
  rw [rounds_succ]
  go_wp2
  by_cases e7 : c = 55
  · subst e7
    rw [rounds_succ]
    go_wp2
    go_ret
    exact ⟨rfl, rfl⟩
  have d7 : (55 == c) = false := beq_eq_false_iff_ne.2 (by omega)
  rw [rounds_succ]
  go_wp2
  by_cases e8 : c = 56
  · subst e8
    rw [rounds_succ]
    go_wp2
    go_ret
    exact ⟨rfl, rfl⟩
  have d8 : (56 == c) = false := beq_eq_false_iff_ne.2 (by omega)
  rw [rounds_succ]
  go_wp2
  by_cases e9 : c = 57
  · subst e9
    rw [rounds_succ]
    go_wp2
    go_ret
    exact ⟨rfl, rfl⟩
  have d9 : (57 == c) = false := beq_eq_false_iff_ne.2 (by omega)
  rw [rounds_succ]
  go_wp2
  by_cases e10 : c = 97
  · subst e10
    rw [rounds_succ]
    go_wp2
    go_ret
    exact ⟨rfl, rfl⟩
  have d10 : (97 == c) = false := beq_eq_false_iff_ne.2 (by omega)
  rw [rounds_succ]
  go_wp2
  by_cases e11 : c = 98
  · subst e11
    rw [rounds_succ]
    go_wp2
    go_ret
    exact ⟨rfl, rfl⟩
  have d11 : (98 == c) = false := beq_eq_false_iff_ne.2 (by omega)
  rw [rounds_succ]
  go_wp2
  by_cases e12 : c = 99
  · subst e12
    rw [rounds_succ]
    go_wp2
    go_ret
    exact ⟨rfl, rfl⟩
  have d12 : (99 == c) = false := beq_eq_false_iff_ne.2 (by omega)
  rw [rounds_succ]
  go_wp2
  by_cases e13 : c = 100
  · subst e13
    rw [rounds_succ]
    go_wp2
    go_ret
    exact ⟨rfl, rfl⟩
  have d13 : (100 == c) = false := beq_eq_false_iff_ne.2 (by omega)
  rw [rounds_succ]
  go_wp2
  by_cases e14 : c = 101
  · subst e14
    rw [rounds_succ]
    go_wp2
    go_ret
    exact ⟨rfl, rfl⟩
  have d14 : (101 == c) = false := beq_eq_false_iff_ne.2 (by omega)
  rw [rounds_succ]
  go_wp2
  by_cases e15 : c = 102
  · subst e15
    rw [rounds_succ]
    go_wp2
    go_ret
    exact ⟨rfl, rfl⟩
  have d15 : (102 == c) = false := beq_eq_false_iff_ne.2 (by omega)
  rw [rounds_succ]
  go_wp2
  rw [rounds_succ]
  go_wp2
  go_ret
  exact ⟨by unfold digI; rw [if_neg (by omega), if_neg (by omega)]; rfl, rfl⟩
end Go.Proofs.Ytknahemnmboidaa
