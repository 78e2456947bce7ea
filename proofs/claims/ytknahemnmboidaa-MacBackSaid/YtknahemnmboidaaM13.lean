/- mac: the walk of MacParses. -/
import Derived.Test.YtknahemnmboidaaM11
set_option linter.unusedVariables false
namespace Go.Proofs.Ytknahemnmboidaa
open Go.RowKit

/-- What a text parses to, by its numbers. -/
theorem prs_form (l : List UInt8) : ∃ (a b c d e f : Int) (q : Bool), prsV l = .tuple #[.agg #[.int .u8 a, .int .u8 b, .int .u8 c, .int .u8 d, .int .u8 e, .int .u8 f], .bool q] ∧ (q = true → txt6 a b c d e f = l ∧ wfM a b c d e f) := by
  by_cases h : okP l = true
  · exact ⟨pm l 0, pm l 1, pm l 2, pm l 3, pm l 4, pm l 5, true, by unfold prsV; rw [if_pos h], fun _ => ⟨okP_text l h, wfM_pm l h⟩⟩
  · exact ⟨0, 0, 0, 0, 0, 0, false, prs_no l (by simpa using h), fun h => by cases h⟩

set_option maxRecDepth 100000 in
set_option maxHeartbeats 4000000 in
theorem MacParses_walk (s : ByteArray) (w : World) (hs : s.size ≤ maxLen) : Calls Try.prog 8 #[.string s] w fun e w' => e = .returned (.bool true) ∧ Below w.heap.size w w' := by
  unfold maxLen at hs
  by_cases h1 : 100 < s.size
  · go_enter Try.func8, Try.ntmps8
    go_wp2_with (go_at_call 27; refine (wakes2_any _).mono ?_; rintro en w' ⟨rfl, hb⟩)
    go_ret
    exact ⟨rfl, hb⟩
  obtain ⟨l, rfl⟩ : ∃ l, s = bs l := ⟨_, bs_of s⟩
  rw [bs_size] at h1 hs
  have hsz := bs_size l
  have heq := run_eql_mac
  have hrf := macEq_refl
  obtain ⟨a, b, c, d, e, f, q, hV, _⟩ := prs_form l
  have HP : Hid (∀ w, Calls Try.prog 38 #[.string (bs l)] w fun en w' => en = .returned (.tuple #[.agg #[.int .u8 a, .int .u8 b, .int .u8 c, .int .u8 d, .int .u8 e, .int .u8 f], .bool q]) ∧ Below w.heap.size w w') := by
    rw [← hV]; exact fun w => parse_any l w (by omega)
  have HR : Hid (∀ w, Calls Try.prog 39 #[.string (bs l)] w fun en w' => en = .returned (.tuple #[.agg #[.int .u8 a, .int .u8 b, .int .u8 c, .int .u8 d, .int .u8 e, .int .u8 f], .bool q]) ∧ Below w.heap.size w w') := by
    rw [← hV]; exact fun w => refParse_any l w
  clear hV
  go_enter Try.func8, Try.ntmps8
  go_wp2_with fail
  refine (HP.out _).mono ?_
  rintro en w1 ⟨rfl, hb1⟩
  go_wp2_with fail
  refine (HR.out _).mono ?_
  rintro en w2 ⟨rfl, hb2⟩
  obtain ⟨hB2, hz2⟩ := MA.put hb1 hb2
  have m0 := ((MA.new w1 a b c d e f).later hb2).later (((Below.refl _ _).alloc (Nat.le_refl _) (.cells #[.int .u8 a, .int .u8 b, .int .u8 c, .int .u8 d, .int .u8 e, .int .u8 f] 34)))
  have m1 := MA.new w2 a b c d e f
  have HB := Lib.hid (hB2.alloc hB2.size (.cells #[.int .u8 a, .int .u8 b, .int .u8 c, .int .u8 d, .int .u8 e, .int .u8 f] 34))
  clear hb1 hb2 hB2
  obtain ⟨c0, c1, c2, c3, c4, c5⟩ := m0
  obtain ⟨d0, d1, d2, d3, d4, d5⟩ := m1
  have hqq : (q == q) = true := by simp
  go_wp2_with fail
  refine (wakes2_any _).mono ?_
  rintro en w3 ⟨rfl, hb3⟩
  go_wp2
  go_ret
  exact ⟨rfl, HB.out.trans (hb3.mono HB.out.size)⟩
end Go.Proofs.Ytknahemnmboidaa
