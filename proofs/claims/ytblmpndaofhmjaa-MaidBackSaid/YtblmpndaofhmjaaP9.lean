/- maid: the known names, the walks of MaidPuts and MaidTakes. -/
import Derived.Test.YtblmpndaofhmjaaP8
import Derived.Test.YtblmpndaofhmjaaP6
set_option linter.unusedVariables false
namespace Go.Proofs.Ytblmpndaofhmjaa
open Go.RowKit

set_option maxRecDepth 100000 in
set_option maxHeartbeats 4000000 in
theorem wakes10_any (w : World) : Calls Try.prog 15 #[] w fun en w' => en = .returned (.bool true) ∧ Below w.heap.size w w' := by
  obtain ⟨A, hA, sA, cA⟩ : ∃ A, mPut [] [97, 98] = (A, 0) ∧ (bs A).size = 48 ∧ (bs A).extract 0 6 = { data := #[1, 2, 2, 97, 98, 0] } :=
    ⟨padT (mBody [] [97, 98]), by decide, by rw [bs_size]; decide, by rw [bs_extract]; rfl⟩
  obtain ⟨B, hB, sB, cB⟩ : ∃ B, mPut [100] [97] = (B, 0) ∧ (bs B).size = 48 ∧ (bs B).extract 0 7 = { data := #[4, 1, 100, 2, 1, 97, 0] } :=
    ⟨padT (mBody [100] [97]), by decide, by rw [bs_size]; decide, by rw [bs_extract]; rfl⟩
  have C1 : Hid (∀ w, Calls Try.prog 16 #[.string { data := #[] }, .string { data := #[97, 98] }] w fun en w' => en = .returned (.tuple #[.string (bs A), .int .i64 0]) ∧ Below w.heap.size w w') := fun w => by
    have h := put10_any [] [97, 98] w (by simp) (by simp)
    rw [hA] at h; exact h
  have C2 : Hid (∀ w, Calls Try.prog 16 #[.string { data := #[100] }, .string { data := #[97] }] w fun en w' => en = .returned (.tuple #[.string (bs B), .int .i64 0]) ∧ Below w.heap.size w w') := fun w => by
    have h := put10_any [100] [97] w (by simp) (by simp)
    rw [hB] at h; exact h
  have C3 : Hid (∀ w, Calls Try.prog 18 #[.string (bs B)] w fun en w' => en = .returned (.tuple #[.string { data := #[100] }, .string { data := #[97] }, .int .i64 0]) ∧ Below w.heap.size w w') := fun w => by
    have h := take10_any B w (by have := mPut_len hB; omega)
    rw [takeR_of hB] at h; exact h
  clear hA hB
  go_enter Try.func15, Try.ntmps15
  go_wp2_with fail
  with_reducible refine (C1.out _).mono ?_
  rintro en w1 ⟨rfl, hb1⟩
  go_wp2_with fail
  with_reducible refine (C2.out _).mono ?_
  rintro en w2 ⟨rfl, hb2⟩
  go_wp2_with fail
  with_reducible refine (C3.out _).mono ?_
  rintro en w3 ⟨rfl, hb3⟩
  have HB := Lib.hid ((hb1.trans (hb2.mono hb1.size)).trans (hb3.mono (Nat.le_trans hb1.size hb2.size)))
  clear hb1 hb2 hb3
  go_wp2
  go_ret
  exact ⟨rfl, HB.out⟩

set_option maxRecDepth 100000 in
set_option maxHeartbeats 4000000 in
theorem MaidPuts_walk (s t : ByteArray) (w : World) (hs : s.size ≤ maxLen) (ht : t.size ≤ maxLen) : Calls Try.prog 3 #[.string s, .string t] w fun e w' => e = .returned (.bool true) ∧ Below w.heap.size w w' := by
  unfold maxLen at hs ht
  by_cases h1 : 200 < s.size
  · go_enter Try.func3, Try.ntmps3
    go_wp2_with fail
    with_reducible refine (wakes10_any _).mono ?_
    rintro en w' ⟨rfl, hb⟩
    go_wp2
    go_ret
    exact ⟨rfl, hb⟩
  by_cases h2 : 200 < t.size
  · go_enter Try.func3, Try.ntmps3
    go_wp2_with fail
    with_reducible refine (wakes10_any _).mono ?_
    rintro en w' ⟨rfl, hb⟩
    go_wp2
    go_ret
    exact ⟨rfl, hb⟩
  obtain ⟨d, rfl⟩ : ∃ l, s = bs l := ⟨_, bs_of s⟩
  obtain ⟨o, rfl⟩ : ∃ l, t = bs l := ⟨_, bs_of t⟩
  rw [bs_size] at h1 hs h2 ht
  have hsd := bs_size d
  have hso := bs_size o
  obtain ⟨A, e, hP⟩ : ∃ A e, mPut d o = (A, e) := ⟨_, _, rfl⟩
  have C1 : Hid (∀ w, Calls Try.prog 16 #[.string (bs d), .string (bs o)] w fun en w' => en = .returned (.tuple #[.string (bs A), .int .i64 e]) ∧ Below w.heap.size w w') := fun w => by
    have h := put10_any d o w (by omega) (by omega)
    rw [hP] at h; exact h
  have C2 : Hid (∀ w, Calls Try.prog 17 #[.string (bs d), .string (bs o)] w fun en w' => en = .returned (.tuple #[.string (bs A), .int .i64 e]) ∧ Below w.heap.size w w') := fun w => by
    have h := refPut10_any d o w (by omega) (by omega)
    rw [hP] at h; exact h
  clear hP
  go_enter Try.func3, Try.ntmps3
  go_wp2_with fail
  with_reducible refine (C1.out _).mono ?_
  rintro en w1 ⟨rfl, hb1⟩
  go_wp2_with fail
  with_reducible refine (C2.out _).mono ?_
  rintro en w2 ⟨rfl, hb2⟩
  have HB := Lib.hid (hb1.trans (hb2.mono hb1.size))
  clear hb1 hb2
  go_wp2_with fail
  with_reducible refine (wakes10_any _).mono ?_
  rintro en w3 ⟨rfl, hb3⟩
  go_wp2
  go_ret
  exact ⟨rfl, HB.out.trans (hb3.mono HB.out.size)⟩

set_option maxRecDepth 100000 in
set_option maxHeartbeats 4000000 in
theorem MaidTakes_walk (s : ByteArray) (w : World) (hs : s.size ≤ maxLen) : Calls Try.prog 4 #[.string s] w fun e w' => e = .returned (.bool true) ∧ Below w.heap.size w w' := by
  unfold maxLen at hs
  by_cases h1 : 200 < s.size
  · go_enter Try.func4, Try.ntmps4
    go_wp2_with fail
    with_reducible refine (wakes10_any _).mono ?_
    rintro en w' ⟨rfl, hb⟩
    go_wp2
    go_ret
    exact ⟨rfl, hb⟩
  obtain ⟨l, rfl⟩ : ∃ l, s = bs l := ⟨_, bs_of s⟩
  rw [bs_size] at h1 hs
  have hsl := bs_size l
  obtain ⟨d, o, e, hP⟩ : ∃ d o e, takeR l = (d, o, e) := ⟨_, _, _, rfl⟩
  have C1 : Hid (∀ w, Calls Try.prog 18 #[.string (bs l)] w fun en w' => en = .returned (.tuple #[.string (bs d), .string (bs o), .int .i64 e]) ∧ Below w.heap.size w w') := fun w => by
    have h := take10_any l w (by omega)
    rw [hP] at h; exact h
  have C2 : Hid (∀ w, Calls Try.prog 19 #[.string (bs l)] w fun en w' => en = .returned (.tuple #[.string (bs d), .string (bs o), .int .i64 e]) ∧ Below w.heap.size w w') := fun w => by
    have h := refTake10_any l w (by omega)
    rw [hP] at h; exact h
  clear hP
  go_enter Try.func4, Try.ntmps4
  go_wp2_with fail
  with_reducible refine (C1.out _).mono ?_
  rintro en w1 ⟨rfl, hb1⟩
  go_wp2_with fail
  with_reducible refine (C2.out _).mono ?_
  rintro en w2 ⟨rfl, hb2⟩
  have HB := Lib.hid (hb1.trans (hb2.mono hb1.size))
  clear hb1 hb2
  go_wp2_with fail
  with_reducible refine (wakes10_any _).mono ?_
  rintro en w3 ⟨rfl, hb3⟩
  go_wp2
  go_ret
  exact ⟨rfl, HB.out.trans (hb3.mono HB.out.size)⟩
end Go.Proofs.Ytblmpndaofhmjaa
