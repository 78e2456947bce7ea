/- mac: the known addresses, the walk of MacLevels. -/
import Derived.Test.YtknahemnmboidaaM1
set_option linter.unusedVariables false
namespace Go.Proofs.Ytknahemnmboidaa
open Go.RowKit

/-- An address in a block. -/
def MA (W : World) (p : Nat) (a b c d e f : Int) : Prop := W.cell? ⟨p, 0, none⟩ = some (.int .u8 a) ∧ W.cell? ⟨p, 1, none⟩ = some (.int .u8 b) ∧ W.cell? ⟨p, 2, none⟩ = some (.int .u8 c) ∧ W.cell? ⟨p, 3, none⟩ = some (.int .u8 d) ∧ W.cell? ⟨p, 4, none⟩ = some (.int .u8 e) ∧ W.cell? ⟨p, 5, none⟩ = some (.int .u8 f)
theorem MA.later {W W' : World} {p : Nat} {a b c d e f : Int} (h : MA W p a b c d e f) (hb : Below W.heap.size W W') : MA W' p a b c d e f :=
  have k : Later W := ⟨W', hb⟩
  ⟨Later.cell h.1 ⟨W', hb⟩, Later.cell h.2.1 ⟨W', hb⟩, Later.cell h.2.2.1 ⟨W', hb⟩, Later.cell h.2.2.2.1 ⟨W', hb⟩, Later.cell h.2.2.2.2.1 ⟨W', hb⟩, Later.cell h.2.2.2.2.2 ⟨W', hb⟩⟩
theorem MA.held {W : World} {p : Nat} {a b c d e f : Int} (h : MA W p a b c d e f) : (∀ k : Later W, k.out.cell? ⟨p, 0, none⟩ = some (.int .u8 a)) ∧ (∀ k : Later W, k.out.cell? ⟨p, 1, none⟩ = some (.int .u8 b)) ∧ (∀ k : Later W, k.out.cell? ⟨p, 2, none⟩ = some (.int .u8 c)) ∧ (∀ k : Later W, k.out.cell? ⟨p, 3, none⟩ = some (.int .u8 d)) ∧ (∀ k : Later W, k.out.cell? ⟨p, 4, none⟩ = some (.int .u8 e)) ∧ (∀ k : Later W, k.out.cell? ⟨p, 5, none⟩ = some (.int .u8 f)) :=
  ⟨Later.cell h.1, Later.cell h.2.1, Later.cell h.2.2.1, Later.cell h.2.2.2.1, Later.cell h.2.2.2.2.1, Later.cell h.2.2.2.2.2⟩
theorem MA.new (W : World) (a b c d e f : Int) : MA (W.alloc (.cells #[.int .u8 a, .int .u8 b, .int .u8 c, .int .u8 d, .int .u8 e, .int .u8 f] 34)) W.heap.size a b c d e f := by
  refine ⟨?_, ?_, ?_, ?_, ?_, ?_⟩ <;> simp [go_sem]
/-- What a call leaves behind a new address. -/
theorem MA.put {w W W' : World} {x : Obj} (hB : Below w.heap.size w W) (h : Below (W.alloc x).heap.size (W.alloc x) W') : Below w.heap.size w W' ∧ W.heap.size < W'.heap.size := by
  have h1 := hB.size
  have h2 := h.size
  simp at h2
  exact ⟨(hB.alloc h1 x).trans (h.mono (by simp; omega)), by omega⟩

theorem Check_in (l : Int) (h0 : 0 ≤ l) (h1 : l < 8) (w : World) : Calls Try.prog 21 #[.int .u8 l] w fun en w' => en = .returned (.tuple #[.agg #[.int .u8 1, .int .u8 128, .int .u8 194, .int .u8 0, .int .u8 0, .int .u8 (48 + l)], .bool true]) ∧ Below w.heap.size w w' := by
  have h := Check_any l w h0 (by omega)
  unfold grpV at h
  rw [if_neg (by omega)] at h
  exact h
theorem Trace_in (l : Int) (h0 : 0 ≤ l) (h1 : l < 8) (w : World) : Calls Try.prog 22 #[.int .u8 l] w fun en w' => en = .returned (.tuple #[.agg #[.int .u8 1, .int .u8 128, .int .u8 194, .int .u8 0, .int .u8 0, .int .u8 (56 + l)], .bool true]) ∧ Below w.heap.size w w' := by
  have h := Trace_any l w h0 (by omega)
  unfold grpV at h
  rw [if_neg (by omega)] at h
  exact h
theorem Check_8 (w : World) : Calls Try.prog 21 #[.int .u8 8] w fun en w' => en = .returned (.tuple #[.agg #[.int .u8 0, .int .u8 0, .int .u8 0, .int .u8 0, .int .u8 0, .int .u8 0], .bool false]) ∧ Below w.heap.size w w' := by
  have h := Check_any 8 w (by omega) (by omega)
  exact h
theorem level_in (f : Int) (h0 : 48 ≤ f) (h1 : f < 64) (w : World) : Calls Try.prog 23 #[.agg #[.int .u8 1, .int .u8 128, .int .u8 194, .int .u8 0, .int .u8 0, .int .u8 f]] w fun en w' => en = .returned (.tuple #[.int .u8 (f % 8), .bool true]) ∧ Below w.heap.size w w' := by
  have h := level_any 1 128 194 0 0 f w (by omega) (by omega)
  have hl : lvlB 1 128 194 0 0 f = true := by simp [lvlB, macEq]; omega
  unfold lvlV at h
  rw [hl] at h
  exact h
theorem text_37 (w : World) : Calls Try.prog 62 #[.agg #[.int .u8 1, .int .u8 128, .int .u8 194, .int .u8 0, .int .u8 0, .int .u8 55]] w fun en w' => en = .returned (.string { data := #[48, 49, 58, 56, 48, 58, 99, 50, 58, 48, 48, 58, 48, 48, 58, 51, 55] }) ∧ Below w.heap.size w w' :=
  text_of 1 128 194 0 0 55 w (by omega) (by omega) (by omega) (by omega) (by omega) (by omega)
theorem text_38 (w : World) : Calls Try.prog 62 #[.agg #[.int .u8 1, .int .u8 128, .int .u8 194, .int .u8 0, .int .u8 0, .int .u8 56]] w fun en w' => en = .returned (.string { data := #[48, 49, 58, 56, 48, 58, 99, 50, 58, 48, 48, 58, 48, 48, 58, 51, 56] }) ∧ Below w.heap.size w w' :=
  text_of 1 128 194 0 0 56 w (by omega) (by omega) (by omega) (by omega) (by omega) (by omega)
theorem text_00 (w : World) : Calls Try.prog 62 #[.agg #[.int .u8 1, .int .u8 128, .int .u8 194, .int .u8 0, .int .u8 0, .int .u8 0]] w fun en w' => en = .returned (.string { data := #[48, 49, 58, 56, 48, 58, 99, 50, 58, 48, 48, 58, 48, 48, 58, 48, 48] }) ∧ Below w.heap.size w w' :=
  text_of 1 128 194 0 0 0 w (by omega) (by omega) (by omega) (by omega) (by omega) (by omega)
theorem group_all (w : World) : Calls Try.prog 24 #[.agg #[.int .u8 255, .int .u8 255, .int .u8 255, .int .u8 255, .int .u8 255, .int .u8 255]] w fun en w' => en = .returned (.bool true) ∧ Below w.heap.size w w' :=
  group_any 255 255 255 255 255 255 w (by omega) (by omega)

set_option maxRecDepth 100000 in
set_option maxHeartbeats 4000000 in
theorem wakes2_any (w : World) : Calls Try.prog 27 #[] w fun en w' => en = .returned (.bool true) ∧ Below w.heap.size w w' := by
  go_enter Try.func27, Try.ntmps27
  go_wp2_with fail
  refine (Check_in 7 (by omega) (by omega) _).mono ?_
  rintro en w1 ⟨rfl, hb1⟩
  have hz1 := hb1.size
  go_wp2_with fail
  refine (Trace_in 0 (by omega) (by omega) _).mono ?_
  rintro en w2 ⟨rfl, hb2⟩
  have m1 := (MA.new w1 1 128 194 0 0 55).later hb2
  obtain ⟨hB2, hz2⟩ := MA.put hb1 hb2
  clear hb1 hb2 hz1
  go_wp2_with fail
  refine (Check_8 _).mono ?_
  rintro en w3 ⟨rfl, hb3⟩
  have m2 := (MA.new w2 1 128 194 0 0 56).later hb3
  obtain ⟨hB3, hz3⟩ := MA.put hB2 hb3
  have m1' := m1.later (((Below.refl _ _).alloc (Nat.le_refl _) _).trans (hb3.mono (by simp)))
  have m3 := m1'.later ((Below.refl _ _).alloc (Nat.le_refl _) (.cells #[.int .u8 0, .int .u8 0, .int .u8 0, .int .u8 0, .int .u8 0, .int .u8 0] 34))
  have m4 := m2.later ((Below.refl _ _).alloc (Nat.le_refl _) (.cells #[.int .u8 0, .int .u8 0, .int .u8 0, .int .u8 0, .int .u8 0, .int .u8 0] 34))
  have hB4 := hB3.alloc hB3.size (.cells #[.int .u8 0, .int .u8 0, .int .u8 0, .int .u8 0, .int .u8 0, .int .u8 0] 34)
  obtain ⟨q0, q1, q2, q3, q4, q5⟩ := id m3
  have M3 := Lib.hid m3
  have M4 := Lib.hid m4
  have HB4 := Lib.hid hB4
  clear hB2 hb3 m1 m1' m2 hB3 m3 m4 hB4
  go_wp2_with fail
  refine (level_in 55 (by omega) (by omega) _).mono ?_
  rintro en w4 ⟨rfl, hb4⟩
  have M5 := Lib.hid (M3.out.later hb4)
  have M6 := Lib.hid (M4.out.later hb4)
  have HB5 := Lib.hid (HB4.out.trans (hb4.mono HB4.out.size))
  clear q0 q1 q2 q3 q4 q5 M3 M4 HB4 hb4
  obtain ⟨q0, q1, q2, q3, q4, q5⟩ := M5.out
  go_wp2_with fail
  refine (text_37 _).mono ?_
  rintro en w5 ⟨rfl, hb5⟩
  have HB6 := Lib.hid (HB5.out.trans (hb5.mono HB5.out.size))
  have m6 := M6.out.later hb5
  clear q0 q1 q2 q3 q4 q5 M5 M6 HB5 hb5
  obtain ⟨q0, q1, q2, q3, q4, q5⟩ := m6
  go_wp2_with fail
  refine (text_38 _).mono ?_
  rintro en w6 ⟨rfl, hb6⟩
  have HB7 := Lib.hid (HB6.out.trans (hb6.mono HB6.out.size))
  clear q0 q1 q2 q3 q4 q5 HB6 hb6
  go_wp2_with fail
  refine (own_any _).mono ?_
  rintro en w7 ⟨rfl, hb7⟩
  have HB8 := Lib.hid (HB7.out.trans (hb7.mono HB7.out.size))
  clear hb7
  go_wp2_with fail
  refine (text_00 _).mono ?_
  rintro en w8 ⟨rfl, hb8⟩
  have HB9 := Lib.hid (HB8.out.trans (hb8.mono HB8.out.size))
  clear hb8
  go_wp2_with fail
  refine (all_any _).mono ?_
  rintro en w9 ⟨rfl, hb9⟩
  have HB10 := Lib.hid (HB9.out.trans (hb9.mono HB9.out.size))
  clear hb9
  go_wp2_with fail
  refine (group_all _).mono ?_
  rintro en w10 ⟨rfl, hb10⟩
  have HB11 := Lib.hid (HB10.out.trans (hb10.mono HB10.out.size))
  clear hb10
  go_wp2_with fail
  go_ret
  exact ⟨rfl, HB11.out⟩
end Go.Proofs.Ytknahemnmboidaa
