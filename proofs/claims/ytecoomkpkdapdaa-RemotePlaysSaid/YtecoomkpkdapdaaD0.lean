/- ccm: checks; may, Ticks, the law's own 'Of'. -/
import Derived.Test.YtecoomkpkdapdaaC0
import Derived.Test.YtecoomkpkdapdaaP6
import Derived.Test.YtecoomkpkdapdaaP8
set_option linter.unusedVariables false
namespace Go.Proofs.Ytecoomkpkdapdaa
open Go.RowKit

/-- A check's block. -/
def CB (T : TypeId) (W : World) (q : Nat) (xlv : Int) (xrd : Bool) (xiv xsq xme : Int) (xm : List UInt8) : Prop := W.heap[q]? = some (.cells #[.int .u8 xlv, .bool xrd, .int .u8 xiv, .int .u32 xsq, .int .u16 xme, .string (bs xm)] T (0, 0))
section
variable {T : TypeId} {W W' : World} {q : Nat} {xlv : Int} {xrd : Bool} {xiv xsq xme : Int} {xm : List UInt8}
theorem CB.lt (h : CB T W q xlv xrd xiv xsq xme xm) : q < W.heap.size := by
  rcases Nat.lt_or_ge q W.heap.size with h1 | h1
  · exact h1
  · unfold CB at h; rw [Array.getElem?_eq_none h1] at h; cases h
theorem CB.later (h : CB T W q xlv xrd xiv xsq xme xm) (hb : Below W.heap.size W W') : CB T W' q xlv xrd xiv xsq xme xm := by
  unfold CB; rw [hb.block q h.lt]; exact h
theorem CB.below {B : Nat} (h : CB T W q xlv xrd xiv xsq xme xm) (hq : q < B) (hb : Below B W W') : CB T W' q xlv xrd xiv xsq xme xm := by
  unfold CB; rw [hb.block q hq]; exact h
theorem CB.only {p : Nat} (h : CB T W q xlv xrd xiv xsq xme xm) (ho : Only p W W') (hne : q ≠ p) : CB T W' q xlv xrd xiv xsq xme xm := by
  unfold CB; rw [ho.block q h.lt (by simpa using hne)]; exact h
theorem CB.c0 (h : CB T W q xlv xrd xiv xsq xme xm) : W.cell? ⟨q, 0, none⟩ = some (.int .u8 xlv) := by unfold CB at h; simp [World.cell?, h]
theorem CB.c1 (h : CB T W q xlv xrd xiv xsq xme xm) : W.cell? ⟨q, 1, none⟩ = some (.bool xrd) := by unfold CB at h; simp [World.cell?, h]
theorem CB.c2 (h : CB T W q xlv xrd xiv xsq xme xm) : W.cell? ⟨q, 2, none⟩ = some (.int .u8 xiv) := by unfold CB at h; simp [World.cell?, h]
theorem CB.c3 (h : CB T W q xlv xrd xiv xsq xme xm) : W.cell? ⟨q, 3, none⟩ = some (.int .u32 xsq) := by unfold CB at h; simp [World.cell?, h]
theorem CB.c4 (h : CB T W q xlv xrd xiv xsq xme xm) : W.cell? ⟨q, 4, none⟩ = some (.int .u16 xme) := by unfold CB at h; simp [World.cell?, h]
theorem CB.c5 (h : CB T W q xlv xrd xiv xsq xme xm) : W.cell? ⟨q, 5, none⟩ = some (.string (bs xm)) := by unfold CB at h; simp [World.cell?, h]
theorem CB.fr (h : CB T W q xlv xrd xiv xsq xme xm) (o : Nat) : W.frozen? ⟨q, o, none⟩ = false := by unfold CB at h; simp [World.frozen?, h]
theorem CB.new (T : TypeId) (W : World) (xlv : Int) (xrd : Bool) (xiv xsq xme : Int) (xm : List UInt8) : CB T (W.alloc (.cells #[.int .u8 xlv, .bool xrd, .int .u8 xiv, .int .u32 xsq, .int .u16 xme, .string (bs xm)] T)) W.heap.size xlv xrd xiv xsq xme xm := heap_alloc_new W _
end
/-- How many ticks an interval has. -/
def tickC (n : Int) : Int := if n = 4 then 1 else if n = 5 then 10 else 0
set_option maxRecDepth 100000 in
set_option maxHeartbeats 1000000 in
theorem ticks_any (n : Int) (w : World) : Calls Try.prog 41 #[.int .u8 n] w fun en w' => en = .returned (.int .i64 (tickC n)) ∧ w = w' := by
  unfold tickC
  by_cases h4 : n = 4
  · subst h4
    go_enter Try.func41, Try.ntmps41
    go_wp2
    go_ret
    exact ⟨rfl, rfl⟩
  by_cases h5 : n = 5
  · subst h5
    go_enter Try.func41, Try.ntmps41
    go_wp2
    go_ret
    exact ⟨rfl, rfl⟩
  rw [if_neg h4, if_neg h5]
  have d4 : (n == 4) = false := by rw [beq_eq_false_iff_ne]; exact h4
  have d5 : (n == 5) = false := by rw [beq_eq_false_iff_ne]; exact h5
  clear h4 h5
  go_enter Try.func41, Try.ntmps41
  go_wp2
  go_ret
  exact ⟨rfl, rfl⟩
/-- May a check be? -/
def mayC (lv iv me : Int) (m : List UInt8) : Bool := decide (lv < 8) && (decide (0 < tickC iv) && (decide (1 ≤ me) && (decide (me ≤ 8191) && decide ((takeR m).2.2 = 0))))
theorem tick_pos (n : Int) : 0 < tickC n ↔ n = 4 ∨ n = 5 := by
  unfold tickC
  by_cases h4 : n = 4
  · rw [if_pos h4]; simp [h4]
  · rw [if_neg h4]
    by_cases h5 : n = 5
    · rw [if_pos h5]; simp [h5]
    · rw [if_neg h5]; simp [h4, h5]
set_option maxRecDepth 100000 in
set_option maxHeartbeats 4000000 in
theorem may13_any (xlv : Int) (xrd : Bool) (xiv xsq xme : Int) (xm : List UInt8) (w : World) (hm : xm.length ≤ 1000) : Calls Try.prog 110 #[.agg #[.int .u8 xlv, .bool xrd, .int .u8 xiv, .int .u32 xsq, .int .u16 xme, .string (bs xm)]] w fun en w' => en = .returned (.bool (mayC xlv xiv xme xm)) ∧ Below w.heap.size w w' := by
  obtain ⟨d, o, e, hT⟩ : ∃ d o e, takeR xm = (d, o, e) := ⟨_, _, _, rfl⟩
  have T1 : Hid (∀ w, Calls Try.prog 124 #[.string (bs xm)] w fun en w' => en = .returned (.tuple #[.string (bs d), .string (bs o), .int .i64 e]) ∧ Below w.heap.size w w') := fun w => by
    have h := take10_any xm w hm
    rw [hT] at h; exact h
  have T2 : Hid (∀ w, Calls Try.prog 41 #[.int .u8 xiv] w fun en w' => en = .returned (.int .i64 (tickC xiv)) ∧ w = w') := fun w => ticks_any xiv w
  obtain ⟨K, hK⟩ : ∃ K, tickC xiv = K := ⟨_, rfl⟩
  obtain ⟨R, hR⟩ : ∃ R, mayC xlv xiv xme xm = R := ⟨_, rfl⟩
  have hRR : R = (decide (xlv < 8) && (decide (0 < K) && (decide (1 ≤ xme) && (decide (xme ≤ 8191) && decide (e = 0))))) := by rw [← hR, ← hK]; unfold mayC; rw [hT]
  rw [hR]
  rw [hK] at T2
  have HRR := Lib.hid hRR
  clear hRR hR hK hT
  have cb0 := CB.new 73 w xlv xrd xiv xsq xme xm
  have hb0 : Below w.heap.size w (w.alloc (.cells #[.int .u8 xlv, .bool xrd, .int .u8 xiv, .int .u32 xsq, .int .u16 xme, .string (bs xm)] 73)) := (Below.refl _ _).alloc (Nat.le_refl _) _
  have c5 := cb0.c5
  have HB0 := Lib.hid hb0
  have CB0 := Lib.hid cb0
  clear cb0 hb0
  go_enter Try.func110, Try.ntmps110
  go_wp2_with fail
  with_reducible refine (T1.out _).mono ?_
  rintro en w1 ⟨rfl, hb1⟩
  have cb1 := CB0.out.later hb1
  have HB1 := Lib.hid (HB0.out.trans (hb1.mono HB0.out.size))
  have c0 := cb1.c0
  have c2 := cb1.c2
  have c4 := cb1.c4
  clear hb1 cb1 CB0 HB0 c5
  cases h1 : decide (xlv < 8) with
  | false =>
    have hRf : R = false := by rw [HRR.out, h1]; rfl
    have RF := Lib.hid hRf
    clear hRf
    go_wp2_with fail
    go_ret
    exact ⟨by rw [RF.out]; rfl, HB1.out⟩
  | true =>
  go_wp2_with fail
  with_reducible refine (T2.out _).mono ?_
  rintro en _ ⟨rfl, rfl⟩
  cases h2 : decide (0 < K) with
  | false =>
    have hRf : R = false := by rw [HRR.out, h1, h2]; rfl
    have RF := Lib.hid hRf
    clear hRf
    go_wp2_with fail
    go_ret
    exact ⟨by rw [RF.out]; rfl, HB1.out⟩
  | true =>
  cases h3 : decide (1 ≤ xme) with
  | false =>
    have hRf : R = false := by rw [HRR.out, h1, h2, h3]; rfl
    have RF := Lib.hid hRf
    clear hRf
    go_wp2_with fail
    go_ret
    exact ⟨by rw [RF.out]; rfl, HB1.out⟩
  | true =>
  cases h4 : decide (xme ≤ 8191) with
  | false =>
    have hRf : R = false := by rw [HRR.out, h1, h2, h3, h4]; rfl
    have RF := Lib.hid hRf
    clear hRf
    go_wp2_with fail
    go_ret
    exact ⟨by rw [RF.out]; rfl, HB1.out⟩
  | true =>
  have h5 : (e == 0) = decide (e = 0) := by rw [Bool.eq_iff_iff]; simp
  have hRf : R = (e == 0) := by rw [HRR.out, h1, h2, h3, h4, h5]; rfl
  have RF := Lib.hid hRf
  clear hRf h5
  go_wp2_with fail
  go_ret
  exact ⟨by rw [RF.out]; rfl, HB1.out⟩
set_option maxRecDepth 100000 in
set_option maxHeartbeats 4000000 in
theorem refMay13_any (xlv : Int) (xrd : Bool) (xiv xsq xme : Int) (xm : List UInt8) (w : World) (hm : xm.length ≤ 1000) : Calls Try.prog 72 #[.agg #[.int .u8 xlv, .bool xrd, .int .u8 xiv, .int .u32 xsq, .int .u16 xme, .string (bs xm)]] w fun en w' => en = .returned (.bool (mayC xlv xiv xme xm)) ∧ Below w.heap.size w w' := by
  obtain ⟨d, o, e, hT⟩ : ∃ d o e, takeR xm = (d, o, e) := ⟨_, _, _, rfl⟩
  have T1 : Hid (∀ w, Calls Try.prog 97 #[.string (bs xm)] w fun en w' => en = .returned (.tuple #[.string (bs d), .string (bs o), .int .i64 e]) ∧ Below w.heap.size w w') := fun w => by
    have h := refTake10_any xm w hm
    rw [hT] at h; exact h
  obtain ⟨R, hR⟩ : ∃ R, mayC xlv xiv xme xm = R := ⟨_, rfl⟩
  have hRR : R = (decide (e = 0) && (decide (xlv < 8) && (decide (xiv = 4 ∨ xiv = 5) && (decide (0 < xme) && decide (xme < 8192))))) := by
    rw [← hR]; unfold mayC; rw [hT]
    have q1 : decide (0 < tickC xiv) = decide (xiv = 4 ∨ xiv = 5) := decide_eq_decide.2 (tick_pos xiv)
    have q2 : decide (1 ≤ xme) = decide (0 < xme) := decide_eq_decide.2 (by omega)
    have q3 : decide (xme ≤ 8191) = decide (xme < 8192) := decide_eq_decide.2 (by omega)
    rw [q1, q2, q3]
    cases decide (e = 0) <;> cases decide (xlv < 8) <;> cases decide (xiv = 4 ∨ xiv = 5) <;> cases decide (0 < xme) <;> cases decide (xme < 8192) <;> rfl
  rw [hR]
  have HRR := Lib.hid hRR
  clear hRR hR hT
  have cb0 := CB.new 69 w xlv xrd xiv xsq xme xm
  have hb0 : Below w.heap.size w (w.alloc (.cells #[.int .u8 xlv, .bool xrd, .int .u8 xiv, .int .u32 xsq, .int .u16 xme, .string (bs xm)] 69)) := (Below.refl _ _).alloc (Nat.le_refl _) _
  have c5 := cb0.c5
  have HB0 := Lib.hid hb0
  have CB0 := Lib.hid cb0
  clear cb0 hb0
  go_enter Try.func72, Try.ntmps72
  go_wp2_with fail
  with_reducible refine (T1.out _).mono ?_
  rintro en w1 ⟨rfl, hb1⟩
  have cb1 := CB0.out.later hb1
  have HB1 := Lib.hid (HB0.out.trans (hb1.mono HB0.out.size))
  have c0 := cb1.c0
  have c2 := cb1.c2
  have c4 := cb1.c4
  clear hb1 cb1 CB0 HB0 c5
  by_cases h1 : e = 0
  rotate_left
  · have d1 : (e == 0) = false := by rw [beq_eq_false_iff_ne]; exact h1
    have hRf : R = false := by rw [HRR.out, decide_eq_false h1]; rfl
    have RF := Lib.hid hRf
    clear hRf h1
    go_wp2_with fail
    go_ret
    exact ⟨by rw [RF.out]; rfl, HB1.out⟩
  have d1 : (e == 0) = true := by rw [h1]; rfl
  cases h2 : decide (xlv < 8) with
  | false =>
    have hRf : R = false := by rw [HRR.out, decide_eq_true h1, h2]; rfl
    have RF := Lib.hid hRf
    clear hRf h1
    go_wp2_with fail
    go_ret
    exact ⟨by rw [RF.out]; rfl, HB1.out⟩
  | true =>
  by_cases h3 : xiv = 4 ∨ xiv = 5
  rotate_left
  · have d4 : (xiv == 4) = false := by rw [beq_eq_false_iff_ne]; exact fun h => h3 (Or.inl h)
    have d5 : (xiv == 5) = false := by rw [beq_eq_false_iff_ne]; exact fun h => h3 (Or.inr h)
    have hRf : R = false := by rw [HRR.out, decide_eq_true h1, h2, decide_eq_false h3]; rfl
    have RF := Lib.hid hRf
    clear hRf h1 h3
    go_wp2_with fail
    go_ret
    exact ⟨by rw [RF.out]; rfl, HB1.out⟩
  have hR3 : R = (decide (0 < xme) && decide (xme < 8192)) := by rw [HRR.out, decide_eq_true h1, h2, decide_eq_true h3]; rfl
  have HR3 := Lib.hid hR3
  clear hR3
  cases h4 : decide (0 < xme) with
  | false =>
    have hRf : R = false := by rw [HR3.out, h4]; rfl
    have RF := Lib.hid hRf
    clear hRf h1
    rcases h3 with rfl | rfl
    all_goals go_wp2_with fail
    all_goals go_ret
    all_goals exact ⟨by rw [RF.out]; rfl, HB1.out⟩
  | true =>
  have hRf : R = decide (xme < 8192) := by rw [HR3.out, h4]; rfl
  have RF := Lib.hid hRf
  clear hRf h1
  rcases h3 with rfl | rfl
  all_goals go_wp2_with fail
  all_goals go_ret
  all_goals exact ⟨by rw [RF.out]; rfl, HB1.out⟩
end Go.Proofs.Ytecoomkpkdapdaa
