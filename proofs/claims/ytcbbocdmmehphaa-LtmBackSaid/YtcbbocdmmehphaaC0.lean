/- cfm: messages; the law's own 'great', 'Of', 'Same'. -/
import Derived.Test.YtcbbocdmmehphaaT0
import Derived.Test.YtcbbocdmmehphaaRK
import Derived.Lib.SmallJoins
set_option linter.unusedVariables false
namespace Go.Proofs.Ytcbbocdmmehphaa
open Go.RowKit

/-- Is a message too great? -/
def grP (f : List UInt8) (l : List Th) : Bool := decide (400 < f.length) || (decide (20 < l.length) || l.any fun x => decide (2000 < x.2.length))
/-- A message's block. -/
def PB (T : TypeId) (W : World) (q : Nat) (a b c : Int) (f : List UInt8) (v : Value) : Prop := W.heap[q]? = some (.cells #[.int .u8 a, .int .u8 b, .int .u8 c, .string (bs f), v] T (0, 0))
section
variable {T : TypeId} {W W' : World} {q : Nat} {a b c : Int} {f : List UInt8} {v : Value}
theorem PB.lt (h : PB T W q a b c f v) : q < W.heap.size := by
  rcases Nat.lt_or_ge q W.heap.size with h1 | h1
  · exact h1
  · unfold PB at h; rw [Array.getElem?_eq_none h1] at h; cases h
theorem PB.later (h : PB T W q a b c f v) (hb : Below W.heap.size W W') : PB T W' q a b c f v := by
  unfold PB; rw [hb.block q h.lt]; exact h
theorem PB.below {B : Nat} (h : PB T W q a b c f v) (hq : q < B) (hb : Below B W W') : PB T W' q a b c f v := by
  unfold PB; rw [hb.block q hq]; exact h
theorem PB.c0 (h : PB T W q a b c f v) : W.cell? ⟨q, 0, none⟩ = some (.int .u8 a) := by unfold PB at h; simp [World.cell?, h]
theorem PB.c1 (h : PB T W q a b c f v) : W.cell? ⟨q, 1, none⟩ = some (.int .u8 b) := by unfold PB at h; simp [World.cell?, h]
theorem PB.c2 (h : PB T W q a b c f v) : W.cell? ⟨q, 2, none⟩ = some (.int .u8 c) := by unfold PB at h; simp [World.cell?, h]
theorem PB.c3 (h : PB T W q a b c f v) : W.cell? ⟨q, 3, none⟩ = some (.string (bs f)) := by unfold PB at h; simp [World.cell?, h]
theorem PB.c4 (h : PB T W q a b c f v) : W.cell? ⟨q, 4, none⟩ = some v := by unfold PB at h; simp [World.cell?, h]
theorem PB.fr (h : PB T W q a b c f v) (o : Nat) : W.frozen? ⟨q, o, none⟩ = false := by unfold PB at h; simp [World.frozen?, h]
theorem PB.new (T : TypeId) (W : World) (a b c : Int) (f : List UInt8) (v : Value) : PB T (W.alloc (.cells #[.int .u8 a, .int .u8 b, .int .u8 c, .string (bs f), v] T)) W.heap.size a b c f v := heap_alloc_new W _
end

set_option maxRecDepth 100000 in
set_option maxHeartbeats 4000000 in
theorem great12_any (v : Value) (a b c : Int) (f : List UInt8) (l : List Th) (w : World) (hv : Tls w v l) (hf : f.length ≤ maxLen) (hl : l.length ≤ maxLen) (hs : ∀ x ∈ l, x.2.length ≤ maxLen) : Calls Try.prog 15 #[.agg #[.int .u8 a, .int .u8 b, .int .u8 c, .string (bs f), v]] w fun en w' => en = .returned (.bool (grP f l)) ∧ Below w.heap.size w w' := by
  have HV := Lib.hid hv
  obtain ⟨ad, cp, rfl, hc⟩ := hv.shape
  have HS := Lib.hid hs
  unfold maxLen at hl hf
  have hsf := bs_size f
  clear hc hv hs
  obtain ⟨R, hR⟩ : ∃ R, grP f l = R := ⟨_, rfl⟩
  have HR := Lib.hid hR
  rw [hR]; clear hR
  go_enter Try.func15, Try.ntmps15
  go_upto_region 1 with fail
  have pb0 := PB.new 24 w a b c f (.slice ad l.length cp)
  have hb0 : Below w.heap.size w (w.alloc (.cells #[.int .u8 a, .int .u8 b, .int .u8 c, .string (bs f), .slice ad l.length cp] 24)) := (Below.refl _ _).alloc (Nat.le_refl _) _
  obtain ⟨w1, hw1⟩ : ∃ k, w.alloc (.cells #[.int .u8 a, .int .u8 b, .int .u8 c, .string (bs f), .slice ad l.length cp] 24) = k := ⟨_, rfl⟩
  rw [hw1] at pb0 hb0 ⊢
  have c3 := pb0.c3
  have c4 := pb0.c4
  obtain ⟨ad', cp', hsh, hc⟩ := (HV.out.later hb0).shape
  injection hsh with e1 _ _
  subst e1
  have HC := Lib.hid hc
  have HB0 := Lib.hid hb0
  clear hw1 pb0 hb0 hc
  by_cases h400 : 400 < f.length
  · have d400 : decide ((400 : Int) < (f.length : Int)) = true := decide_eq_true (by omega)
    have hRt : R = true := by rw [← HR.out]; unfold grP; rw [decide_eq_true h400]; rfl
    have HRR := Lib.hid hRt
    clear h400 hRt
    go_wp2
    go_ret
    exact ⟨by rw [HRR.out]; rfl, HB0.out⟩
  have d400 : decide ((400 : Int) < (f.length : Int)) = false := decide_eq_false (by omega)
  by_cases h30 : 20 < l.length
  · have d30 : decide ((20 : Int) < (l.length : Int)) = true := decide_eq_true (by omega)
    have hRt : R = true := by rw [← HR.out]; unfold grP; rw [decide_eq_false h400, decide_eq_true h30]; rfl
    have HRR := Lib.hid hRt
    clear h400 h30 hRt
    go_wp2
    go_ret
    exact ⟨by rw [HRR.out]; rfl, HB0.out⟩
  have d30 : decide ((20 : Int) < (l.length : Int)) = false := decide_eq_false (by omega)
  go_wp2_with fail
  go_loop [3] (fun i => ∃ k : Nat, k ≤ l.length ∧ i = .int .i64 k ∧ ∀ x ∈ l.take k, ¬ 2000 < x.2.length) (fun i => l.length - (intOf i).toNat)
  case atStart => exact ⟨0, by omega, rfl, by simp⟩
  case round =>
    obtain ⟨k, hk, rfl, hno⟩ := hrel
    have HN := Lib.hid hno; clear hno
    by_cases hlt : k < l.length
    · have dk : decide ((k : Int) < (l.length : Int)) = true := decide_eq_true (by omega)
      obtain ⟨b, off, rfl, hcc⟩ := HC.out.resolve_left (by intro h; rw [h] at hlt; simp at hlt)
      have c0 := (hcc k hlt).1
      have c1 := (hcc k hlt).2
      have hxl := HS.out l[k] (List.getElem_mem hlt)
      have hnext : l.take (k + 1) = l.take k ++ [l[k]] := List.take_succ_eq_append_getElem hlt
      have hmem : l[k] ∈ l := List.getElem_mem hlt
      obtain ⟨x, hx⟩ : ∃ x, l[k] = x := ⟨_, rfl⟩
      rw [hx] at c0 c1 hnext hmem hxl
      unfold maxLen at hxl
      have hsx := bs_size x.2
      clear hcc hx HC
      by_cases hg : 2000 < x.2.length
      · have dg : decide ((2000 : Int) < (x.2.length : Int)) = true := decide_eq_true (by omega)
        have hRt : R = true := by
          rw [← HR.out]; unfold grP; rw [Bool.or_eq_true, Bool.or_eq_true]
          exact .inr (.inr (List.any_eq_true.2 ⟨x, hmem, decide_eq_true hg⟩))
        have HRR := Lib.hid hRt
        clear hg hnext hmem hRt
        go_wp2
        go_ret
        exact ⟨by rw [HRR.out]; rfl, HB0.out⟩
      · have dg : decide ((2000 : Int) < (x.2.length : Int)) = false := decide_eq_false (by omega)
        have HNX := Lib.hid hnext
        have HG := Lib.hid hg
        clear hg hnext hmem
        go_wp2
        exact ⟨⟨k + 1, by omega, by go_num, fun y hy => by
          rw [HNX.out, List.mem_append] at hy
          rcases hy with hy | hy
          · exact HN.out y hy
          · simp at hy; subst hy; exact HG.out⟩, by simp [intOf]; omega⟩
    · have dk : decide ((k : Int) < (l.length : Int)) = false := decide_eq_false (by omega)
      have hRf : R = false := by
        rw [← HR.out]; unfold grP; rw [decide_eq_false h400, decide_eq_false h30, Bool.false_or, Bool.false_or, List.any_eq_false]
        intro x hx
        have := HN.out x (by rw [List.take_of_length_le (by omega)]; exact hx)
        simpa using this
      have HRR := Lib.hid hRf
      clear hRf
      go_wp2
      go_ret
      exact ⟨by rw [HRR.out]; rfl, HB0.out⟩
end Go.Proofs.Ytcbbocdmmehphaa
