/- mac: contracts. -/
import Derived.Test.YtknahemnmboidaaK2
set_option linter.unusedVariables false
namespace Go.Proofs.Ytknahemnmboidaa
open Go.RowKit

/-- An address, as a value. -/
def macV (a b c d e f : Int) : Value := .agg #[.int .u8 a, .int .u8 b, .int .u8 c, .int .u8 d, .int .u8 e, .int .u8 f]

theorem run_part_u8 (cs : Array Value) (k : Nat) (w : World) : (part 5 cs k).run Try.prog w = match cs[k]? with | some v => .ok v w | none => (stuck "part: no such cell" : Sem Value).run Try.prog w := by
  have hi : (isAgg 5).run Try.prog w = .ok false w := by kernel_rfl
  cases h : cs[k]? <;> simp [part, hi, h]
/-- Are two addresses one? -/
def macEq (a b c e f g a' b' c' e' f' g' : Int) : Bool := a == a' && (b == b' && (c == c' && (e == e' && (f == f' && g == g'))))
theorem run_equalIn_mac (d : Nat) (a b c e f g a' b' c' e' f' g' : Int) (w : World) :
    (Op.equalIn (d + 2) 34 (.agg #[.int .u8 a, .int .u8 b, .int .u8 c, .int .u8 e, .int .u8 f, .int .u8 g]) (.agg #[.int .u8 a', .int .u8 b', .int .u8 c', .int .u8 e', .int .u8 f', .int .u8 g'])).run Try.prog w =
      .ok (macEq a b c e f g a' b' c' e' f' g') w := by
  have hs : (sizeOf 5).run Try.prog w = .ok 1 w := by kernel_rfl
  have he : ∀ x y : Int, (Op.equalIn (d + 1) 5 (.int .u8 x) (.int .u8 y)).run Try.prog w = .ok (x == y) w := fun x y => run_equalIn_int w d 5 .u8 .u8 x y Try.underlying5
  unfold macEq
  rw [Op.equalIn]
  simp only [Sem.run_bind, run_underlying Try.underlying34, Result.andThen_ok, hs]
  rw [Std.Legacy.Range.forIn_eq_forIn_range']
  rw [show ({ start := 0, stop := 6, step := 1, step_pos := by decide } : Std.Legacy.Range).size = 6 from rfl]
  rw [show List.range' 0 6 1 = [0, 1, 2, 3, 4, 5] from by decide]
  simp [run_part_u8, he, Sem.run_ite]
  by_cases h1 : a = a' <;> by_cases h2 : b = b' <;> by_cases h3 : c = c' <;> by_cases h4 : e = e' <;> by_cases h5 : f = f' <;> by_cases h6 : g = g' <;> simp [h1, h2, h3, h4, h5, h6]
theorem run_eql_mac : ∀ (a b c e f g a' b' c' e' f' g' : Int) (w : World),
    (binOp .eql 34 (.agg #[.int .u8 a, .int .u8 b, .int .u8 c, .int .u8 e, .int .u8 f, .int .u8 g]) (.agg #[.int .u8 a', .int .u8 b', .int .u8 c', .int .u8 e', .int .u8 f', .int .u8 g'])).run Try.prog w =
      .ok (.bool (macEq a b c e f g a' b' c' e' f' g')) w := by
  intro a b c e f g a' b' c' e' f' g' w
  simp only [binOp]
  simp [Op.equal, Op.maxDepth, run_equalIn_mac 9998]
theorem run_neq_mac : ∀ (a b c e f g a' b' c' e' f' g' : Int) (w : World),
    (binOp .neq 34 (.agg #[.int .u8 a, .int .u8 b, .int .u8 c, .int .u8 e, .int .u8 f, .int .u8 g]) (.agg #[.int .u8 a', .int .u8 b', .int .u8 c', .int .u8 e', .int .u8 f', .int .u8 g'])).run Try.prog w =
      .ok (.bool (!macEq a b c e f g a' b' c' e' f' g')) w := by
  intro a b c e f g a' b' c' e' f' g' w
  simp only [binOp]
  simp [Op.equal, Op.maxDepth, run_equalIn_mac 9998]
/-- A store into a block of the call's own. -/
theorem below_set {B b o : Nat} {w W : World} (h : Below B w W) (hb : B ≤ b) (v : Value) : Below B w (W.setCell ⟨b, o, none⟩ v) := h.setCell (p := ⟨b, o, none⟩) hb v

set_option maxRecDepth 100000 in
set_option maxHeartbeats 1000000 in
theorem own_any (w : World) : Calls Try.prog 26 #[] w fun en w' => en = .returned (.agg #[.int .u8 1, .int .u8 128, .int .u8 194, .int .u8 0, .int .u8 0, .int .u8 0]) ∧ Below w.heap.size w w' := by
  go_enter Try.func26, Try.ntmps26
  go_wp2
  refine bodyPost_ret (v := .agg #[.int .u8 1, .int .u8 128, .int .u8 194, .int .u8 0, .int .u8 0, .int .u8 0]) (by simp [results, Try.results26, go_sem]) rfl ⟨rfl, ?_⟩
  exact (Below.refl _ _).alloc (by simp) _
set_option maxRecDepth 100000 in
set_option maxHeartbeats 1000000 in
theorem all_any (w : World) : Calls Try.prog 37 #[] w fun en w' => en = .returned (.agg #[.int .u8 255, .int .u8 255, .int .u8 255, .int .u8 255, .int .u8 255, .int .u8 255]) ∧ Below w.heap.size w w' := by
  go_enter Try.func37, Try.ntmps37
  go_wp2
  refine bodyPost_ret (v := .agg #[.int .u8 255, .int .u8 255, .int .u8 255, .int .u8 255, .int .u8 255, .int .u8 255]) (by simp [results, Try.results37, go_sem]) rfl ⟨rfl, ?_⟩
  exact (Below.refl _ _).alloc (by simp) _
set_option maxRecDepth 100000 in
set_option maxHeartbeats 1000000 in
theorem group_any (a b c d e f : Int) (w : World) (h0 : 0 ≤ a) (h1 : a < 256) : Calls Try.prog 24 #[.agg #[.int .u8 a, .int .u8 b, .int .u8 c, .int .u8 d, .int .u8 e, .int .u8 f]] w fun en w' => en = .returned (.bool (a % 2 == 1)) ∧ Below w.heap.size w w' := by
  have e1 : bits .and .u8 a 1 = a % 2 := bits_mask .u8 8 (by decide) wraps_u8 1 (by decide) a h0 h1
  go_enter Try.func24, Try.ntmps24
  go_wp2
  go_ret
  exact ⟨rfl, (Below.refl _ _).alloc (by simp) _⟩
/-- A level's group. -/
def grpV (fr l : Int) : Value := if 8 ≤ l then .tuple #[.agg #[.int .u8 0, .int .u8 0, .int .u8 0, .int .u8 0, .int .u8 0, .int .u8 0], .bool false] else .tuple #[.agg #[.int .u8 1, .int .u8 128, .int .u8 194, .int .u8 0, .int .u8 0, .int .u8 (fr + l)], .bool true]
set_option maxRecDepth 100000 in
set_option maxHeartbeats 1000000 in
theorem grp_any (fr l : Int) (w : World) (h0 : 0 ≤ l) (h1 : l < 256) (h2 : 0 ≤ fr) (h3 : fr ≤ 200) : Calls Try.prog 66 #[.int .u8 fr, .int .u8 l] w fun en w' => en = .returned (grpV fr l) ∧ Below w.heap.size w w' := by
  unfold grpV
  by_cases h : 8 ≤ l
  · rw [if_pos h]
    go_enter Try.func66, Try.ntmps66
    go_wp2
    refine bodyPost_ret (v := .tuple #[.agg #[.int .u8 0, .int .u8 0, .int .u8 0, .int .u8 0, .int .u8 0, .int .u8 0], .bool false]) (by simp [results, Try.results66, go_sem]) rfl ⟨rfl, ?_⟩
    exact (Below.refl _ _).alloc (by simp) _
  · rw [if_neg h]
    go_enter Try.func66, Try.ntmps66
    go_wp2_with fail
    refine (own_any _).mono ?_
    rintro en w1 ⟨rfl, hb⟩
    have hz := hb.size
    simp at hz
    have hz1 : w.heap.size < w1.heap.size := by omega
    have c0 : w1.cell? ⟨w.heap.size, 0, none⟩ = some (.int .u8 0) := (hb.cell (by simp)).trans (by simp [go_sem])
    have f0 : w1.frozen? ⟨w.heap.size, 0, none⟩ = false := (hb.frozen (by simp)).trans (by simp [go_sem])
    have c1 : w1.cell? ⟨w.heap.size, 1, none⟩ = some (.int .u8 0) := (hb.cell (by simp)).trans (by simp [go_sem])
    have f1 : w1.frozen? ⟨w.heap.size, 1, none⟩ = false := (hb.frozen (by simp)).trans (by simp [go_sem])
    have c2 : w1.cell? ⟨w.heap.size, 2, none⟩ = some (.int .u8 0) := (hb.cell (by simp)).trans (by simp [go_sem])
    have f2 : w1.frozen? ⟨w.heap.size, 2, none⟩ = false := (hb.frozen (by simp)).trans (by simp [go_sem])
    have c3 : w1.cell? ⟨w.heap.size, 3, none⟩ = some (.int .u8 0) := (hb.cell (by simp)).trans (by simp [go_sem])
    have f3 : w1.frozen? ⟨w.heap.size, 3, none⟩ = false := (hb.frozen (by simp)).trans (by simp [go_sem])
    have c4 : w1.cell? ⟨w.heap.size, 4, none⟩ = some (.int .u8 0) := (hb.cell (by simp)).trans (by simp [go_sem])
    have f4 : w1.frozen? ⟨w.heap.size, 4, none⟩ = false := (hb.frozen (by simp)).trans (by simp [go_sem])
    have c5 : w1.cell? ⟨w.heap.size, 5, none⟩ = some (.int .u8 0) := (hb.cell (by simp)).trans (by simp [go_sem])
    have f5 : w1.frozen? ⟨w.heap.size, 5, none⟩ = false := (hb.frozen (by simp)).trans (by simp [go_sem])
    have HB : Hid (Below w.heap.size w w1) := ((Below.refl w.heap.size w).alloc (by simp) _).trans (hb.mono (by simp))
    clear hb hz
    go_wp2
    refine bodyPost_ret (v := .tuple #[.agg #[.int .u8 1, .int .u8 128, .int .u8 194, .int .u8 0, .int .u8 0, .int .u8 (fr + l)], .bool true]) (by simp [results, Try.results66, go_sem, c0, c1, c2, c3, c4, c5, hz1]) rfl ⟨rfl, ?_⟩
    refine Below.alloc ?_ (by simp; omega) _
    refine below_set ?_ (by exact Nat.le_refl _) _
    refine below_set ?_ (by exact Nat.le_refl _) _
    refine below_set ?_ (by exact Nat.le_refl _) _
    refine below_set ?_ (by exact Nat.le_refl _) _
    refine below_set ?_ (by exact Nat.le_refl _) _
    refine below_set ?_ (by exact Nat.le_refl _) _
    exact HB.out
set_option maxRecDepth 100000 in
set_option maxHeartbeats 1000000 in
theorem Check_any (l : Int) (w : World) (h0 : 0 ≤ l) (h1 : l < 256) : Calls Try.prog 21 #[.int .u8 l] w fun en w' => en = .returned (grpV 48 l) ∧ Below w.heap.size w w' := by
  have hg := fun w => grp_any 48 l w h0 h1 (by omega) (by omega)
  have hz0 : w.heap.size < w.heap.size + 1 := by omega
  unfold grpV at *
  by_cases h : 8 ≤ l
  · rw [if_pos h]
    simp only [if_pos h] at hg
    have HG := Lib.hid hg
    clear hg
    go_enter Try.func21, Try.ntmps21
    go_wp2_with fail
    refine (HG.out _).mono ?_
    rintro en w1 ⟨rfl, hb⟩
    have hz := hb.size
    simp at hz
    have hz1 : w.heap.size < w1.heap.size := by omega
    have c0 : w1.cell? ⟨w.heap.size, 0, none⟩ = some (.int .u8 0) := (hb.cell (by simp)).trans (by simp [go_sem])
    have f0 : w1.frozen? ⟨w.heap.size, 0, none⟩ = false := (hb.frozen (by simp)).trans (by simp [go_sem])
    have c1 : w1.cell? ⟨w.heap.size, 1, none⟩ = some (.int .u8 0) := (hb.cell (by simp)).trans (by simp [go_sem])
    have f1 : w1.frozen? ⟨w.heap.size, 1, none⟩ = false := (hb.frozen (by simp)).trans (by simp [go_sem])
    have c2 : w1.cell? ⟨w.heap.size, 2, none⟩ = some (.int .u8 0) := (hb.cell (by simp)).trans (by simp [go_sem])
    have f2 : w1.frozen? ⟨w.heap.size, 2, none⟩ = false := (hb.frozen (by simp)).trans (by simp [go_sem])
    have c3 : w1.cell? ⟨w.heap.size, 3, none⟩ = some (.int .u8 0) := (hb.cell (by simp)).trans (by simp [go_sem])
    have f3 : w1.frozen? ⟨w.heap.size, 3, none⟩ = false := (hb.frozen (by simp)).trans (by simp [go_sem])
    have c4 : w1.cell? ⟨w.heap.size, 4, none⟩ = some (.int .u8 0) := (hb.cell (by simp)).trans (by simp [go_sem])
    have f4 : w1.frozen? ⟨w.heap.size, 4, none⟩ = false := (hb.frozen (by simp)).trans (by simp [go_sem])
    have c5 : w1.cell? ⟨w.heap.size, 5, none⟩ = some (.int .u8 0) := (hb.cell (by simp)).trans (by simp [go_sem])
    have f5 : w1.frozen? ⟨w.heap.size, 5, none⟩ = false := (hb.frozen (by simp)).trans (by simp [go_sem])
    have HB : Hid (Below w.heap.size w w1) := ((Below.refl w.heap.size w).alloc (by simp) _).trans (hb.mono (by simp))
    clear hb hz hz0
    go_wp2
    refine bodyPost_ret (v := .tuple #[.agg #[.int .u8 0, .int .u8 0, .int .u8 0, .int .u8 0, .int .u8 0, .int .u8 0], .bool false]) (by simp [results, Try.results21, go_sem, c0, c1, c2, c3, c4, c5]) rfl ⟨rfl, ?_⟩
    refine below_set ?_ (by exact Nat.le_refl _) _
    refine below_set ?_ (by exact Nat.le_refl _) _
    refine below_set ?_ (by exact Nat.le_refl _) _
    refine below_set ?_ (by exact Nat.le_refl _) _
    refine below_set ?_ (by exact Nat.le_refl _) _
    refine below_set ?_ (by exact Nat.le_refl _) _
    exact HB.out
  · rw [if_neg h]
    simp only [if_neg h] at hg
    have HG := Lib.hid hg
    clear hg
    go_enter Try.func21, Try.ntmps21
    go_wp2_with fail
    refine (HG.out _).mono ?_
    rintro en w1 ⟨rfl, hb⟩
    have hz := hb.size
    simp at hz
    have hz1 : w.heap.size < w1.heap.size := by omega
    have c0 : w1.cell? ⟨w.heap.size, 0, none⟩ = some (.int .u8 0) := (hb.cell (by simp)).trans (by simp [go_sem])
    have f0 : w1.frozen? ⟨w.heap.size, 0, none⟩ = false := (hb.frozen (by simp)).trans (by simp [go_sem])
    have c1 : w1.cell? ⟨w.heap.size, 1, none⟩ = some (.int .u8 0) := (hb.cell (by simp)).trans (by simp [go_sem])
    have f1 : w1.frozen? ⟨w.heap.size, 1, none⟩ = false := (hb.frozen (by simp)).trans (by simp [go_sem])
    have c2 : w1.cell? ⟨w.heap.size, 2, none⟩ = some (.int .u8 0) := (hb.cell (by simp)).trans (by simp [go_sem])
    have f2 : w1.frozen? ⟨w.heap.size, 2, none⟩ = false := (hb.frozen (by simp)).trans (by simp [go_sem])
    have c3 : w1.cell? ⟨w.heap.size, 3, none⟩ = some (.int .u8 0) := (hb.cell (by simp)).trans (by simp [go_sem])
    have f3 : w1.frozen? ⟨w.heap.size, 3, none⟩ = false := (hb.frozen (by simp)).trans (by simp [go_sem])
    have c4 : w1.cell? ⟨w.heap.size, 4, none⟩ = some (.int .u8 0) := (hb.cell (by simp)).trans (by simp [go_sem])
    have f4 : w1.frozen? ⟨w.heap.size, 4, none⟩ = false := (hb.frozen (by simp)).trans (by simp [go_sem])
    have c5 : w1.cell? ⟨w.heap.size, 5, none⟩ = some (.int .u8 0) := (hb.cell (by simp)).trans (by simp [go_sem])
    have f5 : w1.frozen? ⟨w.heap.size, 5, none⟩ = false := (hb.frozen (by simp)).trans (by simp [go_sem])
    have HB : Hid (Below w.heap.size w w1) := ((Below.refl w.heap.size w).alloc (by simp) _).trans (hb.mono (by simp))
    clear hb hz hz0
    go_wp2
    refine bodyPost_ret (v := .tuple #[.agg #[.int .u8 1, .int .u8 128, .int .u8 194, .int .u8 0, .int .u8 0, .int .u8 (48 + l)], .bool true]) (by simp [results, Try.results21, go_sem, c0, c1, c2, c3, c4, c5]) rfl ⟨rfl, ?_⟩
    refine below_set ?_ (by exact Nat.le_refl _) _
    refine below_set ?_ (by exact Nat.le_refl _) _
    refine below_set ?_ (by exact Nat.le_refl _) _
    refine below_set ?_ (by exact Nat.le_refl _) _
    refine below_set ?_ (by exact Nat.le_refl _) _
    refine below_set ?_ (by exact Nat.le_refl _) _
    exact HB.out
set_option maxRecDepth 100000 in
set_option maxHeartbeats 1000000 in
theorem Trace_any (l : Int) (w : World) (h0 : 0 ≤ l) (h1 : l < 256) : Calls Try.prog 22 #[.int .u8 l] w fun en w' => en = .returned (grpV 56 l) ∧ Below w.heap.size w w' := by
  have hg := fun w => grp_any 56 l w h0 h1 (by omega) (by omega)
  have hz0 : w.heap.size < w.heap.size + 1 := by omega
  unfold grpV at *
  by_cases h : 8 ≤ l
  · rw [if_pos h]
    simp only [if_pos h] at hg
    have HG := Lib.hid hg
    clear hg
    go_enter Try.func22, Try.ntmps22
    go_wp2_with fail
    refine (HG.out _).mono ?_
    rintro en w1 ⟨rfl, hb⟩
    have hz := hb.size
    simp at hz
    have hz1 : w.heap.size < w1.heap.size := by omega
    have c0 : w1.cell? ⟨w.heap.size, 0, none⟩ = some (.int .u8 0) := (hb.cell (by simp)).trans (by simp [go_sem])
    have f0 : w1.frozen? ⟨w.heap.size, 0, none⟩ = false := (hb.frozen (by simp)).trans (by simp [go_sem])
    have c1 : w1.cell? ⟨w.heap.size, 1, none⟩ = some (.int .u8 0) := (hb.cell (by simp)).trans (by simp [go_sem])
    have f1 : w1.frozen? ⟨w.heap.size, 1, none⟩ = false := (hb.frozen (by simp)).trans (by simp [go_sem])
    have c2 : w1.cell? ⟨w.heap.size, 2, none⟩ = some (.int .u8 0) := (hb.cell (by simp)).trans (by simp [go_sem])
    have f2 : w1.frozen? ⟨w.heap.size, 2, none⟩ = false := (hb.frozen (by simp)).trans (by simp [go_sem])
    have c3 : w1.cell? ⟨w.heap.size, 3, none⟩ = some (.int .u8 0) := (hb.cell (by simp)).trans (by simp [go_sem])
    have f3 : w1.frozen? ⟨w.heap.size, 3, none⟩ = false := (hb.frozen (by simp)).trans (by simp [go_sem])
    have c4 : w1.cell? ⟨w.heap.size, 4, none⟩ = some (.int .u8 0) := (hb.cell (by simp)).trans (by simp [go_sem])
    have f4 : w1.frozen? ⟨w.heap.size, 4, none⟩ = false := (hb.frozen (by simp)).trans (by simp [go_sem])
    have c5 : w1.cell? ⟨w.heap.size, 5, none⟩ = some (.int .u8 0) := (hb.cell (by simp)).trans (by simp [go_sem])
    have f5 : w1.frozen? ⟨w.heap.size, 5, none⟩ = false := (hb.frozen (by simp)).trans (by simp [go_sem])
    have HB : Hid (Below w.heap.size w w1) := ((Below.refl w.heap.size w).alloc (by simp) _).trans (hb.mono (by simp))
    clear hb hz hz0
    go_wp2
    refine bodyPost_ret (v := .tuple #[.agg #[.int .u8 0, .int .u8 0, .int .u8 0, .int .u8 0, .int .u8 0, .int .u8 0], .bool false]) (by simp [results, Try.results22, go_sem, c0, c1, c2, c3, c4, c5]) rfl ⟨rfl, ?_⟩
    refine below_set ?_ (by exact Nat.le_refl _) _
    refine below_set ?_ (by exact Nat.le_refl _) _
    refine below_set ?_ (by exact Nat.le_refl _) _
    refine below_set ?_ (by exact Nat.le_refl _) _
    refine below_set ?_ (by exact Nat.le_refl _) _
    refine below_set ?_ (by exact Nat.le_refl _) _
    exact HB.out
  · rw [if_neg h]
    simp only [if_neg h] at hg
    have HG := Lib.hid hg
    clear hg
    go_enter Try.func22, Try.ntmps22
    go_wp2_with fail
    refine (HG.out _).mono ?_
    rintro en w1 ⟨rfl, hb⟩
    have hz := hb.size
    simp at hz
    have hz1 : w.heap.size < w1.heap.size := by omega
    have c0 : w1.cell? ⟨w.heap.size, 0, none⟩ = some (.int .u8 0) := (hb.cell (by simp)).trans (by simp [go_sem])
    have f0 : w1.frozen? ⟨w.heap.size, 0, none⟩ = false := (hb.frozen (by simp)).trans (by simp [go_sem])
    have c1 : w1.cell? ⟨w.heap.size, 1, none⟩ = some (.int .u8 0) := (hb.cell (by simp)).trans (by simp [go_sem])
    have f1 : w1.frozen? ⟨w.heap.size, 1, none⟩ = false := (hb.frozen (by simp)).trans (by simp [go_sem])
    have c2 : w1.cell? ⟨w.heap.size, 2, none⟩ = some (.int .u8 0) := (hb.cell (by simp)).trans (by simp [go_sem])
    have f2 : w1.frozen? ⟨w.heap.size, 2, none⟩ = false := (hb.frozen (by simp)).trans (by simp [go_sem])
    have c3 : w1.cell? ⟨w.heap.size, 3, none⟩ = some (.int .u8 0) := (hb.cell (by simp)).trans (by simp [go_sem])
    have f3 : w1.frozen? ⟨w.heap.size, 3, none⟩ = false := (hb.frozen (by simp)).trans (by simp [go_sem])
    have c4 : w1.cell? ⟨w.heap.size, 4, none⟩ = some (.int .u8 0) := (hb.cell (by simp)).trans (by simp [go_sem])
    have f4 : w1.frozen? ⟨w.heap.size, 4, none⟩ = false := (hb.frozen (by simp)).trans (by simp [go_sem])
    have c5 : w1.cell? ⟨w.heap.size, 5, none⟩ = some (.int .u8 0) := (hb.cell (by simp)).trans (by simp [go_sem])
    have f5 : w1.frozen? ⟨w.heap.size, 5, none⟩ = false := (hb.frozen (by simp)).trans (by simp [go_sem])
    have HB : Hid (Below w.heap.size w w1) := ((Below.refl w.heap.size w).alloc (by simp) _).trans (hb.mono (by simp))
    clear hb hz hz0
    go_wp2
    refine bodyPost_ret (v := .tuple #[.agg #[.int .u8 1, .int .u8 128, .int .u8 194, .int .u8 0, .int .u8 0, .int .u8 (56 + l)], .bool true]) (by simp [results, Try.results22, go_sem, c0, c1, c2, c3, c4, c5]) rfl ⟨rfl, ?_⟩
    refine below_set ?_ (by exact Nat.le_refl _) _
    refine below_set ?_ (by exact Nat.le_refl _) _
    refine below_set ?_ (by exact Nat.le_refl _) _
    refine below_set ?_ (by exact Nat.le_refl _) _
    refine below_set ?_ (by exact Nat.le_refl _) _
    refine below_set ?_ (by exact Nat.le_refl _) _
    exact HB.out

/-- Is an address reserved? -/
def resB (a b c d e f : Int) : Bool := macEq a b c d e (bits .and .u8 f 240) 1 128 194 0 0 0
set_option maxRecDepth 100000 in
set_option maxHeartbeats 1000000 in
theorem reserved_any (a b c d e f : Int) (w : World) : Calls Try.prog 25 #[.agg #[.int .u8 a, .int .u8 b, .int .u8 c, .int .u8 d, .int .u8 e, .int .u8 f]] w fun en w' => en = .returned (.bool (resB a b c d e f)) ∧ Below w.heap.size w w' := by
  have heq := run_eql_mac
  go_enter Try.func25, Try.ntmps25
  go_wp2_with fail
  refine forget (fun W => W.cell? ⟨w.heap.size, 0, none⟩ = some (.int .u8 a) ∧ W.cell? ⟨w.heap.size, 1, none⟩ = some (.int .u8 b) ∧ W.cell? ⟨w.heap.size, 2, none⟩ = some (.int .u8 c) ∧ W.cell? ⟨w.heap.size, 3, none⟩ = some (.int .u8 d) ∧ W.cell? ⟨w.heap.size, 4, none⟩ = some (.int .u8 e) ∧ W.cell? ⟨w.heap.size, 5, none⟩ = some (.int .u8 (bits .and .u8 f 240)) ∧ Below w.heap.size w W)
    ⟨by simp [go_sem], by simp [go_sem], by simp [go_sem], by simp [go_sem], by simp [go_sem], by simp [go_sem], (Below.refl _ _).alloc (by simp) _⟩ ?_
  rintro W ⟨c0, c1, c2, c3, c4, c5, hB⟩
  have l0 := Later.cell c0
  have l1 := Later.cell c1
  have l2 := Later.cell c2
  have l3 := Later.cell c3
  have l4 := Later.cell c4
  have l5 := Later.cell c5
  clear c0 c1 c2 c3 c4 c5
  have HB := Lib.hid hB
  clear hB
  generalize hx : bits .and .u8 f 240 = x at *
  have HX := Lib.hid hx
  clear hx
  refine wp_region_later (by kernel_rfl) (by kernel_rfl) ?_
  repeat (go_big_quiet_step (first | (go_at_call 26; exact Calls.later (own_any _))))
  refine wpQuiet_nil ?_
  rintro _ ⟨K, rfl⟩
  go_wp2
  go_ret
  exact ⟨by unfold resB; rw [HX.out]; rfl, Later.bel HB.out K⟩
end Go.Proofs.Ytknahemnmboidaa
