/- ZB08: the texts MG as one. -/
import Derived.Test.YtpkkjbmgbgakdaaGreatDoorZB05
/- mac: groups, equality (of M0). -/
set_option linter.unusedVariables false
namespace Go.Proofs.YtpkkjbmgbgakdaaGreatDoor
open Go.RowKit

/-- An address, as a value. -/
def macV (a b c d e f : Int) : Value := .agg #[.int .u8 a, .int .u8 b, .int .u8 c, .int .u8 d, .int .u8 e, .int .u8 f]

theorem run_part_u8 (cs : Array Value) (k : Nat) (w : World) : (part 5 cs k).run Tryz.prog w = match cs[k]? with | some v => .ok v w | none => (stuck "part: no such cell" : Sem Value).run Tryz.prog w := by
  have hi : (isAgg 5).run Tryz.prog w = .ok false w := by kernel_rfl
  cases h : cs[k]? <;> simp [part, hi, h]
/-- Are two addresses one? -/
def macEq (a b c e f g a' b' c' e' f' g' : Int) : Bool := a == a' && (b == b' && (c == c' && (e == e' && (f == f' && g == g'))))
theorem run_equalIn_mac (d : Nat) (a b c e f g a' b' c' e' f' g' : Int) (w : World) :
    (Op.equalIn (d + 2) 41 (.agg #[.int .u8 a, .int .u8 b, .int .u8 c, .int .u8 e, .int .u8 f, .int .u8 g]) (.agg #[.int .u8 a', .int .u8 b', .int .u8 c', .int .u8 e', .int .u8 f', .int .u8 g'])).run Tryz.prog w =
      .ok (macEq a b c e f g a' b' c' e' f' g') w := by
  have hs : (sizeOf 5).run Tryz.prog w = .ok 1 w := by kernel_rfl
  have he : ∀ x y : Int, (Op.equalIn (d + 1) 5 (.int .u8 x) (.int .u8 y)).run Tryz.prog w = .ok (x == y) w := fun x y => run_equalIn_int w d 5 .u8 .u8 x y Tryz.underlying5
  unfold macEq
  rw [Op.equalIn]
  simp only [Sem.run_bind, run_underlying Tryz.underlying41, Result.andThen_ok, hs]
  rw [Std.Legacy.Range.forIn_eq_forIn_range']
  rw [show ({ start := 0, stop := 6, step := 1, step_pos := by decide } : Std.Legacy.Range).size = 6 from rfl]
  rw [show List.range' 0 6 1 = [0, 1, 2, 3, 4, 5] from by decide]
  simp [run_part_u8, he, Sem.run_ite]
  by_cases h1 : a = a' <;> by_cases h2 : b = b' <;> by_cases h3 : c = c' <;> by_cases h4 : e = e' <;> by_cases h5 : f = f' <;> by_cases h6 : g = g' <;> simp [h1, h2, h3, h4, h5, h6]
theorem run_eql_mac : ∀ (a b c e f g a' b' c' e' f' g' : Int) (w : World),
    (binOp .eql 41 (.agg #[.int .u8 a, .int .u8 b, .int .u8 c, .int .u8 e, .int .u8 f, .int .u8 g]) (.agg #[.int .u8 a', .int .u8 b', .int .u8 c', .int .u8 e', .int .u8 f', .int .u8 g'])).run Tryz.prog w =
      .ok (.bool (macEq a b c e f g a' b' c' e' f' g')) w := by
  intro a b c e f g a' b' c' e' f' g' w
  simp only [binOp]
  simp [Op.equal, Op.maxDepth, run_equalIn_mac 9998]
theorem run_neq_mac : ∀ (a b c e f g a' b' c' e' f' g' : Int) (w : World),
    (binOp .neq 41 (.agg #[.int .u8 a, .int .u8 b, .int .u8 c, .int .u8 e, .int .u8 f, .int .u8 g]) (.agg #[.int .u8 a', .int .u8 b', .int .u8 c', .int .u8 e', .int .u8 f', .int .u8 g'])).run Tryz.prog w =
      .ok (.bool (!macEq a b c e f g a' b' c' e' f' g')) w := by
  intro a b c e f g a' b' c' e' f' g' w
  simp only [binOp]
  simp [Op.equal, Op.maxDepth, run_equalIn_mac 9998]
set_option maxRecDepth 100000 in
set_option maxHeartbeats 1000000 in
theorem own_any (w : World) : Calls Tryz.prog 59 #[] w fun en w' => en = .returned (.agg #[.int .u8 1, .int .u8 128, .int .u8 194, .int .u8 0, .int .u8 0, .int .u8 0]) ∧ Below w.heap.size w w' := by
  go_enter Tryz.func59, Tryz.ntmps59
  go_wp2
  refine bodyPost_ret (v := .agg #[.int .u8 1, .int .u8 128, .int .u8 194, .int .u8 0, .int .u8 0, .int .u8 0]) (by simp [results, Tryz.results59, go_sem]) rfl ⟨rfl, ?_⟩
  exact (Below.refl _ _).alloc (by simp) _
set_option maxRecDepth 100000 in
set_option maxHeartbeats 1000000 in
theorem group_any (a b c d e f : Int) (w : World) (h0 : 0 ≤ a) (h1 : a < 256) : Calls Tryz.prog 29 #[.agg #[.int .u8 a, .int .u8 b, .int .u8 c, .int .u8 d, .int .u8 e, .int .u8 f]] w fun en w' => en = .returned (.bool (a % 2 == 1)) ∧ Below w.heap.size w w' := by
  have e1 : bits .and .u8 a 1 = a % 2 := bits_mask .u8 8 (by decide) wraps_u8 1 (by decide) a h0 h1
  go_enter Tryz.func29, Tryz.ntmps29
  go_wp2
  go_ret
  exact ⟨rfl, (Below.refl _ _).alloc (by simp) _⟩
/-- A level's group. -/
def grpV (fr l : Int) : Value := if 8 ≤ l then .tuple #[.agg #[.int .u8 0, .int .u8 0, .int .u8 0, .int .u8 0, .int .u8 0, .int .u8 0], .bool false] else .tuple #[.agg #[.int .u8 1, .int .u8 128, .int .u8 194, .int .u8 0, .int .u8 0, .int .u8 (fr + l)], .bool true]
set_option maxRecDepth 100000 in
set_option maxHeartbeats 1000000 in
theorem grp_any (fr l : Int) (w : World) (h0 : 0 ≤ l) (h1 : l < 256) (h2 : 0 ≤ fr) (h3 : fr ≤ 200) : Calls Tryz.prog 153 #[.int .u8 fr, .int .u8 l] w fun en w' => en = .returned (grpV fr l) ∧ Below w.heap.size w w' := by
  unfold grpV
  by_cases h : 8 ≤ l
  · rw [if_pos h]
    go_enter Tryz.func153, Tryz.ntmps153
    go_wp2
    refine bodyPost_ret (v := .tuple #[.agg #[.int .u8 0, .int .u8 0, .int .u8 0, .int .u8 0, .int .u8 0, .int .u8 0], .bool false]) (by simp [results, Tryz.results153, go_sem]) rfl ⟨rfl, ?_⟩
    exact (Below.refl _ _).alloc (by simp) _
  · rw [if_neg h]
    go_enter Tryz.func153, Tryz.ntmps153
    go_wp2_with fail
    refine (own_any _).mono ?_
    rintro en w1 ⟨rfl, hb⟩
    have hz := hb.size
    simp at hz
    have hz1 : w.heap.size < w1.heap.size := by omega
    have c0 : w1.cell? ⟨w.heap.size, 0, none⟩ = some (.int .u8 0) := (hb.cell (by simp)).trans (by simp [go_sem])
    have f0 : w1.frozen? ⟨w.heap.size, 0, none⟩ = false := (hb.frozen (by simp)).trans (by simp [go_sem])
    have c1 : w1.cell? ⟨w.heap.size, 1, none⟩ = some (.int .u8 0) := (hb.cell (by simp)).trans (by simp [go_sem])
    have f1 : w1.frozen? ⟨w.heap.size, 1, none⟩ = false := (hb.frozen (by simp)).trans (by simp [go_sem])
    have c2 : w1.cell? ⟨w.heap.size, 2, none⟩ = some (.int .u8 0) := (hb.cell (by simp)).trans (by simp [go_sem])
    have f2 : w1.frozen? ⟨w.heap.size, 2, none⟩ = false := (hb.frozen (by simp)).trans (by simp [go_sem])
    have c3 : w1.cell? ⟨w.heap.size, 3, none⟩ = some (.int .u8 0) := (hb.cell (by simp)).trans (by simp [go_sem])
    have f3 : w1.frozen? ⟨w.heap.size, 3, none⟩ = false := (hb.frozen (by simp)).trans (by simp [go_sem])
    have c4 : w1.cell? ⟨w.heap.size, 4, none⟩ = some (.int .u8 0) := (hb.cell (by simp)).trans (by simp [go_sem])
    have f4 : w1.frozen? ⟨w.heap.size, 4, none⟩ = false := (hb.frozen (by simp)).trans (by simp [go_sem])
    have c5 : w1.cell? ⟨w.heap.size, 5, none⟩ = some (.int .u8 0) := (hb.cell (by simp)).trans (by simp [go_sem])
    have f5 : w1.frozen? ⟨w.heap.size, 5, none⟩ = false := (hb.frozen (by simp)).trans (by simp [go_sem])
    have HB : Hid (Below w.heap.size w w1) := ((Below.refl w.heap.size w).alloc (by simp) _).trans (hb.mono (by simp))
    clear hb hz
    go_wp2
    refine bodyPost_ret (v := .tuple #[.agg #[.int .u8 1, .int .u8 128, .int .u8 194, .int .u8 0, .int .u8 0, .int .u8 (fr + l)], .bool true]) (by simp [results, Tryz.results153, go_sem, c0, c1, c2, c3, c4, c5, hz1]) rfl ⟨rfl, ?_⟩
    refine Below.alloc ?_ (by simp; omega) _
    refine below_set ?_ (by exact Nat.le_refl _) _
    refine below_set ?_ (by exact Nat.le_refl _) _
    refine below_set ?_ (by exact Nat.le_refl _) _
    refine below_set ?_ (by exact Nat.le_refl _) _
    refine below_set ?_ (by exact Nat.le_refl _) _
    refine below_set ?_ (by exact Nat.le_refl _) _
    exact HB.out
set_option maxRecDepth 100000 in
set_option maxHeartbeats 1000000 in
theorem Check_any (l : Int) (w : World) (h0 : 0 ≤ l) (h1 : l < 256) : Calls Tryz.prog 91 #[.int .u8 l] w fun en w' => en = .returned (grpV 48 l) ∧ Below w.heap.size w w' := by
  have hg := fun w => grp_any 48 l w h0 h1 (by omega) (by omega)
  have hz0 : w.heap.size < w.heap.size + 1 := by omega
  unfold grpV at *
  by_cases h : 8 ≤ l
  · rw [if_pos h]
    simp only [if_pos h] at hg
    have HG := Lib.hid hg
    clear hg
    go_enter Tryz.func91, Tryz.ntmps91
    go_wp2_with fail
    refine (HG.out _).mono ?_
    rintro en w1 ⟨rfl, hb⟩
    have hz := hb.size
    simp at hz
    have hz1 : w.heap.size < w1.heap.size := by omega
    have c0 : w1.cell? ⟨w.heap.size, 0, none⟩ = some (.int .u8 0) := (hb.cell (by simp)).trans (by simp [go_sem])
    have f0 : w1.frozen? ⟨w.heap.size, 0, none⟩ = false := (hb.frozen (by simp)).trans (by simp [go_sem])
    have c1 : w1.cell? ⟨w.heap.size, 1, none⟩ = some (.int .u8 0) := (hb.cell (by simp)).trans (by simp [go_sem])
    have f1 : w1.frozen? ⟨w.heap.size, 1, none⟩ = false := (hb.frozen (by simp)).trans (by simp [go_sem])
    have c2 : w1.cell? ⟨w.heap.size, 2, none⟩ = some (.int .u8 0) := (hb.cell (by simp)).trans (by simp [go_sem])
    have f2 : w1.frozen? ⟨w.heap.size, 2, none⟩ = false := (hb.frozen (by simp)).trans (by simp [go_sem])
    have c3 : w1.cell? ⟨w.heap.size, 3, none⟩ = some (.int .u8 0) := (hb.cell (by simp)).trans (by simp [go_sem])
    have f3 : w1.frozen? ⟨w.heap.size, 3, none⟩ = false := (hb.frozen (by simp)).trans (by simp [go_sem])
    have c4 : w1.cell? ⟨w.heap.size, 4, none⟩ = some (.int .u8 0) := (hb.cell (by simp)).trans (by simp [go_sem])
    have f4 : w1.frozen? ⟨w.heap.size, 4, none⟩ = false := (hb.frozen (by simp)).trans (by simp [go_sem])
    have c5 : w1.cell? ⟨w.heap.size, 5, none⟩ = some (.int .u8 0) := (hb.cell (by simp)).trans (by simp [go_sem])
    have f5 : w1.frozen? ⟨w.heap.size, 5, none⟩ = false := (hb.frozen (by simp)).trans (by simp [go_sem])
    have HB : Hid (Below w.heap.size w w1) := ((Below.refl w.heap.size w).alloc (by simp) _).trans (hb.mono (by simp))
    clear hb hz hz0
    go_wp2
    refine bodyPost_ret (v := .tuple #[.agg #[.int .u8 0, .int .u8 0, .int .u8 0, .int .u8 0, .int .u8 0, .int .u8 0], .bool false]) (by simp [results, Tryz.results91, go_sem, c0, c1, c2, c3, c4, c5]) rfl ⟨rfl, ?_⟩
    refine below_set ?_ (by exact Nat.le_refl _) _
    refine below_set ?_ (by exact Nat.le_refl _) _
    refine below_set ?_ (by exact Nat.le_refl _) _
    refine below_set ?_ (by exact Nat.le_refl _) _
    refine below_set ?_ (by exact Nat.le_refl _) _
    refine below_set ?_ (by exact Nat.le_refl _) _
    exact HB.out
  · rw [if_neg h]
    simp only [if_neg h] at hg
    have HG := Lib.hid hg
    clear hg
    go_enter Tryz.func91, Tryz.ntmps91
    go_wp2_with fail
    refine (HG.out _).mono ?_
    rintro en w1 ⟨rfl, hb⟩
    have hz := hb.size
    simp at hz
    have hz1 : w.heap.size < w1.heap.size := by omega
    have c0 : w1.cell? ⟨w.heap.size, 0, none⟩ = some (.int .u8 0) := (hb.cell (by simp)).trans (by simp [go_sem])
    have f0 : w1.frozen? ⟨w.heap.size, 0, none⟩ = false := (hb.frozen (by simp)).trans (by simp [go_sem])
    have c1 : w1.cell? ⟨w.heap.size, 1, none⟩ = some (.int .u8 0) := (hb.cell (by simp)).trans (by simp [go_sem])
    have f1 : w1.frozen? ⟨w.heap.size, 1, none⟩ = false := (hb.frozen (by simp)).trans (by simp [go_sem])
    have c2 : w1.cell? ⟨w.heap.size, 2, none⟩ = some (.int .u8 0) := (hb.cell (by simp)).trans (by simp [go_sem])
    have f2 : w1.frozen? ⟨w.heap.size, 2, none⟩ = false := (hb.frozen (by simp)).trans (by simp [go_sem])
    have c3 : w1.cell? ⟨w.heap.size, 3, none⟩ = some (.int .u8 0) := (hb.cell (by simp)).trans (by simp [go_sem])
    have f3 : w1.frozen? ⟨w.heap.size, 3, none⟩ = false := (hb.frozen (by simp)).trans (by simp [go_sem])
    have c4 : w1.cell? ⟨w.heap.size, 4, none⟩ = some (.int .u8 0) := (hb.cell (by simp)).trans (by simp [go_sem])
    have f4 : w1.frozen? ⟨w.heap.size, 4, none⟩ = false := (hb.frozen (by simp)).trans (by simp [go_sem])
    have c5 : w1.cell? ⟨w.heap.size, 5, none⟩ = some (.int .u8 0) := (hb.cell (by simp)).trans (by simp [go_sem])
    have f5 : w1.frozen? ⟨w.heap.size, 5, none⟩ = false := (hb.frozen (by simp)).trans (by simp [go_sem])
    have HB : Hid (Below w.heap.size w w1) := ((Below.refl w.heap.size w).alloc (by simp) _).trans (hb.mono (by simp))
    clear hb hz hz0
    go_wp2
    refine bodyPost_ret (v := .tuple #[.agg #[.int .u8 1, .int .u8 128, .int .u8 194, .int .u8 0, .int .u8 0, .int .u8 (48 + l)], .bool true]) (by simp [results, Tryz.results91, go_sem, c0, c1, c2, c3, c4, c5]) rfl ⟨rfl, ?_⟩
    refine below_set ?_ (by exact Nat.le_refl _) _
    refine below_set ?_ (by exact Nat.le_refl _) _
    refine below_set ?_ (by exact Nat.le_refl _) _
    refine below_set ?_ (by exact Nat.le_refl _) _
    refine below_set ?_ (by exact Nat.le_refl _) _
    refine below_set ?_ (by exact Nat.le_refl _) _
    exact HB.out
set_option maxRecDepth 100000 in
set_option maxHeartbeats 1000000 in
theorem Trace_any (l : Int) (w : World) (h0 : 0 ≤ l) (h1 : l < 256) : Calls Tryz.prog 188 #[.int .u8 l] w fun en w' => en = .returned (grpV 56 l) ∧ Below w.heap.size w w' := by
  have hg := fun w => grp_any 56 l w h0 h1 (by omega) (by omega)
  have hz0 : w.heap.size < w.heap.size + 1 := by omega
  unfold grpV at *
  by_cases h : 8 ≤ l
  · rw [if_pos h]
    simp only [if_pos h] at hg
    have HG := Lib.hid hg
    clear hg
    go_enter Tryz.func188, Tryz.ntmps188
    go_wp2_with fail
    refine (HG.out _).mono ?_
    rintro en w1 ⟨rfl, hb⟩
    have hz := hb.size
    simp at hz
    have hz1 : w.heap.size < w1.heap.size := by omega
    have c0 : w1.cell? ⟨w.heap.size, 0, none⟩ = some (.int .u8 0) := (hb.cell (by simp)).trans (by simp [go_sem])
    have f0 : w1.frozen? ⟨w.heap.size, 0, none⟩ = false := (hb.frozen (by simp)).trans (by simp [go_sem])
    have c1 : w1.cell? ⟨w.heap.size, 1, none⟩ = some (.int .u8 0) := (hb.cell (by simp)).trans (by simp [go_sem])
    have f1 : w1.frozen? ⟨w.heap.size, 1, none⟩ = false := (hb.frozen (by simp)).trans (by simp [go_sem])
    have c2 : w1.cell? ⟨w.heap.size, 2, none⟩ = some (.int .u8 0) := (hb.cell (by simp)).trans (by simp [go_sem])
    have f2 : w1.frozen? ⟨w.heap.size, 2, none⟩ = false := (hb.frozen (by simp)).trans (by simp [go_sem])
    have c3 : w1.cell? ⟨w.heap.size, 3, none⟩ = some (.int .u8 0) := (hb.cell (by simp)).trans (by simp [go_sem])
    have f3 : w1.frozen? ⟨w.heap.size, 3, none⟩ = false := (hb.frozen (by simp)).trans (by simp [go_sem])
    have c4 : w1.cell? ⟨w.heap.size, 4, none⟩ = some (.int .u8 0) := (hb.cell (by simp)).trans (by simp [go_sem])
    have f4 : w1.frozen? ⟨w.heap.size, 4, none⟩ = false := (hb.frozen (by simp)).trans (by simp [go_sem])
    have c5 : w1.cell? ⟨w.heap.size, 5, none⟩ = some (.int .u8 0) := (hb.cell (by simp)).trans (by simp [go_sem])
    have f5 : w1.frozen? ⟨w.heap.size, 5, none⟩ = false := (hb.frozen (by simp)).trans (by simp [go_sem])
    have HB : Hid (Below w.heap.size w w1) := ((Below.refl w.heap.size w).alloc (by simp) _).trans (hb.mono (by simp))
    clear hb hz hz0
    go_wp2
    refine bodyPost_ret (v := .tuple #[.agg #[.int .u8 0, .int .u8 0, .int .u8 0, .int .u8 0, .int .u8 0, .int .u8 0], .bool false]) (by simp [results, Tryz.results188, go_sem, c0, c1, c2, c3, c4, c5]) rfl ⟨rfl, ?_⟩
    refine below_set ?_ (by exact Nat.le_refl _) _
    refine below_set ?_ (by exact Nat.le_refl _) _
    refine below_set ?_ (by exact Nat.le_refl _) _
    refine below_set ?_ (by exact Nat.le_refl _) _
    refine below_set ?_ (by exact Nat.le_refl _) _
    refine below_set ?_ (by exact Nat.le_refl _) _
    exact HB.out
  · rw [if_neg h]
    simp only [if_neg h] at hg
    have HG := Lib.hid hg
    clear hg
    go_enter Tryz.func188, Tryz.ntmps188
    go_wp2_with fail
    refine (HG.out _).mono ?_
    rintro en w1 ⟨rfl, hb⟩
    have hz := hb.size
    simp at hz
    have hz1 : w.heap.size < w1.heap.size := by omega
    have c0 : w1.cell? ⟨w.heap.size, 0, none⟩ = some (.int .u8 0) := (hb.cell (by simp)).trans (by simp [go_sem])
    have f0 : w1.frozen? ⟨w.heap.size, 0, none⟩ = false := (hb.frozen (by simp)).trans (by simp [go_sem])
    have c1 : w1.cell? ⟨w.heap.size, 1, none⟩ = some (.int .u8 0) := (hb.cell (by simp)).trans (by simp [go_sem])
    have f1 : w1.frozen? ⟨w.heap.size, 1, none⟩ = false := (hb.frozen (by simp)).trans (by simp [go_sem])
    have c2 : w1.cell? ⟨w.heap.size, 2, none⟩ = some (.int .u8 0) := (hb.cell (by simp)).trans (by simp [go_sem])
    have f2 : w1.frozen? ⟨w.heap.size, 2, none⟩ = false := (hb.frozen (by simp)).trans (by simp [go_sem])
    have c3 : w1.cell? ⟨w.heap.size, 3, none⟩ = some (.int .u8 0) := (hb.cell (by simp)).trans (by simp [go_sem])
    have f3 : w1.frozen? ⟨w.heap.size, 3, none⟩ = false := (hb.frozen (by simp)).trans (by simp [go_sem])
    have c4 : w1.cell? ⟨w.heap.size, 4, none⟩ = some (.int .u8 0) := (hb.cell (by simp)).trans (by simp [go_sem])
    have f4 : w1.frozen? ⟨w.heap.size, 4, none⟩ = false := (hb.frozen (by simp)).trans (by simp [go_sem])
    have c5 : w1.cell? ⟨w.heap.size, 5, none⟩ = some (.int .u8 0) := (hb.cell (by simp)).trans (by simp [go_sem])
    have f5 : w1.frozen? ⟨w.heap.size, 5, none⟩ = false := (hb.frozen (by simp)).trans (by simp [go_sem])
    have HB : Hid (Below w.heap.size w w1) := ((Below.refl w.heap.size w).alloc (by simp) _).trans (hb.mono (by simp))
    clear hb hz hz0
    go_wp2
    refine bodyPost_ret (v := .tuple #[.agg #[.int .u8 1, .int .u8 128, .int .u8 194, .int .u8 0, .int .u8 0, .int .u8 (56 + l)], .bool true]) (by simp [results, Tryz.results188, go_sem, c0, c1, c2, c3, c4, c5]) rfl ⟨rfl, ?_⟩
    refine below_set ?_ (by exact Nat.le_refl _) _
    refine below_set ?_ (by exact Nat.le_refl _) _
    refine below_set ?_ (by exact Nat.le_refl _) _
    refine below_set ?_ (by exact Nat.le_refl _) _
    refine below_set ?_ (by exact Nat.le_refl _) _
    refine below_set ?_ (by exact Nat.le_refl _) _
    exact HB.out
end Go.Proofs.YtpkkjbmgbgakdaaGreatDoor
