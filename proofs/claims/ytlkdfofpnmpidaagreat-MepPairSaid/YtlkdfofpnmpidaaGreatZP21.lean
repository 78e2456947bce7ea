/- ZP21: the texts MG, C4, G0 as one. -/
import Derived.Test.YtlkdfofpnmpidaaGreatZP03
import Derived.Test.YtlkdfofpnmpidaaGreatZP15
import Derived.Test.YtlkdfofpnmpidaaGreatZP20
import Derived.Deep.MidRow
import Derived.Laws.ResultCell
import Derived.Laws.CopyRow
/- mac: groups, equality (of M0). -/
set_option linter.unusedVariables false
namespace Go.Proofs.YtlkdfofpnmpidaaGreat
open Go.RowKit

/-- An address, as a value. -/
def macV (a b c d e f : Int) : Value := .agg #[.int .u8 a, .int .u8 b, .int .u8 c, .int .u8 d, .int .u8 e, .int .u8 f]

theorem run_part_u8 (cs : Array Value) (k : Nat) (w : World) : (part 5 cs k).run Tryz.prog w = match cs[k]? with | some v => .ok v w | none => (stuck "part: no such cell" : Sem Value).run Tryz.prog w := by
  have hi : (isAgg 5).run Tryz.prog w = .ok false w := by kernel_rfl
  cases h : cs[k]? <;> simp [part, hi, h]
/-- Are two addresses one? -/
def macEq (a b c e f g a' b' c' e' f' g' : Int) : Bool := a == a' && (b == b' && (c == c' && (e == e' && (f == f' && g == g'))))
theorem run_equalIn_mac (d : Nat) (a b c e f g a' b' c' e' f' g' : Int) (w : World) :
    (Op.equalIn (d + 2) 25 (.agg #[.int .u8 a, .int .u8 b, .int .u8 c, .int .u8 e, .int .u8 f, .int .u8 g]) (.agg #[.int .u8 a', .int .u8 b', .int .u8 c', .int .u8 e', .int .u8 f', .int .u8 g'])).run Tryz.prog w =
      .ok (macEq a b c e f g a' b' c' e' f' g') w := by
  have hs : (sizeOf 5).run Tryz.prog w = .ok 1 w := by kernel_rfl
  have he : ∀ x y : Int, (Op.equalIn (d + 1) 5 (.int .u8 x) (.int .u8 y)).run Tryz.prog w = .ok (x == y) w := fun x y => run_equalIn_int w d 5 .u8 .u8 x y Tryz.underlying5
  unfold macEq
  rw [Op.equalIn]
  simp only [Sem.run_bind, run_underlying Tryz.underlying25, Result.andThen_ok, hs]
  rw [Std.Legacy.Range.forIn_eq_forIn_range']
  rw [show ({ start := 0, stop := 6, step := 1, step_pos := by decide } : Std.Legacy.Range).size = 6 from rfl]
  rw [show List.range' 0 6 1 = [0, 1, 2, 3, 4, 5] from by decide]
  simp [run_part_u8, he, Sem.run_ite]
  by_cases h1 : a = a' <;> by_cases h2 : b = b' <;> by_cases h3 : c = c' <;> by_cases h4 : e = e' <;> by_cases h5 : f = f' <;> by_cases h6 : g = g' <;> simp [h1, h2, h3, h4, h5, h6]
theorem run_eql_mac : ∀ (a b c e f g a' b' c' e' f' g' : Int) (w : World),
    (binOp .eql 25 (.agg #[.int .u8 a, .int .u8 b, .int .u8 c, .int .u8 e, .int .u8 f, .int .u8 g]) (.agg #[.int .u8 a', .int .u8 b', .int .u8 c', .int .u8 e', .int .u8 f', .int .u8 g'])).run Tryz.prog w =
      .ok (.bool (macEq a b c e f g a' b' c' e' f' g')) w := by
  intro a b c e f g a' b' c' e' f' g' w
  simp only [binOp]
  simp [Op.equal, Op.maxDepth, run_equalIn_mac 9998]
theorem run_neq_mac : ∀ (a b c e f g a' b' c' e' f' g' : Int) (w : World),
    (binOp .neq 25 (.agg #[.int .u8 a, .int .u8 b, .int .u8 c, .int .u8 e, .int .u8 f, .int .u8 g]) (.agg #[.int .u8 a', .int .u8 b', .int .u8 c', .int .u8 e', .int .u8 f', .int .u8 g'])).run Tryz.prog w =
      .ok (.bool (!macEq a b c e f g a' b' c' e' f' g')) w := by
  intro a b c e f g a' b' c' e' f' g' w
  simp only [binOp]
  simp [Op.equal, Op.maxDepth, run_equalIn_mac 9998]
set_option maxRecDepth 100000 in
set_option maxHeartbeats 1000000 in
theorem own_any (w : World) : Calls Tryz.prog 115 #[] w fun en w' => en = .returned (.agg #[.int .u8 1, .int .u8 128, .int .u8 194, .int .u8 0, .int .u8 0, .int .u8 0]) ∧ Below w.heap.size w w' := by
  go_enter Tryz.func115, Tryz.ntmps115
  go_wp2
  refine bodyPost_ret (v := .agg #[.int .u8 1, .int .u8 128, .int .u8 194, .int .u8 0, .int .u8 0, .int .u8 0]) (by simp [results, Tryz.results115, go_sem]) rfl ⟨rfl, ?_⟩
  exact (Below.refl _ _).alloc (by simp) _
set_option maxRecDepth 100000 in
set_option maxHeartbeats 1000000 in
theorem group_any (a b c d e f : Int) (w : World) (h0 : 0 ≤ a) (h1 : a < 256) : Calls Tryz.prog 73 #[.agg #[.int .u8 a, .int .u8 b, .int .u8 c, .int .u8 d, .int .u8 e, .int .u8 f]] w fun en w' => en = .returned (.bool (a % 2 == 1)) ∧ Below w.heap.size w w' := by
  have e1 : bits .and .u8 a 1 = a % 2 := bits_mask .u8 8 (by decide) wraps_u8 1 (by decide) a h0 h1
  go_enter Tryz.func73, Tryz.ntmps73
  go_wp2
  go_ret
  exact ⟨rfl, (Below.refl _ _).alloc (by simp) _⟩
/-- A level's group. -/
def grpV (fr l : Int) : Value := if 8 ≤ l then .tuple #[.agg #[.int .u8 0, .int .u8 0, .int .u8 0, .int .u8 0, .int .u8 0, .int .u8 0], .bool false] else .tuple #[.agg #[.int .u8 1, .int .u8 128, .int .u8 194, .int .u8 0, .int .u8 0, .int .u8 (fr + l)], .bool true]
set_option maxRecDepth 100000 in
set_option maxHeartbeats 1000000 in
theorem grp_any (fr l : Int) (w : World) (h0 : 0 ≤ l) (h1 : l < 256) (h2 : 0 ≤ fr) (h3 : fr ≤ 200) : Calls Tryz.prog 80 #[.int .u8 fr, .int .u8 l] w fun en w' => en = .returned (grpV fr l) ∧ Below w.heap.size w w' := by
  unfold grpV
  by_cases h : 8 ≤ l
  · rw [if_pos h]
    go_enter Tryz.func80, Tryz.ntmps80
    go_wp2
    refine bodyPost_ret (v := .tuple #[.agg #[.int .u8 0, .int .u8 0, .int .u8 0, .int .u8 0, .int .u8 0, .int .u8 0], .bool false]) (by simp [results, Tryz.results80, go_sem]) rfl ⟨rfl, ?_⟩
    exact (Below.refl _ _).alloc (by simp) _
  · rw [if_neg h]
    go_enter Tryz.func80, Tryz.ntmps80
    go_wp2_with fail
    refine (own_any _).mono ?_
    rintro en w1 ⟨rfl, hb⟩
    have hz := hb.size
    simp at hz
    have hz1 : w.heap.size < w1.heap.size := by omega
    have c0 : w1.cell? ⟨w.heap.size, 0, none⟩ = some (.int .u8 0) := (hb.cell (by simp)).trans (by simp [go_sem])
    have f0 : w1.frozen? ⟨w.heap.size, 0, none⟩ = false := (hb.frozen (by simp)).trans (by simp [go_sem])
    have c1 : w1.cell? ⟨w.heap.size, 1, none⟩ = some (.int .u8 0) := (hb.cell (by simp)).trans (by simp [go_sem])
    have f1 : w1.frozen? ⟨w.heap.size, 1, none⟩ = false := (hb.frozen (by simp)).trans (by simp [go_sem])
    have c2 : w1.cell? ⟨w.heap.size, 2, none⟩ = some (.int .u8 0) := (hb.cell (by simp)).trans (by simp [go_sem])
    have f2 : w1.frozen? ⟨w.heap.size, 2, none⟩ = false := (hb.frozen (by simp)).trans (by simp [go_sem])
    have c3 : w1.cell? ⟨w.heap.size, 3, none⟩ = some (.int .u8 0) := (hb.cell (by simp)).trans (by simp [go_sem])
    have f3 : w1.frozen? ⟨w.heap.size, 3, none⟩ = false := (hb.frozen (by simp)).trans (by simp [go_sem])
    have c4 : w1.cell? ⟨w.heap.size, 4, none⟩ = some (.int .u8 0) := (hb.cell (by simp)).trans (by simp [go_sem])
    have f4 : w1.frozen? ⟨w.heap.size, 4, none⟩ = false := (hb.frozen (by simp)).trans (by simp [go_sem])
    have c5 : w1.cell? ⟨w.heap.size, 5, none⟩ = some (.int .u8 0) := (hb.cell (by simp)).trans (by simp [go_sem])
    have f5 : w1.frozen? ⟨w.heap.size, 5, none⟩ = false := (hb.frozen (by simp)).trans (by simp [go_sem])
    have HB : Hid (Below w.heap.size w w1) := ((Below.refl w.heap.size w).alloc (by simp) _).trans (hb.mono (by simp))
    clear hb hz
    go_wp2
    refine bodyPost_ret (v := .tuple #[.agg #[.int .u8 1, .int .u8 128, .int .u8 194, .int .u8 0, .int .u8 0, .int .u8 (fr + l)], .bool true]) (by simp [results, Tryz.results80, go_sem, c0, c1, c2, c3, c4, c5, hz1]) rfl ⟨rfl, ?_⟩
    refine Below.alloc ?_ (by simp; omega) _
    refine below_set ?_ (by exact Nat.le_refl _) _
    refine below_set ?_ (by exact Nat.le_refl _) _
    refine below_set ?_ (by exact Nat.le_refl _) _
    refine below_set ?_ (by exact Nat.le_refl _) _
    refine below_set ?_ (by exact Nat.le_refl _) _
    refine below_set ?_ (by exact Nat.le_refl _) _
    exact HB.out
set_option maxRecDepth 100000 in
set_option maxHeartbeats 1000000 in
theorem Check_any (l : Int) (w : World) (h0 : 0 ≤ l) (h1 : l < 256) : Calls Tryz.prog 39 #[.int .u8 l] w fun en w' => en = .returned (grpV 48 l) ∧ Below w.heap.size w w' := by
  have hg := fun w => grp_any 48 l w h0 h1 (by omega) (by omega)
  have hz0 : w.heap.size < w.heap.size + 1 := by omega
  unfold grpV at *
  by_cases h : 8 ≤ l
  · rw [if_pos h]
    simp only [if_pos h] at hg
    have HG := Lib.hid hg
    clear hg
    go_enter Tryz.func39, Tryz.ntmps39
    go_wp2_with fail
    refine (HG.out _).mono ?_
    rintro en w1 ⟨rfl, hb⟩
    have hz := hb.size
    simp at hz
    have hz1 : w.heap.size < w1.heap.size := by omega
    have c0 : w1.cell? ⟨w.heap.size, 0, none⟩ = some (.int .u8 0) := (hb.cell (by simp)).trans (by simp [go_sem])
    have f0 : w1.frozen? ⟨w.heap.size, 0, none⟩ = false := (hb.frozen (by simp)).trans (by simp [go_sem])
    have c1 : w1.cell? ⟨w.heap.size, 1, none⟩ = some (.int .u8 0) := (hb.cell (by simp)).trans (by simp [go_sem])
    have f1 : w1.frozen? ⟨w.heap.size, 1, none⟩ = false := (hb.frozen (by simp)).trans (by simp [go_sem])
    have c2 : w1.cell? ⟨w.heap.size, 2, none⟩ = some (.int .u8 0) := (hb.cell (by simp)).trans (by simp [go_sem])
    have f2 : w1.frozen? ⟨w.heap.size, 2, none⟩ = false := (hb.frozen (by simp)).trans (by simp [go_sem])
    have c3 : w1.cell? ⟨w.heap.size, 3, none⟩ = some (.int .u8 0) := (hb.cell (by simp)).trans (by simp [go_sem])
    have f3 : w1.frozen? ⟨w.heap.size, 3, none⟩ = false := (hb.frozen (by simp)).trans (by simp [go_sem])
    have c4 : w1.cell? ⟨w.heap.size, 4, none⟩ = some (.int .u8 0) := (hb.cell (by simp)).trans (by simp [go_sem])
    have f4 : w1.frozen? ⟨w.heap.size, 4, none⟩ = false := (hb.frozen (by simp)).trans (by simp [go_sem])
    have c5 : w1.cell? ⟨w.heap.size, 5, none⟩ = some (.int .u8 0) := (hb.cell (by simp)).trans (by simp [go_sem])
    have f5 : w1.frozen? ⟨w.heap.size, 5, none⟩ = false := (hb.frozen (by simp)).trans (by simp [go_sem])
    have HB : Hid (Below w.heap.size w w1) := ((Below.refl w.heap.size w).alloc (by simp) _).trans (hb.mono (by simp))
    clear hb hz hz0
    go_wp2
    refine bodyPost_ret (v := .tuple #[.agg #[.int .u8 0, .int .u8 0, .int .u8 0, .int .u8 0, .int .u8 0, .int .u8 0], .bool false]) (by simp [results, Tryz.results39, go_sem, c0, c1, c2, c3, c4, c5]) rfl ⟨rfl, ?_⟩
    refine below_set ?_ (by exact Nat.le_refl _) _
    refine below_set ?_ (by exact Nat.le_refl _) _
    refine below_set ?_ (by exact Nat.le_refl _) _
    refine below_set ?_ (by exact Nat.le_refl _) _
    refine below_set ?_ (by exact Nat.le_refl _) _
    refine below_set ?_ (by exact Nat.le_refl _) _
    exact HB.out
  · rw [if_neg h]
    simp only [if_neg h] at hg
    have HG := Lib.hid hg
    clear hg
    go_enter Tryz.func39, Tryz.ntmps39
    go_wp2_with fail
    refine (HG.out _).mono ?_
    rintro en w1 ⟨rfl, hb⟩
    have hz := hb.size
    simp at hz
    have hz1 : w.heap.size < w1.heap.size := by omega
    have c0 : w1.cell? ⟨w.heap.size, 0, none⟩ = some (.int .u8 0) := (hb.cell (by simp)).trans (by simp [go_sem])
    have f0 : w1.frozen? ⟨w.heap.size, 0, none⟩ = false := (hb.frozen (by simp)).trans (by simp [go_sem])
    have c1 : w1.cell? ⟨w.heap.size, 1, none⟩ = some (.int .u8 0) := (hb.cell (by simp)).trans (by simp [go_sem])
    have f1 : w1.frozen? ⟨w.heap.size, 1, none⟩ = false := (hb.frozen (by simp)).trans (by simp [go_sem])
    have c2 : w1.cell? ⟨w.heap.size, 2, none⟩ = some (.int .u8 0) := (hb.cell (by simp)).trans (by simp [go_sem])
    have f2 : w1.frozen? ⟨w.heap.size, 2, none⟩ = false := (hb.frozen (by simp)).trans (by simp [go_sem])
    have c3 : w1.cell? ⟨w.heap.size, 3, none⟩ = some (.int .u8 0) := (hb.cell (by simp)).trans (by simp [go_sem])
    have f3 : w1.frozen? ⟨w.heap.size, 3, none⟩ = false := (hb.frozen (by simp)).trans (by simp [go_sem])
    have c4 : w1.cell? ⟨w.heap.size, 4, none⟩ = some (.int .u8 0) := (hb.cell (by simp)).trans (by simp [go_sem])
    have f4 : w1.frozen? ⟨w.heap.size, 4, none⟩ = false := (hb.frozen (by simp)).trans (by simp [go_sem])
    have c5 : w1.cell? ⟨w.heap.size, 5, none⟩ = some (.int .u8 0) := (hb.cell (by simp)).trans (by simp [go_sem])
    have f5 : w1.frozen? ⟨w.heap.size, 5, none⟩ = false := (hb.frozen (by simp)).trans (by simp [go_sem])
    have HB : Hid (Below w.heap.size w w1) := ((Below.refl w.heap.size w).alloc (by simp) _).trans (hb.mono (by simp))
    clear hb hz hz0
    go_wp2
    refine bodyPost_ret (v := .tuple #[.agg #[.int .u8 1, .int .u8 128, .int .u8 194, .int .u8 0, .int .u8 0, .int .u8 (48 + l)], .bool true]) (by simp [results, Tryz.results39, go_sem, c0, c1, c2, c3, c4, c5]) rfl ⟨rfl, ?_⟩
    refine below_set ?_ (by exact Nat.le_refl _) _
    refine below_set ?_ (by exact Nat.le_refl _) _
    refine below_set ?_ (by exact Nat.le_refl _) _
    refine below_set ?_ (by exact Nat.le_refl _) _
    refine below_set ?_ (by exact Nat.le_refl _) _
    refine below_set ?_ (by exact Nat.le_refl _) _
    exact HB.out
set_option maxRecDepth 100000 in
set_option maxHeartbeats 1000000 in
theorem Trace_any (l : Int) (w : World) (h0 : 0 ≤ l) (h1 : l < 256) : Calls Tryz.prog 51 #[.int .u8 l] w fun en w' => en = .returned (grpV 56 l) ∧ Below w.heap.size w w' := by
  have hg := fun w => grp_any 56 l w h0 h1 (by omega) (by omega)
  have hz0 : w.heap.size < w.heap.size + 1 := by omega
  unfold grpV at *
  by_cases h : 8 ≤ l
  · rw [if_pos h]
    simp only [if_pos h] at hg
    have HG := Lib.hid hg
    clear hg
    go_enter Tryz.func51, Tryz.ntmps51
    go_wp2_with fail
    refine (HG.out _).mono ?_
    rintro en w1 ⟨rfl, hb⟩
    have hz := hb.size
    simp at hz
    have hz1 : w.heap.size < w1.heap.size := by omega
    have c0 : w1.cell? ⟨w.heap.size, 0, none⟩ = some (.int .u8 0) := (hb.cell (by simp)).trans (by simp [go_sem])
    have f0 : w1.frozen? ⟨w.heap.size, 0, none⟩ = false := (hb.frozen (by simp)).trans (by simp [go_sem])
    have c1 : w1.cell? ⟨w.heap.size, 1, none⟩ = some (.int .u8 0) := (hb.cell (by simp)).trans (by simp [go_sem])
    have f1 : w1.frozen? ⟨w.heap.size, 1, none⟩ = false := (hb.frozen (by simp)).trans (by simp [go_sem])
    have c2 : w1.cell? ⟨w.heap.size, 2, none⟩ = some (.int .u8 0) := (hb.cell (by simp)).trans (by simp [go_sem])
    have f2 : w1.frozen? ⟨w.heap.size, 2, none⟩ = false := (hb.frozen (by simp)).trans (by simp [go_sem])
    have c3 : w1.cell? ⟨w.heap.size, 3, none⟩ = some (.int .u8 0) := (hb.cell (by simp)).trans (by simp [go_sem])
    have f3 : w1.frozen? ⟨w.heap.size, 3, none⟩ = false := (hb.frozen (by simp)).trans (by simp [go_sem])
    have c4 : w1.cell? ⟨w.heap.size, 4, none⟩ = some (.int .u8 0) := (hb.cell (by simp)).trans (by simp [go_sem])
    have f4 : w1.frozen? ⟨w.heap.size, 4, none⟩ = false := (hb.frozen (by simp)).trans (by simp [go_sem])
    have c5 : w1.cell? ⟨w.heap.size, 5, none⟩ = some (.int .u8 0) := (hb.cell (by simp)).trans (by simp [go_sem])
    have f5 : w1.frozen? ⟨w.heap.size, 5, none⟩ = false := (hb.frozen (by simp)).trans (by simp [go_sem])
    have HB : Hid (Below w.heap.size w w1) := ((Below.refl w.heap.size w).alloc (by simp) _).trans (hb.mono (by simp))
    clear hb hz hz0
    go_wp2
    refine bodyPost_ret (v := .tuple #[.agg #[.int .u8 0, .int .u8 0, .int .u8 0, .int .u8 0, .int .u8 0, .int .u8 0], .bool false]) (by simp [results, Tryz.results51, go_sem, c0, c1, c2, c3, c4, c5]) rfl ⟨rfl, ?_⟩
    refine below_set ?_ (by exact Nat.le_refl _) _
    refine below_set ?_ (by exact Nat.le_refl _) _
    refine below_set ?_ (by exact Nat.le_refl _) _
    refine below_set ?_ (by exact Nat.le_refl _) _
    refine below_set ?_ (by exact Nat.le_refl _) _
    refine below_set ?_ (by exact Nat.le_refl _) _
    exact HB.out
  · rw [if_neg h]
    simp only [if_neg h] at hg
    have HG := Lib.hid hg
    clear hg
    go_enter Tryz.func51, Tryz.ntmps51
    go_wp2_with fail
    refine (HG.out _).mono ?_
    rintro en w1 ⟨rfl, hb⟩
    have hz := hb.size
    simp at hz
    have hz1 : w.heap.size < w1.heap.size := by omega
    have c0 : w1.cell? ⟨w.heap.size, 0, none⟩ = some (.int .u8 0) := (hb.cell (by simp)).trans (by simp [go_sem])
    have f0 : w1.frozen? ⟨w.heap.size, 0, none⟩ = false := (hb.frozen (by simp)).trans (by simp [go_sem])
    have c1 : w1.cell? ⟨w.heap.size, 1, none⟩ = some (.int .u8 0) := (hb.cell (by simp)).trans (by simp [go_sem])
    have f1 : w1.frozen? ⟨w.heap.size, 1, none⟩ = false := (hb.frozen (by simp)).trans (by simp [go_sem])
    have c2 : w1.cell? ⟨w.heap.size, 2, none⟩ = some (.int .u8 0) := (hb.cell (by simp)).trans (by simp [go_sem])
    have f2 : w1.frozen? ⟨w.heap.size, 2, none⟩ = false := (hb.frozen (by simp)).trans (by simp [go_sem])
    have c3 : w1.cell? ⟨w.heap.size, 3, none⟩ = some (.int .u8 0) := (hb.cell (by simp)).trans (by simp [go_sem])
    have f3 : w1.frozen? ⟨w.heap.size, 3, none⟩ = false := (hb.frozen (by simp)).trans (by simp [go_sem])
    have c4 : w1.cell? ⟨w.heap.size, 4, none⟩ = some (.int .u8 0) := (hb.cell (by simp)).trans (by simp [go_sem])
    have f4 : w1.frozen? ⟨w.heap.size, 4, none⟩ = false := (hb.frozen (by simp)).trans (by simp [go_sem])
    have c5 : w1.cell? ⟨w.heap.size, 5, none⟩ = some (.int .u8 0) := (hb.cell (by simp)).trans (by simp [go_sem])
    have f5 : w1.frozen? ⟨w.heap.size, 5, none⟩ = false := (hb.frozen (by simp)).trans (by simp [go_sem])
    have HB : Hid (Below w.heap.size w w1) := ((Below.refl w.heap.size w).alloc (by simp) _).trans (hb.mono (by simp))
    clear hb hz hz0
    go_wp2
    refine bodyPost_ret (v := .tuple #[.agg #[.int .u8 1, .int .u8 128, .int .u8 194, .int .u8 0, .int .u8 0, .int .u8 (56 + l)], .bool true]) (by simp [results, Tryz.results51, go_sem, c0, c1, c2, c3, c4, c5]) rfl ⟨rfl, ?_⟩
    refine below_set ?_ (by exact Nat.le_refl _) _
    refine below_set ?_ (by exact Nat.le_refl _) _
    refine below_set ?_ (by exact Nat.le_refl _) _
    refine below_set ?_ (by exact Nat.le_refl _) _
    refine below_set ?_ (by exact Nat.le_refl _) _
    refine below_set ?_ (by exact Nat.le_refl _) _
    exact HB.out
end Go.Proofs.YtlkdfofpnmpidaaGreat

/- cfm: the reference's Put. -/
set_option linter.unusedVariables false
namespace Go.Proofs.YtlkdfofpnmpidaaGreat
open Go.RowKit

set_option maxRecDepth 100000 in
set_option maxHeartbeats 4000000 in
theorem refPut12_any (v : Value) (a b c : Int) (f : List UInt8) (l : List Th) (w : World) (hv : Tls w v l) (hl : l.length ≤ 100000) (hs : ∀ x ∈ l, x.2.length ≤ maxLen) (hf : f.length ≤ 1000000) (hm : (putT l).1.length ≤ 1000000000) (ha : 0 ≤ a ∧ a < 256) (hb : 0 ≤ b ∧ b < 256) (hc : 0 ≤ c ∧ c < 256) :
    Calls Tryz.prog 85 #[.agg #[.int .u8 a, .int .u8 b, .int .u8 c, .string (bs f), v]] w fun en w' => en = .returned (.tuple #[.string (bs (putP a b c f l).1), .int .i64 (putP a b c f l).2]) ∧ Below w.heap.size w w' := by
  obtain ⟨R, hR⟩ : ∃ R, putP a b c f l = R := ⟨_, rfl⟩
  have HR := Lib.hid hR
  rw [hR]; clear hR
  obtain ⟨A, e, hP⟩ : ∃ A e, putT l = (A, e) := ⟨_, _, rfl⟩
  rw [hP] at hm
  have P1 : ∀ w, Tls w v l → Calls Tryz.prog 117 #[v] w fun en w' => en = .returned (.tuple #[.string (bs A), .int .i64 e]) ∧ Below w.heap.size w w' := fun w h => by
    have h := refPut11_any v l w h hl hs
    rw [hP] at h; exact h
  have HP1 := Lib.hid P1
  have HV := Lib.hid hv
  have HP := Lib.hid hP
  have HA := Lib.hid ha
  have HB := Lib.hid hb
  have HC := Lib.hid hc
  have hsf := bs_size f
  have hMA : A.length ≤ 1000000000 := hm
  obtain ⟨ad, cp, rfl, _⟩ := hv.shape
  clear P1 hv hP hl hs hm
  go_enter Tryz.func85, Tryz.ntmps85
  go_upto_region 1 with fail
  have pb0 := PB.new 115 w a b c f (.slice ad l.length cp)
  have hb0 : Below w.heap.size w (w.alloc (.cells #[.int .u8 a, .int .u8 b, .int .u8 c, .string (bs f), .slice ad l.length cp] 115)) := (Below.refl _ _).alloc (Nat.le_refl _) _
  obtain ⟨w1, hw1⟩ : ∃ k, w.alloc (.cells #[.int .u8 a, .int .u8 b, .int .u8 c, .string (bs f), .slice ad l.length cp] 115) = k := ⟨_, rfl⟩
  rw [hw1] at pb0 hb0 ⊢
  have q0 := pb0.c0
  have q3 := pb0.c3
  have q4 := pb0.c4
  have PB0 := Lib.hid pb0
  have HB0 := Lib.hid hb0
  clear hw1 pb0 hb0 ha hb hc
  by_cases h7 : 7 < a
  · have d7 : decide (7 < a) = true := decide_eq_true h7
    have hRR : R = ([], 2) := by rw [← HR.out]; unfold putP; rw [if_pos h7]
    have HRR := Lib.hid hRR
    clear h7 hRR
    go_wp2_with fail
    refine bodyPost_ret (v := .tuple #[.string (bs []), .int .i64 2]) (by simp [results, Tryz.results85, go_sem]; rfl) rfl ⟨by rw [HRR.out], HB0.out⟩
  have d7 : decide (7 < a) = false := decide_eq_false h7
  by_cases h5 : 255 < f.length
  · have d5 : decide ((255 : Int) < (f.length : Int)) = true := decide_eq_true (by omega)
    have hRR : R = ([], 5) := by rw [← HR.out]; unfold putP; rw [if_neg (by omega), if_pos h5]
    have HRR := Lib.hid hRR
    clear h7 h5 hRR
    go_wp2_with fail
    refine bodyPost_ret (v := .tuple #[.string (bs []), .int .i64 5]) (by simp [results, Tryz.results85, go_sem]; rfl) rfl ⟨by rw [HRR.out], HB0.out⟩
  have d5 : decide ((255 : Int) < (f.length : Int)) = false := decide_eq_false (by omega)
  go_wp2_with fail
  with_reducible refine (HP1.out _ (HV.out.later HB0.out)).mono ?_
  rintro en w2 ⟨rfl, hb2⟩
  have PB2 := Lib.hid (PB0.out.later hb2)
  have HB2 := Lib.hid (HB0.out.trans (hb2.mono HB0.out.size))
  clear hb2 PB0 HB0 q0 q3 q4
  by_cases he : e = 0
  · have hRR : R = (hdP a b c f ++ f ++ A, 0) := by rw [← HR.out]; unfold putP; rw [if_neg (by omega), if_neg (by omega), HP.out, if_pos he]
    have hH : (hdP a b c f).length = 4 := rfl
    have a1 := run_add_bs (hdP a b c f) f (by rw [hH]; omega)
    have a2 := run_add_bs (hdP a b c f ++ f) A (by rw [List.length_append, hH]; omega)
    have w8 : IntKind.u8.wrap (a * 32) = a * 32 := IntWalk.u8_in _ (by have := HA.out; omega)
    have wL : IntKind.u8.wrap (f.length : Int) = (f.length : Int) := IntWalk.u8_in _ (by omega)
    have hcv : ∀ W : World, (convert 39 9 (.slice (some ⟨W.heap.size, 0, none⟩) 4 4)).run Tryz.prog (W.alloc (.cells #[.int .u8 (a * 32), .int .u8 b, .int .u8 c, .int .u8 (f.length : Int)] 5)) = .ok (.string (bs (hdP a b c f))) (W.alloc (.cells #[.int .u8 (a * 32), .int .u8 b, .int .u8 c, .int .u8 (f.length : Int)] 5)) := fun W => run_string_src (src4 W _ _ _ _ _ (by have := HA.out; omega) HB.out HC.out (by omega))
    obtain ⟨H, hHH⟩ : ∃ H, hdP a b c f = H := ⟨_, rfl⟩
    rw [hHH] at a1 a2 hcv hRR
    have p0 := PB2.out.c0
    have p1 := PB2.out.c1
    have p2 := PB2.out.c2
    have p3 := PB2.out.c3
    have p3a : ∀ o : Obj, (w2.alloc o).cell? ⟨w.heap.size, 3, none⟩ = some (.string (bs f)) := fun o => (PB2.out.later ((Below.refl _ _).alloc (Nat.le_refl _) o)).c3
    have H3 := Lib.hid hRR
    clear hRR h7 h5 hH hHH
    subst he
    go_wp2_with fail
    refine bodyPost_ret (v := .tuple #[.string (bs (H ++ f ++ A)), .int .i64 0]) (by simp [results, Tryz.results85, go_sem]) rfl ⟨by rw [H3.out], HB2.out.alloc HB2.out.size _⟩
  · have d0 : (e != 0) = true := by rw [bne_iff_ne]; exact he
    have hRR : R = ([], e) := by rw [← HR.out]; unfold putP; rw [if_neg (by omega), if_neg (by omega), HP.out, if_neg he]
    have H3 := Lib.hid hRR
    clear hRR h7 h5 he
    go_wp2_with fail
    refine bodyPost_ret (v := .tuple #[.string (bs []), .int .i64 e]) (by simp [results, Tryz.results85, go_sem]; rfl) rfl ⟨by rw [H3.out], HB2.out⟩
end Go.Proofs.YtlkdfofpnmpidaaGreat

/- ltm: addresses, traces, replies, their blocks; the law's own 'of' and 'ofReply'. -/
set_option linter.unusedVariables false
namespace Go.Proofs.YtlkdfofpnmpidaaGreat
open Go.RowKit

/-- An address. -/
structure Mc where
  a : Int
  b : Int
  c : Int
  d : Int
  e : Int
  f : Int
structure Mc.Ok (m : Mc) : Prop where
  a : 0 ≤ m.a ∧ m.a < 256
  b : 0 ≤ m.b ∧ m.b < 256
  c : 0 ≤ m.c ∧ m.c < 256
  d : 0 ≤ m.d ∧ m.d < 256
  e : 0 ≤ m.e ∧ m.e < 256
  f : 0 ≤ m.f ∧ m.f < 256
def mc0 : Mc := ⟨0, 0, 0, 0, 0, 0⟩
/-- Its bytes. -/
def Mc.by (m : Mc) : List UInt8 := [byt m.a, byt m.b, byt m.c, byt m.d, byt m.e, byt m.f]
theorem Mc.by_len (m : Mc) : m.by.length = 6 := rfl
theorem Mc.ext' {m n : Mc} (h0 : m.a = n.a) (h1 : m.b = n.b) (h2 : m.c = n.c) (h3 : m.d = n.d) (h4 : m.e = n.e) (h5 : m.f = n.f) : m = n := by
  cases m; cases n; simp only at *; subst h0 h1 h2 h3 h4 h5; rfl
instance (m n : Mc) : Decidable (m = n) := by
  by_cases h : m.a = n.a ∧ m.b = n.b ∧ m.c = n.c ∧ m.d = n.d ∧ m.e = n.e ∧ m.f = n.f
  · exact isTrue (Mc.ext' h.1 h.2.1 h.2.2.1 h.2.2.2.1 h.2.2.2.2.1 h.2.2.2.2.2)
  · exact isFalse (fun e => h (by rw [e]; exact ⟨rfl, rfl, rfl, rfl, rfl, rfl⟩))
/-- A trace; a reply. -/
structure Tr where
  lv : Int
  nm : Int
  tl : Int
  fr : Mc
  tt : Mc
structure Tr.Ok (t : Tr) : Prop where
  lv : 0 ≤ t.lv ∧ t.lv < 256
  nm : 0 ≤ t.nm ∧ t.nm < 4294967296
  tl : 0 ≤ t.tl ∧ t.tl < 256
  fr : t.fr.Ok
  tt : t.tt.Ok
structure Rp where
  lv : Int
  nm : Int
  tl : Int
  st : Bool
  en : Bool
  mi : Mc
  mo : Mc
structure Rp.Ok (r : Rp) : Prop where
  lv : 0 ≤ r.lv ∧ r.lv < 256
  nm : 0 ≤ r.nm ∧ r.nm < 4294967296
  tl : 0 ≤ r.tl ∧ r.tl < 256
  mi : r.mi.Ok
  mo : r.mo.Ok
/-- Six cells read as an address's bytes. -/
theorem srcM {W : World} {p o : Nat} {m : Mc} (h0 : W.cell? ⟨p, o, none⟩ = some (.int .u8 m.a)) (h1 : W.cell? ⟨p, o + 1, none⟩ = some (.int .u8 m.b)) (h2 : W.cell? ⟨p, o + 2, none⟩ = some (.int .u8 m.c)) (h3 : W.cell? ⟨p, o + 3, none⟩ = some (.int .u8 m.d)) (h4 : W.cell? ⟨p, o + 4, none⟩ = some (.int .u8 m.e)) (h5 : W.cell? ⟨p, o + 5, none⟩ = some (.int .u8 m.f)) (hw : m.Ok) : Src W (.slice (some ⟨p, o, none⟩) 6 6) m.by := by
  refine .inr ⟨⟨p, o, none⟩, 6, rfl, fun j hj => ?_⟩
  have hj6 : j < 6 := hj
  rw [Go.WideShapes.add_plain]
  have : j = 0 ∨ j = 1 ∨ j = 2 ∨ j = 3 ∨ j = 4 ∨ j = 5 := by omega
  rcases this with rfl | rfl | rfl | rfl | rfl | rfl
  · exact h0.trans (congrArg some (byteV_byt m.a hw.a).symm)
  · exact h1.trans (congrArg some (byteV_byt m.b hw.b).symm)
  · exact h2.trans (congrArg some (byteV_byt m.c hw.c).symm)
  · exact h3.trans (congrArg some (byteV_byt m.d hw.d).symm)
  · exact h4.trans (congrArg some (byteV_byt m.e hw.e).symm)
  · exact h5.trans (congrArg some (byteV_byt m.f hw.f).symm)
set_option maxRecDepth 100000 in
set_option maxHeartbeats 4000000 in
theorem kind_any (r : Rp) (w : World) : Calls Tryz.prog 144 #[.agg #[.int .u8 r.lv, .int .u32 r.nm, .int .u8 r.tl, .bool r.st, .bool r.en, .int .u8 r.mi.a, .int .u8 r.mi.b, .int .u8 r.mi.c, .int .u8 r.mi.d, .int .u8 r.mi.e, .int .u8 r.mi.f, .int .u8 r.mo.a, .int .u8 r.mo.b, .int .u8 r.mo.c, .int .u8 r.mo.d, .int .u8 r.mo.e, .int .u8 r.mo.f]] w fun en w' => en = .returned (.int .u8 (if r.en = true then 1 else 2)) ∧ Below w.heap.size w w' := by
  cases he : r.en with
  | true =>
    go_enter Tryz.func144, Tryz.ntmps144
    go_wp2
    go_ret
    exact ⟨rfl, (Below.refl _ _).alloc (Nat.le_refl _) _⟩
  | false =>
    go_enter Tryz.func144, Tryz.ntmps144
    go_wp2
    go_ret
    exact ⟨rfl, (Below.refl _ _).alloc (Nat.le_refl _) _⟩
end Go.Proofs.YtlkdfofpnmpidaaGreat
