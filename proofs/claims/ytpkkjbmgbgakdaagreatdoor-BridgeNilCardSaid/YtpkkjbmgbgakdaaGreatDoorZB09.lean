/- ZB09: the texts MH as one. -/
import Derived.Test.YtpkkjbmgbgakdaaGreatDoorZB08
import Derived.Test.YtpkkjbmgbgakdaaGreatDoorZB02
/- mac: reserved addresses; addresses of numbers (pieces of M0, M4). -/
set_option linter.unusedVariables false
namespace Go.Proofs.YtpkkjbmgbgakdaaGreatDoor
open Go.RowKit

/-- Is an address reserved? -/
def resB (a b c d e f : Int) : Bool := macEq a b c d e (bits .and .u8 f 240) 1 128 194 0 0 0
set_option maxRecDepth 100000 in
set_option maxHeartbeats 1000000 in
theorem reserved_any (a b c d e f : Int) (w : World) : Calls Tryz.prog 125 #[.agg #[.int .u8 a, .int .u8 b, .int .u8 c, .int .u8 d, .int .u8 e, .int .u8 f]] w fun en w' => en = .returned (.bool (resB a b c d e f)) ∧ Below w.heap.size w w' := by
  have heq := run_eql_mac
  go_enter Tryz.func125, Tryz.ntmps125
  go_wp2_with fail
  refine forget (fun W => W.cell? ⟨w.heap.size, 0, none⟩ = some (.int .u8 a) ∧ W.cell? ⟨w.heap.size, 1, none⟩ = some (.int .u8 b) ∧ W.cell? ⟨w.heap.size, 2, none⟩ = some (.int .u8 c) ∧ W.cell? ⟨w.heap.size, 3, none⟩ = some (.int .u8 d) ∧ W.cell? ⟨w.heap.size, 4, none⟩ = some (.int .u8 e) ∧ W.cell? ⟨w.heap.size, 5, none⟩ = some (.int .u8 (bits .and .u8 f 240)) ∧ Below w.heap.size w W)
    ⟨by simp [go_sem], by simp [go_sem], by simp [go_sem], by simp [go_sem], by simp [go_sem], by simp [go_sem], (Below.refl _ _).alloc (by simp) _⟩ ?_
  rintro W ⟨c0, c1, c2, c3, c4, c5, hB⟩
  have l0 := Later.cell c0
  have l1 := Later.cell c1
  have l2 := Later.cell c2
  have l3 := Later.cell c3
  have l4 := Later.cell c4
  have l5 := Later.cell c5
  clear c0 c1 c2 c3 c4 c5
  have HB := Lib.hid hB
  clear hB
  generalize hx : bits .and .u8 f 240 = x at *
  have HX := Lib.hid hx
  clear hx
  refine wp_region_later (by kernel_rfl) (by kernel_rfl) ?_
  repeat (go_big_quiet_step (first | (go_at_call 59; exact Calls.later (own_any _))))
  refine wpQuiet_nil ?_
  rintro _ ⟨K, rfl⟩
  go_wp2
  go_ret
  exact ⟨by unfold resB; rw [HX.out]; rfl, Later.bel HB.out K⟩
/-- A number's address. -/
def ofA (n : Int) : Value := .agg #[.int .u8 (n / 256 / 256 / 256 / 256 / 256 % 256), .int .u8 (n / 256 / 256 / 256 / 256 % 256), .int .u8 (n / 256 / 256 / 256 % 256), .int .u8 (n / 256 / 256 % 256), .int .u8 (n / 256 % 256), .int .u8 (n % 256)]
def ofV (n : Int) : Value := if n < 281474976710656 then .tuple #[ofA n, .bool true] else .tuple #[.agg #[.int .u8 0, .int .u8 0, .int .u8 0, .int .u8 0, .int .u8 0, .int .u8 0], .bool false]
/-- A byte of a number, as a value. -/
theorem byteV_be (n : Int) (h0 : 0 ≤ n) (j : Nat) (hj : j < (be 8 n).length) : byteV ((be 8 n)[j]'hj) = .int .u8 (n / 2 ^ (8 * (7 - j)) % 256) := by
  have h1 : 0 ≤ n / 2 ^ (8 * (7 - j)) % 256 := Int.emod_nonneg _ (by decide)
  have h2 : n / 2 ^ (8 * (7 - j)) % 256 < 256 := Int.emod_lt_of_pos _ (by decide)
  simp only [be, List.getElem_map, List.getElem_range, beB, byteV]
  have e : (UInt8.ofNat (n / 2 ^ (8 * (8 - 1 - j)) % 256).toNat).toNat = (n / 2 ^ (8 * (7 - j)) % 256).toNat := by simp; omega
  rw [e, Int.toNat_of_nonneg h1]

theorem run_arrayAt_mac (g c : Nat) : ∀ W : World, (Instr.arrayAt 41 (.slice (some ⟨g, 2, none⟩) 6 c)).run Tryz.prog W = .ok (.pointer (some ⟨g, 2, none⟩)) W := by
  intro W
  kernel_rfl
set_option maxRecDepth 100000 in
set_option maxHeartbeats 4000000 in
theorem of2_any (n : Int) (w : World) (h0 : 0 ≤ n) (h1 : n < 18446744073709551616) : Calls Tryz.prog 27 #[.int .u64 n] w fun en w' => en = .returned (ofV n) ∧ Below w.heap.size w w' := by
  unfold ofV
  by_cases h : n < 281474976710656
  · rw [if_pos h]
    have hd : n / 281474976710656 = 0 := by omega
    go_enter Tryz.func27, Tryz.ntmps27
    go_wp2_with fail
    refine (put_uint64 (w.heap.size + 1) _ [] n _ (by simp) (Bys.none _ _) h0 h1 (by simp)).mono ?_
    rintro en w1 ⟨v', rfl, hown, hb⟩
    have hz := hb.size
    simp at hz
    have hz1 : w.heap.size < w1.heap.size := by omega
    have hlen : (be 8 n).length = 8 := be_length 8 n
    rw [List.nil_append] at hown
    rcases hown.shape with ⟨_, h⟩ | ⟨g, cap, rfl, hg1, hg2, hc1, hc2⟩
    · rw [h] at hlen; simp at hlen
    have hcap : 8 ≤ cap := by omega
    have hne : g ≠ w.heap.size := by omega
    have d2 : w1.cell? ⟨g, 2, none⟩ = some (.int .u8 (n / 256 / 256 / 256 / 256 / 256 % 256)) := by
      rw [hown.cell 2 (by omega), byteV_be n h0]; rw [show ((2 : Int) ^ (8 * (7 - 2))) = 1099511627776 from rfl, show n / 1099511627776 % 256 = n / 256 / 256 / 256 / 256 / 256 % 256 by omega]
    have d3 : w1.cell? ⟨g, 3, none⟩ = some (.int .u8 (n / 256 / 256 / 256 / 256 % 256)) := by
      rw [hown.cell 3 (by omega), byteV_be n h0]; rw [show ((2 : Int) ^ (8 * (7 - 3))) = 4294967296 from rfl, show n / 4294967296 % 256 = n / 256 / 256 / 256 / 256 % 256 by omega]
    have d4 : w1.cell? ⟨g, 4, none⟩ = some (.int .u8 (n / 256 / 256 / 256 % 256)) := by
      rw [hown.cell 4 (by omega), byteV_be n h0]; rw [show ((2 : Int) ^ (8 * (7 - 4))) = 16777216 from rfl, show n / 16777216 % 256 = n / 256 / 256 / 256 % 256 by omega]
    have d5 : w1.cell? ⟨g, 5, none⟩ = some (.int .u8 (n / 256 / 256 % 256)) := by
      rw [hown.cell 5 (by omega), byteV_be n h0]; rw [show ((2 : Int) ^ (8 * (7 - 5))) = 65536 from rfl, show n / 65536 % 256 = n / 256 / 256 % 256 by omega]
    have d6 : w1.cell? ⟨g, 6, none⟩ = some (.int .u8 (n / 256 % 256)) := by
      rw [hown.cell 6 (by omega), byteV_be n h0]; rw [show ((2 : Int) ^ (8 * (7 - 6))) = 256 from rfl, show n / 256 % 256 = n / 256 % 256 by omega]
    have d7 : w1.cell? ⟨g, 7, none⟩ = some (.int .u8 (n % 256)) := by
      rw [hown.cell 7 (by omega), byteV_be n h0]; rw [show ((2 : Int) ^ (8 * (7 - 7))) = 1 from rfl, show n / 1 % 256 = n % 256 by omega]
    have c0 : w1.cell? ⟨w.heap.size, 0, none⟩ = some (.int .u8 0) := (hb.cell (by simp)).trans (by simp [go_sem])
    have f0 : w1.frozen? ⟨w.heap.size, 0, none⟩ = false := (hb.frozen (by simp)).trans (by simp [go_sem])
    have c1 : w1.cell? ⟨w.heap.size, 1, none⟩ = some (.int .u8 0) := (hb.cell (by simp)).trans (by simp [go_sem])
    have f1 : w1.frozen? ⟨w.heap.size, 1, none⟩ = false := (hb.frozen (by simp)).trans (by simp [go_sem])
    have c2 : w1.cell? ⟨w.heap.size, 2, none⟩ = some (.int .u8 0) := (hb.cell (by simp)).trans (by simp [go_sem])
    have f2 : w1.frozen? ⟨w.heap.size, 2, none⟩ = false := (hb.frozen (by simp)).trans (by simp [go_sem])
    have c3 : w1.cell? ⟨w.heap.size, 3, none⟩ = some (.int .u8 0) := (hb.cell (by simp)).trans (by simp [go_sem])
    have f3 : w1.frozen? ⟨w.heap.size, 3, none⟩ = false := (hb.frozen (by simp)).trans (by simp [go_sem])
    have c4 : w1.cell? ⟨w.heap.size, 4, none⟩ = some (.int .u8 0) := (hb.cell (by simp)).trans (by simp [go_sem])
    have f4 : w1.frozen? ⟨w.heap.size, 4, none⟩ = false := (hb.frozen (by simp)).trans (by simp [go_sem])
    have c5 : w1.cell? ⟨w.heap.size, 5, none⟩ = some (.int .u8 0) := (hb.cell (by simp)).trans (by simp [go_sem])
    have f5 : w1.frozen? ⟨w.heap.size, 5, none⟩ = false := (hb.frozen (by simp)).trans (by simp [go_sem])
    have HB : Hid (Below w.heap.size w w1) := ((Below.refl w.heap.size w).alloc (by simp) _).trans (hb.mono (by simp))
    clear hb hz hown
    rw [hlen]
    have hat := run_arrayAt_mac g
    go_wp2
    refine bodyPost_ret (v := .tuple #[ofA n, .bool true]) (by simp [results, Tryz.results27, go_sem, ofA, c0, c1, c2, c3, c4, c5]) rfl ⟨rfl, ?_⟩
    refine below_set ?_ (by exact Nat.le_refl _) _
    refine below_set ?_ (by exact Nat.le_refl _) _
    refine below_set ?_ (by exact Nat.le_refl _) _
    refine below_set ?_ (by exact Nat.le_refl _) _
    refine below_set ?_ (by exact Nat.le_refl _) _
    refine below_set ?_ (by exact Nat.le_refl _) _
    exact HB.out
  · rw [if_neg h]
    have hd : decide (0 < n / 281474976710656) = true := by simp; omega
    go_enter Tryz.func27, Tryz.ntmps27
    go_wp2
    refine bodyPost_ret (v := .tuple #[.agg #[.int .u8 0, .int .u8 0, .int .u8 0, .int .u8 0, .int .u8 0, .int .u8 0], .bool false]) (by simp [results, Tryz.results27, go_sem]) rfl ⟨rfl, ?_⟩
    exact (Below.refl _ _).alloc (by simp) _
end Go.Proofs.YtpkkjbmgbgakdaaGreatDoor
