/- maid: plain names. -/
import Derived.Test.YtecoomkpkdapdaaWB
import Derived.Test.YtecoomkpkdapdaaK3
import Derived.Laws.RangeAny
set_option linter.unusedVariables false
namespace Go.Proofs.Ytecoomkpkdapdaa
open Go.RowKit

theorem iter_below (w : World) (s : ByteArray) (k : Nat) : Below w.heap.size w (w.iter s k) := (Below.refl _ _).alloc (Nat.le_refl _) (.stringIter s k)
/-- May a byte be in a name? -/
def plC (c : UInt8) : Bool := decide (32 ≤ (c.toNat : Int)) && decide ((c.toNat : Int) ≤ 126)
/-- May a text be one? -/
def plB (l : List UInt8) : Bool := l.all plC
theorem plB_take (l : List UInt8) (k : Nat) (h : k < l.length) : plB (l.take (k + 1)) = (plB (l.take k) && plC l[k]) := by
  unfold plB; rw [List.take_succ_eq_append_getElem h, List.all_append]; simp
theorem plB_no (l : List UInt8) (k : Nat) (h : k < l.length) (hc : plC l[k] = false) : plB l = false := by
  unfold plB
  rw [List.all_eq_false]
  exact ⟨l[k], List.getElem_mem h, by simp [hc]⟩
theorem plC_of (c : UInt8) (x : Int) (hx : (c.toNat : Int) = x) : plC c = (decide (32 ≤ x) && decide (x ≤ 126)) := by unfold plC; rw [hx]

set_option maxRecDepth 100000 in
set_option maxHeartbeats 4000000 in
theorem plain_any (l : List UInt8) (w : World) (hl : l.length ≤ 9223372036854775807) : Calls Try.prog 134 #[.string (bs l)] w fun en w' => en = .returned (.bool (plB l)) ∧ Below w.heap.size w w' := by
  have hs := bs_size l
  obtain ⟨R, hR⟩ : ∃ R, plB l = R := ⟨_, rfl⟩
  have HR := Lib.hid hR
  rw [hR]; clear hR
  go_enter Try.func134, Try.ntmps134
  go_wp2_with fail
  go_loopw [] (fun wr => ∃ k : Nat, k ≤ l.length ∧ wr = w.iter (bs l) k ∧ plB (l.take k) = true) (fun wr => l.length - wr.iterPos w.heap.size)
  case atStart => exact ⟨0, by omega, rfl, rfl⟩
  case round =>
    obtain ⟨k, hk, rfl, hp⟩ := hrel
    have HP := Lib.hid hp; clear hp
    by_cases hlt : k < l.length
    · obtain ⟨x, hx⟩ : ∃ x : Int, (l[k].toNat : Int) = x := ⟨_, rfl⟩
      have hx0 : 0 ≤ x := by omega
      have hx1 : x < 256 := by have := l[k].toNat_lt; omega
      have hk' : k < (bs l).size := by omega
      have hg : (((bs l)[k]'hk').toNat : Int) = x := by rw [bs_get l k hk' hlt, hx]
      have hpc := plC_of l[k] x hx
      by_cases ha : x < 128
      · have hn : ∀ ty, (Instr.next (.pointer (some ⟨w.heap.size, 0, none⟩)) true ty).run Try.prog (w.iter (bs l) k) = .ok (.tuple #[.bool true, .int .i64 k, .int .i32 x]) (w.iter (bs l) (k + 1)) := fun ty => by
          have h := run_next_ascii (P := Try.prog) w (bs l) k ty hk' (by omega)
          rw [h, hg]
        by_cases h1 : x < 32
        · have d1 : decide (x < 32) = true := decide_eq_true h1
          have hRf : R = false := by
            rw [← HR.out]; exact plB_no l k hlt (hpc.trans (by rw [decide_eq_false (p := 32 ≤ x) (by omega)]; rfl))
          go_wp2
          go_ret
          exact ⟨by first | rfl | (rw [hRf]; rfl), iter_below w (bs l) (k + 1)⟩
        · have d1 : decide (x < 32) = false := decide_eq_false h1
          by_cases h2 : 126 < x
          · have d2 : decide (126 < x) = true := decide_eq_true h2
            have hRf : R = false := by
              rw [← HR.out]; exact plB_no l k hlt (hpc.trans (by rw [decide_eq_false (p := x ≤ 126) (by omega)]; simp))
            go_wp2
            go_ret
            exact ⟨by first | rfl | (rw [hRf]; rfl), iter_below w (bs l) (k + 1)⟩
          · have d2 : decide (126 < x) = false := decide_eq_false h2
            have hok : plB (l.take (k + 1)) = true := by
              rw [plB_take l k hlt, HP.out, Bool.true_and]; exact hpc.trans (by rw [decide_eq_true (p := 32 ≤ x) (by omega), decide_eq_true (p := x ≤ 126) (by omega)]; rfl)
            go_wp2
            exact ⟨⟨k + 1, by omega, rfl, hok⟩, by simp; omega⟩
      · have hdc := decode_high (bs l) k hk' (by omega)
        have hde := decode_le (bs l) k
        obtain ⟨D, hD⟩ : ∃ D, (Utf8.decode (bs l) k).1 = D := ⟨_, rfl⟩
        obtain ⟨E, hE⟩ : ∃ E, (Utf8.decode (bs l) k).2 = E := ⟨_, rfl⟩
        have hn : ∀ ty, (Instr.next (.pointer (some ⟨w.heap.size, 0, none⟩)) true ty).run Try.prog (w.iter (bs l) k) = .ok (.tuple #[.bool true, .int .i64 k, .int .i32 D]) (w.iter (bs l) (k + E)) := fun ty => by
          have h := run_next_any (P := Try.prog) w (bs l) k ty hk'
          rw [h, hD, hE]
        rw [hD] at hdc hde
        have d1 : decide ((D : Int) < 32) = false := decide_eq_false (by omega)
        have d2 : decide (126 < (D : Int)) = true := decide_eq_true (by omega)
        have hRf : R = false := by
          rw [← HR.out]; exact plB_no l k hlt (hpc.trans (by rw [decide_eq_false (p := x ≤ 126) (by omega)]; simp))
        clear hD hE
        go_wp2
        go_ret
        exact ⟨by first | rfl | (rw [hRf]; rfl), iter_below w (bs l) (k + E)⟩
    · have hn : ∀ ty, (Instr.next (.pointer (some ⟨w.heap.size, 0, none⟩)) true ty).run Try.prog (w.iter (bs l) k) = .ok (.tuple #[.bool false]) (w.iter (bs l) k) := fun ty => run_next_end (P := Try.prog) w (bs l) k ty (by omega)
      have hRt : R = true := by
        rw [← HR.out, ← HP.out, List.take_of_length_le (by omega)]
      go_wp2
      go_ret
      exact ⟨by first | rfl | (rw [hRt]; rfl), iter_below w (bs l) k⟩

set_option maxRecDepth 100000 in
set_option maxHeartbeats 4000000 in
theorem refName_any (l : List UInt8) (n : Bool) (w : World) (hl : l.length ≤ 9223372036854775807) : Calls Try.prog 101 #[.string (bs l), .bool n] w fun en w' => en = .returned (.bool (plB l && (n || decide (0 < l.length)))) ∧ w = w' := by
  have hs := bs_size l
  obtain ⟨R, hR⟩ : ∃ R, (plB l && (n || decide (0 < l.length))) = R := ⟨_, rfl⟩
  have HR := Lib.hid hR
  rw [hR]; clear hR
  go_enter Try.func101, Try.ntmps101
  go_wp2_with fail
  go_loop [5] (fun i => ∃ k : Nat, k ≤ l.length ∧ i = .int .i64 k ∧ plB (l.take k) = true) (fun i => l.length - (intOf i).toNat)
  case atStart => exact ⟨0, by omega, rfl, rfl⟩
  case round =>
    obtain ⟨k, hk, rfl, hp⟩ := hrel
    have HP := Lib.hid hp; clear hp
    by_cases hlt : k < l.length
    · have dl : decide ((k : Int) < (l.length : Int)) = true := decide_eq_true (by omega)
      obtain ⟨x, hx⟩ : ∃ x : Int, (l[k].toNat : Int) = x := ⟨_, rfl⟩
      have hx0 : 0 ≤ x := by omega
      have hx1 : x < 256 := by have := l[k].toNat_lt; omega
      have hk' : k < (bs l).size := by omega
      have hg : ∀ h' : k < (bs l).size, (((bs l)[k]'h').toNat : Int) = x := fun h' => by rw [bs_get l k h' hlt, hx]
      have hpc := plC_of l[k] x hx
      by_cases h1 : x < 32
      · have d1 : decide (x < 32) = true := decide_eq_true h1
        have hRf : R = false := by
          rw [← HR.out, plB_no l k hlt (hpc.trans (by rw [decide_eq_false (p := 32 ≤ x) (by omega)]; rfl))]; rfl
        go_wp2
        go_ret
        exact ⟨by first | rfl | (rw [hRf]; rfl), rfl⟩
      · have d1 : decide (x < 32) = false := decide_eq_false h1
        by_cases h2 : 126 < x
        · have d2 : decide (126 < x) = true := decide_eq_true h2
          have hRf : R = false := by
            rw [← HR.out, plB_no l k hlt (hpc.trans (by rw [decide_eq_false (p := x ≤ 126) (by omega)]; simp))]; rfl
          go_wp2
          go_ret
          exact ⟨by first | rfl | (rw [hRf]; rfl), rfl⟩
        · have d2 : decide (126 < x) = false := decide_eq_false h2
          have hok : plB (l.take (k + 1)) = true := by
            rw [plB_take l k hlt, HP.out, Bool.true_and]; exact hpc.trans (by rw [decide_eq_true (p := 32 ≤ x) (by omega), decide_eq_true (p := x ≤ 126) (by omega)]; rfl)
          go_wp2
          exact ⟨⟨k + 1, by omega, by go_num, hok⟩, by simp [intOf]; omega⟩
    · have dl : decide ((k : Int) < (l.length : Int)) = false := decide_eq_false (by omega)
      have hpl : plB l = true := by rw [← HP.out, List.take_of_length_le (by omega)]
      rw [hpl, Bool.true_and] at HR
      cases n with
      | true =>
        have hRt : R = true := HR.out.symm
        go_wp2
        go_ret
        exact ⟨by first | rfl | (rw [hRt]; rfl), rfl⟩
      | false =>
        have hRt : R = decide (0 < l.length) := by rw [← HR.out]; simp
        go_wp2
        go_ret
        exact ⟨by first | rfl | (rw [hRt]; rfl), rfl⟩
end Go.Proofs.Ytecoomkpkdapdaa
