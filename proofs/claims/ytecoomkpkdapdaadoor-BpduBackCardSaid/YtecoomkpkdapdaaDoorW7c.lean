/- wire: the reference's reader. -/
import Derived.Test.YtecoomkpkdapdaaDoorWB
set_option linter.unusedVariables false
namespace Go.Proofs.YtecoomkpkdapdaaDoor
open Go.RowKit

/-- The reference's reader, as a value. -/
def rv (l : List UInt8) (e : Int) : Value := .agg #[.string (bs l), .int .i64 e]
set_option maxRecDepth 100000 in
set_option maxHeartbeats 2000000 in
theorem refText_any (l : List UInt8) (e n : Int) (w : World) (hl : l.length ≤ 9223372036854775807) :
    Calls Tryd.prog 54 #[.agg #[.string (bs l), .int .i64 e], .int .i64 n] w fun en w' =>
      en = .returned (.tuple #[.string (bs (rdText l e n).1), .agg #[.string (bs (rdText l e n).2.1), .int .i64 (rdText l e n).2.2]]) ∧ Below w.heap.size w w' := by
  have hsz := bs_size l
  by_cases he : e = 0
  · subst he
    by_cases hn : n ≤ 0
    · have hv : rdText l 0 n = ([], l, 0) := by unfold rdText; rw [if_pos (.inl hn)]
      rw [hv]; clear hv
      go_enter Tryd.func54, Tryd.ntmps54
      go_wp2
      go_region
      all_goals go_wp2
      all_goals refine bodyPost_ret (v := .tuple #[.string (bs []), .agg #[.string (bs l), .int .i64 0]]) (by simp [results, Tryd.results54, go_sem]; rfl) rfl ⟨rfl, ?_⟩
      all_goals exact (((Below.refl _ _).alloc (by simp) _).alloc (by simp) _).drew
    · by_cases hln : (l.length : Int) < n
      · have hv : rdText l 0 n = ([], [], 3) := by unfold rdText; rw [if_neg (by simp; omega), if_pos hln]
        rw [hv]; clear hv
        go_enter Tryd.func54, Tryd.ntmps54
        go_wp2
        refine bodyPost_ret (v := .tuple #[.string (bs []), .agg #[.string (bs []), .int .i64 3]]) (by simp [results, Tryd.results54, go_sem]; rfl) rfl ⟨rfl, ?_⟩
        exact (((Below.refl _ _).alloc (by simp) _).alloc (by simp) _)
      · have hv : rdText l 0 n = (l.take n.toNat, l.drop n.toNat, 0) := by unfold rdText; rw [if_neg (by simp; omega), if_neg hln]
        rw [hv]; clear hv
        have e1 := bs_take l n.toNat
        have e2 := bs_drop l n.toNat l.length (Nat.le_refl _)
        have hn0 : 0 ≤ n := by omega
        have hn1 : n ≤ (l.length : Int) := by omega
        go_enter Tryd.func54, Tryd.ntmps54
        go_wp2
        go_region
        all_goals go_wp2
        all_goals refine bodyPost_ret (v := .tuple #[.string (bs (l.take n.toNat)), .agg #[.string (bs (l.drop n.toNat)), .int .i64 0]]) (by simp [results, Tryd.results54, go_sem]) rfl ⟨rfl, ?_⟩
        all_goals exact (((Below.refl _ _).alloc (by simp) _).alloc (by simp) _).drew
  · have hv : rdText l e n = ([], l, e) := by unfold rdText; rw [if_pos (.inr he)]
    have he' : (e != 0) = true := by simp [he]
    rw [hv]; clear hv he
    go_enter Tryd.func54, Tryd.ntmps54
    go_wp2
    go_region
    all_goals go_wp2
    all_goals refine bodyPost_ret (v := .tuple #[.string (bs []), .agg #[.string (bs l), .int .i64 e]]) (by simp [results, Tryd.results54, go_sem]; rfl) rfl ⟨rfl, ?_⟩
    all_goals exact (((Below.refl _ _).alloc (by simp) _).alloc (by simp) _).drew

theorem numOf_stepR (t : List UInt8) (k : Nat) (h : k < t.length) (h' : k < (bs t).size) (hK : t.length ≤ 8) :
    IntKind.u64.wrap (numOf (t.take k) * 256 + IntKind.u64.wrap (((bs t)[k]'h').toNat : Int)) = numOf (t.take (k + 1)) := by
  rw [bs_get t k h' h]
  have hb := (t[k]'h).toNat_lt
  rw [show IntKind.u64.wrap ((t[k]'h).toNat : Int) = ((t[k]'h).toNat : Int) from IntWalk.u64_in _ (by omega)]
  have h1 := numOf_bd (t.take (k + 1))
  have h2 := numOf_lt (t.take (k + 1)) 8 18446744073709551616 (by simp; omega) (by decide)
  have e : numOf (t.take k) * 256 + ((t[k]'h).toNat : Int) = numOf (t.take (k + 1)) := by rw [← numOf_snoc, List.take_append_getElem]
  rw [e]
  exact IntWalk.u64_in _ (by omega)

set_option maxRecDepth 100000 in
set_option maxHeartbeats 2000000 in
theorem refNum_any (l : List UInt8) (e : Int) (K : Nat) (w : World) (hl : l.length ≤ 9223372036854775807) (hK : K ≤ 8) :
    Calls Tryd.prog 48 #[.agg #[.string (bs l), .int .i64 e], .int .i64 K] w fun en w' =>
      en = .returned (.tuple #[.int .u64 (numOf (rdText l e K).1), .agg #[.string (bs (rdText l e K).2.1), .int .i64 (rdText l e K).2.2]]) ∧ Below w.heap.size w w' := by
  have hlen : (rdText l e K).1.length ≤ K := rdText_len l e K
  generalize hrt : rdText l e K = rt at *
  obtain ⟨t, l', e'⟩ := rt
  have HT := Lib.hid hrt; clear hrt
  simp only at hlen ⊢
  have hsz : (bs t).size = t.length := bs_size t
  have hlen8 : t.length ≤ 8 := by omega
  go_enter Tryd.func48, Tryd.ntmps48
  go_wp2_with fail
  refine (refText_any l e K _ hl).mono ?_
  rw [HT.out]
  rintro en w1 ⟨rfl, hb⟩
  have hz := hb.size
  simp at hz
  have hb1 : Below w.heap.size w w1 := (((Below.refl w.heap.size w).alloc (by simp) _).alloc (by simp) _).trans (hb.mono (by simp <;> omega))
  have hc0 : w1.cell? ⟨w.heap.size + 1, 0, none⟩ = some (.string ⟨#[]⟩) := (hb.cell (by simp)).trans (by simp [go_sem])
  have hc1 : w1.cell? ⟨w.heap.size + 1, 1, none⟩ = some (.int .i64 0) := (hb.cell (by simp)).trans (by simp [go_sem])
  have hf0 : w1.frozen? ⟨w.heap.size + 1, 0, none⟩ = false := (hb.frozen (by simp)).trans (by simp [go_sem])
  have hf1 : w1.frozen? ⟨w.heap.size + 1, 1, none⟩ = false := (hb.frozen (by simp)).trans (by simp [go_sem])
  have hz1 : w.heap.size + 1 < w1.heap.size := by omega
  clear hb hz
  have HB := Lib.hid hb1
  clear hb1
  go_wp2
  go_loop [8, 9] (fun n i => ∃ k : Nat, k ≤ t.length ∧ i = .int .i64 k ∧ n = .int .u64 (numOf (t.take k))) (fun _ i => t.length - (intOf i).toNat)
  case atStart => exact ⟨0, by omega, rfl, rfl⟩
  case round =>
    obtain ⟨k, hk, rfl, rfl⟩ := hrel
    by_cases hlt : k < t.length
    · have hb2 : numOf (t.take k) < 72057594037927936 := numOf_lt _ 7 _ (by simp; omega) (by decide)
      have hb1 := (numOf_bd (t.take k)).1
      go_wp2
      go_round
      case rel => exact ⟨k + 1, by omega, by go_num, by rw [numOf_stepR t k hlt _ hlen8]⟩
      case measure => simp [intOf]; omega
    · obtain rfl : k = t.length := by omega
      have HX : Hid (numOf (t.take t.length) = numOf t) := by show _ = _; rw [List.take_length]
      rw [HX.out]
      go_wp2
      go_region
      all_goals go_wp2
      all_goals refine bodyPost_ret (v := .tuple #[.int .u64 (numOf t), .agg #[.string (bs l'), .int .i64 e']]) (by simp [results, Tryd.results48, go_sem, hc0, hc1, hz1]) rfl ⟨rfl, ?_⟩
      all_goals exact (((HB.out.setCell (p := ⟨w.heap.size + 1, 0, none⟩) (Nat.le_succ _) _).setCell (p := ⟨w.heap.size + 1, 1, none⟩) (Nat.le_succ _) _).alloc (by have := HB.out.size; simp; omega) _).drew
end Go.Proofs.YtecoomkpkdapdaaDoor
