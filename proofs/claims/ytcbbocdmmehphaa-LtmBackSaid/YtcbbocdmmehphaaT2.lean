/- tlv: Find. -/
import Derived.Test.YtcbbocdmmehphaaT0
set_option linter.unusedVariables false
namespace Go.Proofs.Ytcbbocdmmehphaa
open Go.RowKit

/-- Find: the first value of a type. -/
def findT : List Th → UInt8 → List UInt8 × Bool
  | [], _ => ([], false)
  | x :: l, k => if x.1 = k then (x.2, true) else findT l k
theorem findT_at : ∀ (l : List Th) (k : UInt8) (i : Nat) (hi : i < l.length), (∀ x ∈ l.take i, x.1 ≠ k) → l[i].1 = k → findT l k = (l[i].2, true)
  | x :: l, k, 0, _, _, h => by
    have h' : x.1 = k := h
    unfold findT; rw [if_pos h']; rfl
  | x :: l, k, i + 1, hi, hn, h => by
    have ih := findT_at l k i (by simpa using hi) (fun y hy => hn y (by simp [hy])) h
    unfold findT; rw [if_neg (hn x (by simp)), ih]; rfl
theorem findT_no : ∀ (l : List Th) (k : UInt8), (∀ x ∈ l, x.1 ≠ k) → findT l k = ([], false)
  | [], _, _ => rfl
  | x :: l, k, h => by
    unfold findT; rw [if_neg (h x (by simp)), findT_no l k (fun y hy => h y (by simp [hy]))]

set_option maxRecDepth 100000 in
set_option maxHeartbeats 4000000 in
theorem refFind_any (v : Value) (l : List Th) (k : UInt8) (w : World) (hv : Tls w v l) (hl : l.length ≤ 100000) : Calls Try.prog 75 #[v, .int .u8 (k.toNat : Int)] w fun en w' => en = .returned (.tuple #[.string (bs (findT l k).1), .bool (findT l k).2]) ∧ w = w' := by
  obtain ⟨a, c, rfl, hc⟩ := hv.shape
  have HC := Lib.hid hc
  clear hc hv
  obtain ⟨R, hR⟩ : ∃ R, findT l k = R := ⟨_, rfl⟩
  have HR := Lib.hid hR
  rw [hR]; clear hR
  obtain ⟨k0, hk0⟩ : ∃ k0, (k.toNat : Int) = k0 := ⟨_, rfl⟩
  have HK0 := Lib.hid hk0
  rw [hk0]; clear hk0
  go_enter Try.func75, Try.ntmps75
  go_wp2_with fail
  go_loop [6] (fun i => ∃ j : Nat, j ≤ l.length ∧ i = .int .i64 j ∧ ∀ x ∈ l.take j, x.1 ≠ k) (fun i => l.length - (intOf i).toNat)
  case atStart => exact ⟨0, by omega, rfl, by simp⟩
  case round =>
    obtain ⟨j, hj, rfl, hno⟩ := hrel
    have HN := Lib.hid hno; clear hno
    by_cases hlt : j < l.length
    · have dk : decide ((j : Int) < (l.length : Int)) = true := decide_eq_true (by omega)
      obtain ⟨b, off, rfl, hcc⟩ := HC.out.resolve_left (by intro h; rw [h] at hlt; simp at hlt)
      have c0 := (hcc j hlt).1
      have c1 := (hcc j hlt).2
      have hnext : l.take (j + 1) = l.take j ++ [l[j]] := List.take_succ_eq_append_getElem hlt
      have hfa := findT_at l k j hlt HN.out
      obtain ⟨x, hx⟩ : ∃ x, l[j] = x := ⟨_, rfl⟩
      rw [hx] at c0 c1 hnext hfa
      obtain ⟨x0, hx0⟩ : ∃ x0, (x.1.toNat : Int) = x0 := ⟨_, rfl⟩
      rw [hx0] at c0
      have HNX := Lib.hid hnext
      have HF := Lib.hid hfa
      have HX0 := Lib.hid hx0
      clear hcc hx HC hnext hfa hx0
      by_cases he : x0 = k0
      · have de : (x0 == k0) = true := by simpa using he
        have hxk : x.1 = k := UInt8.toNat_inj.1 (by have := HX0.out; have := HK0.out; omega)
        have hRR := HR.out.symm.trans (HF.out hxk)
        have HRR := Lib.hid hRR
        clear he hxk hRR
        go_wp2
        refine bodyPost_ret (v := .tuple #[.string (bs x.2), .bool true]) (by simp [results, Try.results75, go_sem]) rfl ⟨by rw [HRR.out], rfl⟩
      · have de : (x0 == k0) = false := by simpa using he
        have hxk : x.1 ≠ k := fun h => he (by rw [← HX0.out, ← HK0.out, h])
        have HXK := Lib.hid hxk
        clear he hxk
        go_wp2
        exact ⟨⟨j + 1, by omega, by go_num, fun y hy => by
          rw [HNX.out, List.mem_append] at hy
          rcases hy with hy | hy
          · exact HN.out y hy
          · simp at hy; subst hy; exact HXK.out⟩, by simp [intOf]; omega⟩
    · have dk : decide ((j : Int) < (l.length : Int)) = false := decide_eq_false (by omega)
      have hRR := HR.out.symm.trans (findT_no l k (by have h := HN.out; rw [List.take_of_length_le (by omega)] at h; exact h))
      have HRR := Lib.hid hRR
      clear hRR
      go_wp2
      refine bodyPost_ret (v := .tuple #[.string (bs []), .bool false]) (by simp [results, Try.results75, go_sem]; rfl) rfl ⟨by rw [HRR.out], rfl⟩

set_option maxRecDepth 100000 in
set_option maxHeartbeats 4000000 in
theorem find1_any (x : Th) (k0 : Int) (q : Nat) (w : World) (hq : w.cell? ⟨q, 0, none⟩ = some (.int .u8 k0)) : Calls Try.prog 93 #[.agg #[.int .u8 (x.1.toNat : Int), .string (bs x.2)], .pointer (some ⟨q, 0, none⟩)] w fun en w' => en = .returned (.bool ((x.1.toNat : Int) == k0)) ∧ Below w.heap.size w w' := by
  have hlt := World.block_lt_of_cell? w _ hq
  have hlt' : q < w.heap.size := hlt
  go_enter Try.func93, Try.ntmps93
  go_wp2
  go_ret
  exact ⟨rfl, (Below.refl _ _).alloc (Nat.le_refl _) _⟩
end Go.Proofs.Ytcbbocdmmehphaa
