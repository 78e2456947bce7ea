/- ref07: Has, Find, without. -/
import Derived.Test.YtecoomkpkdapdaaGX
import Derived.Test.YtecoomkpkdapdaaV1
import Derived.Test.YtecoomkpkdapdaaRW
import Derived.Deep.LoopGhost
set_option linter.unusedVariables false
namespace Go.Proofs.Ytecoomkpkdapdaa
open Go.RowKit

/-- A VLAN's cells. -/
def vnC (x : Vn) : List Value := [.int .u16 x.1, .int .u8 x.2.1, .int .u8 x.2.2]
theorem vnC_len (x : Vn) : (vnC x).length = 3 := rfl
/-- A slice that reads as these VLANs. -/
abbrev Vs (w : World) (s : Value) (V : List Vn) : Prop := Rw 3 vnC w s V
/-- A table of the document's, its cells. -/
def RA (n : Int) (s : Value) (o : List Int) : Array Value := (.int .i64 n :: s :: o.map (Value.int .u16)).toArray
theorem RA_size {n : Int} {s : Value} {o : List Int} (ho : o.length = 8) : (RA n s o).size = 10 := by simp [RA, ho]
theorem RA_one {n : Int} {s : Value} {o : List Int} (hs : s.oneCell' = true) : (RA n s o).all (·.oneCell') = true := by
  unfold RA
  rw [Array.all_eq_true_iff_forall_mem]
  intro x hx
  simp only [List.mem_toArray, List.mem_cons, List.mem_map] at hx
  rcases hx with rfl | rfl | ⟨y, _, rfl⟩
  · rfl
  · exact hs
  · rfl
theorem Vs.one {w : World} {s : Value} {V : List Vn} (h : Vs w s V) : s.oneCell' = true := by
  obtain ⟨a, c, rfl, _⟩ := h.shape; rfl
/-- Where a VLAN stands; below 0: nowhere. -/
def vIdx : List Vn → Int → Int
  | [], _ => -1
  | x :: r, k => if x.1 = k then 0 else if vIdx r k < 0 then -1 else vIdx r k + 1
theorem vIdx_none : ∀ {V : List Vn} {k : Int}, (∀ x ∈ V, x.1 ≠ k) → vIdx V k = -1
  | [], _, _ => rfl
  | x :: r, k, h => by
    have ih := vIdx_none (V := r) (k := k) (fun y hy => h y (List.mem_cons_of_mem _ hy))
    unfold vIdx
    rw [if_neg (h x (List.mem_cons_self ..)), ih]; rfl
theorem vIdx_at : ∀ {V : List Vn} {k : Int} (j : Nat) (hj : j < V.length), (∀ x ∈ V.take j, x.1 ≠ k) → V[j].1 = k → vIdx V k = j
  | x :: r, k, 0, _, _, h => by
    have h' : x.1 = k := h
    unfold vIdx; rw [if_pos h']; rfl
  | x :: r, k, j + 1, hj, h0, h => by
    have ih := vIdx_at (V := r) (k := k) j (by simpa using hj) (fun y hy => h0 y (by simp [hy])) h
    unfold vIdx
    rw [if_neg (h0 x (by simp)), ih, if_neg (by omega)]; simp
theorem vIdx_find : ∀ (V : List Vn) (k : Int), (vIdx V k = -1 ∧ vFind V k = none) ∨ ∃ (j : Nat) (hj : j < V.length), vIdx V k = j ∧ vFind V k = some V[j].2 ∧ V[j].1 = k
  | [], _ => .inl ⟨rfl, rfl⟩
  | x :: r, k => by
    unfold vIdx vFind
    by_cases h : x.1 = k
    · rw [if_pos h, if_pos h]; exact .inr ⟨0, by simp, rfl, rfl, h⟩
    · rw [if_neg h, if_neg h]
      rcases vIdx_find r k with ⟨h1, h2⟩ | ⟨j, hj, h1, h2, h3⟩
      · rw [h1, h2]; exact .inl ⟨rfl, rfl⟩
      · rw [h1, if_neg (by omega)]
        exact .inr ⟨j + 1, by simpa using hj, by simp, by simpa using h2, by simpa using h3⟩
set_option maxRecDepth 100000 in
set_option maxHeartbeats 4000000 in
theorem has_any (a : Int) (p : Nat) (w : World) (ha : 0 ≤ a ∧ a < 256) (hp : p < 256) : Calls Try.prog 68 #[.int .u8 a, .int .u8 (p : Int)] w fun en w' => en = .returned (.bool (memB a p)) ∧ w' = w := by
  have hv : memB a p = decide (a / 2 ^ p % 2 = 1) := by
    unfold memB
    by_cases h8 : p < 8
    · rw [decide_eq_true h8, Bool.true_and]
    · have h2 : (256 : Int) ≤ 2 ^ p := by
        have h3 : (2 : Nat) ^ 8 ≤ 2 ^ p := Nat.pow_le_pow_right (by decide) (by omega)
        have h4 : ((2 ^ 8 : Nat) : Int) ≤ ((2 ^ p : Nat) : Int) := Int.ofNat_le.2 h3
        simpa using h4
      have h0 : a / 2 ^ p = 0 := Int.ediv_eq_zero_of_lt ha.1 (by omega)
      rw [decide_eq_false h8, h0]; rfl
  rw [hv]
  obtain ⟨R, hR⟩ : ∃ R, decide (a / 2 ^ p % 2 = 1) = R := ⟨_, rfl⟩
  rw [hR]
  have HR := Lib.hid hR
  clear hR hv
  go_enter Try.func68, Try.ntmps68
  go_wp2_with fail
  go_loop [0, 5] (fun s i => ∃ j : Nat, j ≤ p ∧ i = .int .u8 j ∧ s = .int .u8 (a / 2 ^ j)) (fun _ i => p - (intOf i).toNat)
  case atStart => exact ⟨0, by omega, rfl, by simp⟩
  case round =>
    obtain ⟨j, hj, rfl, rfl⟩ := hrel
    have hnn : 0 ≤ a / 2 ^ j ∧ a / 2 ^ j < 256 := by
      have h1 : (0 : Int) < 2 ^ j := Int.pow_pos (by decide)
      exact ⟨Int.ediv_nonneg ha.1 (by omega), Int.lt_of_le_of_lt (Int.ediv_le_self _ ha.1) ha.2⟩
    have hst : a / 2 ^ (j + 1) = a / 2 ^ j / 2 := by rw [Int.pow_succ, Int.ediv_ediv_of_nonneg (Int.le_of_lt (Int.pow_pos (by decide)))]
    by_cases hlt : j < p
    · have dk : decide ((j : Int) < (p : Int)) = true := decide_eq_true (by omega)
      have HST := Lib.hid hst
      clear hst
      obtain ⟨c, hc⟩ : ∃ c, a / 2 ^ j = c := ⟨_, rfl⟩
      rw [hc] at hnn HST ⊢
      go_wp2
      go_round
      case rel => exact ⟨j + 1, by omega, by go_num, by rw [HST.out]⟩
      case measure => simp [intOf]; omega
    · obtain rfl : j = p := by omega
      have dk : decide ((j : Int) < (j : Int)) = false := decide_eq_false (by omega)
      obtain ⟨c, hc⟩ : ∃ c, a / 2 ^ j = c := ⟨_, rfl⟩
      rw [hc] at hnn HR ⊢
      have HR2 := HR.out
      clear hst
      go_wp2
      go_ret
      refine ⟨?_, rfl⟩
      rw [← HR2]
      simp [Bool.beq_eq_decide_eq]
set_option maxRecDepth 100000 in
set_option maxHeartbeats 4000000 in
theorem find_any (n : Int) (s : Value) (o : List Int) (V : List Vn) (k : Int) (w : World) (hV : Vs w s V) (hl : V.length ≤ 100) : Calls Try.prog 67 #[.agg (RA n s o), .int .u16 k] w fun en w' => en = .returned (.int .i64 (vIdx V k)) ∧ Below w.heap.size w w' := by
  obtain ⟨A, hA⟩ : ∃ A, RA n s o = A := ⟨_, rfl⟩
  have a1 : A[1]? = some s := by rw [← hA]; rfl
  rw [hA]
  clear hA
  obtain ⟨R, hR⟩ : ∃ R, vIdx V k = R := ⟨_, rfl⟩
  rw [hR]
  have HR := Lib.hid hR
  clear hR
  go_enter Try.func67, Try.ntmps67
  go_upto_region 1 with fail
  have g0 := GB.new 43 w A
  have hb0 : Below w.heap.size w (w.alloc (.cells A 43)) := (Below.refl _ _).alloc (Nat.le_refl _) _
  obtain ⟨w0, hw0⟩ : ∃ k, w.alloc (.cells A 43) = k := ⟨_, rfl⟩
  rw [hw0] at g0 hb0 ⊢
  obtain ⟨a, c, rfl, hc⟩ := (hV.later vnC_len hb0).shape
  have c1 := g0.c 1 _ a1
  have HC := Lib.hid hc
  have HB := Lib.hid hb0
  clear hw0 hc hb0 hV g0 a1
  obtain ⟨p, hp⟩ : ∃ k, w.heap.size = k := ⟨_, rfl⟩
  rw [hp] at c1 HB ⊢
  go_wp2_with fail
  go_loop [5] (fun i => ∃ j : Nat, j ≤ V.length ∧ i = .int .i64 j ∧ ∀ x ∈ V.take j, x.1 ≠ k) (fun i => V.length - (intOf i).toNat)
  case atStart => exact ⟨0, by omega, rfl, by simp⟩
  case round =>
    obtain ⟨j, hj, rfl, hno⟩ := hrel
    by_cases hlt : j < V.length
    · have dk : decide ((j : Int) < (V.length : Int)) = true := decide_eq_true (by omega)
      obtain ⟨b, off, rfl, hcc⟩ := HC.out.resolve_left (by intro h; rw [h] at hlt; simp at hlt)
      have c0 := hcc j hlt 0 (by decide)
      rw [Nat.add_zero] at c0
      have hat := vIdx_at (k := k) j hlt hno
      have hnx : V.take (j + 1) = V.take j ++ [V[j]] := List.take_succ_eq_append_getElem hlt
      obtain ⟨x, hx⟩ : ∃ x, V[j] = x := ⟨_, rfl⟩
      rw [hx] at c0 hat hnx
      replace c0 : w0.cell? ⟨b, off + j * 3, none⟩ = some (.int .u16 x.1) := c0
      obtain ⟨x1, hx1⟩ : ∃ y, x.1 = y := ⟨_, rfl⟩
      rw [hx1] at c0 hat
      have HAT := Lib.hid hat
      have HNX := Lib.hid hnx
      have HNO := Lib.hid hno
      have HJ : (j : Int) < V.length := by omega
      clear hat hnx hno hcc hx
      by_cases hk : x1 = k
      · subst hk
        have HV := Lib.hid (HR.out.symm.trans (HAT.out rfl))
        obtain ⟨N, hN⟩ : ∃ N, V.length = N := ⟨_, rfl⟩
        rw [hN] at dk HJ ⊢
        go_wp2
        go_ret
        exact ⟨by rw [HV.out]; rfl, by rw [← hp]; rw [← hp] at HB; exact HB.out⟩
      · obtain ⟨N, hN⟩ : ∃ N, V.length = N := ⟨_, rfl⟩
        rw [hN] at dk HJ hlt hj ⊢
        go_wp2
        refine ⟨⟨j + 1, by omega, by go_num, ?_⟩, by simp [intOf]; omega⟩
        rw [HNX.out]; intro y hy
        rcases List.mem_append.1 hy with hy | hy
        · exact HNO.out y hy
        · rw [List.mem_singleton.1 hy, hx1]; exact hk
    · obtain rfl : j = V.length := by omega
      rw [List.take_length] at hno
      have hv := vIdx_none hno
      have dk : decide ((V.length : Int) < (V.length : Int)) = false := decide_eq_false (by omega)
      have HV := Lib.hid (HR.out.symm.trans hv)
      obtain ⟨N, hN⟩ : ∃ N, V.length = N := ⟨_, rfl⟩
      rw [hN] at dk ⊢
      clear hno hv
      go_wp2
      go_ret
      exact ⟨by rw [HV.out]; rfl, by rw [← hp]; rw [← hp] at HB; exact HB.out⟩
end Go.Proofs.Ytecoomkpkdapdaa
