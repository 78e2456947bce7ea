/- ZP06: the texts QM as one. -/
import Derived.Test.YtlkdfofpnmpidaaGreatZP01
import Derived.RegionIn
import Derived.Deep.DeepCutAuto
import Derived.BigQuiet
import Derived.Maps.OwnSet
import Derived.RangeFuncBox
import Derived.RangeFuncLeaves
import Derived.RangeFuncBound
import Derived.RangeFuncCalls
import Derived.Shelf.Abstract
import Derived.Sort.MapsRangeIn
import Derived.WalkKit
import Derived.OwnWalkIn
import Derived.TacticsInMore
import Derived.LoopNIn
import Derived.LoopIn
import Derived.Maps.AppendAt
/- QM: the texts Q0, Q1, Q2, Q3, Q4 as one. -/
/- slices.Sort at few numbers of sixteen bits: the insertion sort. -/
set_option linter.unusedVariables false
namespace Go.Proofs.YtlkdfofpnmpidaaGreat
open Go.RowKit

/-- A row of numbers of sixteen bits, whole, in a block of its own. -/
def RowU (W : World) (g : Nat) (l : List Int) (t : List Value) : Prop := W.heap[g]? = some (.cells (l.map (Value.int .u16) ++ t).toArray 22 (0, 0))
section
variable {W W' : World} {g : Nat} {l p q : List Int} {x y : Int} {t : List Value}
theorem RowU.lt (h : RowU W g l t) : g < W.heap.size := (Array.getElem?_eq_some_iff.1 h).1
theorem RowU.later (h : RowU W g l t) (hb : Below W.heap.size W W') : RowU W' g l t := (hb.block g h.lt).trans h
theorem RowU.cell (h : RowU W g (p ++ x :: q) t) {m : Nat} (hm : p.length = m) : W.cell? ⟨g, m, none⟩ = some (.int .u16 x) := by
  subst hm; unfold RowU at h; simp [World.cell?, h]
theorem RowU.fr (h : RowU W g l t) (m : Nat) : W.frozen? ⟨g, m, none⟩ = false := by unfold RowU at h; simp [World.frozen?, h]
theorem RowU.set (h : RowU W g (p ++ x :: q) t) {m : Nat} (hm : p.length = m) (y : Int) : RowU (W.setCell ⟨g, m, none⟩ (.int .u16 y)) g (p ++ y :: q) t := by
  subst hm; unfold RowU at *; simp [World.setCell, Array.getElem?_modify, h]
end
theorem isNaN_any (x : Int) (w : World) : Calls Tryz.prog 175 #[.int .u16 x] w fun en w' => en = .returned (.bool false) ∧ w' = w := by
  go_enter Tryz.func175, Tryz.ntmps175
  go_wp2
  go_ret
  simp
theorem less_any (x y : Int) (w : World) : Calls Tryz.prog 165 #[.int .u16 x, .int .u16 y] w fun en w' => en = .returned (.bool (decide (x < y))) ∧ w' = w := by
  go_enter Tryz.func165, Tryz.ntmps165
  go_wp2_with (go_at_call 175; refine (isNaN_any _ _).mono ?_; rintro e w' ⟨rfl, rfl⟩)
  go_ret
  simp
theorem Only.of_below {p : Nat} {w w' : World} (h : Below w.heap.size w w') : Only p w w' := ⟨h.os, h.tape, h.output, h.size, fun k hk _ => h.block k hk⟩
theorem less_same (x y : Int) (w : World) : Calls Tryz.prog 165 #[.int .u16 x, .int .u16 y] w fun en w' => en = .returned (.bool (decide (x < y))) ∧ w = w' := (less_any x y w).mono fun _ _ h => ⟨h.1, h.2.symm⟩
theorem pw_ins {p q : List Int} {x y : Int} (h : (p ++ [y] ++ q).Pairwise (· ≤ ·)) (hq : ∀ z ∈ q, x < z) (hx : y ≤ x) : (p ++ [y] ++ x :: q).Pairwise (· ≤ ·) := by
  rw [List.pairwise_append] at h ⊢
  refine ⟨h.1, List.pairwise_cons.2 ⟨fun z hz => Int.le_of_lt (hq z hz), h.2.1⟩, fun a ha b hb => ?_⟩
  rcases List.mem_cons.1 hb with rfl | hb
  · rcases List.mem_append.1 ha with ha2 | ha2
    · have := (List.pairwise_append.1 h.1).2.2 a ha2 y (by simp)
      omega
    · rw [List.mem_singleton.1 ha2]; exact hx
  · exact h.2.2 a ha b hb
set_option maxRecDepth 100000 in
set_option maxHeartbeats 8000000 in
theorem isort_any (g cap : Nat) (l : List Int) (t : List Value) (n : Nat) (w : World) (hn : l.length = n) (hl : n ≤ 12) (h : RowU w g l t) :
    Calls Tryz.prog 159 #[.slice (some ⟨g, 0, none⟩) n cap, .int .i64 0, .int .i64 n] w fun en w' => en = .returned (.tuple #[]) ∧ ∃ s : List Int, s.Perm l ∧ s.Pairwise (· ≤ ·) ∧ RowU w' g s t ∧ Only g w w' := by
  go_enter Tryz.func159, Tryz.ntmps159
  go_wp2
  rcases hl0 : l with _ | ⟨x0, l0⟩
  · subst hl0
    have hn0 : n = 0 := by simpa using hn.symm
    subst hn0
    go_loopw [6] (fun i wr => i = .int .i64 1 ∧ wr = w) (fun _ _ => 0)
    case atStart => exact ⟨rfl, rfl⟩
    case round =>
      obtain ⟨rfl, rfl⟩ := hrel
      go_wp2
      go_end0
      exact ⟨rfl, [], List.Perm.refl _, by simp, h, Only.refl _ _⟩
  go_loopw [6] (fun i wr => ∃ (s r : List Int) (m : Nat), s.length = m ∧ 1 ≤ m ∧ i = .int .i64 m ∧ (s ++ r).Perm l ∧ s.Pairwise (· ≤ ·) ∧ RowU wr g (s ++ r) t ∧ Only g w wr) (fun i _ => n - (intOf i).toNat)
  case atStart => exact ⟨[x0], l0, 1, rfl, by omega, by simp, by rw [hl0]; simp, by simp, by rw [hl0] at h; exact h, Only.refl _ _⟩
  case round =>
    obtain ⟨s, r, m, hm, hm1, rfl, hp, hw, hr, ho⟩ := hrel
    have hlen : m + r.length = n := by have := hp.length_eq; rw [List.length_append] at this; omega
    rcases r with _ | ⟨x, r⟩
    · simp at hlen
      subst hlen
      go_wp2
      go_end0
      exact ⟨rfl, s, by simpa using hp, hw, by simpa using hr, ho⟩
    · have hlt : (m : Int) < n := by simp at hlen; omega
      go_wp2
      have HP := Lib.hid hp
      have HO := Lib.hid ho
      have HNL := Lib.hid hlen
      obtain ⟨N, hN⟩ : ∃ N : Int, (n : Int) = N := ⟨_, rfl⟩
      clear hp ho hlen h hl0
      go_loopw [7] (fun j wx => ∃ (p q : List Int) (k : Nat), p.length = k ∧ j = .int .i64 k ∧ (p ++ x :: q).Perm (s ++ [x]) ∧ (p ++ q).Pairwise (· ≤ ·) ∧ (∀ z ∈ q, x < z) ∧ RowU wx g (p ++ x :: (q ++ r)) t ∧ Only g w wx) (fun j _ => (intOf j).toNat)
      case atStart => exact ⟨s, [], m, hm, rfl, List.Perm.refl _, by simpa using hw, by simp, by simpa using hr, HO.out⟩
      case round =>
        obtain ⟨p, q, k, hk, rfl, hpp, hpw, hq, hrx, hox⟩ := hrel
        have hg := hrx.lt
        rcases p.eq_nil_or_concat with rfl | ⟨p', y, hpe⟩
        · simp at hk
          subst hk
          go_upto_region 4 with fail
          refine wp_region_later (by kernel_rfl) (by kernel_rfl) ?_
          repeat (go_big_quiet_step (fail))
          refine wpQuiet_nil ?_
          rintro _ ⟨k2, rfl⟩
          have hr2 := hrx.later k2.h
          have ho2 : Only g w k2.out := hox.trans (Only.of_below k2.h)
          go_wp2
          have hl2 := hpp.length_eq
          simp at hl2
          refine ⟨⟨x :: q, r, m + 1, by simp; omega, by omega, by simp, ?_, List.pairwise_cons.2 ⟨fun z hz => Int.le_of_lt (hq z hz), by simpa using hpw⟩, hr2, ho2⟩, by simp [intOf]; omega⟩
          exact ((hpp.append_right r).trans (by simp)).trans HP.out
        · rw [List.concat_eq_append] at hpe
          subst hpe
          rw [List.length_append] at hk
          obtain ⟨m', hm'⟩ : ∃ m', p'.length = m' := ⟨_, rfl⟩
          rw [hm'] at hk
          simp only [List.length_cons, List.length_nil] at hk
          subst hk
          have e1 : p' ++ [y] ++ x :: (q ++ r) = p' ++ y :: (x :: (q ++ r)) := by simp
          have c1 : ∀ k : Later wr, k.out.cell? ⟨g, m' + 1, none⟩ = some (.int .u16 x) := fun k => (hrx.later k.h).cell (by simp; exact hm')
          have c0 : ∀ k : Later wr, k.out.cell? ⟨g, m', none⟩ = some (.int .u16 y) := fun k => by
            have := hrx.later k.h; rw [e1] at this; exact this.cell hm'
          have i0 : (0 : Int) ≤ (m' : Int) := by omega
          have i1 : (m' : Int) + 1 < n := by
            have := HNL.out; have h2 := hpp.length_eq; simp at h2; simp at this; omega
          go_upto_region 4 with fail
          refine wp_region_later (by kernel_rfl) (by kernel_rfl) ?_
          repeat (go_big_quiet_step (first | (go_at_call 165; exact Calls.later_same (less_same _ _ _))))
          refine wpQuiet_nil ?_
          rintro _ ⟨k2, rfl⟩
          have hr2 := hrx.later k2.h
          rw [e1] at hr2
          have ho2 : Only g w k2.out := hox.trans (Only.of_below k2.h)
          clear c1 c0
          by_cases hxy : x < y
          · have dxy : decide (x < y) = true := decide_eq_true hxy
            have hx1 := hr2.cell (m := m') hm'
            have hr3 := hr2
            rw [show p' ++ y :: (x :: (q ++ r)) = (p' ++ [y]) ++ x :: (q ++ r) by simp] at hr3
            have hx2 := hr3.cell (m := m' + 1) (by simp; exact hm')
            have hf1 := hr2.fr m'
            have hf2 := hr2.fr (m' + 1)
            go_wp2
            go_region
            all_goals go_wp2
            have hr4 := hr3.set (m := m' + 1) (by simp; exact hm') y
            rw [show (p' ++ [y]) ++ y :: (q ++ r) = p' ++ y :: (y :: q ++ r) by simp] at hr4
            have hr5 := hr4.set (m := m') hm' x
            refine ⟨⟨p', y :: q, m', hm', rfl, ?_, by simpa using hpw, fun z hz => ?_, hr5, (ho2.trans (Only.set g k2.out (m' + 1) (.int .u16 y))).trans ((Only.set g _ m' (.int .u16 x)).trans (Only.of_below ((Below.refl _ _).drew)))⟩, by simp [intOf]⟩
            · exact ((List.Perm.append_left p' (List.Perm.swap y x q)).trans (by simp)).trans hpp
            · rcases List.mem_cons.1 hz with rfl | hz
              · exact hxy
              · exact hq z hz
          · have dxy : decide (x < y) = false := decide_eq_false hxy
            go_wp2
            have hl2 := hpp.length_eq
            simp at hl2
            refine ⟨⟨p' ++ [y] ++ x :: q, r, m + 1, by simp; omega, by omega, by simp, ?_, pw_ins hpw hq (by omega), by simpa using hr2, ho2⟩, by simp [intOf]; omega⟩
            exact ((hpp.append_right r).trans (by simp)).trans HP.out
end Go.Proofs.YtlkdfofpnmpidaaGreat

/- slices.Sort at few numbers of sixteen bits. -/
set_option linter.unusedVariables false
namespace Go.Proofs.YtlkdfofpnmpidaaGreat
open Go.RowKit

set_option maxRecDepth 100000 in
set_option maxHeartbeats 4000000 in
theorem bitsLen64_any (n : Nat) (hn : n ≤ 12) (w : World) : Calls Tryz.prog 169 #[.int .u64 n] w fun en w' => (∃ v : Int, en = .returned (.int .i64 v)) ∧ w' = w := by
  rcases n with _ | _ | _ | _ | _ | _ | _ | _ | _ | _ | _ | _ | _ | n
  all_goals first
    | omega
    | (go_enter Tryz.func169, Tryz.ntmps169
       go_wp2
       go_ret
       exact ⟨⟨_, rfl⟩, rfl⟩)
set_option maxRecDepth 100000 in
set_option maxHeartbeats 4000000 in
theorem bitsLen_any (n : Nat) (hn : n ≤ 12) (w : World) : Calls Tryz.prog 158 #[.int .u64 n] w fun en w' => (∃ v : Int, en = .returned (.int .i64 v)) ∧ w' = w := by
  go_enter Tryz.func158, Tryz.ntmps158
  go_wp2_with (go_at_call 169; refine (bitsLen64_any n hn _).mono ?_; rintro e w' ⟨⟨v, rfl⟩, rfl⟩)
  go_ret
  exact ⟨⟨_, rfl⟩, rfl⟩
set_option maxRecDepth 100000 in
set_option maxHeartbeats 4000000 in
theorem pdq_any (g cap : Nat) (l : List Int) (t : List Value) (n : Nat) (v : Int) (w : World) (hn : l.length = n) (hl : n ≤ 12) (h : RowU w g l t) :
    Calls Tryz.prog 157 #[.slice (some ⟨g, 0, none⟩) n cap, .int .i64 0, .int .i64 n, .int .i64 v] w fun en w' => en = .returned (.tuple #[]) ∧ ∃ s : List Int, s.Perm l ∧ s.Pairwise (· ≤ ·) ∧ RowU w' g s t ∧ Only g w w' := by
  go_enter Tryz.func157, Tryz.ntmps157
  go_wp2
  go_loopw [1, 2] (fun a b wr => a = .int .i64 0 ∧ b = .int .i64 n ∧ wr = w) (fun _ _ _ => 0)
  case atStart => exact ⟨rfl, rfl, rfl⟩
  case round =>
    obtain ⟨rfl, rfl, rfl⟩ := hrel
    have hle : (n : Int) ≤ 12 := by omega
    go_wp2_with (go_at_call 159; refine (isort_any g cap l t n _ hn hl h).mono ?_; rintro e w' ⟨rfl, hs⟩)
    refine bodyPost_ret (results_none rfl _ _ _) rfl ?_
    exact ⟨rfl, hs⟩
set_option maxRecDepth 100000 in
set_option maxHeartbeats 4000000 in
theorem sort_any (g cap : Nat) (l : List Int) (t : List Value) (n : Nat) (w : World) (hn : l.length = n) (hl : n ≤ 12) (h : RowU w g l t) :
    Calls Tryz.prog 148 #[.slice (some ⟨g, 0, none⟩) n cap] w fun en w' => en = .returned (.tuple #[]) ∧ ∃ s : List Int, s.Perm l ∧ s.Pairwise (· ≤ ·) ∧ RowU w' g s t ∧ Only g w w' := by
  go_enter Tryz.func148, Tryz.ntmps148
  go_wp2_with (first
    | (go_at_call 158; refine (bitsLen_any n hl _).mono ?_; rintro e w' ⟨⟨v, rfl⟩, rfl⟩)
    | (go_at_call 157; refine (pdq_any g cap l t n _ _ hn hl h).mono ?_; rintro e w' ⟨rfl, hs⟩))
  go_end0
  exact ⟨rfl, hs⟩
end Go.Proofs.YtlkdfofpnmpidaaGreat

/- maps.Keys at numbers of sixteen bits; slices.AppendSeq, Collect, Sorted. -/
set_option linter.unusedVariables false
namespace Go.Proofs.YtlkdfofpnmpidaaGreat
open Go.RowKit Go.Shelf
open Go.Maps (Keyed int_keyed has has_eq)

abbrev encU : Int → Value := Value.int .u16
theorem keyOf_u16 {P : Program} {k : TypeId} (hk : P.underlying k = some (.int .u16)) {key : Value} {kl : Lit} (h : keyOf P k key = some kl) : ∃ x : Int, key = encU x ∧ kl = .int .u16 x := by
  cases key <;> simp [keyOf, hk, mapKey] at h
  rename_i q a
  obtain ⟨⟨rfl, hw⟩, rfl⟩ := h
  exact ⟨a, rfl, rfl⟩
/-- No key twice; a key has come just where the map has it and it is no longer to come. -/
def CollU {H : Type} (D0 : DataW H) (left : Lit → Bool) (ss : List Int) : Prop := ss.Nodup ∧ ∀ x, x ∈ ss ↔ (has D0 (.int .u16 x) = true ∧ left (.int .u16 x) = false)
theorem CollU.start {H : Type} (D0 : DataW H) : CollU D0 (has D0) [] := ⟨List.nodup_nil, fun x => by cases has D0 (.int .u16 x) <;> simp⟩
theorem CollU.step {H : Type} {D0 : DataW H} {left : Lit → Bool} {ss : List Int} (h : CollU D0 left ss) {x : Int} {y : DataW H} (hlk : left (.int .u16 x) = true) (hat : ∀ zd, D0.atKey (.int .u16 x) zd = y) : CollU D0 (fun z => left z && !z.sameKey (.int .u16 x)) (ss ++ [x]) := by
  have hhas : has D0 (.int .u16 x) = true := Maps.has_true_of_atKey hat
  have hnew : x ∉ ss := fun hx => by have := ((h.2 x).1 hx).2; rw [hlk] at this; cases this
  refine ⟨List.nodup_append.2 ⟨h.1, by simp, fun a ha b hb => by simp at hb; subst hb; exact fun e => hnew (e ▸ ha)⟩, fun y => ?_⟩
  by_cases hy : y = x
  · subst hy; simp [hhas, Lit.sameKey]
  · simp [h.2 y, hy, Lit.sameKey]
set_option maxRecDepth 100000 in
set_option maxHeartbeats 2000000 in
/-- The iterator: the keys come, each once. -/
theorem keys1_R {H : Type} (F : Fence) (n : Nat) (h10 : F.fn 149) (hro : F.round = none) (hn : 1 ≤ n) (l Bm b nn : Nat) (D0 : DataW H) {R : Value → Option (DataW H × List MemPlace)} (J Jx : List Int → World → Prop)
    (hY : ∀ pre x W, J pre W → pre.length < Maps.size D0 → YieldAt F (n - 1) Tryz.prog l #[encU x] W fun e W' =>
      (e = .returned (.bool true) ∧ J (pre ++ [x]) W' ∧ KeepsWalks W W') ∨ (e = .returned (.bool false) ∧ Jx (pre ++ [x]) W'))
    (W : World) (hJ : AbidesFrom W.heap.size J) (hm : W.cell? ⟨Bm, 0, none⟩ = some (.map (some b))) (hown : W.ownsMap Tryz.prog 22 R b nn D0) (h0 : J [] W) :
    CallsIn F n Tryz.prog 149 #[.func (.yield l) #[] #[], .pointer (some ⟨Bm, 0, none⟩)] W fun e W' => (∃ v, e = .returned v) ∧
      ((∃ ss : List Int, (ss.Nodup ∧ ∀ x, x ∈ ss ↔ has D0 (.int .u16 x) = true) ∧ J ss W') ∨ (∃ pre : List Int, True ∧ Jx pre W')) := by
  refine callsIn_of_wp Tryz.func149 rfl h10 ?_ hro
  simp only [Tryz.ntmps149, List.size_toArray, List.length_cons, List.length_nil, Nat.reduceAdd, Nat.reduceSub, Array.replicate_succ, Array.replicate_zero, List.push_toArray, List.append_toArray, List.nil_append, List.cons_append]
  gi_wp2_with (first
    | (gi_at_range; refine wpListIn_range_own _ rfl _ 162 rfl 22 166 (int_keyed Tryz.underlying22) Tryz.underlying162 _ b nn _ rfl hown ?_; intro w0 hrg0 hg0 hs0)
    | gi_in)
  go_frame
  gi_loopw [3] (fun _ wr => ∃ (left : Lit → Bool) (cnt : Nat) (ss : List Int), wr.ranges Tryz.prog 22 R b W.heap.size nn D0 left cnt ∧ ss.length + cnt ≤ Maps.size D0 ∧ CollU D0 left ss ∧ J ss wr)
    (fun _ wr => wr.rangeLeft b W.heap.size)
  case atStart =>
    exact ⟨_, _, [], hrg0, by simp, CollU.start D0, hJ [] W w0 none h0 hg0 (fun r e => by cases e)⟩
  case round =>
    obtain ⟨left, cnt, ss, hrg, hcs, hC, hJs⟩ := hrel
    gi_wp2_with (first
      | (gi_at_next; refine wpListIn_next_ranges _ rfl _ rfl 22 (int_keyed Tryz.underlying22) R encU id (fun key kl hk => by obtain ⟨x, hx, _⟩ := keyOf_u16 Tryz.underlying22 hk; exact ⟨x, hx⟩) (fun v _ _ => ⟨v, rfl⟩) b W.heap.size nn _ _ _ rfl hrg ?_ ?_)
      | gi_in)
    · intro hc0 hl0
      gi_wp2
      go_end0
      exact ⟨⟨_, rfl⟩, .inl ⟨ss, ⟨hC.1, fun x => by rw [hC.2 x, hl0]; simp⟩, hJs⟩⟩
    · intro x c kl yd yp w2 cnt2 hkey hlk hv hat hrg2 hlt hg2 hs2 hen
      obtain ⟨x', ex, rfl⟩ := keyOf_u16 Tryz.underlying22 hkey
      obtain rfl : x = x' := by simpa [encU] using ex
      have hJ2 : J ss w2 := hJ ss wr w2 (some W.heap.size) hJs hg2 (fun r e => by cases e; exact ⟨Nat.le_refl _, hrg.iter_walk⟩)
      obtain ⟨fn, tmps, assign, body, hy, hR⟩ := hY ss x w2 hJ2 (by omega)
      clear hs2
      gi_wp2
      refine hR.mono ?_
      have hC2 := hC.step hlk hat
      rintro e W3 (⟨rfl, hJ3, hk3⟩ | ⟨rfl, hJx3⟩)
      · gi_wp2
        have hrg3 := hrg2.of_walks hk3
        go_roundw
        case rel => exact ⟨_, cnt2, ss ++ [x], hrg3, by simp; omega, hC2, hJ3⟩
        case measure => rw [hrg3.left_eq, hrg.left_eq]; exact hlt
      · gi_wp2
        refine bodyPost_ret (results_none rfl _ _ _) rfl ?_
        exact ⟨⟨_, rfl⟩, .inr ⟨ss ++ [x], trivial, hJx3⟩⟩
set_option maxHeartbeats 1000000 in
/-- 'maps.Keys(m)': the map is boxed; the function value captures the box. -/
theorem keys_R (mb : Option Nat) (w : World) :
    Calls Tryz.prog 133 #[.map mb] w fun e w' => e = .returned (.func (.func 149) #[] #[.pointer (some ⟨w.heap.size, 0, none⟩)]) ∧ w' = w.alloc (.cells #[.map mb] 162) := by
  go_enter Tryz.func133, Tryz.ntmps133
  go_wp2
  go_ret
  exact ⟨rfl, rfl⟩
theorem keysStops_R {H : Type} (F : Fence) (n : Nat) (h10 : F.fn 149) (hro : F.round = none) (hn : 1 ≤ n) (Bm b nn : Nat) (D0 : DataW H) {R : Value → Option (DataW H × List MemPlace)} (w : World) (hBm : Bm < w.heap.size)
    (hm : w.cell? ⟨Bm, 0, none⟩ = some (.map (some b))) (hown : w.ownsMap Tryz.prog 22 R b nn D0) :
    SeqStopsK F n Tryz.prog 149 #[.pointer (some ⟨Bm, 0, none⟩)] (fun x : Int => #[encU x]) KeepsWalks (fun ss => ss.Nodup ∧ ∀ x, x ∈ ss ↔ has D0 (.int .u16 x) = true) (fun _ => True) (Maps.size D0) w := fun l J Jx W hW hJ _ hY h0 => by
  have hown' : W.ownsMap Tryz.prog 22 R b nn D0 := by
    have hbl := hown.lt
    obtain ⟨es, clock, hb, Ft, hs, hD⟩ := hown
    exact ⟨es, clock, (hW.block b hbl).trans hb, Ft, hs, hD⟩
  exact keys1_R F n h10 hro hn l Bm b nn D0 J Jx hY W hJ ((hW.cell (p := ⟨Bm, 0, none⟩) hBm).trans hm) hown' h0
end Go.Proofs.YtlkdfofpnmpidaaGreat

/- slices.AppendSeq, Collect, Sorted at numbers of sixteen bits. -/
set_option linter.unusedVariables false
namespace Go.Proofs.YtlkdfofpnmpidaaGreat
open Go.RowKit Go.Shelf

attribute [local go_sem] Oper.semAt_some
theorem info_u16 : (Tryz.prog.info? 22).map (fun i => (i.zero, i.size, i.bytes)) = some (some (.int .u16 0), 1, 2) := by kernel_rfl
/-- A slice that owns these numbers, in a row from B on. -/
def Us (w : World) (B : Nat) (v : Value) (l : List Int) : Prop := w.ownsRow B 22 1 v l.length (l.map encU)
set_option maxRecDepth 100000 in
set_option maxHeartbeats 4000000 in
theorem appendSeq_U (g : Nat) (lb : Array Value) (eg : ∀ args w, (callFunc g args).run Tryz.prog w = .ok (.enter g args) w) (S Sp : List Int → Prop) (N : Nat) (hN : N ≤ 100000) (w0 w : World) (hb0 : Below w0.heap.size w0 w)
    (hseq : SeqStopsK Fence.wide 2 Tryz.prog g lb (fun x : Int => #[encU x]) KeepsWalks S Sp N w0) :
    CallsIn Fence.wide 3 Tryz.prog 156 #[.slice none 0 0, .func (.func g) #[] lb] w fun e w' => ∃ (v : Value) (ss : List Int), e = .returned v ∧ S ss ∧ Us w' w.heap.size v ss ∧ (v = .slice none 0 0 ↔ ss = []) ∧ Below w.heap.size w w' := by
  obtain ⟨i0, hi, hz0, hz1, hz2⟩ := info_parts info_u16
  refine callsIn_of_wp_marks Tryz.func156 rfl trivial ?_ rfl
  simp only [Tryz.ntmps156, List.size_toArray, List.length_cons, List.length_nil, Nat.reduceAdd, Nat.reduceSub, Array.replicate_succ, Array.replicate_zero, List.push_toArray, List.append_toArray, List.nil_append, List.cons_append]
  gi_wp2
  have bO := Boxed.new w 23 (.slice none 0 0)
  have hB0 : Below w.heap.size w (w.alloc (.cells #[.slice none 0 0] 23)) := (Below.refl _ w).alloc (Nat.le_refl _) _
  refine wpIn_rangeFunc_ownG rfl (by decide) (gf := g) (lb := lb) rfl trivial eg hseq walksK_t (fun W l o o' h1 h2 h3 h4 => walksK_b (w := w) W l o o' (by have := h1; simp at this; omega) h2 h3 h4) (hb0.trans (hB0.mono hb0.size)) (fun _ => rfl)
    (fun pre W => (∃ v, Boxed W w.heap.size 23 v ∧ W.ownsRow w.heap.size 22 1 v pre.length (pre.map encU) ∧ (v = .slice none 0 0 ↔ pre = [])) ∧ Below w.heap.size w W)
    (fun _ _ _ => False)
    (OwnFrom.and (Own.from (holdsRow_own w.heap.size w.heap.size 23 22 1 (fun pre => pre.length) (fun pre => pre.map encU) (fun pre v => v = .slice none 0 0 ↔ pre = [])) _) (ownFrom_below (Nat.le_refl _) (by simp)))
    (fun _ _ _ _ _ hs _ _ => hs)
    ⟨⟨_, bO, World.ownsRow_nil _ _ _ _, by simp⟩, hB0⟩
    (fun x => { tmps := #[.slice none 0 0, .func (.func g) #[] lb, .pointer (some ⟨w.heap.size, 0, none⟩), undef, .slice none 0 0, encU x, .func (.func g) #[] lb, encU x, undef, undef, undef, undef, undef], defers := [] }) ?assign ?body ?done ?stop
  case assign =>
    intro l x W K hK
    gi_wp2
    exact hK
  case body =>
    rintro l pre x W ⟨⟨v, hv, hrow, hnil⟩, hB⟩ hlt
    have hc := hv.cell
    gi_wp2_with (gi_at_builtin; refine wpListIn_append_own _ rfl _ _ 23 rfl w.heap.size 22 i0 (.int .u16 0) 1 2 Tryz.underlying23 hi hz0 hz1 hz2 rfl (by decide) _ _ _ rfl (hrow.alloc _) ⟨W.heap.size, 0, none⟩ 1 1 [encU x] rfl rfl (cell_one_new _ _ _) (by simp [Value.oneCell']) (by unfold maxLen; omega) (by omega) (by have := hB.size; simp; omega) ?_; intro v' w1 hown' hgrow _; obtain ⟨g', cap', rfl⟩ := ownsRow_succ hown'; obtain ⟨hv1, hv2, hr2, hk2, hb2⟩ := hv.appended (by decide) hrow hB.size (Nat.le_refl _) hown' hgrow; have hc1 := hv1.cell; have hf1 := hv1.frozen)
    exact ⟨hk2.from _, hk2.walks, ⟨_, hv2, by simpa using hr2, by simp⟩, hB.trans hb2⟩
  case done =>
    rintro D ys W hD hS ⟨⟨v, hv, hrow, hnil⟩, hB⟩ hK
    have hc := hv.cell
    gi_wp2
    refine ⟨by simp, .inl ⟨_, _, rfl, run_takeDeferred hK, ?_⟩⟩
    exact ⟨_, results_tmp rfl _ _ _, v, ys, rfl, hS, ownsRow_putObj hrow _ hK rfl, hnil, hB.trans (belowK_b (w := w) (Nat.le_refl _) W D _ _ (by simp at hD; omega) hK rfl rfl)⟩
  case stop =>
    rintro D c pre W _ _ h _
    exact h.elim
end Go.Proofs.YtlkdfofpnmpidaaGreat

/- slices.Collect, slices.Sorted at few numbers of sixteen bits. -/
set_option linter.unusedVariables false
namespace Go.Proofs.YtlkdfofpnmpidaaGreat
open Go.RowKit Go.Shelf

set_option maxRecDepth 100000 in
set_option maxHeartbeats 4000000 in
theorem isort_nil (w : World) : Calls Tryz.prog 159 #[.slice none 0 0, .int .i64 0, .int .i64 0] w fun en w' => en = .returned (.tuple #[]) ∧ w' = w := by
  go_enter Tryz.func159, Tryz.ntmps159
  go_wp2
  go_loopw [6] (fun i wr => i = .int .i64 1 ∧ wr = w) (fun _ _ => 0)
  case atStart => exact ⟨rfl, rfl⟩
  case round =>
    obtain ⟨rfl, rfl⟩ := hrel
    go_wp2
    go_end0
    exact ⟨rfl, rfl⟩
set_option maxRecDepth 100000 in
set_option maxHeartbeats 4000000 in
theorem pdq_nil (v : Int) (w : World) : Calls Tryz.prog 157 #[.slice none 0 0, .int .i64 0, .int .i64 0, .int .i64 v] w fun en w' => en = .returned (.tuple #[]) ∧ w' = w := by
  go_enter Tryz.func157, Tryz.ntmps157
  go_wp2
  go_loopw [1, 2] (fun a b wr => a = .int .i64 0 ∧ b = .int .i64 0 ∧ wr = w) (fun _ _ _ => 0)
  case atStart => exact ⟨rfl, rfl, rfl⟩
  case round =>
    obtain ⟨rfl, rfl, rfl⟩ := hrel
    go_wp2_with (go_at_call 159; refine (isort_nil _).mono ?_; rintro e w' ⟨rfl, rfl⟩)
    refine bodyPost_ret (results_none rfl _ _ _) rfl ?_
    exact ⟨rfl, rfl⟩
set_option maxRecDepth 100000 in
set_option maxHeartbeats 4000000 in
theorem sort_nil (w : World) : Calls Tryz.prog 148 #[.slice none 0 0] w fun en w' => en = .returned (.tuple #[]) ∧ w' = w := by
  have L0 := fun w => bitsLen_any 0 (by decide) w
  go_enter Tryz.func148, Tryz.ntmps148
  go_wp2_with (first
    | (go_at_call 158; refine (L0 _).mono ?_; rintro e w' ⟨⟨v, rfl⟩, rfl⟩)
    | (go_at_call 157; refine (pdq_nil _ _).mono ?_; rintro e w' ⟨rfl, rfl⟩))
  go_end0
  exact ⟨rfl, rfl⟩
theorem Us.later {w w' : World} {B : Nat} {v : Value} {l : List Int} (h : Us w B v l) (hb : Below w.heap.size w w') : Us w' B v l := by
  obtain ⟨h1, h2⟩ := h
  refine ⟨h1, ?_⟩
  rcases h2 with h2 | ⟨g, cap, cur, hv, hg, hh, r⟩
  · exact .inl h2
  · refine .inr ⟨g, cap, cur, hv, hg, ?_, r⟩
    have hlt : g < w.heap.size := (Array.getElem?_eq_some_iff.1 hh).1
    rw [hb.block g hlt]; exact hh
/-- Its shape: nil, or at the head of a row. -/
theorem Us.shape {w : World} {B : Nat} {v : Value} {l : List Int} (h : Us w B v l) : (v = .slice none 0 0 ∧ l = []) ∨ ∃ g cap t, v = .slice (some ⟨g, 0, none⟩) l.length cap ∧ B ≤ g ∧ RowU w g l t ∧ (∀ (w' : World) (s : List Int), s.length = l.length → RowU w' g s t → Us w' B v s) := by
  rcases h.2 with ⟨h1, h2⟩ | ⟨g, cap, cur, hv, hg, hh, h3, h4, h5, h6⟩
  · exact .inl ⟨h1, List.eq_nil_of_length_eq_zero h2⟩
  · refine .inr ⟨g, cap, cur.toList.drop l.length, hv, hg, ?_, fun w' s hs hr => ?_⟩
    · unfold RowU
      have e : l.map (Value.int .u16) ++ cur.toList.drop l.length = cur.toList := by
        rw [Nat.mul_one] at h6
        rw [← h6]; exact List.take_append_drop _ _
      rw [e]; exact hh
    · rw [Nat.mul_one] at h5
      refine ⟨by simp, .inr ⟨g, cap, (s.map (Value.int .u16) ++ cur.toList.drop l.length).toArray, by rw [hs]; exact hv, hg, hr, by rw [hs]; exact h3, h4, ?_, ?_⟩⟩
      · simp; rw [hs, h5]; omega
      · simp [encU]
set_option maxRecDepth 100000 in
set_option maxHeartbeats 4000000 in
theorem collect_U (g : Nat) (lb : Array Value) (eg : ∀ args w, (callFunc g args).run Tryz.prog w = .ok (.enter g args) w) (S Sp : List Int → Prop) (N : Nat) (hN : N ≤ 100000) (w0 w : World) (hb0 : Below w0.heap.size w0 w)
    (hseq : SeqStopsK Fence.wide 2 Tryz.prog g lb (fun x : Int => #[encU x]) KeepsWalks S Sp N w0) :
    Calls Tryz.prog 147 #[.func (.func g) #[] lb] w fun e w' => ∃ (v : Value) (ss : List Int), e = .returned v ∧ S ss ∧ Us w' w.heap.size v ss ∧ (v = .slice none 0 0 ↔ ss = []) ∧ Below w.heap.size w w' := by
  have AP := callsIn_wide.1 (appendSeq_U g lb eg S Sp N hN w0 w hb0 hseq)
  go_enter Tryz.func147, Tryz.ntmps147
  go_wp2_with (go_at_call 156; refine AP.mono ?_; rintro e w' ⟨v, ss, rfl, h⟩)
  go_ret
  exact ⟨v, ss, rfl, h⟩
set_option maxRecDepth 100000 in
set_option maxHeartbeats 4000000 in
theorem sorted_U (g : Nat) (lb : Array Value) (eg : ∀ args w, (callFunc g args).run Tryz.prog w = .ok (.enter g args) w) (S Sp : List Int → Prop) (N : Nat) (hN : N ≤ 100000) (hS : ∀ ss, S ss → ss.length ≤ 12) (w0 w : World) (hb0 : Below w0.heap.size w0 w)
    (hseq : SeqStopsK Fence.wide 2 Tryz.prog g lb (fun x : Int => #[encU x]) KeepsWalks S Sp N w0) :
    Calls Tryz.prog 132 #[.func (.func g) #[] lb] w fun e w' => ∃ (v : Value) (ss s : List Int), e = .returned v ∧ S ss ∧ s.Perm ss ∧ s.Pairwise (· ≤ ·) ∧ Us w' w.heap.size v s ∧ (v = .slice none 0 0 ↔ s = []) ∧ Below w.heap.size w w' := by
  have CO := collect_U g lb eg S Sp N hN w0 w hb0 hseq
  go_enter Tryz.func132, Tryz.ntmps132
  go_wp2_with (go_at_call 147; refine CO.mono ?_; rintro e w1 ⟨v, ss, rfl, hSs, hU, hnil, hb⟩)
  rcases hU.shape with ⟨rfl, rfl⟩ | ⟨gb, cap, t, rfl, hB, hR, hback⟩
  · go_wp2_with (go_at_call 148; refine (sort_nil _).mono ?_; rintro e w' ⟨rfl, rfl⟩)
    go_ret
    exact ⟨_, [], [], rfl, hSs, List.Perm.refl _, by simp, hU, by simp, hb⟩
  · have ST := sort_any gb cap ss t ss.length w1 rfl (hS ss hSs) hR
    obtain ⟨n, hn⟩ : ∃ n, ss.length = n := ⟨_, rfl⟩
    rw [hn] at ST
    rw [hn] at hU hback hnil ⊢
    go_wp2_with (go_at_call 148; refine ST.mono ?_; rintro e w2 ⟨rfl, s, hp, hw, hr, ho⟩)
    go_ret
    exact ⟨_, ss, s, rfl, hSs, hp, hw, hback w2 s (by rw [hp.length_eq, hn]) hr, hnil.trans (by constructor <;> (intro h; subst h; first | exact List.Perm.eq_nil hp | exact (List.Perm.nil_eq hp).symm)), hb.trans (ho.below hB hb.size)⟩
end Go.Proofs.YtlkdfofpnmpidaaGreat
