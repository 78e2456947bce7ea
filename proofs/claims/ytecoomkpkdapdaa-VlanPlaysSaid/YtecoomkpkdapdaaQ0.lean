/- slices.Sort at few numbers of sixteen bits: the insertion sort. -/
import Derived.Test.YtecoomkpkdapdaaW1
import Derived.RegionIn
import Derived.Deep.DeepCutAuto
import Derived.BigQuiet
set_option linter.unusedVariables false
namespace Go.Proofs.Ytecoomkpkdapdaa
open Go.RowKit

/-- A row of numbers of sixteen bits, whole, in a block of its own. -/
def RowU (W : World) (g : Nat) (l : List Int) (t : List Value) : Prop := W.heap[g]? = some (.cells (l.map (Value.int .u16) ++ t).toArray 22 (0, 0))
section
variable {W W' : World} {g : Nat} {l p q : List Int} {x y : Int} {t : List Value}
theorem RowU.lt (h : RowU W g l t) : g < W.heap.size := (Array.getElem?_eq_some_iff.1 h).1
theorem RowU.later (h : RowU W g l t) (hb : Below W.heap.size W W') : RowU W' g l t := (hb.block g h.lt).trans h
theorem RowU.cell (h : RowU W g (p ++ x :: q) t) {m : Nat} (hm : p.length = m) : W.cell? ⟨g, m, none⟩ = some (.int .u16 x) := by
  subst hm; unfold RowU at h; simp [World.cell?, h]
theorem RowU.fr (h : RowU W g l t) (m : Nat) : W.frozen? ⟨g, m, none⟩ = false := by unfold RowU at h; simp [World.frozen?, h]
theorem RowU.set (h : RowU W g (p ++ x :: q) t) {m : Nat} (hm : p.length = m) (y : Int) : RowU (W.setCell ⟨g, m, none⟩ (.int .u16 y)) g (p ++ y :: q) t := by
  subst hm; unfold RowU at *; simp [World.setCell, Array.getElem?_modify, h]
end
theorem isNaN_any (x : Int) (w : World) : Calls Try.prog 130 #[.int .u16 x] w fun en w' => en = .returned (.bool false) ∧ w' = w := by
  go_enter Try.func130, Try.ntmps130
  go_wp2
  go_ret
  simp
theorem less_any (x y : Int) (w : World) : Calls Try.prog 119 #[.int .u16 x, .int .u16 y] w fun en w' => en = .returned (.bool (decide (x < y))) ∧ w' = w := by
  go_enter Try.func119, Try.ntmps119
  go_wp2_with (go_at_call 130; refine (isNaN_any _ _).mono ?_; rintro e w' ⟨rfl, rfl⟩)
  go_ret
  simp
theorem Only.of_below {p : Nat} {w w' : World} (h : Below w.heap.size w w') : Only p w w' := ⟨h.os, h.tape, h.output, h.size, fun k hk _ => h.block k hk⟩
theorem less_same (x y : Int) (w : World) : Calls Try.prog 119 #[.int .u16 x, .int .u16 y] w fun en w' => en = .returned (.bool (decide (x < y))) ∧ w = w' := (less_any x y w).mono fun _ _ h => ⟨h.1, h.2.symm⟩
theorem pw_ins {p q : List Int} {x y : Int} (h : (p ++ [y] ++ q).Pairwise (· ≤ ·)) (hq : ∀ z ∈ q, x < z) (hx : y ≤ x) : (p ++ [y] ++ x :: q).Pairwise (· ≤ ·) := by
  rw [List.pairwise_append] at h ⊢
  refine ⟨h.1, List.pairwise_cons.2 ⟨fun z hz => Int.le_of_lt (hq z hz), h.2.1⟩, fun a ha b hb => ?_⟩
  rcases List.mem_cons.1 hb with rfl | hb
  · rcases List.mem_append.1 ha with ha2 | ha2
    · have := (List.pairwise_append.1 h.1).2.2 a ha2 y (by simp)
      omega
    · rw [List.mem_singleton.1 ha2]; exact hx
  · exact h.2.2 a ha b hb
set_option maxRecDepth 100000 in
set_option maxHeartbeats 8000000 in
theorem isort_any (g cap : Nat) (l : List Int) (t : List Value) (n : Nat) (w : World) (hn : l.length = n) (hl : n ≤ 12) (h : RowU w g l t) :
    Calls Try.prog 113 #[.slice (some ⟨g, 0, none⟩) n cap, .int .i64 0, .int .i64 n] w fun en w' => en = .returned (.tuple #[]) ∧ ∃ s : List Int, s.Perm l ∧ s.Pairwise (· ≤ ·) ∧ RowU w' g s t ∧ Only g w w' := by
  go_enter Try.func113, Try.ntmps113
  go_wp2
  rcases hl0 : l with _ | ⟨x0, l0⟩
  · subst hl0
    have hn0 : n = 0 := by simpa using hn.symm
    subst hn0
    go_loopw [6] (fun i wr => i = .int .i64 1 ∧ wr = w) (fun _ _ => 0)
    case atStart => exact ⟨rfl, rfl⟩
    case round =>
      obtain ⟨rfl, rfl⟩ := hrel
      go_wp2
      go_end0
      exact ⟨rfl, [], List.Perm.refl _, by simp, h, Only.refl _ _⟩
  go_loopw [6] (fun i wr => ∃ (s r : List Int) (m : Nat), s.length = m ∧ 1 ≤ m ∧ i = .int .i64 m ∧ (s ++ r).Perm l ∧ s.Pairwise (· ≤ ·) ∧ RowU wr g (s ++ r) t ∧ Only g w wr) (fun i _ => n - (intOf i).toNat)
  case atStart => exact ⟨[x0], l0, 1, rfl, by omega, by simp, by rw [hl0]; simp, by simp, by rw [hl0] at h; exact h, Only.refl _ _⟩
  case round =>
    obtain ⟨s, r, m, hm, hm1, rfl, hp, hw, hr, ho⟩ := hrel
    have hlen : m + r.length = n := by have := hp.length_eq; rw [List.length_append] at this; omega
    rcases r with _ | ⟨x, r⟩
    · simp at hlen
      subst hlen
      go_wp2
      go_end0
      exact ⟨rfl, s, by simpa using hp, hw, by simpa using hr, ho⟩
    · have hlt : (m : Int) < n := by simp at hlen; omega
      go_wp2
      have HP := Lib.hid hp
      have HO := Lib.hid ho
      have HNL := Lib.hid hlen
      obtain ⟨N, hN⟩ : ∃ N : Int, (n : Int) = N := ⟨_, rfl⟩
      clear hp ho hlen h hl0
      go_loopw [7] (fun j wx => ∃ (p q : List Int) (k : Nat), p.length = k ∧ j = .int .i64 k ∧ (p ++ x :: q).Perm (s ++ [x]) ∧ (p ++ q).Pairwise (· ≤ ·) ∧ (∀ z ∈ q, x < z) ∧ RowU wx g (p ++ x :: (q ++ r)) t ∧ Only g w wx) (fun j _ => (intOf j).toNat)
      case atStart => exact ⟨s, [], m, hm, rfl, List.Perm.refl _, by simpa using hw, by simp, by simpa using hr, HO.out⟩
      case round =>
        obtain ⟨p, q, k, hk, rfl, hpp, hpw, hq, hrx, hox⟩ := hrel
        have hg := hrx.lt
        rcases p.eq_nil_or_concat with rfl | ⟨p', y, hpe⟩
        · simp at hk
          subst hk
          go_upto_region 4 with fail
          refine wp_region_later (by kernel_rfl) (by kernel_rfl) ?_
          repeat (go_big_quiet_step (fail))
          refine wpQuiet_nil ?_
          rintro _ ⟨k2, rfl⟩
          have hr2 := hrx.later k2.h
          have ho2 : Only g w k2.out := hox.trans (Only.of_below k2.h)
          go_wp2
          have hl2 := hpp.length_eq
          simp at hl2
          refine ⟨⟨x :: q, r, m + 1, by simp; omega, by omega, by simp, ?_, List.pairwise_cons.2 ⟨fun z hz => Int.le_of_lt (hq z hz), by simpa using hpw⟩, hr2, ho2⟩, by simp [intOf]; omega⟩
          exact ((hpp.append_right r).trans (by simp)).trans HP.out
        · rw [List.concat_eq_append] at hpe
          subst hpe
          rw [List.length_append] at hk
          obtain ⟨m', hm'⟩ : ∃ m', p'.length = m' := ⟨_, rfl⟩
          rw [hm'] at hk
          simp only [List.length_cons, List.length_nil] at hk
          subst hk
          have e1 : p' ++ [y] ++ x :: (q ++ r) = p' ++ y :: (x :: (q ++ r)) := by simp
          have c1 : ∀ k : Later wr, k.out.cell? ⟨g, m' + 1, none⟩ = some (.int .u16 x) := fun k => (hrx.later k.h).cell (by simp; exact hm')
          have c0 : ∀ k : Later wr, k.out.cell? ⟨g, m', none⟩ = some (.int .u16 y) := fun k => by
            have := hrx.later k.h; rw [e1] at this; exact this.cell hm'
          have i0 : (0 : Int) ≤ (m' : Int) := by omega
          have i1 : (m' : Int) + 1 < n := by
            have := HNL.out; have h2 := hpp.length_eq; simp at h2; simp at this; omega
          go_upto_region 4 with fail
          refine wp_region_later (by kernel_rfl) (by kernel_rfl) ?_
          repeat (go_big_quiet_step (first | (go_at_call 119; exact Calls.later_same (less_same _ _ _))))
          refine wpQuiet_nil ?_
          rintro _ ⟨k2, rfl⟩
          have hr2 := hrx.later k2.h
          rw [e1] at hr2
          have ho2 : Only g w k2.out := hox.trans (Only.of_below k2.h)
          clear c1 c0
          by_cases hxy : x < y
          · have dxy : decide (x < y) = true := decide_eq_true hxy
            have hx1 := hr2.cell (m := m') hm'
            have hr3 := hr2
            rw [show p' ++ y :: (x :: (q ++ r)) = (p' ++ [y]) ++ x :: (q ++ r) by simp] at hr3
            have hx2 := hr3.cell (m := m' + 1) (by simp; exact hm')
            have hf1 := hr2.fr m'
            have hf2 := hr2.fr (m' + 1)
            go_wp2
            go_region
            all_goals go_wp2
            have hr4 := hr3.set (m := m' + 1) (by simp; exact hm') y
            rw [show (p' ++ [y]) ++ y :: (q ++ r) = p' ++ y :: (y :: q ++ r) by simp] at hr4
            have hr5 := hr4.set (m := m') hm' x
            refine ⟨⟨p', y :: q, m', hm', rfl, ?_, by simpa using hpw, fun z hz => ?_, hr5, (ho2.trans (Only.set g k2.out (m' + 1) (.int .u16 y))).trans ((Only.set g _ m' (.int .u16 x)).trans (Only.of_below ((Below.refl _ _).drew)))⟩, by simp [intOf]⟩
            · exact ((List.Perm.append_left p' (List.Perm.swap y x q)).trans (by simp)).trans hpp
            · rcases List.mem_cons.1 hz with rfl | hz
              · exact hxy
              · exact hq z hz
          · have dxy : decide (x < y) = false := decide_eq_false hxy
            go_wp2
            have hl2 := hpp.length_eq
            simp at hl2
            refine ⟨⟨p' ++ [y] ++ x :: q, r, m + 1, by simp; omega, by omega, by simp, ?_, pw_ins hpw hq (by omega), by simpa using hr2, ho2⟩, by simp [intOf]; omega⟩
            exact ((hpp.append_right r).trans (by simp)).trans HP.out
end Go.Proofs.Ytecoomkpkdapdaa
