/- Layer 17: the walks of the two laws. -/
import Derived.Test.YtknahemnmboidaaLv4
import Derived.OpenShut
set_option linter.unusedVariables false
namespace Go.Proofs.Ytknahemnmboidaa
open Go.RowKit

/-- What LevelTells keeps: the sides. -/
def SidesL (w W : World) (d u m : Int) : Prop := W.cell? ⟨w.heap.size, 0, none⟩ = some (.int .u8 d) ∧ W.cell? ⟨w.heap.size, 1, none⟩ = some (.int .u8 u) ∧ W.cell? ⟨w.heap.size, 2, none⟩ = some (.int .i64 m) ∧ w.heap.size < W.heap.size ∧ Below w.heap.size w W
theorem SidesL.first (w : World) (d u m : Int) : SidesL w (w.alloc (.cells #[.int .u8 d, .int .u8 u, .int .i64 m] 23)) d u m :=
  ⟨by simp [go_sem], by simp [go_sem], by simp [go_sem], by simp, (Below.refl _ _).alloc (by simp) _⟩
theorem SidesL.later {w W W' : World} {d u m : Int} (h : SidesL w W d u m) (hb : Below W.heap.size W W') : SidesL w W' d u m := by
  obtain ⟨a, b, c, e, f⟩ := h
  exact ⟨(hb.cell e).trans a, (hb.cell e).trans b, (hb.cell e).trans c, Nat.lt_of_lt_of_le e hb.size, f.trans (hb.mono f.size)⟩

set_option maxRecDepth 100000 in
set_option maxHeartbeats 2000000 in
theorem LevelTells_walk (d u m l : Int) (w : World) (hd : (Lit.int .u8 d).wf = true) (hu : (Lit.int .u8 u).wf = true) (hm : (Lit.int .i64 m).wf = true) (hl : (Lit.int .u8 l).wf = true) :
    Calls Try.prog 3 #[.int .u8 d, .int .u8 u, .int .i64 m, .int .u8 l] w fun e w' => e = .returned (.bool true) ∧ Below w.heap.size w w' := by
  obtain ⟨d0, d1⟩ := bounds_u8 hd
  obtain ⟨u0, u1⟩ := bounds_u8 hu
  obtain ⟨l0, l1⟩ := bounds_u8 hl
  clear hd hu hm hl
  have g1 := goesV_r d u m l
  have g2 := goesV_r u d m l
  have e1 : (goesV d u m l == fateV d u m l) = true := by rw [fate_goes d u m l (by omega) (by omega) (by omega) (by omega) (by omega)]; simp
  have e2 : (goesV u d m l == fateV u d m l) = true := by rw [fate_goes u d m l (by omega) (by omega) (by omega) (by omega) (by omega)]; simp
  go_enter Try.func3, Try.ntmps3
  go_wp2_with fail
  refine (levels_any _ _ (by omega) (by omega)).mono ?_
  rintro e w1 ⟨rfl, hb1⟩
  have s1 := Lib.hid ((SidesL.first w d u m).later hb1)
  clear hb1
  go_wp2_with fail
  refine (levels_any _ _ (by omega) (by omega)).mono ?_
  rintro e w2 ⟨rfl, hb2⟩
  have s2 := Lib.hid (s1.out.later hb2)
  clear hb2 s1
  go_wp2_with fail
  refine forget (fun W => SidesL w W d u m ∧ CellsB W w2.heap.size d ∧ CellsB W (w2.heap.size + 1) u) ⟨s2.out.later (((Below.refl _ _).alloc (by simp) _).alloc (by simp) _), cellsB_first _ _ _, cellsB_second _ _ _⟩ ?_
  clear s2
  rintro W ⟨⟨c0, c1, c2, _, hb⟩, q1, q2⟩
  have l0 := Later.cell c0
  have l1 := Later.cell c1
  have l2 := Later.cell c2
  have p0 : ∀ k : Later W, k.out.cell? ⟨w2.heap.size, 0, none⟩ = some (.bool (hasB d 0)) := Later.cell (q1 0 (by omega))
  have p1 : ∀ k : Later W, k.out.cell? ⟨w2.heap.size, 1, none⟩ = some (.bool (hasB d 1)) := Later.cell (q1 1 (by omega))
  have p2 : ∀ k : Later W, k.out.cell? ⟨w2.heap.size, 2, none⟩ = some (.bool (hasB d 2)) := Later.cell (q1 2 (by omega))
  have p3 : ∀ k : Later W, k.out.cell? ⟨w2.heap.size, 3, none⟩ = some (.bool (hasB d 3)) := Later.cell (q1 3 (by omega))
  have p4 : ∀ k : Later W, k.out.cell? ⟨w2.heap.size, 4, none⟩ = some (.bool (hasB d 4)) := Later.cell (q1 4 (by omega))
  have p5 : ∀ k : Later W, k.out.cell? ⟨w2.heap.size, 5, none⟩ = some (.bool (hasB d 5)) := Later.cell (q1 5 (by omega))
  have p6 : ∀ k : Later W, k.out.cell? ⟨w2.heap.size, 6, none⟩ = some (.bool (hasB d 6)) := Later.cell (q1 6 (by omega))
  have p7 : ∀ k : Later W, k.out.cell? ⟨w2.heap.size, 7, none⟩ = some (.bool (hasB d 7)) := Later.cell (q1 7 (by omega))
  have r0 : ∀ k : Later W, k.out.cell? ⟨w2.heap.size + 1, 0, none⟩ = some (.bool (hasB u 0)) := Later.cell (q2 0 (by omega))
  have r1 : ∀ k : Later W, k.out.cell? ⟨w2.heap.size + 1, 1, none⟩ = some (.bool (hasB u 1)) := Later.cell (q2 1 (by omega))
  have r2 : ∀ k : Later W, k.out.cell? ⟨w2.heap.size + 1, 2, none⟩ = some (.bool (hasB u 2)) := Later.cell (q2 2 (by omega))
  have r3 : ∀ k : Later W, k.out.cell? ⟨w2.heap.size + 1, 3, none⟩ = some (.bool (hasB u 3)) := Later.cell (q2 3 (by omega))
  have r4 : ∀ k : Later W, k.out.cell? ⟨w2.heap.size + 1, 4, none⟩ = some (.bool (hasB u 4)) := Later.cell (q2 4 (by omega))
  have r5 : ∀ k : Later W, k.out.cell? ⟨w2.heap.size + 1, 5, none⟩ = some (.bool (hasB u 5)) := Later.cell (q2 5 (by omega))
  have r6 : ∀ k : Later W, k.out.cell? ⟨w2.heap.size + 1, 6, none⟩ = some (.bool (hasB u 6)) := Later.cell (q2 6 (by omega))
  have r7 : ∀ k : Later W, k.out.cell? ⟨w2.heap.size + 1, 7, none⟩ = some (.bool (hasB u 7)) := Later.cell (q2 7 (by omega))
  clear q1 q2 c0 c1 c2
  refine wp_region_later (by kernel_rfl) (by kernel_rfl) ?_
  repeat (go_big_quiet_step (first | (go_at_call 16; exact Calls.later (wire_any _ _ _ _ _ (by omega) (by omega) (by omega) (by omega) (by omega) (by omega))) | (go_at_call 18; exact Calls.later (relay_any _ _ _ _ _ (by omega) (by omega) (by omega) (by omega) (by omega) (by omega))) | (go_at_call 17; exact Calls.later (fate_any _ _ _ _ _ (by omega) (by omega) (by omega) (by omega) (by omega) (by omega))) | (go_at_call 19; exact Calls.later (wakesL_any _))))
  refine wpQuiet_nil ?_
  rintro _ ⟨K, rfl⟩
  go_wp2
  go_ret
  exact ⟨rfl, Later.bel hb K⟩
end Go.Proofs.Ytknahemnmboidaa
