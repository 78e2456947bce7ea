/- ZP47: the texts RC, S12 as one. -/
import Derived.Test.YtlkdfofpnmpidaaGreatZP02
import Derived.Test.YtlkdfofpnmpidaaGreatZP01
import Derived.Test.YtlkdfofpnmpidaaGreatZP25
/- The reader of a check. -/
set_option linter.unusedVariables false
namespace Go.Proofs.YtlkdfofpnmpidaaGreat
open Go.ChangeShapes Go.WideShapes Go.ChangeAt Go.RowKit Go.Joins

theorem list6 {α : Type} (l : List α) (h : l.length = 6) : ∃ c0 c1 c2 c3 c4 c5, l = [c0, c1, c2, c3, c4, c5] := by
  match l, h with
  | [c0, c1, c2, c3, c4, c5], _ => exact ⟨c0, c1, c2, c3, c4, c5, rfl⟩
/-- What is known of a check that is an argument. -/
def CkA (lv iv sq me : Int) (m : List UInt8) : Prop := (0 ≤ lv ∧ lv < 256) ∧ (0 ≤ iv ∧ iv < 256) ∧ (0 ≤ sq ∧ sq < 4294967296) ∧ (0 ≤ me ∧ me < 65536) ∧ m.length ≤ maxLen
set_option maxRecDepth 100000 in
theorem rd_ref13_Check {H : Type} {enc : TypeId × Value → H} {w : World} {r : Reach} {b0 base : Nat} {spare : Nat → Bool} {held : Bool} {v : Value} {d : DataW H} {p : List MemPlace}
    (hv : Value.okWide Tryz.prog w r b0 118 v) (h : DataW.Trod enc Tryz.prog w base spare held 118 v d p) :
    ∃ (xlv : Int) (xrd : Bool) (xiv xsq xme : Int) (xm : List UInt8), v = .agg #[.int .u8 xlv, .bool xrd, .int .u8 xiv, .int .u32 xsq, .int .u16 xme, .string (bs xm)] ∧ CkA xlv xiv xsq xme xm := by
  obtain ⟨cs, rfl, hsz⟩ := okWide_struct Tryz.underlying118 hv
  rw [show Tryz.prog.cellsOf 118 = 6 by kernel_rfl] at hsz
  obtain ⟨fuel, hf⟩ := h
  obtain ⟨xs, n, _, _, _, hlen, hi⟩ := DataW.trod_struct Tryz.underlying118 hf
  obtain ⟨y0, y1, y2, y3, y4, y5, rfl⟩ := list6 xs hlen
  obtain ⟨c0, c1, c2, c3, c4, c5, hcs⟩ := list6 cs.toList (by rw [Array.length_toList, hsz])
  have kb : Tryz.prog.cellsOf 4 = 1 := by kernel_rfl
  have k8 : Tryz.prog.cellsOf 5 = 1 := by kernel_rfl
  have k16 : Tryz.prog.cellsOf 22 = 1 := by kernel_rfl
  have k32 : Tryz.prog.cellsOf 41 = 1 := by kernel_rfl
  have ks : Tryz.prog.cellsOf 9 = 1 := by kernel_rfl
  have h0 : DataW.trod enc Tryz.prog w base spare held n 5 ((cs.toList.drop 0).take (Tryz.prog.cellsOf 5)) = some y0 := hi 0 _ rfl
  have h1 : DataW.trod enc Tryz.prog w base spare held n 4 ((cs.toList.drop 1).take (Tryz.prog.cellsOf 4)) = some y1 := hi 1 _ rfl
  have h2 : DataW.trod enc Tryz.prog w base spare held n 5 ((cs.toList.drop 2).take (Tryz.prog.cellsOf 5)) = some y2 := hi 2 _ rfl
  have h3 : DataW.trod enc Tryz.prog w base spare held n 41 ((cs.toList.drop 3).take (Tryz.prog.cellsOf 41)) = some y3 := hi 3 _ rfl
  have h4 : DataW.trod enc Tryz.prog w base spare held n 22 ((cs.toList.drop 4).take (Tryz.prog.cellsOf 22)) = some y4 := hi 4 _ rfl
  have h5 : DataW.trod enc Tryz.prog w base spare held n 9 ((cs.toList.drop 5).take (Tryz.prog.cellsOf 9)) = some y5 := hi 5 _ rfl
  rw [hcs, k8] at h0 h2
  rw [hcs, kb] at h1
  rw [hcs, k32] at h3
  rw [hcs, k16] at h4
  rw [hcs, ks] at h5
  obtain ⟨a0, e0, w0⟩ := trod_int1 Tryz.underlying5 h0 rfl
  obtain ⟨a1, e1, _⟩ := DataW.trod_bool Tryz.underlying4 h1
  obtain ⟨a2, e2, w2⟩ := trod_int1 Tryz.underlying5 h2 rfl
  obtain ⟨a3, e3, w3⟩ := trod_int1 Tryz.underlying41 h3 rfl
  obtain ⟨a4, e4, w4⟩ := trod_int1 Tryz.underlying22 h4 rfl
  obtain ⟨s, e5, _, w5⟩ := DataW.trod_string Tryz.underlying9 h5
  refine ⟨a0, a1, a2, a3, a4, s.data.toList, ?_, ?_⟩
  · rw [← bs_of s]
    simp only [List.drop, List.take, List.cons.injEq, and_true] at e1 e5
    subst e0 e1 e2 e3 e4 e5
    rw [show cs = cs.toList.toArray from rfl, hcs]
  · have := bounds_u8 w0; have := bounds_u8 w2; have := bounds_u32 w3; have := bounds_u16 w4
    have h6 := bs_size s.data.toList
    rw [← bs_of s] at h6
    unfold CkA
    exact ⟨by omega, by omega, by omega, by omega, by omega⟩
set_option maxRecDepth 100000 in
theorem rd_ccm_Check {H : Type} {enc : TypeId × Value → H} {w : World} {r : Reach} {b0 base : Nat} {spare : Nat → Bool} {held : Bool} {v : Value} {d : DataW H} {p : List MemPlace}
    (hv : Value.okWide Tryz.prog w r b0 107 v) (h : DataW.Trod enc Tryz.prog w base spare held 107 v d p) :
    ∃ (xlv : Int) (xrd : Bool) (xiv xsq xme : Int) (xm : List UInt8), v = .agg #[.int .u8 xlv, .bool xrd, .int .u8 xiv, .int .u32 xsq, .int .u16 xme, .string (bs xm)] ∧ CkA xlv xiv xsq xme xm := by
  obtain ⟨cs, rfl, hsz⟩ := okWide_struct Tryz.underlying107 hv
  rw [show Tryz.prog.cellsOf 107 = 6 by kernel_rfl] at hsz
  obtain ⟨fuel, hf⟩ := h
  obtain ⟨xs, n, _, _, _, hlen, hi⟩ := DataW.trod_struct Tryz.underlying107 hf
  obtain ⟨y0, y1, y2, y3, y4, y5, rfl⟩ := list6 xs hlen
  obtain ⟨c0, c1, c2, c3, c4, c5, hcs⟩ := list6 cs.toList (by rw [Array.length_toList, hsz])
  have kb : Tryz.prog.cellsOf 4 = 1 := by kernel_rfl
  have k8 : Tryz.prog.cellsOf 5 = 1 := by kernel_rfl
  have k16 : Tryz.prog.cellsOf 22 = 1 := by kernel_rfl
  have k32 : Tryz.prog.cellsOf 41 = 1 := by kernel_rfl
  have ks : Tryz.prog.cellsOf 9 = 1 := by kernel_rfl
  have h0 : DataW.trod enc Tryz.prog w base spare held n 5 ((cs.toList.drop 0).take (Tryz.prog.cellsOf 5)) = some y0 := hi 0 _ rfl
  have h1 : DataW.trod enc Tryz.prog w base spare held n 4 ((cs.toList.drop 1).take (Tryz.prog.cellsOf 4)) = some y1 := hi 1 _ rfl
  have h2 : DataW.trod enc Tryz.prog w base spare held n 5 ((cs.toList.drop 2).take (Tryz.prog.cellsOf 5)) = some y2 := hi 2 _ rfl
  have h3 : DataW.trod enc Tryz.prog w base spare held n 41 ((cs.toList.drop 3).take (Tryz.prog.cellsOf 41)) = some y3 := hi 3 _ rfl
  have h4 : DataW.trod enc Tryz.prog w base spare held n 22 ((cs.toList.drop 4).take (Tryz.prog.cellsOf 22)) = some y4 := hi 4 _ rfl
  have h5 : DataW.trod enc Tryz.prog w base spare held n 9 ((cs.toList.drop 5).take (Tryz.prog.cellsOf 9)) = some y5 := hi 5 _ rfl
  rw [hcs, k8] at h0 h2
  rw [hcs, kb] at h1
  rw [hcs, k32] at h3
  rw [hcs, k16] at h4
  rw [hcs, ks] at h5
  obtain ⟨a0, e0, w0⟩ := trod_int1 Tryz.underlying5 h0 rfl
  obtain ⟨a1, e1, _⟩ := DataW.trod_bool Tryz.underlying4 h1
  obtain ⟨a2, e2, w2⟩ := trod_int1 Tryz.underlying5 h2 rfl
  obtain ⟨a3, e3, w3⟩ := trod_int1 Tryz.underlying41 h3 rfl
  obtain ⟨a4, e4, w4⟩ := trod_int1 Tryz.underlying22 h4 rfl
  obtain ⟨s, e5, _, w5⟩ := DataW.trod_string Tryz.underlying9 h5
  refine ⟨a0, a1, a2, a3, a4, s.data.toList, ?_, ?_⟩
  · rw [← bs_of s]
    simp only [List.drop, List.take, List.cons.injEq, and_true] at e1 e5
    subst e0 e1 e2 e3 e4 e5
    rw [show cs = cs.toList.toArray from rfl, hcs]
  · have := bounds_u8 w0; have := bounds_u8 w2; have := bounds_u32 w3; have := bounds_u16 w4
    have h6 := bs_size s.data.toList
    rw [← bs_of s] at h6
    unfold CkA
    exact ⟨by omega, by omega, by omega, by omega, by omega⟩
end Go.Proofs.YtlkdfofpnmpidaaGreat

/- remote: no machine; the walk of RemoteNil. -/
set_option linter.unusedVariables false
namespace Go.Proofs.YtlkdfofpnmpidaaGreat
open Go.RowKit


set_option maxRecDepth 100000 in
set_option maxHeartbeats 4000000 in
theorem nil18_tick (w : World) : Calls Tryz.prog 33 #[.pointer none] w fun en w' => en = .returned (.tuple #[]) ∧ Below w.heap.size w w' := by
  go_enter Tryz.func33, Tryz.ntmps33
  go_wp2
  refine bodyPost_ret (v := .tuple #[]) (results_none rfl _ _ _) rfl ?_
  exact ⟨rfl, Below.refl _ _⟩
set_option maxRecDepth 100000 in
set_option maxHeartbeats 4000000 in
theorem nil18_hear (xlv : Int) (xrd : Bool) (xiv xsq xme : Int) (xm : List UInt8) (w : World) : Calls Tryz.prog 124 #[.pointer none, .agg #[.int .u8 xlv, .bool xrd, .int .u8 xiv, .int .u32 xsq, .int .u16 xme, .string (bs xm)]] w fun en w' => en = .returned (.tuple #[]) ∧ Below w.heap.size w w' := by
  go_enter Tryz.func124, Tryz.ntmps124
  go_upto_region 1 with fail
  have hb : Below w.heap.size w (w.alloc (.cells #[.int .u8 xlv, .bool xrd, .int .u8 xiv, .int .u32 xsq, .int .u16 xme, .string (bs xm)] 107)) := (Below.refl _ _).alloc (Nat.le_refl _) _
  obtain ⟨w0, hw0⟩ : ∃ k, w.alloc (.cells #[.int .u8 xlv, .bool xrd, .int .u8 xiv, .int .u32 xsq, .int .u16 xme, .string (bs xm)] 107) = k := ⟨_, rfl⟩
  rw [hw0] at hb ⊢
  clear hw0
  go_quiet (fail)
  go_wp2
  refine bodyPost_ret (v := .tuple #[]) (results_none rfl _ _ _) rfl ?_
  exact ⟨rfl, hb.trans ((below_drewN w0 _).mono hb.size)⟩
set_option maxRecDepth 100000 in
set_option maxHeartbeats 4000000 in
theorem nil18_thoseL (w : World) : Calls Tryz.prog 67 #[.pointer none] w fun en w' => en = .returned (.slice none 0 0) ∧ w' = w := by
  go_enter Tryz.func67, Tryz.ntmps67
  go_wp2
  go_ret
  exact ⟨rfl, rfl⟩
set_option maxRecDepth 100000 in
set_option maxHeartbeats 4000000 in
theorem nil18_thoseR (w : World) : Calls Tryz.prog 68 #[.pointer none] w fun en w' => en = .returned (.slice none 0 0) ∧ w' = w := by
  go_enter Tryz.func68, Tryz.ntmps68
  go_wp2
  go_ret
  exact ⟨rfl, rfl⟩
set_option maxRecDepth 100000 in
set_option maxHeartbeats 4000000 in
theorem nil18_worst (w : World) : Calls Tryz.prog 35 #[.pointer none] w fun en w' => en = .returned (.int .u8 0) ∧ w' = w := by
  go_enter Tryz.func35, Tryz.ntmps35
  go_wp2
  go_ret
  exact ⟨rfl, rfl⟩
set_option maxRecDepth 100000 in
set_option maxHeartbeats 4000000 in
theorem nil18_defects (w : World) : Calls Tryz.prog 38 #[.pointer none] w fun en w' => en = .returned (.bool false) ∧ w' = w := by
  go_enter Tryz.func38, Tryz.ntmps38
  go_wp2_with (go_at_call 35; with_reducible refine (nil18_worst _).mono ?_; rintro e w' ⟨rfl, rfl⟩)
  go_ret
  exact ⟨rfl, rfl⟩
set_option maxRecDepth 100000 in
set_option maxHeartbeats 4000000 in
theorem refLasts_any (n : Int) (w : World) : Calls Tryz.prog 136 #[.int .u8 n] w fun en w' => en = .returned (.int .i64 (lastC n)) ∧ w' = w := by
  unfold lastC
  by_cases h4 : n = 4
  · have d4 : (n == 4) = true := by rw [h4]; rfl
    rw [if_pos h4]
    clear h4
    go_enter Tryz.func136, Tryz.ntmps136
    go_wp2
    go_ret
    exact ⟨rfl, rfl⟩
  · have d4 : (n == 4) = false := by rw [beq_eq_false_iff_ne]; exact h4
    rw [if_neg h4]
    clear h4
    by_cases h5 : n = 5
    · have d5 : (n == 5) = true := by rw [h5]; rfl
      rw [if_pos h5]
      clear h5
      go_enter Tryz.func136, Tryz.ntmps136
      go_wp2
      go_ret
      exact ⟨rfl, rfl⟩
    · have d5 : (n == 5) = false := by rw [beq_eq_false_iff_ne]; exact h5
      rw [if_neg h5]
      clear h5
      go_enter Tryz.func136, Tryz.ntmps136
      go_wp2
      go_ret
      exact ⟨rfl, rfl⟩
end Go.Proofs.YtlkdfofpnmpidaaGreat
