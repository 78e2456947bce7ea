/- remote: no machine; the walk of RemoteNil. -/
import Derived.Test.YtecoomkpkdapdaaSB
import Derived.Test.YtecoomkpkdapdaaRC
set_option linter.unusedVariables false
namespace Go.Proofs.Ytecoomkpkdapdaa
open Go.RowKit


set_option maxRecDepth 100000 in
set_option maxHeartbeats 4000000 in
theorem nil18_tick (w : World) : Calls Try.prog 30 #[.pointer none] w fun en w' => en = .returned (.tuple #[]) ∧ Below w.heap.size w w' := by
  go_enter Try.func30, Try.ntmps30
  go_wp2
  refine bodyPost_ret (v := .tuple #[]) (results_none rfl _ _ _) rfl ?_
  exact ⟨rfl, Below.refl _ _⟩
set_option maxRecDepth 100000 in
set_option maxHeartbeats 4000000 in
theorem nil18_hear (xlv : Int) (xrd : Bool) (xiv xsq xme : Int) (xm : List UInt8) (w : World) : Calls Try.prog 31 #[.pointer none, .agg #[.int .u8 xlv, .bool xrd, .int .u8 xiv, .int .u32 xsq, .int .u16 xme, .string (bs xm)]] w fun en w' => en = .returned (.tuple #[]) ∧ Below w.heap.size w w' := by
  go_enter Try.func31, Try.ntmps31
  go_upto_region 1 with fail
  have hb : Below w.heap.size w (w.alloc (.cells #[.int .u8 xlv, .bool xrd, .int .u8 xiv, .int .u32 xsq, .int .u16 xme, .string (bs xm)] 73)) := (Below.refl _ _).alloc (Nat.le_refl _) _
  obtain ⟨w0, hw0⟩ : ∃ k, w.alloc (.cells #[.int .u8 xlv, .bool xrd, .int .u8 xiv, .int .u32 xsq, .int .u16 xme, .string (bs xm)] 73) = k := ⟨_, rfl⟩
  rw [hw0] at hb ⊢
  clear hw0
  go_quiet (fail)
  go_wp2
  refine bodyPost_ret (v := .tuple #[]) (results_none rfl _ _ _) rfl ?_
  exact ⟨rfl, hb.trans ((below_drewN w0 _).mono hb.size)⟩
set_option maxRecDepth 100000 in
set_option maxHeartbeats 4000000 in
theorem nil18_thoseL (w : World) : Calls Try.prog 34 #[.pointer none] w fun en w' => en = .returned (.slice none 0 0) ∧ w' = w := by
  go_enter Try.func34, Try.ntmps34
  go_wp2
  go_ret
  exact ⟨rfl, rfl⟩
set_option maxRecDepth 100000 in
set_option maxHeartbeats 4000000 in
theorem nil18_thoseR (w : World) : Calls Try.prog 35 #[.pointer none] w fun en w' => en = .returned (.slice none 0 0) ∧ w' = w := by
  go_enter Try.func35, Try.ntmps35
  go_wp2
  go_ret
  exact ⟨rfl, rfl⟩
set_option maxRecDepth 100000 in
set_option maxHeartbeats 4000000 in
theorem nil18_worst (w : World) : Calls Try.prog 37 #[.pointer none] w fun en w' => en = .returned (.int .u8 0) ∧ w' = w := by
  go_enter Try.func37, Try.ntmps37
  go_wp2
  go_ret
  exact ⟨rfl, rfl⟩
set_option maxRecDepth 100000 in
set_option maxHeartbeats 4000000 in
theorem nil18_defects (w : World) : Calls Try.prog 36 #[.pointer none] w fun en w' => en = .returned (.bool false) ∧ w' = w := by
  go_enter Try.func36, Try.ntmps36
  go_wp2_with (go_at_call 37; with_reducible refine (nil18_worst _).mono ?_; rintro e w' ⟨rfl, rfl⟩)
  go_ret
  exact ⟨rfl, rfl⟩
set_option maxRecDepth 100000 in
set_option maxHeartbeats 4000000 in
theorem refLasts_any (n : Int) (w : World) : Calls Try.prog 39 #[.int .u8 n] w fun en w' => en = .returned (.int .i64 (lastC n)) ∧ w' = w := by
  unfold lastC
  by_cases h4 : n = 4
  · have d4 : (n == 4) = true := by rw [h4]; rfl
    rw [if_pos h4]
    clear h4
    go_enter Try.func39, Try.ntmps39
    go_wp2
    go_ret
    exact ⟨rfl, rfl⟩
  · have d4 : (n == 4) = false := by rw [beq_eq_false_iff_ne]; exact h4
    rw [if_neg h4]
    clear h4
    by_cases h5 : n = 5
    · have d5 : (n == 5) = true := by rw [h5]; rfl
      rw [if_pos h5]
      clear h5
      go_enter Try.func39, Try.ntmps39
      go_wp2
      go_ret
      exact ⟨rfl, rfl⟩
    · have d5 : (n == 5) = false := by rw [beq_eq_false_iff_ne]; exact h5
      rw [if_neg h5]
      clear h5
      go_enter Try.func39, Try.ntmps39
      go_wp2
      go_ret
      exact ⟨rfl, rfl⟩
set_option maxRecDepth 100000 in
set_option maxHeartbeats 8000000 in
theorem RemoteNil_walk (xlv : Int) (xrd : Bool) (xiv xsq xme : Int) (xm : List UInt8) (n : Int) (w : World) (hc : CkA xlv xiv xsq xme xm) (hn : (Lit.int .u8 n).wf = true) : Calls Try.prog 8 #[.agg #[.int .u8 xlv, .bool xrd, .int .u8 xiv, .int .u32 xsq, .int .u16 xme, .string (bs xm)], .int .u8 n] w fun en w' => en = .returned (.bool true) ∧ Below w.heap.size w w' := by
  have WK := Lib.hid wakes18_any
  have TI := Lib.hid nil18_tick
  have HE := Lib.hid (fun w => nil18_hear xlv xrd xiv xsq xme xm w)
  have L1 := Lib.hid nil18_thoseL
  have L2 := Lib.hid nil18_thoseR
  have WO := Lib.hid nil18_worst
  have DE := Lib.hid nil18_defects
  have LA := Lib.hid (fun w => lasts_any n w)
  have LR := Lib.hid (fun w => refLasts_any n w)
  have CH := Lib.hid (fun w => chk18_any xlv xrd xiv xsq xme xm w)
  obtain ⟨N, hN⟩ : ∃ N, lastC n = N := ⟨_, rfl⟩
  rw [hN] at LA LR
  have sz := bs_size xm
  have hl : xm.length ≤ maxLen := hc.2.2.2.2
  clear hN hn hc
  go_enter Try.func8, Try.ntmps8
  go_upto_region 1 with fail
  have cb := CB.new 69 w xlv xrd xiv xsq xme xm
  have bb : Below w.heap.size w (w.alloc (.cells #[.int .u8 xlv, .bool xrd, .int .u8 xiv, .int .u32 xsq, .int .u16 xme, .string (bs xm)] 69)) := (Below.refl _ _).alloc (Nat.le_refl _) _
  obtain ⟨w0, hw0⟩ : ∃ k, w.alloc (.cells #[.int .u8 xlv, .bool xrd, .int .u8 xiv, .int .u32 xsq, .int .u16 xme, .string (bs xm)] 69) = k := ⟨_, rfl⟩
  rw [hw0] at cb bb ⊢
  have B0 := Lib.hid bb
  have c0 := cb.c0
  have c1 := cb.c1
  have c2 := cb.c2
  have c3 := cb.c3
  have c4 := cb.c4
  have c5 := cb.c5
  clear hw0 bb cb
  by_cases hg : (100 : Int) < (xm.length : Int)
  · have dg : decide ((100 : Int) < (xm.length : Int)) = true := decide_eq_true hg
    go_wp2_with (go_at_call 25; with_reducible refine (WK.out _).mono ?_; rintro e w' ⟨rfl, hb⟩)
    go_ret
    exact ⟨rfl, B0.out.trans (hb.mono B0.out.size)⟩
  · have dg : decide ((100 : Int) < (xm.length : Int)) = false := decide_eq_false hg
    clear hg hl
    go_wp2_with fail
    with_reducible refine (CH.out _).mono ?_
    rintro en w1 ⟨rfl, hb1⟩
    have B1 := Lib.hid (B0.out.trans (hb1.mono B0.out.size))
    clear hb1 c0 c1 c2 c3 c4 c5 B0
    go_wp2_with fail
    with_reducible refine (HE.out _).mono ?_
    rintro en w2 ⟨rfl, hb2⟩
    have B2 := Lib.hid (B1.out.trans (hb2.mono B1.out.size))
    clear hb2 B1
    go_wp2_with fail
    with_reducible refine (TI.out _).mono ?_
    rintro en w3 ⟨rfl, hb3⟩
    have B3 := Lib.hid (B2.out.trans (hb3.mono B2.out.size))
    clear hb3 B2
    go_wp2_with (first
      | (go_at_call 34; with_reducible refine (L1.out _).mono ?_; rintro en _ ⟨rfl, rfl⟩)
      | (go_at_call 35; with_reducible refine (L2.out _).mono ?_; rintro en _ ⟨rfl, rfl⟩)
      | (go_at_call 36; with_reducible refine (DE.out _).mono ?_; rintro en _ ⟨rfl, rfl⟩)
      | (go_at_call 37; with_reducible refine (WO.out _).mono ?_; rintro en _ ⟨rfl, rfl⟩)
      | (go_at_call 38; with_reducible refine (LA.out _).mono ?_; rintro en _ ⟨rfl, rfl⟩)
      | (go_at_call 39; with_reducible refine (LR.out _).mono ?_; rintro en _ ⟨rfl, rfl⟩)
      | (go_at_call 25; with_reducible refine (WK.out _).mono ?_; rintro en w4 ⟨rfl, hb4⟩))
    go_ret
    exact ⟨rfl, B3.out.trans (hb4.mono B3.out.size)⟩
end Go.Proofs.Ytecoomkpkdapdaa
