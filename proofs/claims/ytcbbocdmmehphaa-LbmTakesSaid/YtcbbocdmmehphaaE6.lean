/- lbm: the reference's Take. -/
import Derived.Test.YtcbbocdmmehphaaE5
import Derived.Test.YtcbbocdmmehphaaW7c
set_option linter.unusedVariables false
namespace Go.Proofs.Ytcbbocdmmehphaa
open Go.RowKit

theorem lmE_iff (f : List UInt8) : lmE f = 0 ↔ f.length = 4 := by
  by_cases h1 : f.length < 4
  · have q1 : lm1 f = ([], [], 3) := by unfold lm1 rdText; rw [if_neg (by omega), if_pos (by omega)]
    unfold lmE; rw [q1]; constructor
    · intro h; exact absurd h (by decide)
    · intro h; omega
  have q1 : lm1 f = (f.take 4, f.drop 4, 0) := by unfold lm1 rdText; rw [if_neg (by omega), if_neg (by omega)]; simp
  unfold lmE rdEnd; rw [q1]
  by_cases h5 : f.length = 4
  · rw [if_neg (by simp; omega)]; simp [h5]
  · rw [if_pos (by simp; omega)]
    constructor
    · intro h; exact absurd h (by simp [rdFail])
    · intro h; exact absurd h h5
theorem lm_4 (f : List UInt8) (h : f.length = 4) : lm1 f = (f.take 4, f.drop 4, 0) := by
  unfold lm1 rdText; rw [if_neg (by omega), if_neg (by omega)]; simp
/-- Take's state. -/
structure KR (w W : World) (a b c : Int) (f : List UInt8) (v : Value) : Prop where
  pb : PB 24 W w.heap.size a b c f v
  pz : LB 52 W (w.heap.size + 1) 0 false 0 []
  bel : Below w.heap.size w W
theorem KR.later {w W W' : World} {a b c : Int} {f : List UInt8} {v : Value} (h : KR w W a b c f v) (hb : Below W.heap.size W W') : KR w W' a b c f v := ⟨h.pb.later hb, h.pz.later hb, h.bel.trans (hb.mono h.bel.size)⟩
set_option maxRecDepth 100000 in
set_option maxHeartbeats 8000000 in
theorem refTake14_any (v : Value) (l : List Th) (a b c : Int) (f : List UInt8) (w : World) (hf : f.length ≤ 1000) (hv : Tls w v l) (hl : l.length ≤ 1000) : Calls Try.prog 31 #[.agg #[.int .u8 a, .int .u8 b, .int .u8 c, .string (bs f), v]] w fun en w' =>
    en = .returned (.tuple #[.agg #[.int .u8 (tkL a b f l).1, .bool (tkL a b f l).2.1, .int .u32 (tkL a b f l).2.2.1, .string (bs (tkL a b f l).2.2.2.1)], .int .i64 (tkL a b f l).2.2.2.2]) ∧ Below w.heap.size w w' := by
  obtain ⟨vx, vk, hvv, -⟩ := hv.shape
  obtain ⟨vn, hvn⟩ : ∃ n, l.length = n := ⟨_, rfl⟩
  rw [hvn] at hvv
  subst hvv
  have hsf := bs_size f
  obtain ⟨R, hR⟩ : ∃ R, tkL a b f l = R := ⟨_, rfl⟩
  rw [hR]
  have HR := Lib.hid hR
  clear hR
  obtain ⟨dt, hdt⟩ : ∃ y, (findT l 3).1 = y := ⟨_, rfl⟩
  obtain ⟨dk, hdk⟩ : ∃ y, (findT l 3).2 = y := ⟨_, rfl⟩
  have F1 : Hid (∀ w, Tls w (.slice vx vn vk) l → Calls Try.prog 75 #[.slice vx vn vk, .int .u8 3] w fun en w' => en = .returned (.tuple #[.string (bs dt), .bool dk]) ∧ w = w') := fun w hv => by
    have h := refFind_any (.slice vx vn vk) l 3 w hv (by omega)
    rw [hdt, hdk] at h; exact h
  have HV := Lib.hid hv
  clear hv hl hvn hdk
  go_enter Try.func31, Try.ntmps31
  go_upto_region 1 with fail
  have pb0 := (PB.new 24 w a b c f (.slice vx vn vk)).later ((Below.refl _ _).alloc (Nat.le_refl _) (.cells #[.int .u8 0, .bool false, .int .u32 0, .string { data := #[] }] 52))
  have pz : LB 52 ((w.alloc (.cells #[.int .u8 a, .int .u8 b, .int .u8 c, .string (bs f), .slice vx vn vk] 24)).alloc (.cells #[.int .u8 0, .bool false, .int .u32 0, .string { data := #[] }] 52)) (w.heap.size + 1) 0 false 0 [] := by
    have := LB.new 52 (w.alloc (.cells #[.int .u8 a, .int .u8 b, .int .u8 c, .string (bs f), .slice vx vn vk] 24)) 0 false 0 []
    rw [show (w.alloc (.cells #[.int .u8 a, .int .u8 b, .int .u8 c, .string (bs f), .slice vx vn vk] 24)).heap.size = w.heap.size + 1 by simp] at this
    exact this
  have hb0 : Below w.heap.size w ((w.alloc (.cells #[.int .u8 a, .int .u8 b, .int .u8 c, .string (bs f), .slice vx vn vk] 24)).alloc (.cells #[.int .u8 0, .bool false, .int .u32 0, .string { data := #[] }] 52)) := ((Below.refl _ _).alloc (Nat.le_refl _) _).alloc (by simp) _
  obtain ⟨w0, hw0⟩ : ∃ k, (w.alloc (.cells #[.int .u8 a, .int .u8 b, .int .u8 c, .string (bs f), .slice vx vn vk] 24)).alloc (.cells #[.int .u8 0, .bool false, .int .u32 0, .string { data := #[] }] 52) = k := ⟨_, rfl⟩
  rw [hw0] at pb0 pz hb0 ⊢
  have KR0 := Lib.hid (KR.mk pb0 pz hb0)
  clear hw0 pb0 pz hb0
  have c1 := KR0.out.pb.c1
  have c3 := KR0.out.pb.c3
  by_cases hb : (b = 2 ∨ b = 3) ∧ f.length = 4
  rotate_left
  · have hR2 : R = (0, false, 0, [], 4) := by
      rw [← HR.out]; unfold tkL; rw [if_neg (fun h => hb ⟨h.1, (lmE_iff f).1 h.2⟩)]
    have HR2 := Lib.hid hR2
    clear hR2
    have z0 := KR0.out.pz.c0
    have z1 := KR0.out.pz.c1
    have z2 := KR0.out.pz.c2
    have z3 := KR0.out.pz.c3
    have y0 := KR0.out.pz.fr 0
    have y1 := KR0.out.pz.fr 1
    have y2 := KR0.out.pz.fr 2
    have y3 := KR0.out.pz.fr 3
    by_cases h2 : b = 2
    · have d2 : (b != 2) = false := by rw [h2]; rfl
      have dl : ((f.length : Int) != 4) = true := by rw [bne_iff_ne]; intro h; exact hb ⟨Or.inl h2, by omega⟩
      clear hb h2
      go_wp2_with fail
      refine bodyPost_ret (v := .tuple #[.agg #[.int .u8 0, .bool false, .int .u32 0, .string (bs [])], .int .i64 4]) (by simp [results, Try.results31, go_sem, z0, z1, z2, z3]; rfl) rfl ⟨by rw [HR2.out], below_set (below_set (below_set (below_set KR0.out.bel (by omega) _) (by omega) _) (by omega) _) (by omega) _⟩
    · have d2 : (b != 2) = true := by rw [bne_iff_ne]; exact h2
      by_cases h3 : b = 3
      · have d3 : (b != 3) = false := by rw [h3]; rfl
        have dl : ((f.length : Int) != 4) = true := by rw [bne_iff_ne]; intro h; exact hb ⟨Or.inr h3, by omega⟩
        clear hb h2 h3
        go_wp2_with fail
        refine bodyPost_ret (v := .tuple #[.agg #[.int .u8 0, .bool false, .int .u32 0, .string (bs [])], .int .i64 4]) (by simp [results, Try.results31, go_sem, z0, z1, z2, z3]; rfl) rfl ⟨by rw [HR2.out], below_set (below_set (below_set (below_set KR0.out.bel (by omega) _) (by omega) _) (by omega) _) (by omega) _⟩
      · have d3 : (b != 3) = true := by rw [bne_iff_ne]; exact h3
        clear hb h2 h3
        go_wp2_with fail
        refine bodyPost_ret (v := .tuple #[.agg #[.int .u8 0, .bool false, .int .u32 0, .string (bs [])], .int .i64 4]) (by simp [results, Try.results31, go_sem, z0, z1, z2, z3]; rfl) rfl ⟨by rw [HR2.out], below_set (below_set (below_set (below_set KR0.out.bel (by omega) _) (by omega) _) (by omega) _) (by omega) _⟩
  obtain ⟨hb1, h4⟩ := hb
  have q1 := lm_4 f h4
  obtain ⟨nm, hnm⟩ : ∃ y, numOf (lm1 f).1 = y := ⟨_, rfl⟩
  obtain ⟨l1, hl1⟩ : ∃ y, f.drop 4 = y := ⟨_, rfl⟩
  have N1 : Hid (∀ w, Calls Try.prog 52 #[.agg #[.string (bs f), .int .i64 0], .int .i64 4] w fun en w' => en = .returned (.tuple #[.int .u64 nm, .agg #[.string (bs l1), .int .i64 0]]) ∧ Below w.heap.size w w') := fun w => by
    have h := refNum_any f 0 4 w (by omega) (by decide)
    rw [show rdText f 0 ((4 : Nat) : Int) = lm1 f from rfl, hnm] at h
    rw [q1, hl1] at h; exact h
  have b1 := (numOf_bd (lm1 f).1).1
  have b1' := numOf_lt (lm1 f).1 4 4294967296 (by rw [q1]; simp; omega) (by decide)
  rw [hnm] at b1 b1'
  have w1 : IntKind.u32.wrap nm = nm := IntWalk.u32_in _ (by omega)
  obtain ⟨Q, hQ⟩ : ∃ y, decide (b = 2) = y := ⟨_, rfl⟩
  have hRR : R = (a, Q, nm, dt, 0) := by
    rw [← HR.out]; unfold tkL; rw [if_pos ⟨hb1, (lmE_iff f).2 h4⟩, hnm, hdt, hQ]
  have HRR := Lib.hid hRR
  have dl : ((f.length : Int) != 4) = false := by rw [h4]; rfl
  clear hRR q1 hnm hl1 b1 b1' hf h4 hdt
  rcases hb1 with hb1 | hb1
  all_goals subst hb1
  all_goals have hq := hQ
  all_goals simp only [decide_true, decide_false, Int.reduceEq] at hq
  all_goals subst hq
  all_goals clear hQ
  all_goals go_wp2_with fail
  all_goals with_reducible refine (N1.out _).mono ?_
  all_goals rintro en w2_ ⟨rfl, hb2⟩
  all_goals have KR2 := Lib.hid (KR0.out.later hb2)
  all_goals clear hb2 KR0 c1 c3
  all_goals go_upto_region 4 with fail
  all_goals have KR3 := Lib.hid (KR2.out.later ((Below.refl w2_.heap.size w2_).alloc (Nat.le_refl _) (.cells #[.string (bs l1), .int .i64 0] 102)))
  all_goals obtain ⟨w3, hw3⟩ : ∃ k, w2_.alloc (.cells #[.string (bs l1), .int .i64 0] 102) = k := ⟨_, rfl⟩
  all_goals rw [hw3] at KR3 ⊢
  all_goals clear hw3 KR2
  all_goals have c4 := KR3.out.pb.c4
  all_goals go_wp2_with fail
  all_goals with_reducible refine (F1.out _ (HV.out.later KR3.out.bel)).mono ?_
  all_goals rintro en w4 ⟨rfl, rfl⟩
  all_goals have c0 := KR3.out.pb.c0
  all_goals have c1 := KR3.out.pb.c1
  all_goals have z0 := KR3.out.pz.c0
  all_goals have z1 := KR3.out.pz.c1
  all_goals have z2 := KR3.out.pz.c2
  all_goals have z3 := KR3.out.pz.c3
  all_goals have y0 := KR3.out.pz.fr 0
  all_goals have y1 := KR3.out.pz.fr 1
  all_goals have y2 := KR3.out.pz.fr 2
  all_goals have y3 := KR3.out.pz.fr 3
  all_goals go_wp2_with fail
  · refine bodyPost_ret (v := .tuple #[.agg #[.int .u8 a, .bool true, .int .u32 nm, .string (bs dt)], .int .i64 0]) (by simp [results, Try.results31, go_sem, z0, z1, z2, z3]) rfl ⟨by rw [HRR.out], below_set (below_set (below_set (below_set KR3.out.bel (by omega) _) (by omega) _) (by omega) _) (by omega) _⟩
  · refine bodyPost_ret (v := .tuple #[.agg #[.int .u8 a, .bool false, .int .u32 nm, .string (bs dt)], .int .i64 0]) (by simp [results, Try.results31, go_sem, z0, z1, z2, z3]) rfl ⟨by rw [HRR.out], below_set (below_set (below_set (below_set KR3.out.bel (by omega) _) (by omega) _) (by omega) _) (by omega) _⟩
end Go.Proofs.Ytcbbocdmmehphaa
