/- ccm: the reference's Take. -/
import Derived.Test.YtcbbocdmmehphaaD3
import Derived.Test.YtcbbocdmmehphaaW7c
set_option linter.unusedVariables false
namespace Go.Proofs.Ytcbbocdmmehphaa
open Go.RowKit

theorem rdn_ok (l : List UInt8) (n : Nat) (h0 : 1 ≤ n) (h : n ≤ l.length) : rdText l 0 (n : Int) = (l.take n, l.drop n, 0) := by
  unfold rdText; rw [if_neg (by omega), if_neg (by omega)]; simp
theorem rdn_no (l : List UInt8) (n : Nat) (h : l.length < n) : rdText l 0 (n : Int) = ([], [], 3) := by
  unfold rdText; rw [if_neg (by omega), if_pos (by omega)]
theorem rdn_err (n : Int) : rdText [] 3 n = ([], [], 3) := by unfold rdText; rw [if_pos (Or.inr (by decide))]
theorem crE_iff (f : List UInt8) : crE f = 0 ↔ f.length = 70 := by
  by_cases h1 : f.length < 4
  · have q1 : cr1 f = ([], [], 3) := rdn_no f 4 h1
    have q2 : cr2 f = ([], [], 3) := by unfold cr2; rw [q1]; exact rdn_err 2
    have q3 : cr3 f = ([], [], 3) := by unfold cr3; rw [q2]; exact rdn_err 48
    have q4 : cr4 f = ([], [], 3) := by unfold cr4; rw [q3]; exact rdn_err 16
    unfold crE; rw [q4]; constructor
    · intro h; exact absurd h (by decide)
    · intro h; omega
  have q1 : cr1 f = (f.take 4, f.drop 4, 0) := rdn_ok f 4 (by decide) (by omega)
  by_cases h2 : f.length < 6
  · have q2 : cr2 f = ([], [], 3) := by unfold cr2; rw [q1]; exact rdn_no _ 2 (by simp; omega)
    have q3 : cr3 f = ([], [], 3) := by unfold cr3; rw [q2]; exact rdn_err 48
    have q4 : cr4 f = ([], [], 3) := by unfold cr4; rw [q3]; exact rdn_err 16
    unfold crE; rw [q4]; constructor
    · intro h; exact absurd h (by decide)
    · intro h; omega
  have q2 : cr2 f = ((f.drop 4).take 2, f.drop 6, 0) := by
    unfold cr2; rw [q1]
    have := rdn_ok (f.drop 4) 2 (by decide) (by simp; omega)
    rw [List.drop_drop] at this; exact this
  by_cases h3 : f.length < 54
  · have q3 : cr3 f = ([], [], 3) := by unfold cr3; rw [q2]; exact rdn_no _ 48 (by simp; omega)
    have q4 : cr4 f = ([], [], 3) := by unfold cr4; rw [q3]; exact rdn_err 16
    unfold crE; rw [q4]; constructor
    · intro h; exact absurd h (by decide)
    · intro h; omega
  have q3 : cr3 f = ((f.drop 6).take 48, f.drop 54, 0) := by
    unfold cr3; rw [q2]
    have := rdn_ok (f.drop 6) 48 (by decide) (by simp; omega)
    rw [List.drop_drop] at this; exact this
  by_cases h4 : f.length < 70
  · have q4 : cr4 f = ([], [], 3) := by unfold cr4; rw [q3]; exact rdn_no _ 16 (by simp; omega)
    unfold crE; rw [q4]; constructor
    · intro h; exact absurd h (by decide)
    · intro h; omega
  have q4 : cr4 f = ((f.drop 54).take 16, f.drop 70, 0) := by
    unfold cr4; rw [q3]
    have := rdn_ok (f.drop 54) 16 (by decide) (by simp; omega)
    rw [List.drop_drop] at this; exact this
  unfold crE rdEnd; rw [q4]
  by_cases h5 : f.length = 70
  · rw [if_neg (by simp; omega)]; simp [h5]
  · rw [if_pos (by simp; omega)]
    constructor
    · intro h; exact absurd h (by simp [rdFail])
    · intro h; exact absurd h h5
theorem cr_70 (f : List UInt8) (h : f.length = 70) : cr1 f = (f.take 4, f.drop 4, 0) ∧ cr2 f = ((f.drop 4).take 2, f.drop 6, 0) ∧ cr3 f = ((f.drop 6).take 48, f.drop 54, 0) := by
  have q1 : cr1 f = (f.take 4, f.drop 4, 0) := rdn_ok f 4 (by decide) (by omega)
  have q2 : cr2 f = ((f.drop 4).take 2, f.drop 6, 0) := by
    unfold cr2; rw [q1]
    have := rdn_ok (f.drop 4) 2 (by decide) (by simp; omega)
    rw [List.drop_drop] at this; exact this
  have q3 : cr3 f = ((f.drop 6).take 48, f.drop 54, 0) := by
    unfold cr3; rw [q2]
    have := rdn_ok (f.drop 6) 48 (by decide) (by simp; omega)
    rw [List.drop_drop] at this; exact this
  exact ⟨q1, q2, q3⟩
/-- The reference's reader, in a block. -/
def RB (W : World) (r : Nat) (l : List UInt8) : Prop := W.heap[r]? = some (.cells #[.string (bs l), .int .i64 0] 102 (0, 0))
section
variable {W W' : World} {r : Nat} {l : List UInt8}
theorem RB.lt (h : RB W r l) : r < W.heap.size := by
  rcases Nat.lt_or_ge r W.heap.size with h1 | h1
  · exact h1
  · unfold RB at h; rw [Array.getElem?_eq_none h1] at h; cases h
theorem RB.later (h : RB W r l) (hb : Below W.heap.size W W') : RB W' r l := by unfold RB; rw [hb.block r h.lt]; exact h
theorem RB.c0 (h : RB W r l) : W.cell? ⟨r, 0, none⟩ = some (.string (bs l)) := by unfold RB at h; simp [World.cell?, h]
theorem RB.c1 (h : RB W r l) : W.cell? ⟨r, 1, none⟩ = some (.int .i64 0) := by unfold RB at h; simp [World.cell?, h]
theorem RB.fr (h : RB W r l) (o : Nat) : W.frozen? ⟨r, o, none⟩ = false := by unfold RB at h; simp [World.frozen?, h]
theorem RB.sets (h : RB W r l) (m : List UInt8) : RB ((W.setCell ⟨r, 0, none⟩ (.string (bs m))).setCell ⟨r, 1, none⟩ (.int .i64 0)) r m := by
  unfold RB at *; simp [World.setCell, Array.getElem?_modify, h]
end
set_option maxRecDepth 100000 in
set_option maxHeartbeats 8000000 in
theorem refTake13_any (v : Value) (a b c : Int) (f : List UInt8) (w : World) (hf : f.length ≤ 1000) (ha : 0 ≤ a ∧ a < 256) (hc : 0 ≤ c ∧ c < 256) (hv : ∃ x n k, v = .slice x n k) : Calls Try.prog 48 #[.agg #[.int .u8 a, .int .u8 b, .int .u8 c, .string (bs f), v]] w fun en w' =>
    en = .returned (.tuple #[.agg #[.int .u8 (tkC a b c f).1, .bool (tkC a b c f).2.1, .int .u8 (tkC a b c f).2.2.1, .int .u32 (tkC a b c f).2.2.2.1, .int .u16 (tkC a b c f).2.2.2.2.1, .string (bs (tkC a b c f).2.2.2.2.2.1)], .int .i64 (tkC a b c f).2.2.2.2.2.2]) ∧ Below w.heap.size w w' := by
  obtain ⟨vx, vn, vk, rfl⟩ := hv
  have hsf := bs_size f
  obtain ⟨R, hR⟩ : ∃ R, tkC a b c f = R := ⟨_, rfl⟩
  rw [hR]
  have HR := Lib.hid hR
  clear hR
  go_enter Try.func48, Try.ntmps48
  go_upto_region 1 with fail
  have pb0 := (PB.new 24 w a b c f (.slice vx vn vk)).later ((Below.refl _ _).alloc (Nat.le_refl _) (.cells #[.int .u8 0, .bool false, .int .u8 0, .int .u32 0, .int .u16 0, .string { data := #[] }] 86))
  have pz : CB 86 ((w.alloc (.cells #[.int .u8 a, .int .u8 b, .int .u8 c, .string (bs f), .slice vx vn vk] 24)).alloc (.cells #[.int .u8 0, .bool false, .int .u8 0, .int .u32 0, .int .u16 0, .string { data := #[] }] 86)) (w.heap.size + 1) 0 false 0 0 0 [] := by
    have := CB.new 86 (w.alloc (.cells #[.int .u8 a, .int .u8 b, .int .u8 c, .string (bs f), .slice vx vn vk] 24)) 0 false 0 0 0 []
    rw [show (w.alloc (.cells #[.int .u8 a, .int .u8 b, .int .u8 c, .string (bs f), .slice vx vn vk] 24)).heap.size = w.heap.size + 1 by simp] at this
    exact this
  have hb0 : Below w.heap.size w ((w.alloc (.cells #[.int .u8 a, .int .u8 b, .int .u8 c, .string (bs f), .slice vx vn vk] 24)).alloc (.cells #[.int .u8 0, .bool false, .int .u8 0, .int .u32 0, .int .u16 0, .string { data := #[] }] 86)) := ((Below.refl _ _).alloc (Nat.le_refl _) _).alloc (by simp) _
  obtain ⟨w0, hw0⟩ : ∃ k, (w.alloc (.cells #[.int .u8 a, .int .u8 b, .int .u8 c, .string (bs f), .slice vx vn vk] 24)).alloc (.cells #[.int .u8 0, .bool false, .int .u8 0, .int .u32 0, .int .u16 0, .string { data := #[] }] 86) = k := ⟨_, rfl⟩
  rw [hw0] at pb0 pz hb0 ⊢
  have c1 := pb0.c1
  have c3 := pb0.c3
  have PB0 := Lib.hid pb0
  have PZ0 := Lib.hid pz
  have HB0 := Lib.hid hb0
  clear hw0 pb0 pz hb0
  by_cases hb : b = 1 ∧ f.length = 70
  rotate_left
  · have hR2 : R = (0, false, 0, 0, 0, [], 4) := by
      rw [← HR.out]; unfold tkC; rw [if_neg (fun h => hb ⟨h.1, (crE_iff f).1 h.2.1⟩)]
    have HR2 := Lib.hid hR2
    clear hR2
    have z0 := PZ0.out.c0
    have z1 := PZ0.out.c1
    have z2 := PZ0.out.c2
    have z3 := PZ0.out.c3
    have z4 := PZ0.out.c4
    have z5 := PZ0.out.c5
    have y0 := PZ0.out.fr 0
    have y1 := PZ0.out.fr 1
    have y2 := PZ0.out.fr 2
    have y3 := PZ0.out.fr 3
    have y4 := PZ0.out.fr 4
    have y5 := PZ0.out.fr 5
    by_cases h1 : b = 1
    · have db : (b != 1) = false := by rw [h1]; rfl
      have dl : ((f.length : Int) != 70) = true := by
        rw [bne_iff_ne]; intro h; exact hb ⟨h1, by omega⟩
      clear hb h1
      go_wp2_with fail
      refine bodyPost_ret (v := .tuple #[.agg #[.int .u8 0, .bool false, .int .u8 0, .int .u32 0, .int .u16 0, .string (bs [])], .int .i64 4]) (by simp [results, Try.results48, go_sem, z0, z1, z2, z3, z4, z5]; rfl) rfl ⟨by rw [HR2.out], below_set (below_set (below_set (below_set (below_set (below_set HB0.out (by omega) _) (by omega) _) (by omega) _) (by omega) _) (by omega) _) (by omega) _⟩
    · have db : (b != 1) = true := by rw [bne_iff_ne]; exact h1
      clear hb h1
      go_wp2_with fail
      refine bodyPost_ret (v := .tuple #[.agg #[.int .u8 0, .bool false, .int .u8 0, .int .u32 0, .int .u16 0, .string (bs [])], .int .i64 4]) (by simp [results, Try.results48, go_sem, z0, z1, z2, z3, z4, z5]; rfl) rfl ⟨by rw [HR2.out], below_set (below_set (below_set (below_set (below_set (below_set HB0.out (by omega) _) (by omega) _) (by omega) _) (by omega) _) (by omega) _) (by omega) _⟩
  obtain ⟨hb1, h70⟩ := hb
  obtain ⟨q1, q2, q3⟩ := cr_70 f h70
  obtain ⟨sq, hsq⟩ : ∃ y, numOf (cr1 f).1 = y := ⟨_, rfl⟩
  obtain ⟨me, hme⟩ : ∃ y, numOf (cr2 f).1 = y := ⟨_, rfl⟩
  obtain ⟨m, hm⟩ : ∃ y, (cr3 f).1 = y := ⟨_, rfl⟩
  obtain ⟨l1, hl1⟩ : ∃ y, f.drop 4 = y := ⟨_, rfl⟩
  obtain ⟨l2, hl2⟩ : ∃ y, f.drop 6 = y := ⟨_, rfl⟩
  have N1 : Hid (∀ w, Calls Try.prog 52 #[.agg #[.string (bs f), .int .i64 0], .int .i64 4] w fun en w' => en = .returned (.tuple #[.int .u64 sq, .agg #[.string (bs l1), .int .i64 0]]) ∧ Below w.heap.size w w') := fun w => by
    have h := refNum_any f 0 4 w (by omega) (by decide)
    rw [show rdText f 0 ((4 : Nat) : Int) = cr1 f from rfl, hsq] at h
    rw [q1, hl1] at h; exact h
  have N2 : Hid (∀ w, Calls Try.prog 52 #[.agg #[.string (bs l1), .int .i64 0], .int .i64 2] w fun en w' => en = .returned (.tuple #[.int .u64 me, .agg #[.string (bs l2), .int .i64 0]]) ∧ Below w.heap.size w w') := fun w => by
    have h := refNum_any l1 0 2 w (by rw [← hl1]; simp; omega) (by decide)
    have e : rdText l1 0 ((2 : Nat) : Int) = cr2 f := by unfold cr2; rw [q1, hl1]; rfl
    rw [e, hme] at h
    rw [q2, hl2] at h; exact h
  have b1 := (numOf_bd (cr1 f).1).1
  have b2 := (numOf_bd (cr2 f).1).1
  have b1' := numOf_lt (cr1 f).1 4 4294967296 (by rw [q1]; simp; omega) (by decide)
  have b2' := numOf_lt (cr2 f).1 2 65536 (by rw [q2]; simp; omega) (by decide)
  rw [hsq] at b1 b1'
  rw [hme] at b2 b2'
  have w1 : IntKind.u32.wrap sq = sq := IntWalk.u32_in _ (by omega)
  have w2 : IntKind.u16.wrap me = me := IntWalk.u16_in _ (by omega)
  have sl2 : (bs l2).size = 64 := by rw [bs_size, ← hl2]; simp; omega
  have ex : (bs l2).extract 0 48 = bs m := by rw [bs_take, ← hm, q3, hl2]
  have ml : m.length ≤ 1000 := by rw [← hm, q3]; simp; omega
  obtain ⟨K, hK⟩ : ∃ K, mayC a (c % 8) me m = K := ⟨_, rfl⟩
  obtain ⟨G, hG⟩ : ∃ G : Bool, decide (127 < c) = G := ⟨_, rfl⟩
  have M1 : Hid (∀ w, Calls Try.prog 83 #[.agg #[.int .u8 a, .bool G, .int .u8 (c % 8), .int .u32 sq, .int .u16 me, .string (bs m)]] w fun en w' => en = .returned (.bool K) ∧ Below w.heap.size w w') := by
    rw [← hK]; exact fun w => refMay13_any a G (c % 8) sq me m w ml
  have hRR : R = if K = true then (a, G, c % 8, sq, me, m, 0) else (0, false, 0, 0, 0, [], 4) := by
    rw [← HR.out]; unfold tkC
    rw [hsq, hme, hm, hK, hG]
    by_cases h : K = true
    · rw [if_pos h, if_pos ⟨hb1, (crE_iff f).2 h70, h⟩]
    · rw [if_neg h, if_neg (fun k => h k.2.2)]
  have HRR := Lib.hid hRR
  have t8 : c.tmod 8 = c % 8 := Int.tmod_eq_emod_of_nonneg hc.1
  have w8 : IntKind.u8.wrap (c % 8) = c % 8 := IntWalk.u8_in _ (by omega)
  have db : (b != 1) = false := by rw [hb1]; rfl
  have dl : ((f.length : Int) != 70) = false := by rw [h70]; rfl
  clear hRR hb1 h70 q1 q2 q3 hsq hme hm hl1 hl2 hK b1 b2 b1' b2' ml hf ha hc
  go_wp2_with fail
  with_reducible refine (N1.out _).mono ?_
  rintro en w2_ ⟨rfl, hb2⟩
  have PB2 := Lib.hid (PB0.out.later hb2)
  have PZ2 := Lib.hid (PZ0.out.later hb2)
  have HB2 := Lib.hid (HB0.out.trans (hb2.mono HB0.out.size))
  clear hb2 PB0 PZ0 HB0 c1 c3
  go_upto_region 4 with fail
  have rb : RB (w2_.alloc (.cells #[.string (bs l1), .int .i64 0] 102)) w2_.heap.size l1 := heap_alloc_new w2_ _
  have aa := (Below.refl w2_.heap.size w2_).alloc (Nat.le_refl _) (.cells #[.string (bs l1), .int .i64 0] 102)
  have hlt : w.heap.size + 1 < w2_.heap.size := PZ2.out.lt
  obtain ⟨r, hr⟩ : ∃ k, w2_.heap.size = k := ⟨_, rfl⟩
  obtain ⟨w3, hw3⟩ : ∃ k, w2_.alloc (.cells #[.string (bs l1), .int .i64 0] 102) = k := ⟨_, rfl⟩
  rw [hw3] at rb aa ⊢
  have PB3 := Lib.hid (PB2.out.later aa)
  have PZ3 := Lib.hid (PZ2.out.later aa)
  have HB3 := Lib.hid (HB2.out.trans (aa.mono HB2.out.size))
  rw [hr] at rb hlt ⊢
  have RB3 := Lib.hid rb
  have HLT := Lib.hid hlt
  have r0 := rb.c0
  have r1 := rb.c1
  clear rb aa hw3 hr hlt PB2 PZ2 HB2
  go_wp2_with fail
  with_reducible refine (N2.out _).mono ?_
  rintro en w4 ⟨rfl, hb4⟩
  have PB4 := Lib.hid (PB3.out.later hb4)
  have PZ4 := Lib.hid (PZ3.out.later hb4)
  have RB4 := Lib.hid (RB3.out.later hb4)
  have HB4 := Lib.hid (HB3.out.trans (hb4.mono HB3.out.size))
  have r0 := RB4.out.c0
  have r1 := RB4.out.c1
  have s0 := RB4.out.fr 0
  have s1 := RB4.out.fr 1
  clear hb4 PB3 PZ3 RB3 HB3
  go_upto_region 5 with fail
  have rb5 := RB4.out.sets l2
  have pb5 := (PB4.out.other (t := r) (o := 0) (by have := HLT.out; omega) (.string (bs l2))).other (t := r) (o := 1) (by have := HLT.out; omega) (.int .i64 0)
  have pz5 := (PZ4.out.other (t := r) (o := 0) (by have := HLT.out; omega) (.string (bs l2))).other (t := r) (o := 1) (by have := HLT.out; omega) (.int .i64 0)
  have hb5 : Below w.heap.size w ((w4.setCell ⟨r, 0, none⟩ (.string (bs l2))).setCell ⟨r, 1, none⟩ (.int .i64 0)) := below_set (below_set HB4.out (by have := HLT.out; omega) _) (by have := HLT.out; omega) _
  obtain ⟨w5, hw5⟩ : ∃ k, (w4.setCell ⟨r, 0, none⟩ (.string (bs l2))).setCell ⟨r, 1, none⟩ (.int .i64 0) = k := ⟨_, rfl⟩
  rw [hw5] at rb5 pb5 pz5 hb5 ⊢
  have HB5 := Lib.hid hb5
  have PZ5 := Lib.hid pz5
  have p0 := pb5.c0
  have p2 := pb5.c2
  have r0 := rb5.c0
  have hl5 := pz5.lt
  have HL5 := Lib.hid hl5
  have hlr := rb5.lt
  clear hw5 rb5 pb5 pz5 hb5 hl5 PB4 PZ4 RB4 HB4 s0 s1 r1
  go_upto_region 5 with fail
  go_cut [7] (fun s7 wx => ∃ q : Nat, s7 = .pointer (some ⟨q, 0, none⟩) ∧ Hid (CB 86 wx q a G (c % 8) sq me m) ∧ Hid (CB 86 wx (w.heap.size + 1) 0 false 0 0 0 []) ∧ Hid (Below w.heap.size w wx))
  case first =>
    go_region_held3 (fun W => W.cell? ⟨w.heap.size, 0, none⟩ = some (.int .u8 a) ∧ W.cell? ⟨w.heap.size, 2, none⟩ = some (.int .u8 c) ∧ W.cell? ⟨r, 0, none⟩ = some (.string (bs l2)))
      (first | exact ⟨p0, p2, r0⟩ | go_keep)
      (fail)
    all_goals go_wp2_with fail
    all_goals go_meet
    all_goals exact ⟨_, rfl, Lib.hid (CB.new 86 w5 a G (c % 8) sq me m), Lib.hid (PZ5.out.later (((Below.refl _ _).alloc (Nat.le_refl _) _).drew)), Lib.hid (HB5.out.alloc HB5.out.size _).drew⟩
  case rest =>
    obtain ⟨q, rfl, CQ6, PZ6, HB6⟩ := hcut
    have k0 := CQ6.out.c0
    have k1 := CQ6.out.c1
    have k2 := CQ6.out.c2
    have k3 := CQ6.out.c3
    have k4 := CQ6.out.c4
    have k5 := CQ6.out.c5
    go_wp2_with fail
    with_reducible refine (M1.out _).mono ?_
    rintro en w7 ⟨rfl, hb7⟩
    have CQ7 := Lib.hid (CQ6.out.later hb7)
    have PZ7 := Lib.hid (PZ6.out.later hb7)
    have HB7 := Lib.hid (HB6.out.trans (hb7.mono HB6.out.size))
    clear hb7 CQ6 PZ6 HB6 k0 k1 k2 k3 k4 k5 p0 p2 r0
    cases K with
    | false =>
      have hR2 : R = (0, false, 0, 0, 0, [], 4) := by rw [HRR.out, if_neg (by decide)]
      have HR2 := Lib.hid hR2
      clear hR2
      have z0 := PZ7.out.c0
      have z1 := PZ7.out.c1
      have z2 := PZ7.out.c2
      have z3 := PZ7.out.c3
      have z4 := PZ7.out.c4
      have z5 := PZ7.out.c5
      have y0 := PZ7.out.fr 0
      have y1 := PZ7.out.fr 1
      have y2 := PZ7.out.fr 2
      have y3 := PZ7.out.fr 3
      have y4 := PZ7.out.fr 4
      have y5 := PZ7.out.fr 5
      go_wp2_with fail
      refine bodyPost_ret (v := .tuple #[.agg #[.int .u8 0, .bool false, .int .u8 0, .int .u32 0, .int .u16 0, .string (bs [])], .int .i64 4]) (by simp [results, Try.results48, go_sem, z0, z1, z2, z3, z4, z5]; rfl) rfl ⟨by rw [HR2.out], below_set (below_set (below_set (below_set (below_set (below_set HB7.out (by omega) _) (by omega) _) (by omega) _) (by omega) _) (by omega) _) (by omega) _⟩
    | true =>
      have hR2 : R = (a, G, c % 8, sq, me, m, 0) := by rw [HRR.out, if_pos rfl]
      have HR2 := Lib.hid hR2
      have k0 := CQ7.out.c0
      have k1 := CQ7.out.c1
      have k2 := CQ7.out.c2
      have k3 := CQ7.out.c3
      have k4 := CQ7.out.c4
      have k5 := CQ7.out.c5
      clear hR2
      have z0 := PZ7.out.c0
      have z1 := PZ7.out.c1
      have z2 := PZ7.out.c2
      have z3 := PZ7.out.c3
      have z4 := PZ7.out.c4
      have z5 := PZ7.out.c5
      have y0 := PZ7.out.fr 0
      have y1 := PZ7.out.fr 1
      have y2 := PZ7.out.fr 2
      have y3 := PZ7.out.fr 3
      have y4 := PZ7.out.fr 4
      have y5 := PZ7.out.fr 5
      go_wp2_with fail
      refine bodyPost_ret (v := .tuple #[.agg #[.int .u8 a, .bool G, .int .u8 (c % 8), .int .u32 sq, .int .u16 me, .string (bs m)], .int .i64 0]) (by simp [results, Try.results48, go_sem, z0, z1, z2, z3, z4, z5]) rfl ⟨by rw [HR2.out], below_set (below_set (below_set (below_set (below_set (below_set HB7.out (by omega) _) (by omega) _) (by omega) _) (by omega) _) (by omega) _) (by omega) _⟩
end Go.Proofs.Ytcbbocdmmehphaa
