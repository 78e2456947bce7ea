/- ZP52: the texts Y21, RM as one. -/
import Derived.Test.YtlkdfofpnmpidaaGreatZP51
import Derived.Test.YtlkdfofpnmpidaaGreatZP02
/- law20: of no point; the walk of MepNil. -/
set_option linter.unusedVariables false
set_option linter.unusedSimpArgs false
namespace Go.Proofs.YtlkdfofpnmpidaaGreat
open Go.RowKit

set_option maxRecDepth 100000 in
set_option maxHeartbeats 8000000 in
theorem MepNil_walk (sr ds : Mc) (hsr : sr.Ok) (hds : ds.Ok) (d : List UInt8) (hd : d.length ≤ maxLen) (tl : Int) (w : World) : Calls Tryz.prog 4 #[.agg #[.int .u8 sr.a, .int .u8 sr.b, .int .u8 sr.c, .int .u8 sr.d, .int .u8 sr.e, .int .u8 sr.f], .agg #[.int .u8 ds.a, .int .u8 ds.b, .int .u8 ds.c, .int .u8 ds.d, .int .u8 ds.e, .int .u8 ds.f], .string (bs d), .int .u8 tl] w fun en w' => en = .returned (.bool true) ∧ Below w.heap.size w w' := by
  have WK := Lib.hid wakes20_any
  have TI := Lib.hid nil20_tick
  have TA := Lib.hid (nil20_take sr ds d)
  have LO : Hid (∀ w, Calls Tryz.prog 14 #[.pointer none, .agg #[.int .u8 ds.a, .int .u8 ds.b, .int .u8 ds.c, .int .u8 ds.d, .int .u8 ds.e, .int .u8 ds.f], .string (bs d)] w fun en w' => en = .returned (.tuple #[.agg #[.int .u8 0, .int .u8 0, .int .u8 0, .int .u8 0, .int .u8 0, .int .u8 0, .string { data := #[] }], .int .i64 1]) ∧ Below w.heap.size w w') := Lib.hid (nil20_loop ds d)
  have TR : Hid (∀ w, Calls Tryz.prog 16 #[.pointer none, .agg #[.int .u8 ds.a, .int .u8 ds.b, .int .u8 ds.c, .int .u8 ds.d, .int .u8 ds.e, .int .u8 ds.f], .int .u8 tl] w fun en w' => en = .returned (.tuple #[.agg #[.int .u8 0, .int .u8 0, .int .u8 0, .int .u8 0, .int .u8 0, .int .u8 0, .string { data := #[] }], .int .i64 1]) ∧ Below w.heap.size w w') := Lib.hid (nil20_trace ds tl)
  have ST := Lib.hid nil20_state
  have hsz := bs_size d
  unfold maxLen at hd
  have B0 : Below w.heap.size w ((w.alloc (.cells #[.int .u8 sr.a, .int .u8 sr.b, .int .u8 sr.c, .int .u8 sr.d, .int .u8 sr.e, .int .u8 sr.f] 25)).alloc (.cells #[.int .u8 ds.a, .int .u8 ds.b, .int .u8 ds.c, .int .u8 ds.d, .int .u8 ds.e, .int .u8 ds.f] 25)) := ((Below.refl w.heap.size w).alloc (Nat.le_refl _) _).alloc (by simp) _
  have G4 : GB 25 ((w.alloc (.cells #[.int .u8 sr.a, .int .u8 sr.b, .int .u8 sr.c, .int .u8 sr.d, .int .u8 sr.e, .int .u8 sr.f] 25)).alloc (.cells #[.int .u8 ds.a, .int .u8 ds.b, .int .u8 ds.c, .int .u8 ds.d, .int .u8 ds.e, .int .u8 ds.f] 25)) w.heap.size #[.int .u8 sr.a, .int .u8 sr.b, .int .u8 sr.c, .int .u8 sr.d, .int .u8 sr.e, .int .u8 sr.f] := (show GB 25 (w.alloc (.cells #[.int .u8 sr.a, .int .u8 sr.b, .int .u8 sr.c, .int .u8 sr.d, .int .u8 sr.e, .int .u8 sr.f] 25)) w.heap.size #[.int .u8 sr.a, .int .u8 sr.b, .int .u8 sr.c, .int .u8 sr.d, .int .u8 sr.e, .int .u8 sr.f] from heap_alloc_new _ _).later ((Below.refl _ _).alloc (Nat.le_refl _) _)
  have G5 : GB 25 ((w.alloc (.cells #[.int .u8 sr.a, .int .u8 sr.b, .int .u8 sr.c, .int .u8 sr.d, .int .u8 sr.e, .int .u8 sr.f] 25)).alloc (.cells #[.int .u8 ds.a, .int .u8 ds.b, .int .u8 ds.c, .int .u8 ds.d, .int .u8 ds.e, .int .u8 ds.f] 25)) (w.heap.size + 1) #[.int .u8 ds.a, .int .u8 ds.b, .int .u8 ds.c, .int .u8 ds.d, .int .u8 ds.e, .int .u8 ds.f] := by
    have h := heap_alloc_new (w.alloc (.cells #[.int .u8 sr.a, .int .u8 sr.b, .int .u8 sr.c, .int .u8 sr.d, .int .u8 sr.e, .int .u8 sr.f] 25)) (.cells #[.int .u8 ds.a, .int .u8 ds.b, .int .u8 ds.c, .int .u8 ds.d, .int .u8 ds.e, .int .u8 ds.f] 25)
    rw [show (w.alloc (.cells #[.int .u8 sr.a, .int .u8 sr.b, .int .u8 sr.c, .int .u8 sr.d, .int .u8 sr.e, .int .u8 sr.f] 25)).heap.size = w.heap.size + 1 by simp] at h
    exact h
  go_enter Tryz.func4, Tryz.ntmps4
  go_upto_region 1 with fail
  obtain ⟨w0, hw0⟩ : ∃ z, ((w.alloc (.cells #[.int .u8 sr.a, .int .u8 sr.b, .int .u8 sr.c, .int .u8 sr.d, .int .u8 sr.e, .int .u8 sr.f] 25)).alloc (.cells #[.int .u8 ds.a, .int .u8 ds.b, .int .u8 ds.c, .int .u8 ds.d, .int .u8 ds.e, .int .u8 ds.f] 25)) = z := ⟨_, rfl⟩
  rw [hw0] at B0 G4 G5 ⊢
  clear hw0
  have HB0 := Lib.hid B0
  have HG4 := Lib.hid G4
  have HG5 := Lib.hid G5
  clear B0 G4 G5
  by_cases hl : 1600 < d.length
  · have h0 : decide ((1600 : Int) < (d.length : Int)) = true := decide_eq_true (by omega)
    have h1 : decide (1600 < d.length) = true := decide_eq_true hl
    go_wp2_with fail
    with_reducible refine (WK.out _).mono ?_
    rintro en w1 ⟨rfl, hb1⟩
    go_wp2
    go_ret
    exact ⟨rfl, HB0.out.trans (hb1.mono HB0.out.size)⟩
  have h0 : decide ((1600 : Int) < (d.length : Int)) = false := decide_eq_false (by omega)
  have h1 : decide (1600 < d.length) = false := decide_eq_false hl
  go_wp2_with fail
  with_reducible refine (TI.out _).mono ?_
  rintro en w1 ⟨rfl, hb1⟩
  have S1 := Lib.hid (And.intro (And.intro (HB0.out.trans (hb1.mono HB0.out.size)) (HG4.out.later hb1)) (HG5.out.later hb1))
  clear hb1 HB0 HG4 HG5 TI
  have d0 : w1.cell? ⟨w.heap.size + 1, 0, none⟩ = some (.int .u8 ds.a) := S1.out.2.c 0 _ rfl
  have d1 : w1.cell? ⟨w.heap.size + 1, 1, none⟩ = some (.int .u8 ds.b) := S1.out.2.c 1 _ rfl
  have d2 : w1.cell? ⟨w.heap.size + 1, 2, none⟩ = some (.int .u8 ds.c) := S1.out.2.c 2 _ rfl
  have d3 : w1.cell? ⟨w.heap.size + 1, 3, none⟩ = some (.int .u8 ds.d) := S1.out.2.c 3 _ rfl
  have d4 : w1.cell? ⟨w.heap.size + 1, 4, none⟩ = some (.int .u8 ds.e) := S1.out.2.c 4 _ rfl
  have d5 : w1.cell? ⟨w.heap.size + 1, 5, none⟩ = some (.int .u8 ds.f) := S1.out.2.c 5 _ rfl
  go_wp2_with fail
  with_reducible refine (LO.out _).mono ?_
  rintro en w2 ⟨rfl, hb2⟩
  have S2 := Lib.hid (And.intro (And.intro (S1.out.1.1.trans (hb2.mono S1.out.1.1.size)) (S1.out.1.2.later hb2)) (S1.out.2.later hb2))
  clear hb2 S1 LO d0 d1 d2 d3 d4 d5
  go_upto_region 6 with fail
  have hb3 : Below w2.heap.size w2 (w2.alloc (.cells #[.int .u8 0, .int .u8 0, .int .u8 0, .int .u8 0, .int .u8 0, .int .u8 0, .string { data := #[] }] 55)) := (Below.refl _ _).alloc (Nat.le_refl _) _
  obtain ⟨w3, hw3⟩ : ∃ z, w2.alloc (.cells #[.int .u8 0, .int .u8 0, .int .u8 0, .int .u8 0, .int .u8 0, .int .u8 0, .string { data := #[] }] 55) = z := ⟨_, rfl⟩
  rw [hw3] at hb3 ⊢
  have S3 := Lib.hid (And.intro (And.intro (S2.out.1.1.trans (hb3.mono S2.out.1.1.size)) (S2.out.1.2.later hb3)) (S2.out.2.later hb3))
  clear hb3 S2 hw3
  have d0 : w3.cell? ⟨w.heap.size + 1, 0, none⟩ = some (.int .u8 ds.a) := S3.out.2.c 0 _ rfl
  have d1 : w3.cell? ⟨w.heap.size + 1, 1, none⟩ = some (.int .u8 ds.b) := S3.out.2.c 1 _ rfl
  have d2 : w3.cell? ⟨w.heap.size + 1, 2, none⟩ = some (.int .u8 ds.c) := S3.out.2.c 2 _ rfl
  have d3 : w3.cell? ⟨w.heap.size + 1, 3, none⟩ = some (.int .u8 ds.d) := S3.out.2.c 3 _ rfl
  have d4 : w3.cell? ⟨w.heap.size + 1, 4, none⟩ = some (.int .u8 ds.e) := S3.out.2.c 4 _ rfl
  have d5 : w3.cell? ⟨w.heap.size + 1, 5, none⟩ = some (.int .u8 ds.f) := S3.out.2.c 5 _ rfl
  go_wp2_with fail
  with_reducible refine (TR.out _).mono ?_
  rintro en w4 ⟨rfl, hb4⟩
  have S4 := Lib.hid (And.intro (And.intro (S3.out.1.1.trans (hb4.mono S3.out.1.1.size)) (S3.out.1.2.later hb4)) (S3.out.2.later hb4))
  clear hb4 S3 TR d0 d1 d2 d3 d4 d5
  go_upto_region 7 with fail
  have hb5 : Below w4.heap.size w4 (w4.alloc (.cells #[.int .u8 0, .int .u8 0, .int .u8 0, .int .u8 0, .int .u8 0, .int .u8 0, .string { data := #[] }] 55)) := (Below.refl _ _).alloc (Nat.le_refl _) _
  obtain ⟨w5, hw5⟩ : ∃ z, w4.alloc (.cells #[.int .u8 0, .int .u8 0, .int .u8 0, .int .u8 0, .int .u8 0, .int .u8 0, .string { data := #[] }] 55) = z := ⟨_, rfl⟩
  rw [hw5] at hb5 ⊢
  have S5 := Lib.hid (And.intro (And.intro (S4.out.1.1.trans (hb5.mono S4.out.1.1.size)) (S4.out.1.2.later hb5)) (S4.out.2.later hb5))
  clear hb5 S4 hw5
  go_wp2_with fail
  with_reducible refine (ST.out _).mono ?_
  rintro en w6 ⟨rfl, hb6⟩
  have S6 := Lib.hid (And.intro (And.intro (S5.out.1.1.trans (hb6.mono S5.out.1.1.size)) (S5.out.1.2.later hb6)) (S5.out.2.later hb6))
  clear hb6 S5 ST
  go_upto_region 8 with fail
  have hb7 : Below w6.heap.size w6 (w6.alloc (.cells #[.slice none 0 0, .slice none 0 0, .int .u8 0, .int .u8 0, .int .u64 0, .int .u32 0, .int .i64 0, .int .i64 0, .int .u32 0, .slice none 0 0] 69)) := (Below.refl _ _).alloc (Nat.le_refl _) _
  have g7 : GB 69 (w6.alloc (.cells #[.slice none 0 0, .slice none 0 0, .int .u8 0, .int .u8 0, .int .u64 0, .int .u32 0, .int .i64 0, .int .i64 0, .int .u32 0, .slice none 0 0] 69)) w6.heap.size #[.slice none 0 0, .slice none 0 0, .int .u8 0, .int .u8 0, .int .u64 0, .int .u32 0, .int .i64 0, .int .i64 0, .int .u32 0, .slice none 0 0] := heap_alloc_new _ _
  obtain ⟨w7, hw7⟩ : ∃ z, w6.alloc (.cells #[.slice none 0 0, .slice none 0 0, .int .u8 0, .int .u8 0, .int .u64 0, .int .u32 0, .int .i64 0, .int .i64 0, .int .u32 0, .slice none 0 0] 69) = z := ⟨_, rfl⟩
  rw [hw7] at hb7 g7 ⊢
  have S7 := Lib.hid (And.intro (And.intro (S6.out.1.1.trans (hb7.mono S6.out.1.1.size)) (S6.out.1.2.later hb7)) (S6.out.2.later hb7))
  have G7 := Lib.hid g7
  obtain ⟨t6, ht6⟩ : ∃ z, w6.heap.size = z := ⟨_, rfl⟩
  rw [ht6] at G7 ⊢
  clear hb7 S6 hw7 g7 ht6
  have d0 : w7.cell? ⟨w.heap.size + 1, 0, none⟩ = some (.int .u8 ds.a) := S7.out.2.c 0 _ rfl
  have d1 : w7.cell? ⟨w.heap.size + 1, 1, none⟩ = some (.int .u8 ds.b) := S7.out.2.c 1 _ rfl
  have d2 : w7.cell? ⟨w.heap.size + 1, 2, none⟩ = some (.int .u8 ds.c) := S7.out.2.c 2 _ rfl
  have d3 : w7.cell? ⟨w.heap.size + 1, 3, none⟩ = some (.int .u8 ds.d) := S7.out.2.c 3 _ rfl
  have d4 : w7.cell? ⟨w.heap.size + 1, 4, none⟩ = some (.int .u8 ds.e) := S7.out.2.c 4 _ rfl
  have d5 : w7.cell? ⟨w.heap.size + 1, 5, none⟩ = some (.int .u8 ds.f) := S7.out.2.c 5 _ rfl
  have e0 : w7.cell? ⟨w.heap.size, 0, none⟩ = some (.int .u8 sr.a) := S7.out.1.2.c 0 _ rfl
  have e1 : w7.cell? ⟨w.heap.size, 1, none⟩ = some (.int .u8 sr.b) := S7.out.1.2.c 1 _ rfl
  have e2 : w7.cell? ⟨w.heap.size, 2, none⟩ = some (.int .u8 sr.c) := S7.out.1.2.c 2 _ rfl
  have e3 : w7.cell? ⟨w.heap.size, 3, none⟩ = some (.int .u8 sr.d) := S7.out.1.2.c 3 _ rfl
  have e4 : w7.cell? ⟨w.heap.size, 4, none⟩ = some (.int .u8 sr.e) := S7.out.1.2.c 4 _ rfl
  have e5 : w7.cell? ⟨w.heap.size, 5, none⟩ = some (.int .u8 sr.f) := S7.out.1.2.c 5 _ rfl
  go_wp2_with fail
  with_reducible refine (TA.out _).mono ?_
  rintro en w8 ⟨rfl, hb8⟩
  have S8 := Lib.hid (S7.out.1.1.trans (hb8.mono S7.out.1.1.size))
  have g8 := G7.out.later hb8
  have q0 : w8.cell? ⟨t6, 0, none⟩ = some (.slice none 0 0) := g8.c 0 _ rfl
  have q2 : w8.cell? ⟨t6, 2, none⟩ = some (.int .u8 0) := g8.c 2 _ rfl
  have q4 : w8.cell? ⟨t6, 4, none⟩ = some (.int .u64 0) := g8.c 4 _ rfl
  clear S7 G7 hb8 g8 d0 d1 d2 d3 d4 d5 e0 e1 e2 e3 e4 e5 TA
  go_wp2_with fail
  with_reducible refine (WK.out _).mono ?_
  rintro en w9 ⟨rfl, hb9⟩
  go_wp2
  go_ret
  exact ⟨rfl, S8.out.trans (hb9.mono S8.out.size)⟩
end Go.Proofs.YtlkdfofpnmpidaaGreat

/- The reader of an address. -/
set_option linter.unusedVariables false
namespace Go.Proofs.YtlkdfofpnmpidaaGreat
open Go.ChangeShapes Go.WideShapes Go.ChangeAt Go.RowKit Go.Joins
/-- An address's six numbers are bytes. -/
def wfM (a b c d e f : Int) : Prop := (0 ≤ a ∧ a < 256) ∧ (0 ≤ b ∧ b < 256) ∧ (0 ≤ c ∧ c < 256) ∧ (0 ≤ d ∧ d < 256) ∧ (0 ≤ e ∧ e < 256) ∧ (0 ≤ f ∧ f < 256)
theorem six_of_cells {H : Type} {enc : TypeId × Value → H} {P : Program} {w : World} {base : Nat} {spare : Nat → Bool} {held : Bool} {fuel : Nat} {t e : TypeId} {cs : List Value} {x : DataW H × List MemPlace}
    (ht : P.underlying t = some (.array 6 e)) (he : P.underlying e = some (.int .u8)) (hce : P.cellsOf e = 1) (hct : P.cellsOf t = 6)
    (h : DataW.trod enc P w base spare held fuel t cs = some x) :
    ∃ a b c d e f : Int, cs = [.int .u8 a, .int .u8 b, .int .u8 c, .int .u8 d, .int .u8 e, .int .u8 f] ∧ wfM a b c d e f := by
  obtain ⟨xs, m, _, _, hl, hxs, hi⟩ := DataW.trod_array ht h
  rw [hct] at hl
  match cs, hl with
  | [c0, c1, c2, c3, c4, c5], _ =>
    have g : ∀ (i : Nat), i < 6 → (xs[i]?).isSome = true := fun i h => by simp [hxs, h]
    have h0 := hi 0 (by omega)
    have h1 := hi 1 (by omega)
    have h2 := hi 2 (by omega)
    have h3 := hi 3 (by omega)
    have h4 := hi 4 (by omega)
    have h5 := hi 5 (by omega)
    rw [hce] at h0 h1 h2 h3 h4 h5
    obtain ⟨a0, rfl, w0⟩ := trod_int1 he (by simpa using h0) (g 0 (by omega))
    obtain ⟨a1, rfl, w1⟩ := trod_int1 he (by simpa using h1) (g 1 (by omega))
    obtain ⟨a2, rfl, w2⟩ := trod_int1 he (by simpa using h2) (g 2 (by omega))
    obtain ⟨a3, rfl, w3⟩ := trod_int1 he (by simpa using h3) (g 3 (by omega))
    obtain ⟨a4, rfl, w4⟩ := trod_int1 he (by simpa using h4) (g 4 (by omega))
    obtain ⟨a5, rfl, w5⟩ := trod_int1 he (by simpa using h5) (g 5 (by omega))
    refine ⟨a0, a1, a2, a3, a4, a5, rfl, ?_⟩
    have := bounds_u8 w0; have := bounds_u8 w1; have := bounds_u8 w2; have := bounds_u8 w3; have := bounds_u8 w4; have := bounds_u8 w5
    unfold wfM; omega
set_option maxRecDepth 100000 in
theorem rd_mac {H : Type} {enc : TypeId × Value → H} {w : World} {r : Reach} {b0 base : Nat} {spare : Nat → Bool} {held : Bool} {v : Value} {d : DataW H} {p : List MemPlace}
    (hv : Value.okWide Tryz.prog w r b0 25 v) (h : DataW.Trod enc Tryz.prog w base spare held 25 v d p) :
    ∃ a b c d e f : Int, v = .agg #[.int .u8 a, .int .u8 b, .int .u8 c, .int .u8 d, .int .u8 e, .int .u8 f] ∧ wfM a b c d e f := by
  obtain ⟨cs, rfl, hsz⟩ := okWide_arr Tryz.underlying25 hv
  obtain ⟨fuel, hf⟩ := h
  obtain ⟨a, b, c, d, e, f, hcs, hw⟩ := six_of_cells Tryz.underlying25 Tryz.underlying5 (by kernel_rfl) (by kernel_rfl) hf
  refine ⟨a, b, c, d, e, f, ?_, hw⟩
  simp [Value.cells] at hcs
  rw [show cs = cs.toList.toArray from rfl, hcs]
end Go.Proofs.YtlkdfofpnmpidaaGreat
