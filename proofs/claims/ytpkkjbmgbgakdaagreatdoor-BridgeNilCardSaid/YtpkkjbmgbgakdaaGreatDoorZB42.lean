/- ZB42: the texts NT as one. -/
import Derived.Test.YtpkkjbmgbgakdaaGreatDoorZB41
import Derived.Test.YtpkkjbmgbgakdaaGreatDoorZB38
/- bridge: the law's known bridge. -/
set_option linter.unusedVariables false
set_option linter.unusedSimpArgs false
namespace Go.Proofs.YtpkkjbmgbgakdaaGreatDoor
open Go.RowKit

theorem Ow.onlyB {α : Type} {k : Nat} {f : α → List Value} {E : TypeId} {w w' : World} {B : Nat} {v : Value} {l : List α} (h : Ow k f E w B v l) {q : Nat} (ho : Only q w w') (hq : q < B) : Ow k f E w' B v l := by
  obtain ⟨h1, h2⟩ := h
  refine ⟨h1, ?_⟩
  rcases h2 with h2 | ⟨g, cap, cur, hv, hg, hh, r⟩
  · exact .inl h2
  · exact .inr ⟨g, cap, cur, hv, hg, (ho.block g (Array.getElem?_eq_some_iff.1 hh).1 (by simp; omega)).trans hh, r⟩
theorem only_below {B p : Nat} {w W : World} (h : Only p w W) (hp : B ≤ p) (hB : B ≤ w.heap.size) : Below B w W := ⟨h.os, h.tape, h.output, h.size, fun i hi => h.block i (by omega) (by simp; omega)⟩
set_option maxRecDepth 100000 in
set_option maxHeartbeats 8000000 in
theorem wakes22_any (w : World) : Calls Tryz.prog 6 #[] w fun en w' => en = .returned (.bool true) ∧ Below w.heap.size w w' := by
  have hb0 := (Below.refl w.heap.size w).alloc (Nat.le_refl _) (.cells #[.int .u32 0, .int .u32 0] 75)
  have g0 := GB.new 75 w #[.int .u32 0, .int .u32 0]
  obtain ⟨w0, hw0⟩ : ∃ z, w.alloc (.cells #[.int .u32 0, .int .u32 0] 75) = z := ⟨_, rfl⟩
  rw [hw0] at hb0 g0
  have NW := Lib.hid (bnew_any w.heap.size 2 w0 (by decide) (fun j hj => by
    rcases (show j = 0 ∨ j = 1 by omega) with rfl | rfl
    · exact g0.c 0 _ rfl
    · exact g0.c 1 _ rfl))
  have HB0 := Lib.hid hb0
  clear g0 hb0
  go_enter Tryz.func6, Tryz.ntmps6
  go_wp2_with fail
  with_reducible refine NW.out.mono ?_
  rintro en w1 ⟨P, rfl, hs1, hb1, p1, p2, p3, p4, p5, p6, p7, p8⟩
  have hz0 := HB0.out.size
  have HP : Hid (w.heap.size ≤ P.b ∧ w.heap.size ≤ P.g ∧ w.heap.size ≤ P.q ∧ w.heap.size ≤ P.vm ∧ w.heap.size ≤ P.f) := Lib.hid ⟨by omega, by omega, by omega, by omega, by omega⟩
  have S1 := Lib.hid hs1
  have B1 := Lib.hid (HB0.out.trans (hb1.mono HB0.out.size))
  clear hs1 hb1 p1 p2 p3 p4 p5 p6 p7 p8 hw0 hz0
  have u1 := bup_any P [false, false] _ [] 0 (by decide) rfl w1 S1.out
  rw [show ((0:Nat):Int) = 0 from rfl] at u1
  have U1 := Lib.hid u1
  clear u1
  go_wp2_with fail
  with_reducible refine U1.out.mono ?_
  rintro en w2 ⟨rfl, hs2, ho2⟩
  have S2 : Hid (BS w2 P [true, false] [0, 0, 0, 0, 0, 0, 0, 0] [] (.slice none 0 0) 0) := Lib.hid hs2
  have B2 := Lib.hid (B1.out.trans (only_below ho2 HP.out.2.1 B1.out.size))
  clear hs2 ho2
  have u2 := bup_any P [true, false] _ [] 1 (by decide) rfl w2 S2.out
  rw [show ((1:Nat):Int) = 1 from rfl] at u2
  have U2 := Lib.hid u2
  clear u2
  go_wp2_with fail
  with_reducible refine U2.out.mono ?_
  rintro en w3 ⟨rfl, hs3, ho3⟩
  have S3 : Hid (BS w3 P [true, true] [0, 0, 0, 0, 0, 0, 0, 0] [] (.slice none 0 0) 0) := Lib.hid hs3
  have B3 := Lib.hid (B2.out.trans (only_below ho3 HP.out.2.1 B2.out.size))
  clear hs3 ho3
  have D1 := Lib.hid (bdo_table P.b #[.int .u8 1, .int .u8 0, .int .u16 1, .int .u8 3, .int .u8 3, .int .u8 0, .int .u8 0, .int .u8 0, .int .u8 0, .int .u8 0, .int .u8 0, .int .u8 0, .string { data := #[] }, .string { data := #[] }, .int .u16 0, .int .u8 0, .slice none 0 0, .int .i64 0, .int .u16 0, .int .u8 0, .bool false, .int .u8 0, .int .u8 0, .int .u16 0, .int .u8 0, .string { data := #[] }, .int .u8 0] 1 rfl rfl (by decide) (fun z => rfl) (fun w' => BS w' P [true, true] [0, 0, 0, 0, 0, 0, 0, 0] [(1, 3, 3)] (.slice none 0 0) 0 ∧ Only P.vm w3 w') w3 (fun W hW => (btableV P _ _ _ _ W (S3.out.later hW)).mono (by rintro e w' ⟨h1, h2, h3⟩; exact ⟨h1, h2, (below_only hW).trans h3⟩)))
  go_wp2_with fail
  with_reducible refine D1.out.mono ?_
  rintro en w4 ⟨rfl, hs4, ho4⟩
  have S4 := Lib.hid hs4
  have B4 := Lib.hid (B3.out.trans (only_below ho4 HP.out.2.2.2.1 B3.out.size))
  clear hs4 ho4
  have D2 := Lib.hid (bdo_table P.b #[.int .u8 3, .int .u8 0, .int .u16 1, .int .u8 0, .int .u8 0, .int .u8 0, .int .u8 0, .int .u8 0, .int .u8 0, .int .u8 0, .int .u8 0, .int .u8 0, .string { data := #[] }, .string { data := #[] }, .int .u16 0, .int .u8 0, .slice none 0 0, .int .i64 0, .int .u16 0, .int .u8 0, .bool false, .int .u8 0, .int .u8 0, .int .u16 0, .int .u8 0, .string { data := #[] }, .int .u8 0] 3 rfl rfl (by decide) (fun z => rfl) (fun w' => BS w' P [true, true] [1, 0, 0, 0, 0, 0, 0, 0] [(1, 3, 3)] (.slice none 0 0) 0 ∧ Only P.q w4 w') w4 (fun W hW => (btableO P _ _ _ _ W (S4.out.later hW)).mono (by rintro e w' ⟨h1, h2, h3⟩; exact ⟨h1, h2, (below_only hW).trans h3⟩)))
  go_wp2_with fail
  with_reducible refine D2.out.mono ?_
  rintro en w5 ⟨rfl, hs5, ho5⟩
  have S5 := Lib.hid hs5
  have B5 := Lib.hid (B4.out.trans (only_below ho5 HP.out.2.2.1 B4.out.size))
  clear hs5 ho5
  have RA := Lib.hid (breceiveA P 0 w5 S5.out)
  go_wp2_with fail
  with_reducible refine RA.out.mono ?_
  rintro en w6 ⟨⟨g, c, rfl, hr6, hg6⟩, ⟨fg, fc, hs6, hw6⟩, ho6⟩
  have S6 := Lib.hid hs6
  have O6 := Lib.hid hw6
  have B6 := Lib.hid (B5.out.trans (only_below ho6 HP.out.2.2.2.2 B5.out.size))
  have R6 := Lib.hid (And.intro hr6 hg6)
  have L5 := Lib.hid S5.out.gb.lt
  clear hs6 hw6 ho6 hr6 hg6
  have RW := Lib.hid (breceiveW P _ _ _ w6 S6.out)
  go_wp2_with fail
  with_reducible refine RW.out.mono ?_
  rintro en w7 ⟨rfl, hs7, ho7⟩
  have S7 := Lib.hid hs7
  have O7 := Lib.hid (O6.out.onlyB ho7 L5.out)
  have B7 := Lib.hid (B6.out.trans (only_below ho7 HP.out.1 B6.out.size))
  have hpb : g ≠ P.b := by have := R6.out.2; have := L5.out; omega
  have e6 : w6.cell? ⟨g, 0, none⟩ = some (.int .u8 1) ∧ w6.cell? ⟨g, 1, none⟩ = some (.string { data := #[255, 255, 255, 255, 255, 255, 2, 0, 0, 0, 0, 1, 8, 0, 120] }) := by
    rcases R6.out.1 with ⟨h1, _⟩ | ⟨ad, c', h1, h0 | ⟨b, off, h3, h2⟩⟩
    · cases h1
    · cases h0
    · injection h1 with h1 _ _
      injection h1 with h1
      rw [h3] at h1
      injection h1 with h1 h4 _
      subst h1 h4
      exact ⟨h2 0 (by decide) 0 (by decide), h2 0 (by decide) 1 (by decide)⟩
  have cg : ∀ j v, w6.cell? ⟨g, j, none⟩ = some v → w7.cell? ⟨g, j, none⟩ = some v := fun j v h => by
    have hl := World.block_lt_of_cell? _ _ h
    unfold World.cell? at h ⊢
    rw [ho7.block g hl (by simpa using hpb)]; exact h
  have c0 := cg 0 _ e6.1
  have c1 := cg 1 _ e6.2
  clear hs7 ho7 e6 cg hpb
  have CT := Lib.hid (bcounts1 P _ _ _ _ w7 S7.out)
  have EQ : ∀ W : World, (binOp .eql 93 (.agg #[.int .u8 1, .string { data := #[255, 255, 255, 255, 255, 255, 2, 0, 0, 0, 0, 1, 8, 0, 120] }]) (.agg #[.int .u8 1, .string { data := #[255, 255, 255, 255, 255, 255, 2, 0, 0, 0, 0, 1, 8, 0, 120] }])).run Tryz.prog W = .ok (.bool true) W := fun W => by kernel_rfl
  have EC : ∀ W : World, (binOp .eql 89 (.agg #[.int .u64 0, .int .u64 1]) (.agg #[.int .u64 0, .int .u64 1])).run Tryz.prog W = .ok (.bool true) W := fun W => by kernel_rfl
  go_wp2_with (first
    | (go_at_call 26; with_reducible refine CT.out.mono ?_; rintro e w8 ⟨rfl, hb8⟩; have EN := Lib.hid (bentries1 P _ _ _ fg fc _ _ w8 (S7.out.later hb8) (O7.out.later hb8)); have B8 := Lib.hid (B7.out.trans (hb8.mono B7.out.size)))
    | (go_at_call 22; with_reducible refine EN.out.mono ?_; rintro e w9 ⟨ea, ec, rfl, hb9⟩))
  go_ret
  exact ⟨rfl, B8.out.trans (hb9.mono B8.out.size)⟩
end Go.Proofs.YtpkkjbmgbgakdaaGreatDoor
