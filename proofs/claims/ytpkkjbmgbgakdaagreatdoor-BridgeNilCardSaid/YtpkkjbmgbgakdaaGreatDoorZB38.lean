/- ZB38: the texts NS as one. -/
import Derived.Test.YtpkkjbmgbgakdaaGreatDoorZB37
import Derived.Test.YtpkkjbmgbgakdaaGreatDoorZB26
/- bridge: New of two hosts' ports; Counts; Entries. -/
set_option linter.unusedVariables false
set_option linter.unusedSimpArgs false
namespace Go.Proofs.YtpkkjbmgbgakdaaGreatDoor
open Go.RowKit

set_option maxRecDepth 100000 in
set_option maxHeartbeats 8000000 in
theorem bnew_any (b0 c0 : Nat) (w : World) (hc : 2 ≤ c0) (hz : ∀ j, j < 2 → w.cell? ⟨b0, 0 + j, none⟩ = some (.int .u32 0)) : Calls Tryz.prog 7 #[.int .u64 16, .slice (some ⟨b0, 0, none⟩) 2 c0] w fun en w' => ∃ P : BP, en = .returned (.tuple #[.pointer (some ⟨P.b, 0, none⟩), .int .i64 0]) ∧ BS w' P [false, false] [0, 0, 0, 0, 0, 0, 0, 0] [] (.slice none 0 0) 0 ∧ Below w.heap.size w w' ∧ w.heap.size ≤ P.b ∧ w.heap.size ≤ P.m ∧ w.heap.size ≤ P.g ∧ w.heap.size ≤ P.r ∧ w.heap.size ≤ P.q ∧ w.heap.size ≤ P.vm ∧ w.heap.size ≤ P.f ∧ w.heap.size ≤ P.s := by
  have OF : Hid (∀ w, Calls Tryz.prog 27 #[.int .u64 16] w fun en w' => en = .returned (.tuple #[.agg #[.int .u8 0, .int .u8 0, .int .u8 0, .int .u8 0, .int .u8 0, .int .u8 16], .bool true]) ∧ Below w.heap.size w w') := Lib.hid fun w => of2_any 16 w (by decide) (by decide)
  have GR : Hid (∀ w, Calls Tryz.prog 29 #[.agg #[.int .u8 0, .int .u8 0, .int .u8 0, .int .u8 0, .int .u8 0, .int .u8 16]] w fun en w' => en = .returned (.bool false) ∧ Below w.heap.size w w') := Lib.hid fun w => group_any 0 0 0 0 0 16 w (by decide) (by decide)
  have h16 : bits .and .u64 16 281474976710655 = 16 := by decide
  have HZ := Lib.hid hz
  have hbb : b0 < w.heap.size := by have := World.block_lt_of_cell? w _ (hz 0 (by decide)); exact this
  clear hz
  go_enter Tryz.func7, Tryz.ntmps7
  go_upto_region 2 with fail
  go_wp2_with fail
  with_reducible refine (OF.out _).mono ?_
  rintro en w1 ⟨rfl, hb1⟩
  have b1a := hb1.trans (((Below.refl w1.heap.size w1).alloc (Nat.le_refl _) (.cells #[.int .u8 0, .int .u8 0, .int .u8 0, .int .u8 0, .int .u8 0, .int .u8 16] 41)).mono hb1.size)
  have gm := GB.new 41 w1 #[.int .u8 0, .int .u8 0, .int .u8 0, .int .u8 0, .int .u8 0, .int .u8 16]
  obtain ⟨w2, hw2⟩ : ∃ z, w1.alloc (.cells #[.int .u8 0, .int .u8 0, .int .u8 0, .int .u8 0, .int .u8 0, .int .u8 16] 41) = z := ⟨_, rfl⟩
  rw [hw2] at b1a gm
  have HB2 := Lib.hid b1a
  have GM := Lib.hid gm
  have TN := Lib.hid (tnew_host 2 c0 b0 0 w2 (by decide) hc (fun j hj => (b1a.cell (p := ⟨b0, 0 + j, none⟩) hbb).trans (HZ.out j hj)))
  clear b1a gm hb1
  go_upto_region 3 with fail
  clear hw2
  go_wp2_with fail
  with_reducible refine TN.out.mono ?_
  rintro en w3 ⟨tm, tg, tcap, tt, rfl, ht3, hb3, hm3, hg3⟩
  have G3 := GM.out.later hb3
  have d0 : w3.cell? ⟨w1.heap.size, 0, none⟩ = some (.int .u8 0) := G3.c 0 _ rfl
  have d1 : w3.cell? ⟨w1.heap.size, 1, none⟩ = some (.int .u8 0) := G3.c 1 _ rfl
  have d2 : w3.cell? ⟨w1.heap.size, 2, none⟩ = some (.int .u8 0) := G3.c 2 _ rfl
  have d3 : w3.cell? ⟨w1.heap.size, 3, none⟩ = some (.int .u8 0) := G3.c 3 _ rfl
  have d4 : w3.cell? ⟨w1.heap.size, 4, none⟩ = some (.int .u8 0) := G3.c 4 _ rfl
  have d5 : w3.cell? ⟨w1.heap.size, 5, none⟩ = some (.int .u8 16) := G3.c 5 _ rfl
  have T3 := Lib.hid ht3
  have HB3 := Lib.hid (HB2.out.trans (hb3.mono HB2.out.size))
  have L3 := Lib.hid (And.intro (Nat.le_trans HB2.out.size hm3) (Nat.le_trans HB2.out.size hg3))
  clear ht3 hb3 hm3 hg3 G3
  go_upto_region 6 with (go_at_call 29; with_reducible refine (GR.out _).mono ?_; rintro e w4 ⟨rfl, hb4⟩)
  have RN := Lib.hid (rnew_any 2 w4 (by decide))
  have T4 := Lib.hid (T3.out.later hb4)
  have HB4 := Lib.hid (HB3.out.trans (hb4.mono HB3.out.size))
  clear d0 d1 d2 d3 d4 d5 hb4
  go_wp2_with fail
  with_reducible refine RN.out.mono ?_
  rintro en w5 ⟨r, q, vm, f, s, rfl, hr5, hb5, l1, l2, l3, l4, l5⟩
  have CN := Lib.hid (cnew_any 2 w5 (by decide))
  have T5 := Lib.hid (T4.out.later hb5)
  have R5 := Lib.hid hr5
  have HB5 := Lib.hid (HB4.out.trans (hb5.mono HB4.out.size))
  have L5 : Hid ((tm < w4.heap.size ∧ tg < w4.heap.size) ∧ w4.heap.size ≤ r ∧ w4.heap.size ≤ q ∧ w4.heap.size ≤ vm ∧ w4.heap.size ≤ f ∧ w4.heap.size ≤ s) := Lib.hid ⟨⟨T4.out.tm.lt, T4.out.row.lt⟩, l1, l2, l3, l4, l5⟩
  clear hr5 hb5 l1 l2 l3 l4 l5
  go_wp2_with fail
  with_reducible refine CN.out.mono ?_
  rintro en w6 ⟨c, rfl, hb6⟩
  have T6 := Lib.hid (T5.out.later hb6)
  have R6 := Lib.hid (R5.out.later hb6)
  have HB6 := Lib.hid (HB5.out.trans (hb6.mono HB5.out.size))
  clear hb6
  go_wp2
  have hba := (Below.refl w6.heap.size w6).alloc (Nat.le_refl _) (.cells #[.int .u64 16, .pointer (some ⟨tm, 0, none⟩), .pointer (some ⟨r, 0, none⟩), .pointer (some ⟨c, 0, none⟩), .slice none 0 0, .int .u64 0, .int .u64 0] 105)
  have k1 := T6.out.tm.lt
  have k2 := T6.out.row.lt
  have k3 := R6.out.g.lt
  have k4 := R6.out.ts.tb.lt
  have k5 := R6.out.ts.vm.lt
  have k6 := R6.out.ft.g.lt
  have k7 := R6.out.ft.m.lt
  have L := L5.out
  have LL := L3.out
  have hs4 := HB4.out.size
  have hs6 := HB6.out.size
  refine bodyPost_ret (v := .tuple #[.pointer (some ⟨w6.heap.size, 0, none⟩), .int .i64 0]) (by simp [results, Tryz.results7, go_sem]) rfl ⟨⟨w6.heap.size, tm, tg, tcap, tt, r, q, vm, f, s, c⟩, rfl, ⟨GB.new _ _ _, T6.out.later hba, R6.out.later hba, ?_, ?_, ?_, rfl⟩, HB6.out.trans (hba.mono hs6), hs6, LL.1, LL.2, by show w.heap.size ≤ r; omega, by show w.heap.size ≤ q; omega, by show w.heap.size ≤ vm; omega, by show w.heap.size ≤ f; omega, by show w.heap.size ≤ s; omega⟩
  · exact ⟨by show w6.heap.size ≠ tm; omega, by show w6.heap.size ≠ tg; omega, by show w6.heap.size ≠ r; omega, by show w6.heap.size ≠ q; omega, by show w6.heap.size ≠ vm; omega, by show w6.heap.size ≠ f; omega, by show w6.heap.size ≠ s; omega⟩
  · exact ⟨by show tm ≠ r; omega, by show tm ≠ q; omega, by show tm ≠ vm; omega, by show tm ≠ f; omega, by show tm ≠ s; omega⟩
  · exact ⟨by show tg ≠ r; omega, by show tg ≠ q; omega, by show tg ≠ vm; omega, by show tg ≠ f; omega, by show tg ≠ s; omega⟩
set_option maxRecDepth 100000 in
set_option maxHeartbeats 4000000 in
theorem bcounts1 (P : BP) (U : List Bool) (o : List Int) (V : List Vn) (v : Value) (w : World) (h : BS w P U o V v 1) : Calls Tryz.prog 26 #[.pointer (some ⟨P.b, 0, none⟩)] w fun en w' => en = .returned (.agg #[.int .u64 0, .int .u64 1]) ∧ Below w.heap.size w w' := by
  have hb := (Below.refl w.heap.size w).alloc (Nat.le_refl _) (.cells #[.int .u64 0, .int .u64 0] 89)
  have hB := h.later hb
  have g0 := GB.new 89 w #[.int .u64 0, .int .u64 0]
  obtain ⟨w0, hw0⟩ : ∃ z, w.alloc (.cells #[.int .u64 0, .int .u64 0] 89) = z := ⟨_, rfl⟩
  rw [hw0] at hb hB g0
  have c5 : w0.cell? ⟨P.b, 5, none⟩ = some (.int .u64 0) := hB.gb.c 5 _ rfl
  have c6 := hB.c6
  have d0 : w0.cell? ⟨w.heap.size, 0, none⟩ = some (.int .u64 0) := g0.c 0 _ rfl
  have d1 : w0.cell? ⟨w.heap.size, 1, none⟩ = some (.int .u64 0) := g0.c 1 _ rfl
  have f0 := g0.fr 0
  have f1 := g0.fr 1
  have s0 := setCell_id d0
  have G := Lib.hid g0
  have HB := Lib.hid hb
  clear h hB g0 hb
  go_enter Tryz.func26, Tryz.ntmps26
  go_upto_region 1 with fail
  clear hw0
  go_wp2
  exact bodyPost_ret (v := .agg #[.int .u64 0, .int .u64 1]) (res_one (p := 2) (d := _) rfl rfl Tryz.underlying89 _ _ w.heap.size _ rfl (G.out.set 1 (.int .u64 1)) (by kernel_rfl)) rfl ⟨rfl, below_set HB.out (Nat.le_refl _) _⟩
set_option maxRecDepth 100000 in
set_option maxHeartbeats 4000000 in
theorem bentries1 (P : BP) (U : List Bool) (o : List Int) (V : List Vn) (g c B : Nat) (dr : Int) (w : World) (h : BS w P U o V (.slice (some ⟨g, 0, none⟩) 1 c) dr) (ho : Ow 9 enC 185 w B (.slice (some ⟨g, 0, none⟩) 1 c) [0]) : Calls Tryz.prog 22 #[.pointer (some ⟨P.b, 0, none⟩)] w fun en w' => ∃ a cc, en = .returned (.slice a 1 cc) ∧ Below w.heap.size w w' := by
  have c2 := h.c2
  have BA : Hid (Calls Tryz.prog 34 #[.pointer (some ⟨P.r, 0, none⟩)] w fun en w' => en = .returned (.pointer (some ⟨P.f, 0, none⟩)) ∧ w = w') := Lib.hid ((rbase_any P.r _ (.slice none 0 0) w h.rl.c1 ⟨_, rfl⟩).mono fun e w' h => ⟨h.1, h.2.symm⟩)
  have LI := Lib.hid (flist_one P.f P.s g c w h.rl.ft (cells1 ho))
  clear h ho
  go_enter Tryz.func22, Tryz.ntmps22
  go_wp2_with (first
    | (go_at_call 34; with_reducible refine BA.out.mono ?_; rintro e wx ⟨rfl, rfl⟩)
    | (go_at_call 71; with_reducible refine LI.out.mono ?_; rintro e w2 ⟨a, cc, rfl, hb2⟩))
  go_ret
  exact ⟨_, _, rfl, hb2⟩
end Go.Proofs.YtpkkjbmgbgakdaaGreatDoor
