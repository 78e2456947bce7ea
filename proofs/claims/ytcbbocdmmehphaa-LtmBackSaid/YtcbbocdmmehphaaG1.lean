/- ltm: Put. -/
import Derived.Test.YtcbbocdmmehphaaG0
set_option linter.unusedVariables false
namespace Go.Proofs.Ytcbbocdmmehphaa
open Go.RowKit

/-- A trace's bytes. -/
def byTr (t : Tr) : List UInt8 := be 4 t.nm ++ [byt t.tl] ++ t.fr.by ++ t.tt.by
/-- A trace's message: its numbers, its fixed part, the error. -/
def putTr (t : Tr) : Int × Int × Int × List UInt8 × Int := if 7 < t.lv then (0, 0, 0, [], 2) else (t.lv, 5, 128, byTr t, 0)
theorem byTr_len (t : Tr) : (byTr t).length = 17 := by simp [byTr, be_length, Mc.by_len]
set_option maxRecDepth 100000 in
set_option maxHeartbeats 8000000 in
theorem ltput_any (t : Tr) (w : World) (ht : t.Ok) : Calls Try.prog 33 #[.agg #[.int .u8 t.lv, .int .u32 t.nm, .int .u8 t.tl, .int .u8 t.fr.a, .int .u8 t.fr.b, .int .u8 t.fr.c, .int .u8 t.fr.d, .int .u8 t.fr.e, .int .u8 t.fr.f, .int .u8 t.tt.a, .int .u8 t.tt.b, .int .u8 t.tt.c, .int .u8 t.tt.d, .int .u8 t.tt.e, .int .u8 t.tt.f]] w fun en w' =>
    en = .returned (.tuple #[.agg #[.int .u8 (putTr t).1, .int .u8 (putTr t).2.1, .int .u8 (putTr t).2.2.1, .string (bs (putTr t).2.2.2.1), .slice none 0 0], .int .i64 (putTr t).2.2.2.2]) ∧ Below w.heap.size w w' := by
  obtain ⟨R, hR⟩ : ∃ R, putTr t = R := ⟨_, rfl⟩
  rw [hR]
  have HR := Lib.hid hR
  have HT := Lib.hid ht
  clear hR ht
  go_enter Try.func33, Try.ntmps33
  go_upto_region 1 with fail
  have g0 := (GB.new 72 w #[.int .u8 t.lv, .int .u32 t.nm, .int .u8 t.tl, .int .u8 t.fr.a, .int .u8 t.fr.b, .int .u8 t.fr.c, .int .u8 t.fr.d, .int .u8 t.fr.e, .int .u8 t.fr.f, .int .u8 t.tt.a, .int .u8 t.tt.b, .int .u8 t.tt.c, .int .u8 t.tt.d, .int .u8 t.tt.e, .int .u8 t.tt.f]).later ((Below.refl _ _).alloc (Nat.le_refl _) (.cells #[.int .u8 0, .int .u8 0, .int .u8 0, .string { data := #[] }, .slice none 0 0] 32))
  have pz : PB 32 ((w.alloc (.cells #[.int .u8 t.lv, .int .u32 t.nm, .int .u8 t.tl, .int .u8 t.fr.a, .int .u8 t.fr.b, .int .u8 t.fr.c, .int .u8 t.fr.d, .int .u8 t.fr.e, .int .u8 t.fr.f, .int .u8 t.tt.a, .int .u8 t.tt.b, .int .u8 t.tt.c, .int .u8 t.tt.d, .int .u8 t.tt.e, .int .u8 t.tt.f] 72)).alloc (.cells #[.int .u8 0, .int .u8 0, .int .u8 0, .string { data := #[] }, .slice none 0 0] 32)) (w.heap.size + 1) 0 0 0 [] (.slice none 0 0) := by
    have := PB.new 32 (w.alloc (.cells #[.int .u8 t.lv, .int .u32 t.nm, .int .u8 t.tl, .int .u8 t.fr.a, .int .u8 t.fr.b, .int .u8 t.fr.c, .int .u8 t.fr.d, .int .u8 t.fr.e, .int .u8 t.fr.f, .int .u8 t.tt.a, .int .u8 t.tt.b, .int .u8 t.tt.c, .int .u8 t.tt.d, .int .u8 t.tt.e, .int .u8 t.tt.f] 72)) 0 0 0 [] (.slice none 0 0)
    rw [show (w.alloc (.cells #[.int .u8 t.lv, .int .u32 t.nm, .int .u8 t.tl, .int .u8 t.fr.a, .int .u8 t.fr.b, .int .u8 t.fr.c, .int .u8 t.fr.d, .int .u8 t.fr.e, .int .u8 t.fr.f, .int .u8 t.tt.a, .int .u8 t.tt.b, .int .u8 t.tt.c, .int .u8 t.tt.d, .int .u8 t.tt.e, .int .u8 t.tt.f] 72)).heap.size = w.heap.size + 1 by simp] at this
    exact this
  have hb0 : Below w.heap.size w ((w.alloc (.cells #[.int .u8 t.lv, .int .u32 t.nm, .int .u8 t.tl, .int .u8 t.fr.a, .int .u8 t.fr.b, .int .u8 t.fr.c, .int .u8 t.fr.d, .int .u8 t.fr.e, .int .u8 t.fr.f, .int .u8 t.tt.a, .int .u8 t.tt.b, .int .u8 t.tt.c, .int .u8 t.tt.d, .int .u8 t.tt.e, .int .u8 t.tt.f] 72)).alloc (.cells #[.int .u8 0, .int .u8 0, .int .u8 0, .string { data := #[] }, .slice none 0 0] 32)) := ((Below.refl _ _).alloc (Nat.le_refl _) _).alloc (by simp) _
  obtain ⟨w0, hw0⟩ : ∃ k, (w.alloc (.cells #[.int .u8 t.lv, .int .u32 t.nm, .int .u8 t.tl, .int .u8 t.fr.a, .int .u8 t.fr.b, .int .u8 t.fr.c, .int .u8 t.fr.d, .int .u8 t.fr.e, .int .u8 t.fr.f, .int .u8 t.tt.a, .int .u8 t.tt.b, .int .u8 t.tt.c, .int .u8 t.tt.d, .int .u8 t.tt.e, .int .u8 t.tt.f] 72)).alloc (.cells #[.int .u8 0, .int .u8 0, .int .u8 0, .string { data := #[] }, .slice none 0 0] 32) = k := ⟨_, rfl⟩
  rw [hw0] at g0 pz hb0 ⊢
  have c0 : w0.cell? ⟨w.heap.size, 0, none⟩ = some (.int .u8 t.lv) := g0.c 0 _ rfl
  have z0 := pz.c0
  have z1 := pz.c1
  have z2 := pz.c2
  have z3 := pz.c3
  have z4 := pz.c4
  have y0 := pz.fr 0
  have y1 := pz.fr 1
  have y2 := pz.fr 2
  have y3 := pz.fr 3
  have y4 := pz.fr 4
  have G0 := Lib.hid g0
  have PZ0 := Lib.hid pz
  have HB0 := Lib.hid hb0
  have HL := Lib.hid pz.lt
  clear hw0 g0 pz hb0
  by_cases h7 : 7 < t.lv
  · have d7 : decide ((7 : Int) < t.lv) = true := decide_eq_true h7
    have hRR : R = (0, 0, 0, [], 2) := by rw [← HR.out]; unfold putTr; rw [if_pos h7]
    have HRR := Lib.hid hRR
    clear hRR h7
    go_wp2_with fail
    refine bodyPost_ret (v := .tuple #[.agg #[.int .u8 0, .int .u8 0, .int .u8 0, .string (bs []), .slice none 0 0], .int .i64 2]) (by simp [results, Try.results33, go_sem, z0, z1, z2, z3, z4]; rfl) rfl ⟨by rw [HRR.out], below_set (below_set (below_set (below_set (below_set HB0.out (by omega) _) (by omega) _) (by omega) _) (by omega) _) (by omega) _⟩
  have d7 : decide ((7 : Int) < t.lv) = false := decide_eq_false h7
  have hRR : R = (t.lv, 5, 128, byTr t, 0) := by rw [← HR.out]; unfold putTr; rw [if_neg h7]
  have HRR := Lib.hid hRR
  clear hRR h7 z0 z1 z2 z3 z4 y0 y1 y2 y3 y4
  go_upto_region 3 with fail
  obtain ⟨B, hB⟩ : ∃ B, w0.heap.size = B := ⟨_, rfl⟩
  have HBB := Lib.hid hB
  clear hB
  obtain ⟨X, hX⟩ : ∃ X, be 4 t.nm = X := ⟨_, rfl⟩
  have hXl : X.length = 4 := by rw [← hX]; exact be_length _ _
  have P1 : Hid (∀ W, B ≤ W.heap.size → Calls Try.prog 71 #[.slice none 0 0, .int .u32 t.nm] W fun e w' => ∃ v', e = .returned v' ∧ Bys w' B v' X ∧ Below W.heap.size W w') := fun W hW => by
    rw [← hX]
    refine (put_uint32 W.heap.size _ [] t.nm W (Nat.le_refl _) (Bys.none _ _) HT.out.nm.1 HT.out.nm.2 (by decide)).mono ?_
    rintro en w' ⟨v', h1, h2, h3⟩
    rw [List.nil_append] at h2
    exact ⟨v', h1, World.ownsRow.mono h2 hW, h3⟩
  have SR := Lib.hid (fun W : World => src_one W t.tl HT.out.tl 5)
  have L0 := Lib.hid (Below.refl B w0)
  go_cut [4] (fun s4 wx => Hid (Bys wx B s4 (X ++ [byt t.tl])) ∧ Hid (Below B w0 wx))
  case first =>
    have Ld := Lib.hid (L0.out.drew)
    have k1 : w0.drew.cell? ⟨w.heap.size, 1, none⟩ = some (.int .u32 t.nm) := G0.out.c 1 _ rfl
    have k2 : w0.drew.cell? ⟨w.heap.size, 2, none⟩ = some (.int .u8 t.tl) := G0.out.c 2 _ rfl
    have m2 : (w0.alloc (.cells #[.int .u8 t.tl] 5)).drew.cell? ⟨w.heap.size, 1, none⟩ = some (.int .u32 t.nm) := ((G0.out.later ((Below.refl _ _).alloc (Nat.le_refl _) _)).drew).c 1 _ rfl
    have hBd : B ≤ w0.drew.heap.size := Nat.le_of_eq HBB.out.symm
    have hBa : B ≤ (w0.alloc (.cells #[.int .u8 t.tl] 5)).drew.heap.size := by show B ≤ (w0.alloc _).heap.size; simp; have := HBB.out; omega
    have hBc : B ≤ (w0.drew.alloc (.cells #[.int .u8 t.tl] 5)).heap.size := by simp; have := HBB.out; omega
    have HBd := Lib.hid hBd
    have HBa := Lib.hid hBa
    have HBc := Lib.hid hBc
    have Lc := Lib.hid (Ld.out.alloc hBd (.cells #[.int .u8 t.tl] 5))
    have La := Lib.hid ((L0.out.alloc (Nat.le_of_eq HBB.out.symm) (.cells #[.int .u8 t.tl] 5)).drew)
    have hlt0 : w.heap.size < w0.drew.heap.size := Nat.lt_of_succ_lt HL.out
    have HLT := Lib.hid hlt0
    clear hBd hBa hBc hlt0
    go_region_law (first
      | (go_simp; go_at_call 71; (first
          | ((with_reducible refine (P1.out w0.drew HBd.out).mono ?_); rintro en wx ⟨vx, rfl, hox, hbx⟩; have Lx := Lib.hid (Ld.out.trans (hbx.mono HBd.out)); have kx : wx.cell? ⟨w.heap.size, 2, none⟩ = some (.int .u8 t.tl) := (hbx.cell (p := ⟨w.heap.size, 2, none⟩) HLT.out).trans k2)
          | ((with_reducible refine (P1.out _ HBc.out).mono ?_); rintro en wx ⟨vx, rfl, hox, hbx⟩; have hSx := (SR.out _).later hbx; have Lx := Lib.hid (Lc.out.trans (hbx.mono HBc.out)))
          | ((with_reducible refine (P1.out _ HBa.out).mono ?_); rintro en wx ⟨vx, rfl, hox, hbx⟩; have hSx := ((SR.out w0).later (Below.refl _ _).drew).later hbx; have Lx := Lib.hid (La.out.trans (hbx.mono HBa.out)))))
      | (refine step_append_src rfl (.tmp 11) (.tmp 14) rfl B _ X (by rfl) (by first | exact hox | exact hox.alloc _) _ [byt t.tl] (by rfl) (by first | exact SR.out _ | exact hSx) (by simp [hXl]) (by have h1 := Lx.out.size; have := HBB.out; simp; omega) ?_; intro v1 w3 hown1 hb3))
    all_goals go_wp2_with fail
    all_goals go_meet
    all_goals first
      | exact ⟨Lib.hid hown1, Lib.hid (Lx.out.trans hb3)⟩
      | exact ⟨Lib.hid hown1, Lib.hid ((Lx.out.alloc (by have h1 := Lx.out.size; have := HBB.out; omega) _).trans hb3)⟩
  case rest =>
    obtain ⟨HO1, HB1⟩ := hcut
    have hwB : w.heap.size + 1 < B := by have := HL.out; have := HBB.out; omega
    have HWB := Lib.hid hwB
    have S3 : Hid (∀ W, Below B w0 W → Src W (.slice (some ⟨w.heap.size, 3, none⟩) 6 6) t.fr.by) := fun W h => by
      have g := G0.out.below (show w.heap.size < B by omega) h
      exact srcM (g.c 3 _ rfl) (g.c 4 _ rfl) (g.c 5 _ rfl) (g.c 6 _ rfl) (g.c 7 _ rfl) (g.c 8 _ rfl) HT.out.fr
    have S9 : Hid (∀ W, Below B w0 W → Src W (.slice (some ⟨w.heap.size, 9, none⟩) 6 6) t.tt.by) := fun W h => by
      have g := G0.out.below (show w.heap.size < B by omega) h
      exact srcM (g.c 9 _ rfl) (g.c 10 _ rfl) (g.c 11 _ rfl) (g.c 12 _ rfl) (g.c 13 _ rfl) (g.c 14 _ rfl) HT.out.tt
    have HW0 := Lib.hid (Nat.le_of_eq HBB.out.symm)
    clear hwB L0 SR P1
    go_upto_region 4 with fail
    go_cut [4] (fun s4 wx => Hid (Bys wx B s4 (byTr t)) ∧ Hid (Below B w0 wx))
    case first =>
      have L1 := Lib.hid (HB1.out.drew)
      go_region_law (first
        | (refine step_append_src rfl (.tmp 16) (.tmp 18) rfl B _ (X ++ [byt t.tl]) (by rfl) (by exact HO1.out) _ t.fr.by (by rfl) (by exact S3.out _ L1.out) (by simp [hXl, Mc.by_len]) (by exact Nat.le_trans HW0.out L1.out.size) ?_; intro v1 w3 hown1 hb3)
        | (refine step_append_src rfl (.tmp 19) (.tmp 21) rfl B _ _ (by rfl) (by exact hown1) _ t.tt.by (by rfl) (by exact S9.out _ (L1.out.trans hb3)) (by simp [hXl, Mc.by_len]) (by exact Nat.le_trans HW0.out (L1.out.trans hb3).size) ?_; intro v2 w4 hown2 hb4))
      all_goals go_wp2_with fail
      all_goals go_meet
      all_goals exact ⟨Lib.hid (by unfold byTr; rw [hX]; exact hown2), Lib.hid ((L1.out.trans hb3).trans hb4)⟩
    case rest =>
      clear HO1 HB1 S3 S9
      obtain ⟨HO2, HB2⟩ := hcut
      have hstr := run_string_bys HO2.out
      have g2 := G0.out.below (show w.heap.size < B by have := HWB.out; omega) HB2.out
      have p2 := PZ0.out.below (show w.heap.size + 1 < B from HWB.out) HB2.out
      have c0 : wc.cell? ⟨w.heap.size, 0, none⟩ = some (.int .u8 t.lv) := g2.c 0 _ rfl
      have z0 := p2.c0
      have z1 := p2.c1
      have z2 := p2.c2
      have z3 := p2.c3
      have z4 := p2.c4
      have y0 := p2.fr 0
      have y1 := p2.fr 1
      have y2 := p2.fr 2
      have y3 := p2.fr 3
      have y4 := p2.fr 4
      have HB3 := Lib.hid (HB0.out.trans (HB2.out.mono (by have := HWB.out; omega)))
      clear g2 p2 HO2 HB2 hX hXl G0 PZ0 HB0
      go_wp2_with fail
      refine bodyPost_ret (v := .tuple #[.agg #[.int .u8 t.lv, .int .u8 5, .int .u8 128, .string (bs (byTr t)), .slice none 0 0], .int .i64 0]) (by simp [results, Try.results33, go_sem, z0, z1, z2, z3, z4]) rfl ⟨by rw [HRR.out], below_set (below_set (below_set (below_set (below_set HB3.out (by omega) _) (by omega) _) (by omega) _) (by omega) _) (by omega) _⟩
end Go.Proofs.Ytcbbocdmmehphaa
