/- ltm: the reference's Put. -/
import Derived.Test.YtcbbocdmmehphaaG1
set_option linter.unusedVariables false
namespace Go.Proofs.Ytcbbocdmmehphaa
open Go.RowKit

theorem be_one (n : Int) (h : 0 ≤ n ∧ n < 256) : be 1 n = [byt n] := by
  have e : n / 2 ^ (8 * (1 - 1 - 0)) % 256 = n := by simp; omega
  have e2 : be 1 n = [UInt8.ofNat (n / 2 ^ (8 * (1 - 1 - 0)) % 256).toNat] := by simp [be, beB, List.range_succ]
  rw [e2, e]; rfl
set_option maxRecDepth 100000 in
set_option maxHeartbeats 8000000 in
theorem refPut15_any (t : Tr) (w : World) (ht : t.Ok) : Calls Try.prog 35 #[.agg #[.int .u8 t.lv, .int .u32 t.nm, .int .u8 t.tl, .int .u8 t.fr.a, .int .u8 t.fr.b, .int .u8 t.fr.c, .int .u8 t.fr.d, .int .u8 t.fr.e, .int .u8 t.fr.f, .int .u8 t.tt.a, .int .u8 t.tt.b, .int .u8 t.tt.c, .int .u8 t.tt.d, .int .u8 t.tt.e, .int .u8 t.tt.f]] w fun en w' =>
    en = .returned (.tuple #[.agg #[.int .u8 (putTr t).1, .int .u8 (putTr t).2.1, .int .u8 (putTr t).2.2.1, .string (bs (putTr t).2.2.2.1), .slice none 0 0], .int .i64 (putTr t).2.2.2.2]) ∧ Below w.heap.size w w' := by
  obtain ⟨R, hR⟩ : ∃ R, putTr t = R := ⟨_, rfl⟩
  rw [hR]
  have HR := Lib.hid hR
  have HT := Lib.hid ht
  clear hR ht
  go_enter Try.func35, Try.ntmps35
  go_upto_region 1 with fail
  have g0 := (GB.new 68 w #[.int .u8 t.lv, .int .u32 t.nm, .int .u8 t.tl, .int .u8 t.fr.a, .int .u8 t.fr.b, .int .u8 t.fr.c, .int .u8 t.fr.d, .int .u8 t.fr.e, .int .u8 t.fr.f, .int .u8 t.tt.a, .int .u8 t.tt.b, .int .u8 t.tt.c, .int .u8 t.tt.d, .int .u8 t.tt.e, .int .u8 t.tt.f]).later ((Below.refl _ _).alloc (Nat.le_refl _) (.cells #[.int .u8 0, .int .u8 0, .int .u8 0, .string { data := #[] }, .slice none 0 0] 24))
  have pz : PB 24 ((w.alloc (.cells #[.int .u8 t.lv, .int .u32 t.nm, .int .u8 t.tl, .int .u8 t.fr.a, .int .u8 t.fr.b, .int .u8 t.fr.c, .int .u8 t.fr.d, .int .u8 t.fr.e, .int .u8 t.fr.f, .int .u8 t.tt.a, .int .u8 t.tt.b, .int .u8 t.tt.c, .int .u8 t.tt.d, .int .u8 t.tt.e, .int .u8 t.tt.f] 68)).alloc (.cells #[.int .u8 0, .int .u8 0, .int .u8 0, .string { data := #[] }, .slice none 0 0] 24)) (w.heap.size + 1) 0 0 0 [] (.slice none 0 0) := by
    have := PB.new 24 (w.alloc (.cells #[.int .u8 t.lv, .int .u32 t.nm, .int .u8 t.tl, .int .u8 t.fr.a, .int .u8 t.fr.b, .int .u8 t.fr.c, .int .u8 t.fr.d, .int .u8 t.fr.e, .int .u8 t.fr.f, .int .u8 t.tt.a, .int .u8 t.tt.b, .int .u8 t.tt.c, .int .u8 t.tt.d, .int .u8 t.tt.e, .int .u8 t.tt.f] 68)) 0 0 0 [] (.slice none 0 0)
    rw [show (w.alloc (.cells #[.int .u8 t.lv, .int .u32 t.nm, .int .u8 t.tl, .int .u8 t.fr.a, .int .u8 t.fr.b, .int .u8 t.fr.c, .int .u8 t.fr.d, .int .u8 t.fr.e, .int .u8 t.fr.f, .int .u8 t.tt.a, .int .u8 t.tt.b, .int .u8 t.tt.c, .int .u8 t.tt.d, .int .u8 t.tt.e, .int .u8 t.tt.f] 68)).heap.size = w.heap.size + 1 by simp] at this
    exact this
  have hb0 : Below w.heap.size w ((w.alloc (.cells #[.int .u8 t.lv, .int .u32 t.nm, .int .u8 t.tl, .int .u8 t.fr.a, .int .u8 t.fr.b, .int .u8 t.fr.c, .int .u8 t.fr.d, .int .u8 t.fr.e, .int .u8 t.fr.f, .int .u8 t.tt.a, .int .u8 t.tt.b, .int .u8 t.tt.c, .int .u8 t.tt.d, .int .u8 t.tt.e, .int .u8 t.tt.f] 68)).alloc (.cells #[.int .u8 0, .int .u8 0, .int .u8 0, .string { data := #[] }, .slice none 0 0] 24)) := ((Below.refl _ _).alloc (Nat.le_refl _) _).alloc (by simp) _
  obtain ⟨w0, hw0⟩ : ∃ k, (w.alloc (.cells #[.int .u8 t.lv, .int .u32 t.nm, .int .u8 t.tl, .int .u8 t.fr.a, .int .u8 t.fr.b, .int .u8 t.fr.c, .int .u8 t.fr.d, .int .u8 t.fr.e, .int .u8 t.fr.f, .int .u8 t.tt.a, .int .u8 t.tt.b, .int .u8 t.tt.c, .int .u8 t.tt.d, .int .u8 t.tt.e, .int .u8 t.tt.f] 68)).alloc (.cells #[.int .u8 0, .int .u8 0, .int .u8 0, .string { data := #[] }, .slice none 0 0] 24) = k := ⟨_, rfl⟩
  rw [hw0] at g0 pz hb0 ⊢
  have c0 : w0.cell? ⟨w.heap.size, 0, none⟩ = some (.int .u8 t.lv) := g0.c 0 _ rfl
  have z0 := pz.c0
  have z1 := pz.c1
  have z2 := pz.c2
  have z3 := pz.c3
  have z4 := pz.c4
  have y0 := pz.fr 0
  have y1 := pz.fr 1
  have y2 := pz.fr 2
  have y3 := pz.fr 3
  have y4 := pz.fr 4
  have G0 := Lib.hid g0
  have PZ0 := Lib.hid pz
  have HB0 := Lib.hid hb0
  clear hw0 g0 pz hb0
  by_cases h7 : 7 < t.lv
  · have d7 : decide ((7 : Int) < t.lv) = true := decide_eq_true h7
    have hRR : R = (0, 0, 0, [], 2) := by rw [← HR.out]; unfold putTr; rw [if_pos h7]
    have HRR := Lib.hid hRR
    clear hRR h7
    go_wp2_with fail
    refine bodyPost_ret (v := .tuple #[.agg #[.int .u8 0, .int .u8 0, .int .u8 0, .string (bs []), .slice none 0 0], .int .i64 2]) (by simp [results, Try.results35, go_sem, z0, z1, z2, z3, z4]; rfl) rfl ⟨by rw [HRR.out], below_set (below_set (below_set (below_set (below_set HB0.out (by omega) _) (by omega) _) (by omega) _) (by omega) _) (by omega) _⟩
  have d7 : decide ((7 : Int) < t.lv) = false := decide_eq_false h7
  have hRR : R = (t.lv, 5, 128, byTr t, 0) := by rw [← HR.out]; unfold putTr; rw [if_neg h7]
  have HRR := Lib.hid hRR
  clear hRR h7 z0 z1 z2 z3 z4 y0 y1 y2 y3 y4
  obtain ⟨X, hX⟩ : ∃ X, be 4 t.nm = X := ⟨_, rfl⟩
  obtain ⟨Y, hY⟩ : ∃ Y, [byt t.tl] = Y := ⟨_, rfl⟩
  obtain ⟨M, hM⟩ : ∃ M, t.fr.by = M := ⟨_, rfl⟩
  obtain ⟨N, hN⟩ : ∃ M, t.tt.by = M := ⟨_, rfl⟩
  have N1 : Hid (∀ w, Calls Try.prog 72 #[.int .u64 t.nm, .int .i64 4] w fun en w' => en = .returned (.string (bs X)) ∧ Below w.heap.size w w') := fun w => by
    rw [← hX]; exact num_be 4 t.nm w HT.out.nm.1 (by have := HT.out.nm.2; omega) (by omega)
  have N2 : Hid (∀ w, Calls Try.prog 72 #[.int .u64 t.tl, .int .i64 1] w fun en w' => en = .returned (.string (bs Y)) ∧ Below w.heap.size w w') := fun w => by
    rw [← hY, ← be_one _ HT.out.tl]; exact num_be 1 t.tl w HT.out.tl.1 (by have := HT.out.tl.2; omega) (by omega)
  have wn : IntKind.u64.wrap t.nm = t.nm := IntWalk.u64_in _ (by have := HT.out.nm; omega)
  have wt : IntKind.u64.wrap t.tl = t.tl := IntWalk.u64_in _ (by have := HT.out.tl; omega)
  have lX : X.length = 4 := by rw [← hX]; exact be_length _ _
  have lY : Y.length = 1 := by rw [← hY]; rfl
  have lM : M.length = 6 := by rw [← hM]; rfl
  have lN : N.length = 6 := by rw [← hN]; rfl
  have a1 := run_add_bs X Y (by omega)
  have a2 := run_add_bs (X ++ Y) M (by simp; omega)
  have a3 := run_add_bs (X ++ Y ++ M) N (by simp; omega)
  obtain ⟨X1, hX1⟩ : ∃ Z, X ++ Y = Z := ⟨_, rfl⟩
  rw [hX1] at a1 a2 a3
  obtain ⟨X2, hX2⟩ : ∃ Z, X1 ++ M = Z := ⟨_, rfl⟩
  rw [hX2] at a2 a3
  obtain ⟨X3, hX3⟩ : ∃ Z, X2 ++ N = Z := ⟨_, rfl⟩
  rw [hX3] at a3
  have HX3 := Lib.hid (show byTr t = X3 by rw [← hX3, ← hX2, ← hX1, ← hX, ← hY, ← hM, ← hN]; rfl)
  have k1 := Later.cell (show w0.cell? ⟨w.heap.size, 1, none⟩ = some (.int .u32 t.nm) from G0.out.c 1 _ rfl)
  have k2 := Later.cell (show w0.cell? ⟨w.heap.size, 2, none⟩ = some (.int .u8 t.tl) from G0.out.c 2 _ rfl)
  have r3 : ∀ k : Later w0, (convert 124 9 (.slice (some ⟨w.heap.size, 3, none⟩) 6 6)).run Try.prog k.out = .ok (.string (bs M)) k.out := fun k => by
    have g := G0.out.later k.h
    rw [← hM]
    exact run_string_src (srcM (g.c 3 _ rfl) (g.c 4 _ rfl) (g.c 5 _ rfl) (g.c 6 _ rfl) (g.c 7 _ rfl) (g.c 8 _ rfl) HT.out.fr)
  have r9 : ∀ k : Later w0, (convert 124 9 (.slice (some ⟨w.heap.size, 9, none⟩) 6 6)).run Try.prog k.out = .ok (.string (bs N)) k.out := fun k => by
    have g := G0.out.later k.h
    rw [← hN]
    exact run_string_src (srcM (g.c 9 _ rfl) (g.c 10 _ rfl) (g.c 11 _ rfl) (g.c 12 _ rfl) (g.c 13 _ rfl) (g.c 14 _ rfl) HT.out.tt)
  clear hX hY hM hN hX1 hX2 hX3 lX lY lM lN
  go_upto_region 3 with fail
  go_cut [4] (fun s4 wx => s4 = .string (bs X3) ∧ Hid (∃ k : Later w0, wx = k.out))
  case first =>
    refine wp_region_later (by kernel_rfl) (by kernel_rfl) ?_
    repeat (go_big_quiet_step (first | (go_at_call 72; first | (with_reducible exact Calls.later (N1.out _)) | (with_reducible exact Calls.later (N2.out _)))))
    refine wpQuiet_nil ?_
    rintro _ ⟨K, rfl⟩
    go_wp2_with fail
    go_meet
    exact ⟨rfl, Lib.hid ⟨K, rfl⟩⟩
  case rest =>
    obtain ⟨rfl, HK⟩ := hcut
    obtain ⟨K, hK⟩ := HK.out
    have g2 := G0.out.later K.h
    have p2 := PZ0.out.later K.h
    have b2 := Later.bel HB0.out K
    rw [← hK] at g2 p2 b2
    clear hK HK r3 r9 k1 k2 c0
    have c0 : wc.cell? ⟨w.heap.size, 0, none⟩ = some (.int .u8 t.lv) := g2.c 0 _ rfl
    have z0 := p2.c0
    have z1 := p2.c1
    have z2 := p2.c2
    have z3 := p2.c3
    have z4 := p2.c4
    have y0 := p2.fr 0
    have y1 := p2.fr 1
    have y2 := p2.fr 2
    have y3 := p2.fr 3
    have y4 := p2.fr 4
    have HB3 := Lib.hid b2
    clear g2 p2 b2 G0 PZ0 HB0
    go_wp2_with fail
    refine bodyPost_ret (v := .tuple #[.agg #[.int .u8 t.lv, .int .u8 5, .int .u8 128, .string (bs X3), .slice none 0 0], .int .i64 0]) (by simp [results, Try.results35, go_sem, z0, z1, z2, z3, z4]) rfl ⟨by rw [HRR.out, HX3.out], below_set (below_set (below_set (below_set (below_set HB3.out (by omega) _) (by omega) _) (by omega) _) (by omega) _) (by omega) _⟩
end Go.Proofs.Ytcbbocdmmehphaa
