/- ltm: the reference's PutReply. -/
import Derived.Test.YtcbbocdmmehphaaG2
import Derived.Test.YtcbbocdmmehphaaG4
set_option linter.unusedVariables false
namespace Go.Proofs.Ytcbbocdmmehphaa
open Go.RowKit

theorem TlR.blk {w w' : World} {B : Nat} {v : Value} {l : List Th} (h : TlR w B v l) (ho : ∀ g, B ≤ g → w'.heap[g]? = w.heap[g]?) : TlR w' B v l := by
  obtain ⟨h1, h2⟩ := h
  refine ⟨h1, ?_⟩
  rcases h2 with h2 | ⟨g, cap, cur, hv, hg, hh, r⟩
  · exact .inl h2
  · exact .inr ⟨g, cap, cur, hv, hg, by rw [ho g hg]; exact hh, r⟩
theorem TlR.set {w : World} {B p o : Nat} {v : Value} {l : List Th} (h : TlR w B v l) (hp : p < B) (x : Value) : TlR (w.setCell ⟨p, o, Option.none⟩ x) B v l :=
  h.blk fun g hg => Below.heap_setCell _ _ _ _ (by intro e; simp at e; omega)
theorem prtL_len (k : UInt8) (m : Mc) : (prtL k m).length ≤ 1 := by unfold prtL; split <;> simp
/-- The state: the reply's block, the result's block. -/
structure RT (w W : World) (A : Array Value) : Prop where
  g : GB 70 W w.heap.size A
  z : PB 24 W (w.heap.size + 1) 0 0 0 [] (.slice none 0 0)
  bel : Below w.heap.size w W
section
variable {w W W' : World} {A : Array Value}
theorem RT.later (h : RT w W A) (hb : Below W.heap.size W W') : RT w W' A := ⟨h.g.later hb, h.z.later hb, h.bel.trans (hb.mono h.bel.size)⟩
theorem RT.drew (h : RT w W A) : RT w W.drew A := h.later (Below.refl _ _).drew
theorem RT.lt (h : RT w W A) : w.heap.size + 1 < W.heap.size := h.z.lt
theorem RT.set (h : RT w W A) {q o : Nat} (hq : w.heap.size + 1 < q) (v : Value) : RT w (W.setCell ⟨q, o, none⟩ v) A :=
  ⟨h.g.other (by omega) v, h.z.other (by omega) v, below_set h.bel (by omega) v⟩
theorem RT.two (h : RT w W A) {r : Rp} (hA : A = #[.int .u8 r.lv, .int .u32 r.nm, .int .u8 r.tl, .bool r.st, .bool r.en, .int .u8 r.mi.a, .int .u8 r.mi.b, .int .u8 r.mi.c, .int .u8 r.mi.d, .int .u8 r.mi.e, .int .u8 r.mi.f, .int .u8 r.mo.a, .int .u8 r.mo.b, .int .u8 r.mo.c, .int .u8 r.mo.d, .int .u8 r.mo.e, .int .u8 r.mo.f]) : W.cell? ⟨w.heap.size, 1, none⟩ = some (.int .u32 r.nm) ∧ W.cell? ⟨w.heap.size, 2, none⟩ = some (.int .u8 r.tl) :=
  ⟨h.g.c 1 _ (by rw [hA]; rfl), h.g.c 2 _ (by rw [hA]; rfl)⟩
theorem PB.set3N {T : TypeId} {q : Nat} {a b c : Int} {f : List UInt8} {v : Value} (h : PB T W q a b c f v) (g : List UInt8) : PB T (W.setCell ⟨q, 3, none⟩ (.string (bs g))) q a b c g v := by
  unfold PB at *; simp [World.setCell, Array.getElem?_modify, h]
theorem RT.belowQ (h : RT w W A) {q : Nat} (hq : w.heap.size + 1 < q) (hb : Below (q + 1) W W') (v : Value) : RT w (W'.setCell ⟨q, 4, none⟩ v) A :=
  RT.set ⟨h.g.below (by omega) hb, h.z.below (by omega) hb, h.bel.trans (hb.mono (by omega))⟩ hq v
end
set_option maxRecDepth 100000 in
set_option maxHeartbeats 16000000 in
theorem refPutR15_any (r : Rp) (w : World) (hr : r.Ok) : Calls Try.prog 38 #[.agg #[.int .u8 r.lv, .int .u32 r.nm, .int .u8 r.tl, .bool r.st, .bool r.en, .int .u8 r.mi.a, .int .u8 r.mi.b, .int .u8 r.mi.c, .int .u8 r.mi.d, .int .u8 r.mi.e, .int .u8 r.mi.f, .int .u8 r.mo.a, .int .u8 r.mo.b, .int .u8 r.mo.c, .int .u8 r.mo.d, .int .u8 r.mo.e, .int .u8 r.mo.f]] w fun en w' =>
    ∃ v', en = .returned (.tuple #[.agg #[.int .u8 (putRp r).1, .int .u8 (putRp r).2.1, .int .u8 (putRp r).2.2.1, .string (bs (putRp r).2.2.2.1), v'], .int .i64 (putRp r).2.2.2.2.2]) ∧ TlR w' w.heap.size v' (putRp r).2.2.2.2.1 ∧ Below w.heap.size w w' := by
  obtain ⟨R, hR⟩ : ∃ R, putRp r = R := ⟨_, rfl⟩
  rw [hR]
  have HR := Lib.hid hR
  have HO := Lib.hid hr
  clear hR hr
  go_enter Try.func38, Try.ntmps38
  go_upto_region 1 with fail
  have g0 := (GB.new 70 w #[.int .u8 r.lv, .int .u32 r.nm, .int .u8 r.tl, .bool r.st, .bool r.en, .int .u8 r.mi.a, .int .u8 r.mi.b, .int .u8 r.mi.c, .int .u8 r.mi.d, .int .u8 r.mi.e, .int .u8 r.mi.f, .int .u8 r.mo.a, .int .u8 r.mo.b, .int .u8 r.mo.c, .int .u8 r.mo.d, .int .u8 r.mo.e, .int .u8 r.mo.f]).later ((Below.refl _ _).alloc (Nat.le_refl _) (.cells #[.int .u8 0, .int .u8 0, .int .u8 0, .string { data := #[] }, .slice none 0 0] 24))
  have pz : PB 24 ((w.alloc (.cells #[.int .u8 r.lv, .int .u32 r.nm, .int .u8 r.tl, .bool r.st, .bool r.en, .int .u8 r.mi.a, .int .u8 r.mi.b, .int .u8 r.mi.c, .int .u8 r.mi.d, .int .u8 r.mi.e, .int .u8 r.mi.f, .int .u8 r.mo.a, .int .u8 r.mo.b, .int .u8 r.mo.c, .int .u8 r.mo.d, .int .u8 r.mo.e, .int .u8 r.mo.f] 70)).alloc (.cells #[.int .u8 0, .int .u8 0, .int .u8 0, .string { data := #[] }, .slice none 0 0] 24)) (w.heap.size + 1) 0 0 0 [] (.slice none 0 0) := by
    have := PB.new 24 (w.alloc (.cells #[.int .u8 r.lv, .int .u32 r.nm, .int .u8 r.tl, .bool r.st, .bool r.en, .int .u8 r.mi.a, .int .u8 r.mi.b, .int .u8 r.mi.c, .int .u8 r.mi.d, .int .u8 r.mi.e, .int .u8 r.mi.f, .int .u8 r.mo.a, .int .u8 r.mo.b, .int .u8 r.mo.c, .int .u8 r.mo.d, .int .u8 r.mo.e, .int .u8 r.mo.f] 70)) 0 0 0 [] (.slice none 0 0)
    rw [show (w.alloc (.cells #[.int .u8 r.lv, .int .u32 r.nm, .int .u8 r.tl, .bool r.st, .bool r.en, .int .u8 r.mi.a, .int .u8 r.mi.b, .int .u8 r.mi.c, .int .u8 r.mi.d, .int .u8 r.mi.e, .int .u8 r.mi.f, .int .u8 r.mo.a, .int .u8 r.mo.b, .int .u8 r.mo.c, .int .u8 r.mo.d, .int .u8 r.mo.e, .int .u8 r.mo.f] 70)).heap.size = w.heap.size + 1 by simp] at this
    exact this
  have hb0 : Below w.heap.size w ((w.alloc (.cells #[.int .u8 r.lv, .int .u32 r.nm, .int .u8 r.tl, .bool r.st, .bool r.en, .int .u8 r.mi.a, .int .u8 r.mi.b, .int .u8 r.mi.c, .int .u8 r.mi.d, .int .u8 r.mi.e, .int .u8 r.mi.f, .int .u8 r.mo.a, .int .u8 r.mo.b, .int .u8 r.mo.c, .int .u8 r.mo.d, .int .u8 r.mo.e, .int .u8 r.mo.f] 70)).alloc (.cells #[.int .u8 0, .int .u8 0, .int .u8 0, .string { data := #[] }, .slice none 0 0] 24)) := ((Below.refl _ _).alloc (Nat.le_refl _) _).alloc (by simp) _
  obtain ⟨w0, hw0⟩ : ∃ k, (w.alloc (.cells #[.int .u8 r.lv, .int .u32 r.nm, .int .u8 r.tl, .bool r.st, .bool r.en, .int .u8 r.mi.a, .int .u8 r.mi.b, .int .u8 r.mi.c, .int .u8 r.mi.d, .int .u8 r.mi.e, .int .u8 r.mi.f, .int .u8 r.mo.a, .int .u8 r.mo.b, .int .u8 r.mo.c, .int .u8 r.mo.d, .int .u8 r.mo.e, .int .u8 r.mo.f] 70)).alloc (.cells #[.int .u8 0, .int .u8 0, .int .u8 0, .string { data := #[] }, .slice none 0 0] 24) = k := ⟨_, rfl⟩
  obtain ⟨A, hA⟩ : ∃ A : Array Value, A = #[.int .u8 r.lv, .int .u32 r.nm, .int .u8 r.tl, .bool r.st, .bool r.en, .int .u8 r.mi.a, .int .u8 r.mi.b, .int .u8 r.mi.c, .int .u8 r.mi.d, .int .u8 r.mi.e, .int .u8 r.mi.f, .int .u8 r.mo.a, .int .u8 r.mo.b, .int .u8 r.mo.c, .int .u8 r.mo.d, .int .u8 r.mo.e, .int .u8 r.mo.f] := ⟨_, rfl⟩
  rw [hw0, ← hA] at g0
  rw [hw0] at pz hb0
  rw [hw0, ← hA]
  have c0 : w0.cell? ⟨w.heap.size, 0, none⟩ = some (.int .u8 r.lv) := g0.c 0 _ (by rw [hA]; rfl)
  have RS := Lib.hid (RT.mk g0 pz hb0)
  have HA := Lib.hid hA
  clear hw0 g0 pz hb0 hA
  by_cases h7 : 7 < r.lv
  · have d7 : decide ((7 : Int) < r.lv) = true := decide_eq_true h7
    have hRR : R = (0, 0, 0, [], [], 2) := by rw [← HR.out]; unfold putRp; rw [if_pos h7]
    have HRR := Lib.hid hRR
    clear hRR h7
    have z0 := RS.out.z.c0
    have z1 := RS.out.z.c1
    have z2 := RS.out.z.c2
    have z3 := RS.out.z.c3
    have z4 := RS.out.z.c4
    have y0 := RS.out.z.fr 0
    have y1 := RS.out.z.fr 1
    have y2 := RS.out.z.fr 2
    have y3 := RS.out.z.fr 3
    have y4 := RS.out.z.fr 4
    go_wp2_with fail
    refine bodyPost_ret (v := .tuple #[.agg #[.int .u8 0, .int .u8 0, .int .u8 0, .string (bs []), .slice none 0 0], .int .i64 2]) (by simp [results, Try.results38, go_sem, z0, z1, z2, z3, z4]; rfl) rfl ⟨_, by rw [HRR.out], by rw [HRR.out]; exact TlR.none _ _, below_set (below_set (below_set (below_set (below_set RS.out.bel (by omega) _) (by omega) _) (by omega) _) (by omega) _) (by omega) _⟩
  have d7 : decide ((7 : Int) < r.lv) = false := decide_eq_false h7
  have hRR : R = (r.lv, 4, flR r, fxR r, prtL 5 r.mi ++ prtL 6 r.mo, 0) := by rw [← HR.out]; unfold putRp; rw [if_neg h7]
  have HRR := Lib.hid hRR
  clear hRR h7
  go_upto_region 4 with fail
  have pq := PB.new 24 w0 r.lv 4 0 [] (.slice none 0 0)
  have aa := (Below.refl w0.heap.size w0).alloc (Nat.le_refl _) (.cells #[.int .u8 r.lv, .int .u8 4, .int .u8 0, .string { data := #[] }, .slice none 0 0] 24)
  have HQW := Lib.hid (RS.out.lt)
  obtain ⟨q, hq⟩ : ∃ k, w0.heap.size = k := ⟨_, rfl⟩
  obtain ⟨w1, hw1⟩ : ∃ k, w0.alloc (.cells #[.int .u8 r.lv, .int .u8 4, .int .u8 0, .string { data := #[] }, .slice none 0 0] 24) = k := ⟨_, rfl⟩
  have pq1 : PB 24 w1 q r.lv 4 0 [] (.slice none 0 0) := by rw [← hw1, ← hq]; exact pq
  rw [hw1] at aa ⊢
  rw [hq]
  rw [hq] at HQW
  have RS := Lib.hid (RS.out.later aa)
  have PQ := Lib.hid pq1
  clear pq aa pq1 hw1 hq c0
  obtain ⟨J, hJ⟩ : ∃ J : Int, (if r.st = true then (64 : Int) else 0) = J := ⟨_, rfl⟩
  have HJ := Lib.hid hJ
  clear hJ
  go_upto_region 5 with fail
  have k3 : w1.cell? ⟨w.heap.size, 3, none⟩ = some (.bool r.st) := RS.out.g.c 3 _ (by rw [HA.out]; rfl)
  have k2 := PQ.out.c2
  have r2 := PQ.out.fr 2
  go_upto_if 14 with fail
  go_cut [4] (fun s4 wx => s4 = .pointer (some ⟨q, 0, none⟩) ∧ Hid (PB 24 wx q r.lv 4 J [] (.slice none 0 0)) ∧ Hid (RT w wx A))
  case first =>
    cases hst : r.st with
    | true =>
      have hj : J = 64 := by rw [← HJ.out, hst]; rfl
      rw [hst] at k3
      go_wp2_with fail
      go_meet
      exact ⟨rfl, Lib.hid (by rw [hj]; exact PQ.out.set2N 64), Lib.hid (RS.out.set HQW.out _)⟩
    | false =>
      have hj : J = 0 := by rw [← HJ.out, hst]; rfl
      rw [hst] at k3
      go_wp2_with fail
      go_meet
      exact ⟨rfl, Lib.hid (by rw [hj]; exact PQ.out), RS⟩
  case rest =>
    clear k3 k2 r2 PQ RS
    obtain ⟨rfl, PQ, RS⟩ := hcut
    obtain ⟨F, hF⟩ : ∃ F : Int, flR r = F := ⟨_, rfl⟩
    have HF := Lib.hid hF
    obtain ⟨Y, hY⟩ : ∃ Y : UInt8, (if r.en = true then (1 : UInt8) else 2) = Y := ⟨_, rfl⟩
    have HY := Lib.hid hY
    clear hF hY
    go_upto_region 7 with fail
    have k4 : wc.cell? ⟨w.heap.size, 4, none⟩ = some (.bool r.en) := RS.out.g.c 4 _ (by rw [HA.out]; rfl)
    have k2 := PQ.out.c2
    have r2 := PQ.out.fr 2
    go_upto_if 17 with fail
    go_cut [4, 5] (fun s4 s5 wx => s4 = .pointer (some ⟨q, 0, none⟩) ∧ s5 = .string (bs [Y]) ∧ Hid (PB 24 wx q r.lv 4 F [] (.slice none 0 0)) ∧ Hid (RT w wx A))
    case first =>
      cases hen : r.en with
      | true =>
        have hf : F = J + 32 := by rw [← HF.out, ← HJ.out]; simp [flR, hen]
        have hy : Y = 1 := by rw [← HY.out, hen]; rfl
        rw [hen] at k4
        have ho : IntKind.u8.wrap (J + 32) = J + 32 := by rw [← HJ.out]; split <;> decide
        go_wp2_with fail
        go_meet
        exact ⟨rfl, by rw [hy]; rfl, Lib.hid (by rw [hf]; exact PQ.out.set2N (J + 32)), Lib.hid (RS.out.set HQW.out _)⟩
      | false =>
        have hf : F = J := by rw [← HF.out, ← HJ.out]; simp [flR, hen]
        have hy : Y = 2 := by rw [← HY.out, hen]; rfl
        rw [hen] at k4
        go_wp2_with fail
        go_meet
        exact ⟨rfl, by rw [hy]; rfl, Lib.hid (by rw [hf]; exact PQ.out), RS⟩
    clear k4 k2 r2 PQ RS
    obtain ⟨rfl, rfl, PQ, RS⟩ := hcut
    obtain ⟨X, hX⟩ : ∃ X, be 4 r.nm = X := ⟨_, rfl⟩
    obtain ⟨T1, hT1⟩ : ∃ X, [byt r.tl] = X := ⟨_, rfl⟩
    have N1 : Hid (∀ w, Calls Try.prog 72 #[.int .u64 r.nm, .int .i64 4] w fun en w' => en = .returned (.string (bs X)) ∧ Below w.heap.size w w') := fun w => by
      rw [← hX]; exact num_be 4 r.nm w HO.out.nm.1 (by have := HO.out.nm.2; omega) (by omega)
    have N2 : Hid (∀ w, Calls Try.prog 72 #[.int .u64 r.tl, .int .i64 1] w fun en w' => en = .returned (.string (bs T1)) ∧ Below w.heap.size w w') := fun w => by
      rw [← hT1, ← be_one _ HO.out.tl]; exact num_be 1 r.tl w HO.out.tl.1 (by have := HO.out.tl.2; omega) (by omega)
    have wn : IntKind.u64.wrap r.nm = r.nm := IntWalk.u64_in _ (by have := HO.out.nm; omega)
    have wt : IntKind.u64.wrap r.tl = r.tl := IntWalk.u64_in _ (by have := HO.out.tl; omega)
    have a1 := run_add_bs X T1 (by rw [← hX, ← hT1]; simp [be_length])
    have a2 := run_add_bs (X ++ T1) [Y] (by rw [← hX, ← hT1]; simp [be_length])
    obtain ⟨X1, hX1⟩ : ∃ Z, X ++ T1 = Z := ⟨_, rfl⟩
    rw [hX1] at a1 a2
    obtain ⟨Z, hZ⟩ : ∃ Z, X1 ++ [Y] = Z := ⟨_, rfl⟩
    rw [hZ] at a2
    obtain ⟨YS, hYS⟩ : ∃ v : ByteArray, bs [Y] = v := ⟨_, rfl⟩
    rw [hYS] at a2 ⊢
    have HZF := Lib.hid (show fxR r = Z by rw [← hZ, ← hX1, ← hX, ← hT1, ← HY.out]; unfold fxR; simp)
    clear hX hT1 hX1 hZ hYS
    go_upto_region 10 with fail
    go_cut [4] (fun s4 wx => s4 = .pointer (some ⟨q, 0, none⟩) ∧ Hid (PB 24 wx q r.lv 4 F Z (.slice none 0 0)) ∧ Hid (RT w wx A))
    case first =>
      have RSd := Lib.hid RS.out.drew
      have PQd : PB 24 wc.drew q r.lv 4 F [] (.slice none 0 0) := PQ.out
      have HPQ := Lib.hid PQd
      clear PQd
      go_region_held3 (fun W => W.cell? ⟨w.heap.size, 1, none⟩ = some (.int .u32 r.nm) ∧ W.cell? ⟨w.heap.size, 2, none⟩ = some (.int .u8 r.tl))
        (first | (with_reducible exact RSd.out.two HA.out) | (with_reducible exact RSx.out.two HA.out) | (with_reducible exact RSy.out.two HA.out) | (with_reducible exact (RSy.out.set HQW.out _).two HA.out))
        (first
          | (go_at_call 72; (first
            | ((with_reducible refine (N1.out _).mono ?_); rintro en wx ⟨rfl, hbx⟩; have RSx := Lib.hid (RSd.out.later hbx); have PQx := Lib.hid (HPQ.out.later hbx))
            | ((with_reducible refine (N2.out _).mono ?_); rintro en wy ⟨rfl, hby⟩; have RSy := Lib.hid (RSx.out.later hby); have PQy := Lib.hid (PQx.out.later hby); have m3 := PQy.out.c3; have f3 := PQy.out.fr 3))))
      all_goals go_wp2_with fail
      all_goals go_meet
      all_goals exact ⟨rfl, Lib.hid (PQy.out.set3N Z), Lib.hid (RSy.out.set HQW.out _)⟩
    clear PQ RS N1 N2 wn wt a1 a2
    obtain ⟨rfl, PQ, RS⟩ := hcut
    have HT : Hid (TlR wc (q + 1) (.slice none 0 0) []) := Lib.hid (TlR.none _ _)
    obtain ⟨v, hv⟩ : ∃ v : Value, Value.slice none 0 0 = v := ⟨_, rfl⟩
    rw [hv] at PQ HT
    clear hv
    go_upto_region 11 with fail
    have m0 : wc.cell? ⟨w.heap.size, 5, none⟩ = some (.int .u8 r.mi.a) := RS.out.g.c 5 _ (by rw [HA.out]; rfl)
    have m1 : wc.cell? ⟨w.heap.size, 6, none⟩ = some (.int .u8 r.mi.b) := RS.out.g.c 6 _ (by rw [HA.out]; rfl)
    have m2 : wc.cell? ⟨w.heap.size, 7, none⟩ = some (.int .u8 r.mi.c) := RS.out.g.c 7 _ (by rw [HA.out]; rfl)
    have m3 : wc.cell? ⟨w.heap.size, 8, none⟩ = some (.int .u8 r.mi.d) := RS.out.g.c 8 _ (by rw [HA.out]; rfl)
    have m4 : wc.cell? ⟨w.heap.size, 9, none⟩ = some (.int .u8 r.mi.e) := RS.out.g.c 9 _ (by rw [HA.out]; rfl)
    have m5 : wc.cell? ⟨w.heap.size, 10, none⟩ = some (.int .u8 r.mi.f) := RS.out.g.c 10 _ (by rw [HA.out]; rfl)
    obtain ⟨D, hD⟩ : ∃ D : Bool, (!decide (r.mi = mc0)) = D := ⟨_, rfl⟩
    have hne : ∀ W : World, (binOp .neq 46 (.agg #[.int .u8 r.mi.a, .int .u8 r.mi.b, .int .u8 r.mi.c, .int .u8 r.mi.d, .int .u8 r.mi.e, .int .u8 r.mi.f]) (.agg #[.int .u8 0, .int .u8 0, .int .u8 0, .int .u8 0, .int .u8 0, .int .u8 0])).run Try.prog W = .ok (.bool D) W := fun W => (neq_macG r.mi mc0 W).trans (by rw [← hD])
    have HD := Lib.hid hD
    clear hD
    go_upto_if 37 with fail
    go_cut [4] (fun s4 wx => s4 = .pointer (some ⟨q, 0, none⟩) ∧ Hid (∃ v, PB 24 wx q r.lv 4 F Z v ∧ TlR wx (q + 1) v ([] ++ prtL 5 r.mi)) ∧ Hid (RT w wx A))
    case first =>
      clear hne
      cases D with
      | false =>
        have h0 : r.mi = mc0 := by have h := HD.out; simpa using h
        have hpr : prtL 5 r.mi = [] := by unfold prtL; rw [if_pos h0]
        have HPR := Lib.hid hpr
        clear h0 hpr
        go_wp2_with fail
        go_meet
        exact ⟨rfl, Lib.hid ⟨v, PQ.out, by rw [HPR.out, List.append_nil]; exact HT.out⟩, RS⟩
      | true =>
      have HPR : Hid (prtL 5 r.mi = [(5, 1 :: r.mi.by)]) := Lib.hid (by unfold prtL; rw [if_neg (show ¬ r.mi = mc0 by have h := HD.out; simpa using h)])
      go_upto_region 12 with fail
      clear m0 m1 m2 m3 m4 m5
      obtain ⟨X, hX⟩ : ∃ X, 1 :: r.mi.by = X := ⟨_, rfl⟩
      rw [hX] at HPR
      obtain ⟨M, hM⟩ : ∃ M, r.mi.by = M := ⟨_, rfl⟩
      have hadd0 := run_add_bs [1] M (by rw [← hM, Mc.by_len]; decide)
      have hadd : ∀ W : World, (Op.stringOp .add ({ data := #[1] } : ByteArray) (bs M)).run Try.prog W = .ok (.string (bs X)) W := by rw [← hX, hM]; exact hadd0
      have happ : ({ data := #[1] } : ByteArray) ++ bs M = bs X := by rw [← hX, hM]; exact bs_append [1] M
      have HM := Lib.hid hM
      have hcv : (convert 124 9 (.slice (some ⟨w.heap.size, 5, none⟩) 6 6)).run Try.prog wc.drew = .ok (.string (bs M)) wc.drew := by
        have g := RS.out.drew.g
        have hA2 := HA.out
        rw [← hM]
        exact run_string_src (srcM (g.c 5 _ (by rw [hA2]; rfl)) (g.c 6 _ (by rw [hA2]; rfl)) (g.c 7 _ (by rw [hA2]; rfl)) (g.c 8 _ (by rw [hA2]; rfl)) (g.c 9 _ (by rw [hA2]; rfl)) (g.c 10 _ (by rw [hA2]; rfl)) HO.out.mi)
      clear hX hM hadd0
      have TL : Hid (Tls (wc.drew.alloc (.cells #[.int .u8 5, .string (bs X)] 65)) (.slice (some ⟨wc.heap.size, 0, none⟩) 1 1) [(5, X)]) := Lib.hid (TlR.lit wc.drew 0 (5, X) (Nat.zero_le _)).tls
      have TLb : Hid (Tls (wc.alloc (.cells #[.int .u8 5, .string (bs X)] 65)).drew (.slice (some ⟨wc.heap.size, 0, none⟩) 1 1) [(5, X)]) := Lib.hid ((TlR.lit wc 0 (5, X) (Nat.zero_le _)).tls.later (Below.refl _ _).drew)
      have p4 : wc.drew.cell? ⟨q, 4, none⟩ = some v := PQ.out.c4
      have aa := (Below.refl wc.heap.size wc).alloc (Nat.le_refl _) (.cells #[.int .u8 5, .string (bs X)] 65)
      have p4a : (wc.alloc (.cells #[.int .u8 5, .string (bs X)] 65)).drew.cell? ⟨q, 4, none⟩ = some v := (PQ.out.later aa).c4
      have p4b : (wc.drew.alloc (.cells #[.int .u8 5, .string (bs X)] 65)).cell? ⟨q, 4, none⟩ = some v := (PQ.out.later aa).c4
      have OWa := Lib.hid (HT.out.later aa.drew)
      have HQ1 := Lib.hid (show q + 1 ≤ (wc.alloc (.cells #[.int .u8 5, .string (bs X)] 65)).drew.heap.size by have := PQ.out.lt; have := aa.size; show q + 1 ≤ (wc.alloc _).heap.size; omega)
      have AA := Lib.hid aa.drew
      clear aa
      go_region_law (first
        | (refine step_append_R rfl (.tmp 39) (.tmp 45) rfl (q + 1) _ ([]) (by rfl) (by exact OWa.out) _ [(5, X)] (by rfl) (by first | exact TL.out | exact TLb.out) (by simp) (by exact HQ1.out) ?_; intro v2 w5 hown2 hb5; obtain ⟨a5, k5, hv5, _⟩ := hown2.tls.shape; obtain ⟨n5, hn5⟩ : ∃ n, ([] ++ [(5, X)] : List Th).length = n := ⟨_, rfl⟩; rw [hn5] at hv5; subst hv5; clear hn5; have P5 := Lib.hid ((PQ.out.later AA.out).below (Nat.lt_succ_self q) hb5); have m4 := P5.out.c4; have f4 := P5.out.fr 4))
      all_goals go_wp2_with fail
      all_goals go_meet
      all_goals exact ⟨rfl, Lib.hid ⟨_, P5.out.setv4G _, by rw [HPR.out]; exact hown2.set (Nat.lt_succ_self q) _⟩, Lib.hid ((RS.out.later AA.out).belowQ HQW.out hb5 _)⟩
    clear m0 m1 m2 m3 m4 m5 PQ HT RS hne HD
    obtain ⟨rfl, HV, RS⟩ := hcut
    obtain ⟨v, pq, ht⟩ := HV.out
    have PQ := Lib.hid pq
    have HT := Lib.hid ht
    clear HV pq ht
    go_upto_region 13 with fail
    have m0 : wc.cell? ⟨w.heap.size, 11, none⟩ = some (.int .u8 r.mo.a) := RS.out.g.c 11 _ (by rw [HA.out]; rfl)
    have m1 : wc.cell? ⟨w.heap.size, 12, none⟩ = some (.int .u8 r.mo.b) := RS.out.g.c 12 _ (by rw [HA.out]; rfl)
    have m2 : wc.cell? ⟨w.heap.size, 13, none⟩ = some (.int .u8 r.mo.c) := RS.out.g.c 13 _ (by rw [HA.out]; rfl)
    have m3 : wc.cell? ⟨w.heap.size, 14, none⟩ = some (.int .u8 r.mo.d) := RS.out.g.c 14 _ (by rw [HA.out]; rfl)
    have m4 : wc.cell? ⟨w.heap.size, 15, none⟩ = some (.int .u8 r.mo.e) := RS.out.g.c 15 _ (by rw [HA.out]; rfl)
    have m5 : wc.cell? ⟨w.heap.size, 16, none⟩ = some (.int .u8 r.mo.f) := RS.out.g.c 16 _ (by rw [HA.out]; rfl)
    obtain ⟨D, hD⟩ : ∃ D : Bool, (!decide (r.mo = mc0)) = D := ⟨_, rfl⟩
    have hne : ∀ W : World, (binOp .neq 46 (.agg #[.int .u8 r.mo.a, .int .u8 r.mo.b, .int .u8 r.mo.c, .int .u8 r.mo.d, .int .u8 r.mo.e, .int .u8 r.mo.f]) (.agg #[.int .u8 0, .int .u8 0, .int .u8 0, .int .u8 0, .int .u8 0, .int .u8 0])).run Try.prog W = .ok (.bool D) W := fun W => (neq_macG r.mo mc0 W).trans (by rw [← hD])
    have HD := Lib.hid hD
    clear hD
    go_upto_if 51 with fail
    go_cut [4] (fun s4 wx => s4 = .pointer (some ⟨q, 0, none⟩) ∧ Hid (∃ v, PB 24 wx q r.lv 4 F Z v ∧ TlR wx (q + 1) v ([] ++ prtL 5 r.mi ++ prtL 6 r.mo)) ∧ Hid (RT w wx A))
    case first =>
      clear hne
      cases D with
      | false =>
        have h0 : r.mo = mc0 := by have h := HD.out; simpa using h
        have hpr : prtL 6 r.mo = [] := by unfold prtL; rw [if_pos h0]
        have HPR := Lib.hid hpr
        clear h0 hpr
        go_wp2_with fail
        go_meet
        exact ⟨rfl, Lib.hid ⟨v, PQ.out, by rw [HPR.out, List.append_nil]; exact HT.out⟩, RS⟩
      | true =>
      have HPR : Hid (prtL 6 r.mo = [(6, 1 :: r.mo.by)]) := Lib.hid (by unfold prtL; rw [if_neg (show ¬ r.mo = mc0 by have h := HD.out; simpa using h)])
      go_upto_region 14 with fail
      clear m0 m1 m2 m3 m4 m5
      obtain ⟨X, hX⟩ : ∃ X, 1 :: r.mo.by = X := ⟨_, rfl⟩
      rw [hX] at HPR
      obtain ⟨M, hM⟩ : ∃ M, r.mo.by = M := ⟨_, rfl⟩
      have hadd0 := run_add_bs [1] M (by rw [← hM, Mc.by_len]; decide)
      have hadd : ∀ W : World, (Op.stringOp .add ({ data := #[1] } : ByteArray) (bs M)).run Try.prog W = .ok (.string (bs X)) W := by rw [← hX, hM]; exact hadd0
      have happ : ({ data := #[1] } : ByteArray) ++ bs M = bs X := by rw [← hX, hM]; exact bs_append [1] M
      have HM := Lib.hid hM
      have hcv : (convert 124 9 (.slice (some ⟨w.heap.size, 11, none⟩) 6 6)).run Try.prog wc.drew = .ok (.string (bs M)) wc.drew := by
        have g := RS.out.drew.g
        have hA2 := HA.out
        rw [← hM]
        exact run_string_src (srcM (g.c 11 _ (by rw [hA2]; rfl)) (g.c 12 _ (by rw [hA2]; rfl)) (g.c 13 _ (by rw [hA2]; rfl)) (g.c 14 _ (by rw [hA2]; rfl)) (g.c 15 _ (by rw [hA2]; rfl)) (g.c 16 _ (by rw [hA2]; rfl)) HO.out.mo)
      clear hX hM hadd0
      have TL : Hid (Tls (wc.drew.alloc (.cells #[.int .u8 6, .string (bs X)] 65)) (.slice (some ⟨wc.heap.size, 0, none⟩) 1 1) [(6, X)]) := Lib.hid (TlR.lit wc.drew 0 (6, X) (Nat.zero_le _)).tls
      have TLb : Hid (Tls (wc.alloc (.cells #[.int .u8 6, .string (bs X)] 65)).drew (.slice (some ⟨wc.heap.size, 0, none⟩) 1 1) [(6, X)]) := Lib.hid ((TlR.lit wc 0 (6, X) (Nat.zero_le _)).tls.later (Below.refl _ _).drew)
      have p4 : wc.drew.cell? ⟨q, 4, none⟩ = some v := PQ.out.c4
      have aa := (Below.refl wc.heap.size wc).alloc (Nat.le_refl _) (.cells #[.int .u8 6, .string (bs X)] 65)
      have p4a : (wc.alloc (.cells #[.int .u8 6, .string (bs X)] 65)).drew.cell? ⟨q, 4, none⟩ = some v := (PQ.out.later aa).c4
      have p4b : (wc.drew.alloc (.cells #[.int .u8 6, .string (bs X)] 65)).cell? ⟨q, 4, none⟩ = some v := (PQ.out.later aa).c4
      have OWa := Lib.hid (HT.out.later aa.drew)
      have HQ1 := Lib.hid (show q + 1 ≤ (wc.alloc (.cells #[.int .u8 6, .string (bs X)] 65)).drew.heap.size by have := PQ.out.lt; have := aa.size; show q + 1 ≤ (wc.alloc _).heap.size; omega)
      have AA := Lib.hid aa.drew
      clear aa
      go_region_law (first
        | (refine step_append_R rfl (.tmp 53) (.tmp 59) rfl (q + 1) _ ([] ++ prtL 5 r.mi) (by rfl) (by exact OWa.out) _ [(6, X)] (by rfl) (by first | exact TL.out | exact TLb.out) (by have h := prtL_len 5 r.mi; simp; omega) (by exact HQ1.out) ?_; intro v2 w5 hown2 hb5; obtain ⟨a5, k5, hv5, _⟩ := hown2.tls.shape; obtain ⟨n5, hn5⟩ : ∃ n, ([] ++ prtL 5 r.mi ++ [(6, X)] : List Th).length = n := ⟨_, rfl⟩; rw [hn5] at hv5; subst hv5; clear hn5; have P5 := Lib.hid ((PQ.out.later AA.out).below (Nat.lt_succ_self q) hb5); have m4 := P5.out.c4; have f4 := P5.out.fr 4))
      all_goals go_wp2_with fail
      all_goals go_meet
      all_goals exact ⟨rfl, Lib.hid ⟨_, P5.out.setv4G _, by rw [HPR.out]; exact hown2.set (Nat.lt_succ_self q) _⟩, Lib.hid ((RS.out.later AA.out).belowQ HQW.out hb5 _)⟩
    clear m0 m1 m2 m3 m4 m5 PQ HT RS hne HD
    obtain ⟨rfl, HV, RS⟩ := hcut
    obtain ⟨v, pq, ht⟩ := HV.out
    have PQ := Lib.hid pq
    have HT := Lib.hid ht
    clear HV pq ht
    obtain ⟨s2, c2, hv2, _⟩ := HT.out.tls.shape
    obtain ⟨n2, hn2⟩ : ∃ n, ([] ++ prtL 5 r.mi ++ prtL 6 r.mo : List Th).length = n := ⟨_, rfl⟩
    rw [hn2] at hv2
    subst hv2
    have k0 := PQ.out.c0
    have k1 := PQ.out.c1
    have k2 := PQ.out.c2
    have k3 := PQ.out.c3
    have k4 := PQ.out.c4
    have z0 := RS.out.z.c0
    have z1 := RS.out.z.c1
    have z2 := RS.out.z.c2
    have z3 := RS.out.z.c3
    have z4 := RS.out.z.c4
    have y0 := RS.out.z.fr 0
    have y1 := RS.out.z.fr 1
    have y2 := RS.out.z.fr 2
    have y3 := RS.out.z.fr 3
    have y4 := RS.out.z.fr 4
    clear hn2 PQ
    go_wp2_with fail
    refine bodyPost_ret (v := .tuple #[.agg #[.int .u8 r.lv, .int .u8 4, .int .u8 F, .string (bs Z), .slice s2 n2 c2], .int .i64 0]) (by simp [results, Try.results38, go_sem, z0, z1, z2, z3, z4]) rfl ⟨_, by rw [HRR.out, HF.out, HZF.out], by rw [HRR.out]; exact ((((((HT.out.set (by have := HQW.out; omega) _).set (by have := HQW.out; omega) _).set (by have := HQW.out; omega) _).set (by have := HQW.out; omega) _).set (by have := HQW.out; omega) _).mono (by have := HQW.out; omega)), below_set (below_set (below_set (below_set (below_set RS.out.bel (by omega) _) (by omega) _) (by omega) _) (by omega) _) (by omega) _⟩
end Go.Proofs.Ytcbbocdmmehphaa
