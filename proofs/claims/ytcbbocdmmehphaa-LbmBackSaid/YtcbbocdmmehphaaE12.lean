/- lbm: the walk of LbmBack. -/
import Derived.Test.YtcbbocdmmehphaaE11
set_option linter.unusedVariables false
namespace Go.Proofs.Ytcbbocdmmehphaa
open Go.RowKit

theorem LB.set1 {T : TypeId} {W : World} {q : Nat} {xlv : Int} {xrp : Bool} {xnm : Int} {xdt : List UInt8} (h : LB T W q xlv xrp xnm xdt) (d : Bool) : LB T (W.setCell ⟨q, 1, none⟩ (.bool d)) q xlv d xnm xdt := by
  unfold LB at *; simp [World.setCell, Array.getElem?_modify, h]
theorem LB.otherL {T : TypeId} {W : World} {q t o : Nat} {xlv : Int} {xrp : Bool} {xnm : Int} {xdt : List UInt8} (h : LB T W q xlv xrp xnm xdt) (ht : t ≠ q) (u : Value) : LB T (W.setCell ⟨t, o, none⟩ u) q xlv xrp xnm xdt := by
  unfold LB; rw [Below.heap_setCell _ _ _ _ (by intro e; simp at e; omega)]; exact h
/-- A row of things whose block lies in a range. -/
structure RowT (W : World) (v : Value) (l : List Th) (lo hi : Nat) : Prop where
  own : TlT W lo v l
  up : ∀ ad n c, v = .slice (some ad) n c → ad.block < hi
  le : lo ≤ hi
theorem RowT.new {W0 W : World} {v : Value} {l : List Th} (h : TlT W W0.heap.size v l) (hs : W0.heap.size ≤ W.heap.size) : RowT W v l W0.heap.size W.heap.size := by
  refine ⟨h, fun ad n c hv => ?_, hs⟩
  obtain ⟨h1, ⟨h2, _⟩ | ⟨g, cap, cur, h2, hB, hh, _⟩⟩ := h
  · rw [h2] at hv; cases hv
  · rw [h2] at hv
    injection hv with e1 e2 e3
    injection e1 with e1
    subst e1
    rcases Nat.lt_or_ge g W.heap.size with k | k
    · exact k
    · rw [Array.getElem?_eq_none k] at hh; cases hh
theorem RowT.blk {W W' : World} {v : Value} {l : List Th} {lo hi : Nat} (h : RowT W v l lo hi) (ho : ∀ g, lo ≤ g → g < hi → W'.heap[g]? = W.heap[g]?) : RowT W' v l lo hi := by
  refine ⟨?_, h.up, h.le⟩
  obtain ⟨h1, h2⟩ := h.own
  refine ⟨h1, ?_⟩
  rcases h2 with h2 | ⟨g, cap, cur, hv, hg, hh, r⟩
  · exact .inl h2
  · exact .inr ⟨g, cap, cur, hv, hg, by rw [ho g hg (h.up _ _ _ hv)]; exact hh, r⟩
theorem RowT.later {W W' : World} {v : Value} {l : List Th} {lo hi : Nat} (h : RowT W v l lo hi) (hs : hi ≤ W.heap.size) (hb : Below W.heap.size W W') : RowT W' v l lo hi := h.blk fun g _ hg => hb.block g (by omega)
theorem RowT.set {W : World} {v : Value} {l : List Th} {lo hi p o : Nat} (h : RowT W v l lo hi) (hp : p < lo ∨ hi ≤ p) (x : Value) : RowT (W.setCell ⟨p, o, none⟩ x) v l lo hi :=
  h.blk fun g h1 h2 => Below.heap_setCell _ _ _ _ (by intro e; simp at e; omega)
/-- Its first thing's value lies in a cell that is free. -/
theorem RowT.head {W : World} {ad : Option Addr} {n c : Nat} {l : List Th} {lo hi : Nat} (h : RowT W (.slice ad n c) l lo hi) (hl : 0 < l.length) : ∃ g s, ad = some ⟨g, 0, none⟩ ∧ lo ≤ g ∧ g < hi ∧ W.cell? ⟨g, 1, none⟩ = some (.string s) ∧ W.frozen? ⟨g, 1, none⟩ = false := by
  obtain ⟨h1, ⟨_, h2⟩ | ⟨g, cap, cur, h2, hB, hh, _, _, _, ht⟩⟩ := h.own
  · omega
  · injection h2 with e1 e2 e3
    have hg := h.up _ _ _ (by rw [e1])
    have hc := thV_get1 l 0 hl
    rw [← ht] at hc
    have hc1 : cur[1]? = some (.string (bs l[0].2)) := by
      rw [List.getElem?_take] at hc
      split at hc
      · simpa using hc
      · cases hc
    exact ⟨g, bs l[0].2, e1, hB, hg, by simp [World.cell?, hh, hc1], by simp [World.frozen?, hh]⟩
theorem RowT.drew {W : World} {v : Value} {l : List Th} {lo hi : Nat} (h : RowT W v l lo hi) : RowT W.drew v l lo hi := h.blk fun _ _ _ => rfl
/-- Two messages side by side: their ten cells. -/
theorem PB.tenB {T U : TypeId} {W : World} {q r : Nat} {a b c a' b' c' : Int} {f f' : List UInt8} {v v' : Value} (h : PB T W q a b c f v) (k : PB U W r a' b' c' f' v') :
    W.cell? ⟨q, 0, none⟩ = some (.int .u8 a) ∧ W.cell? ⟨q, 1, none⟩ = some (.int .u8 b) ∧ W.cell? ⟨q, 2, none⟩ = some (.int .u8 c) ∧ W.cell? ⟨q, 3, none⟩ = some (.string (bs f)) ∧ W.cell? ⟨q, 4, none⟩ = some v ∧
    W.cell? ⟨r, 0, none⟩ = some (.int .u8 a') ∧ W.cell? ⟨r, 1, none⟩ = some (.int .u8 b') ∧ W.cell? ⟨r, 2, none⟩ = some (.int .u8 c') ∧ W.cell? ⟨r, 3, none⟩ = some (.string (bs f')) ∧ W.cell? ⟨r, 4, none⟩ = some v' :=
  ⟨h.c0, h.c1, h.c2, h.c3, h.c4, k.c0, k.c1, k.c2, k.c3, k.c4⟩
theorem cell_else (W : World) {q p : Nat} (h : p ≠ q) (o o' : Nat) (v : Value) : (W.setCell ⟨q, o, none⟩ v).cell? ⟨p, o', none⟩ = W.cell? ⟨p, o', none⟩ := by
  refine World.cell?_setCell_other _ _ _ _ ?_
  intro e
  injection e with e1
  exact h e1.symm
set_option maxRecDepth 100000 in
set_option maxHeartbeats 8000000 in
theorem LbmBack_walk (xlv : Int) (xrp : Bool) (xnm : Int) (xdt : List UInt8) (a b c : Int) (f : List UInt8) (v : Value) (l : List Th) (t : ByteArray) (w : World) (hX : LpA xlv xnm xdt) (hA : PdA w a b c f v l) (ht : t.size ≤ maxLen) : Calls Try.prog 8 #[.agg #[.int .u8 xlv, .bool xrp, .int .u32 xnm, .string (bs xdt)], .agg #[.int .u8 a, .int .u8 b, .int .u8 c, .string (bs f), v], .string t] w fun en w' => en = .returned (.bool true) ∧ Below w.heap.size w w' := by
  obtain ⟨s, rfl⟩ : ∃ l, t = bs l := ⟨_, bs_of t⟩
  rw [bs_size] at ht
  obtain ⟨x1, x2, x3⟩ := hX
  obtain ⟨ha, hb, hc, hf, hv, hl, hs⟩ := hA
  have WK := Lib.hid wakes14_any
  have hsm := bs_size xdt
  have hsf := bs_size f
  have hss := bs_size s
  obtain ⟨ad, cp, rfl, _⟩ := hv.shape
  obtain ⟨N, hN⟩ : ∃ N, l.length = N := ⟨_, rfl⟩
  rw [hN] at hl hv ⊢
  have HV := Lib.hid hv
  clear hv
  go_enter Try.func8, Try.ntmps8
  go_upto_region 1 with fail
  have pb := PB.new 24 (w.alloc (.cells #[.int .u8 xlv, .bool xrp, .int .u32 xnm, .string (bs xdt)] 54)) a b c f (.slice ad N cp)
  have cb := (LB.new 54 w xlv xrp xnm xdt).later ((Below.refl _ _).alloc (Nat.le_refl _) (.cells #[.int .u8 a, .int .u8 b, .int .u8 c, .string (bs f), .slice ad N cp] 24))
  have hb0 : Below w.heap.size w ((w.alloc (.cells #[.int .u8 xlv, .bool xrp, .int .u32 xnm, .string (bs xdt)] 54)).alloc (.cells #[.int .u8 a, .int .u8 b, .int .u8 c, .string (bs f), .slice ad N cp] 24)) := ((Below.refl _ _).alloc (Nat.le_refl _) _).alloc (by simp) _
  rw [show (w.alloc (.cells #[.int .u8 xlv, .bool xrp, .int .u32 xnm, .string (bs xdt)] 54)).heap.size = w.heap.size + 1 by simp] at pb
  obtain ⟨w0, hw0⟩ : ∃ k, (w.alloc (.cells #[.int .u8 xlv, .bool xrp, .int .u32 xnm, .string (bs xdt)] 54)).alloc (.cells #[.int .u8 a, .int .u8 b, .int .u8 c, .string (bs f), .slice ad N cp] 24) = k := ⟨_, rfl⟩
  rw [hw0] at pb cb hb0 ⊢
  have c0 := cb.c0
  have c1 := cb.c1
  have c2 := cb.c2
  have c3 := cb.c3
  have p3 := pb.c3
  have p4 := pb.c4
  have CB0 := Lib.hid cb
  have PB0 := Lib.hid pb
  have HB0 := Lib.hid hb0
  clear hw0 pb cb hb0
  by_cases g0 : 300 < xdt.length
  · have d0 : decide ((300 : Int) < (xdt.length : Int)) = true := decide_eq_true (by omega)
    go_wp2_with fail
    with_reducible refine (WK.out _).mono ?_
    rintro en w1 ⟨rfl, hb⟩
    go_wp2
    go_ret
    exact ⟨rfl, HB0.out.trans (hb.mono HB0.out.size)⟩
  have d0 : decide ((300 : Int) < (xdt.length : Int)) = false := decide_eq_false (by omega)
  by_cases g1 : 400 < f.length
  · have d1 : decide ((400 : Int) < (f.length : Int)) = true := decide_eq_true (by omega)
    go_wp2_with fail
    with_reducible refine (WK.out _).mono ?_
    rintro en w1 ⟨rfl, hb⟩
    go_wp2
    go_ret
    exact ⟨rfl, HB0.out.trans (hb.mono HB0.out.size)⟩
  have d1 : decide ((400 : Int) < (f.length : Int)) = false := decide_eq_false (by omega)
  by_cases g2 : 20 < N
  · have d2 : decide ((20 : Int) < (N : Int)) = true := decide_eq_true (by omega)
    go_wp2_with fail
    with_reducible refine (WK.out _).mono ?_
    rintro en w1 ⟨rfl, hb⟩
    go_wp2
    go_ret
    exact ⟨rfl, HB0.out.trans (hb.mono HB0.out.size)⟩
  have d2 : decide ((20 : Int) < (N : Int)) = false := decide_eq_false (by omega)
  by_cases g3 : 1000 < s.length
  · have d3 : decide ((1000 : Int) < (s.length : Int)) = true := decide_eq_true (by omega)
    go_wp2_with fail
    with_reducible refine (WK.out _).mono ?_
    rintro en w1 ⟨rfl, hb⟩
    go_wp2
    go_ret
    exact ⟨rfl, HB0.out.trans (hb.mono HB0.out.size)⟩
  have d3 : decide ((1000 : Int) < (s.length : Int)) = false := decide_eq_false (by omega)
  obtain ⟨A, B, F, L, e, hP⟩ : ∃ A B F L e, putL xlv xrp xnm xdt = (A, B, F, L, e) := ⟨_, _, _, _, _, rfl⟩
  have OK1 := Lib.hid (putL_ok x1.1 x2 hP)
  have P1 : Hid (∀ w, Calls Try.prog 27 #[.agg #[.int .u8 xlv, .bool xrp, .int .u32 xnm, .string (bs xdt)]] w fun en w' => ∃ v', en = .returned (.tuple #[.agg #[.int .u8 A, .int .u8 B, .int .u8 0, .string (bs F), v'], .int .i64 e]) ∧ TlT w' w.heap.size v' L ∧ Below w.heap.size w w') := fun w => by
    have h := lbput_any xlv xrp xnm xdt w (by omega) x2
    rw [hP] at h; exact h
  have O1 : Hid (∀ w, Tls w (.slice ad N cp) l → Calls Try.prog 18 #[.agg #[.int .u8 a, .int .u8 b, .int .u8 c, .string (bs f), .slice ad N cp]] w fun en w' => ∃ v', en = .returned (.agg #[.int .u8 a, .int .u8 b, .int .u8 c, .string (bs f), v']) ∧ TlT w' w.heap.size v' l ∧ Below w.heap.size w w') := fun w h => of12_any _ a b c f l w h (by omega)
  have N1 : Hid (∀ ad' cp' w, Tls w (.slice ad' N cp') l → Calls Try.prog 32 #[.agg #[.int .u8 a, .int .u8 b, .int .u8 c, .string (bs f), .slice ad' N cp']] w fun en w' => ∃ v', en = .returned (.tuple #[.agg #[.int .u8 (ansL a b c f l).1, .int .u8 (ansL a b c f l).2.1, .int .u8 (ansL a b c f l).2.2.1, .string (bs (ansL a b c f l).2.2.2.1), v'], .int .i64 (ansL a b c f l).2.2.2.2.2]) ∧ TlT w' w.heap.size v' (ansL a b c f l).2.2.2.2.1 ∧ Below w.heap.size w w') := fun ad' cp' w h => lbanswer_any _ l a b c f w (by omega) hb h (by omega)
  have HL20 := Lib.hid (show l.length ≤ 100000 by omega)
  have HN := Lib.hid hN
  have HS := Lib.hid g3
  clear hP hN g0 g1 g2 g3 ha hb hc hf hl hs x1 x2 x3 ht
  go_wp2_with fail
  with_reducible refine (P1.out _).mono ?_
  rintro en w1 ⟨v1, rfl, ho1, hb1⟩
  have HB1 := Lib.hid (HB0.out.trans (hb1.mono HB0.out.size))
  have CB1 := Lib.hid (CB0.out.later hb1)
  have PB1 := Lib.hid (PB0.out.later hb1)
  have ht1 := ho1.tls
  obtain ⟨s1, k1, hs1, -⟩ := ho1.tls.shape
  obtain ⟨M, hM⟩ : ∃ M, L.length = M := ⟨_, rfl⟩
  rw [hM] at hs1
  subst hs1
  have HT1 := Lib.hid ht1
  clear hb1 ho1 ht1 CB0 PB0 HB0 c0 c1 c2 c3 p3 p4
  go_upto_region 4 with fail
  have pm := PB.new 32 w1 A B 0 F (.slice s1 M k1)
  have aa := (Below.refl w1.heap.size w1).alloc (Nat.le_refl _) (.cells #[.int .u8 A, .int .u8 B, .int .u8 0, .string (bs F), .slice s1 M k1] 32)
  obtain ⟨q, hq⟩ : ∃ k, w1.heap.size = k := ⟨_, rfl⟩
  obtain ⟨w2, hw2⟩ : ∃ k, w1.alloc (.cells #[.int .u8 A, .int .u8 B, .int .u8 0, .string (bs F), .slice s1 M k1] 32) = k := ⟨_, rfl⟩
  rw [hw2] at pm aa ⊢
  have HB2 := Lib.hid (HB1.out.trans (aa.mono HB1.out.size))
  have CB2 := Lib.hid (CB1.out.later aa)
  have PB2 := Lib.hid (PB1.out.later aa)
  have HT2 := Lib.hid (HT1.out.later aa)
  rw [hq] at pm ⊢
  have PM2 := Lib.hid pm
  have HQ := Lib.hid (show w.heap.size < q by have := CB1.out.lt; omega)
  clear pm aa hw2 hq CB1 PB1 HB1 HT1
  go_upto_if 50 with fail
  go_cut [6] (fun s6 wx => s6 = .bool false ∧ Hid (PB 24 wx (w.heap.size + 1) a b c f (.slice ad N cp)) ∧ Hid (Below w.heap.size w wx))
  case first =>
    rcases OK1.out with he | ⟨he, k1', k2, k3, k4, k5, ⟨X, k6, k7, k8⟩, k9, ka, kb⟩
    · have de : (e == 0) = false := by rw [beq_eq_false_iff_ne]; exact he
      clear he OK1
      go_wp2_with fail
      go_meet
      exact ⟨rfl, PB2, HB2⟩
    have de : (e == 0) = true := by rw [he]; rfl
    have hL5 : ∀ x ∈ L, x.2.length ≤ maxLen := fun x hx => Nat.le_trans (k5 x hx) (by decide)
    have U1 : Hid (∀ w, Tls w (.slice s1 M k1) L → Calls Try.prog 17 #[.agg #[.int .u8 A, .int .u8 B, .int .u8 0, .string (bs F), .slice s1 M k1]] w fun en w' => en = .returned (.tuple #[.string (bs X), .int .i64 0]) ∧ Below w.heap.size w w') := fun w h => by
      have hm : (putT L).1.length ≤ 1000000000 := by
        have hok : ∀ x ∈ L, x.2.length ≤ 64 := k5
        have := putT_small L k4 k5
        omega
      have h := cput_any (.slice s1 M k1) A B 0 F L w h (by omega) hL5 (by omega) hm k1' k2 (by decide)
      rw [k6] at h; exact h
    have ad1 := run_add_bs X s (by have := HS.out; omega)
    have U2 : Hid (∀ w, Calls Try.prog 20 #[.string (bs (X ++ s))] w fun en w' => ∃ v', en = .returned (.tuple #[.agg #[.int .u8 A, .int .u8 B, .int .u8 0, .string (bs F), v'], .int .i64 0]) ∧ TlT w' w.heap.size v' L ∧ Below w.heap.size w w') := fun w => by
      have h := ctake_any (X ++ s) w (by have := HS.out; simp; omega)
      rw [k8 s] at h; exact h
    have U3 : Hid (∀ ad' cp' w, Tls w (.slice ad' M cp') L → Calls Try.prog 30 #[.agg #[.int .u8 A, .int .u8 B, .int .u8 0, .string (bs F), .slice ad' M cp']] w fun en w' => en = .returned (.tuple #[.agg #[.int .u8 xlv, .bool xrp, .int .u32 xnm, .string (bs xdt)], .int .i64 0]) ∧ Below w.heap.size w w') := fun ad' cp' w h => by
      have h := lbtake_any (.slice ad' M cp') L A B 0 F w (by omega) k2 h (by omega)
      rw [k9] at h; exact h
    obtain ⟨A2, B2, C2, F2, L2, i2, hA2⟩ : ∃ A2 B2 C2 F2 L2 i2, ansL A B 0 F L = (A2, B2, C2, F2, L2, i2) := ⟨_, _, _, _, _, _, rfl⟩
    obtain ⟨ylv, yrp, ynm, ydt, j2, hY⟩ : ∃ ylv yrp ynm ydt j2, tkL A2 B2 F2 L2 = (ylv, yrp, ynm, ydt, j2) := ⟨_, _, _, _, _, rfl⟩
    have HH : Hid (((xrp = false ∧ i2 = 0 ∧ j2 = 0 ∧ ylv = xlv ∧ yrp = true ∧ ynm = xnm ∧ ydt = xdt) ∨ (xrp = true ∧ i2 = 4)) ∧ (0 ≤ B2 ∧ B2 < 256) ∧ F2.length ≤ 1000 ∧ L2.length ≤ 1000) := by
      rw [hA2] at ka
      show _ ∧ _
      cases xrp with
      | false =>
        rw [if_neg (by decide)] at ka
        simp only [Prod.mk.injEq] at ka
        obtain ⟨rfl, rfl, rfl, rfl, rfl, rfl⟩ := ka
        rw [kb] at hY
        simp only [Prod.mk.injEq] at hY
        obtain ⟨rfl, rfl, rfl, rfl, rfl⟩ := hY
        exact ⟨Or.inl ⟨rfl, rfl, rfl, rfl, rfl, rfl, rfl⟩, by decide, by omega, by omega⟩
      | true =>
        rw [if_pos rfl] at ka
        simp only [Prod.mk.injEq] at ka
        obtain ⟨rfl, rfl, rfl, rfl, rfl, rfl⟩ := ka
        exact ⟨Or.inr ⟨rfl, rfl⟩, by decide, by decide, by decide⟩
    have U4 : Hid (∀ ad' cp' w, Tls w (.slice ad' M cp') L → Calls Try.prog 32 #[.agg #[.int .u8 A, .int .u8 B, .int .u8 0, .string (bs F), .slice ad' M cp']] w fun en w' => ∃ v', en = .returned (.tuple #[.agg #[.int .u8 A2, .int .u8 B2, .int .u8 C2, .string (bs F2), v'], .int .i64 i2]) ∧ TlT w' w.heap.size v' L2 ∧ Below w.heap.size w w') := fun ad' cp' w h => by
      have h := lbanswer_any (.slice ad' M cp') L A B 0 F w (by omega) k2 h (by omega)
      rw [hA2] at h; exact h
    have U5 : Hid (∀ v w, Tls w v L2 → Calls Try.prog 30 #[.agg #[.int .u8 A2, .int .u8 B2, .int .u8 C2, .string (bs F2), v]] w fun en w' => en = .returned (.tuple #[.agg #[.int .u8 ylv, .bool yrp, .int .u32 ynm, .string (bs ydt)], .int .i64 j2]) ∧ Below w.heap.size w w') := fun v w h => by
      have h := lbtake_any v L2 A2 B2 C2 F2 w HH.out.2.2.1 HH.out.2.1 h HH.out.2.2.2
      rw [hY] at h; exact h
    have neC : ∀ w : World, (binOp .neq 54 (.agg #[.int .u8 xlv, .bool xrp, .int .u32 xnm, .string (bs xdt)]) (.agg #[.int .u8 xlv, .bool xrp, .int .u32 xnm, .string (bs xdt)])).run Try.prog w = .ok (.bool false) w := run_neq_loop xlv xrp xnm xdt
    have hg := eqGuard_lp
    have hsX := bs_size X
    have m0 := PM2.out.c0
    have m1 := PM2.out.c1
    have m2 := PM2.out.c2
    have m3 := PM2.out.c3
    have m4 := PM2.out.c4
    clear he k1' k2 k3 k4 k5 k6 k7 k8 k9 ka kb hL5 OK1 P1 O1 N1 hA2 hY
    go_wp2_with fail
    with_reducible refine (U1.out _ HT2.out).mono ?_
    rintro en w3 ⟨rfl, hb3⟩
    have HB3 := Lib.hid (HB2.out.trans (hb3.mono HB2.out.size))
    have CB3 := Lib.hid (CB2.out.later hb3)
    have PB3 := Lib.hid (PB2.out.later hb3)
    clear hb3 HB2 CB2 PB2 PM2 HT2 m0 m1 m2 m3 m4
    go_wp2_with fail
    with_reducible refine (U2.out _).mono ?_
    rintro en w4 ⟨v4, rfl, ho4, hb4⟩
    have HB4 := Lib.hid (HB3.out.trans (hb4.mono HB3.out.size))
    have CB4 := Lib.hid (CB3.out.later hb4)
    have PB4 := Lib.hid (PB3.out.later hb4)
    have ht4 := ho4.tls
    obtain ⟨ad4, cp4, hv4, _⟩ := ho4.tls.shape
    rw [hM] at hv4
    subst hv4
    have HT4 := Lib.hid ht4
    clear hb4 ho4 ht4 HB3 CB3 PB3
    go_upto_region 7 with fail
    have pn := PB.new 32 w4 A B 0 F (.slice ad4 M cp4)
    have aa := (Below.refl w4.heap.size w4).alloc (Nat.le_refl _) (.cells #[.int .u8 A, .int .u8 B, .int .u8 0, .string (bs F), .slice ad4 M cp4] 32)
    obtain ⟨r, hr⟩ : ∃ k, w4.heap.size = k := ⟨_, rfl⟩
    obtain ⟨w5, hw5⟩ : ∃ k, w4.alloc (.cells #[.int .u8 A, .int .u8 B, .int .u8 0, .string (bs F), .slice ad4 M cp4] 32) = k := ⟨_, rfl⟩
    rw [hw5] at pn aa ⊢
    have HB5 := Lib.hid (HB4.out.trans (aa.mono HB4.out.size))
    have CB5 := Lib.hid (CB4.out.later aa)
    have PB5 := Lib.hid (PB4.out.later aa)
    have HT5 := Lib.hid (HT4.out.later aa)
    rw [hr] at pn ⊢
    have PN5 := Lib.hid pn
    have n0 := pn.c0
    have n1 := pn.c1
    have n2 := pn.c2
    have n3 := pn.c3
    have n4 := pn.c4
    clear pn aa hw5 hr HB4 CB4 PB4 HT4
    go_wp2_with fail
    with_reducible refine (U3.out _ _ _ HT5.out).mono ?_
    rintro en w6 ⟨rfl, hb6⟩
    have HB6 := Lib.hid (HB5.out.trans (hb6.mono HB5.out.size))
    have CB6 := Lib.hid (CB5.out.later hb6)
    have PB6 := Lib.hid (PB5.out.later hb6)
    have PN6 := Lib.hid (PN5.out.later hb6)
    have HT6 := Lib.hid (HT5.out.later hb6)
    clear hb6 HB5 CB5 PB5 PN5 HT5 n0 n1 n2 n3 n4
    go_upto_region 8 with fail
    have cn := LB.new 54 w6 xlv xrp xnm xdt
    have aa := (Below.refl w6.heap.size w6).alloc (Nat.le_refl _) (.cells #[.int .u8 xlv, .bool xrp, .int .u32 xnm, .string (bs xdt)] 54)
    obtain ⟨u, hu⟩ : ∃ k, w6.heap.size = k := ⟨_, rfl⟩
    obtain ⟨w7, hw7⟩ : ∃ k, w6.alloc (.cells #[.int .u8 xlv, .bool xrp, .int .u32 xnm, .string (bs xdt)] 54) = k := ⟨_, rfl⟩
    rw [hw7] at cn aa ⊢
    have HB7 := Lib.hid (HB6.out.trans (aa.mono HB6.out.size))
    have CB7 := Lib.hid (CB6.out.later aa)
    have PB7 := Lib.hid (PB6.out.later aa)
    have PN7 := Lib.hid (PN6.out.later aa)
    have HT7 := Lib.hid (HT6.out.later aa)
    rw [hu] at cn ⊢
    have CN7 := Lib.hid cn
    have HU := Lib.hid (show w.heap.size < u by have := CB6.out.lt; omega)
    have n0 := PN7.out.c0
    have n1 := PN7.out.c1
    have n2 := PN7.out.c2
    have n3 := PN7.out.c3
    have n4 := PN7.out.c4
    clear cn aa hw7 hu HB6 CB6 PB6 PN6 HT6
    go_wp2_with fail
    with_reducible refine (U4.out _ _ _ HT7.out).mono ?_
    rintro en w8 ⟨v8, rfl, ho8, hb8⟩
    have HB8 := Lib.hid (HB7.out.trans (hb8.mono HB7.out.size))
    have CB8 := Lib.hid (CB7.out.later hb8)
    have PB8 := Lib.hid (PB7.out.later hb8)
    have CN8 := Lib.hid (CN7.out.later hb8)
    have ht8 := ho8.tls
    obtain ⟨ad8, cp8, hv8, _⟩ := ho8.tls.shape
    obtain ⟨M2, hM2⟩ : ∃ M, L2.length = M := ⟨_, rfl⟩
    rw [hM2] at hv8
    subst hv8
    have HT8 := Lib.hid ht8
    clear hb8 ho8 ht8 HB7 CB7 PB7 PN7 CN7 HT7 n0 n1 n2 n3 n4
    go_upto_region 9 with fail
    have pn := PB.new 32 w8 A2 B2 C2 F2 (.slice ad8 M2 cp8)
    have aa := (Below.refl w8.heap.size w8).alloc (Nat.le_refl _) (.cells #[.int .u8 A2, .int .u8 B2, .int .u8 C2, .string (bs F2), .slice ad8 M2 cp8] 32)
    obtain ⟨g, hgg⟩ : ∃ k, w8.heap.size = k := ⟨_, rfl⟩
    obtain ⟨w9, hw9⟩ : ∃ k, w8.alloc (.cells #[.int .u8 A2, .int .u8 B2, .int .u8 C2, .string (bs F2), .slice ad8 M2 cp8] 32) = k := ⟨_, rfl⟩
    rw [hw9] at pn aa ⊢
    have HB9 := Lib.hid (HB8.out.trans (aa.mono HB8.out.size))
    have CB9 := Lib.hid (CB8.out.later aa)
    have PB9 := Lib.hid (PB8.out.later aa)
    have CN9 := Lib.hid (CN8.out.later aa)
    have HT9 := Lib.hid (HT8.out.later aa)
    rw [hgg] at pn ⊢
    have n0 := pn.c0
    have n1 := pn.c1
    have n2 := pn.c2
    have n3 := pn.c3
    have n4 := pn.c4
    clear pn aa hw9 hgg HB8 CB8 PB8 CN8 HT8
    go_wp2_with fail
    with_reducible refine (U5.out _ _ HT9.out).mono ?_
    rintro en wa ⟨rfl, hba⟩
    have HBa := Lib.hid (HB9.out.trans (hba.mono HB9.out.size))
    have CBa := Lib.hid (CB9.out.later hba)
    have PBa := Lib.hid (PB9.out.later hba)
    have CNa := Lib.hid (CN9.out.later hba)
    clear hba HB9 CB9 PB9 CN9 HT9 n0 n1 n2 n3 n4
    go_upto_region 10 with fail
    have cn := LB.new 54 wa ylv yrp ynm ydt
    have aa := (Below.refl wa.heap.size wa).alloc (Nat.le_refl _) (.cells #[.int .u8 ylv, .bool yrp, .int .u32 ynm, .string (bs ydt)] 54)
    obtain ⟨z, hz⟩ : ∃ k, wa.heap.size = k := ⟨_, rfl⟩
    obtain ⟨wb, hwb⟩ : ∃ k, wa.alloc (.cells #[.int .u8 ylv, .bool yrp, .int .u32 ynm, .string (bs ydt)] 54) = k := ⟨_, rfl⟩
    rw [hwb] at cn aa ⊢
    have HBb := Lib.hid (HBa.out.trans (aa.mono HBa.out.size))
    have CBb := Lib.hid (CBa.out.later aa)
    have PBb := Lib.hid (PBa.out.later aa)
    have CNb := Lib.hid (CNa.out.later aa)
    rw [hz] at cn ⊢
    have CZb := Lib.hid cn
    have HZ := Lib.hid (show w.heap.size < z by have := CBa.out.lt; omega)
    have c0 := CBb.out.c0
    have c1 := CBb.out.c1
    have c2 := CBb.out.c2
    have c3 := CBb.out.c3
    have r1 := CBb.out.fr 1
    have n0 := CNb.out.c0
    have n1 := CNb.out.c1
    have n2 := CNb.out.c2
    have n3 := CNb.out.c3
    clear cn aa hwb hz HBa CBa PBa CNa
    rcases HH.out.1 with ⟨rfl, rfl, rfl, rfl, rfl, rfl, rfl⟩ | ⟨rfl, rfl⟩
    · have neD : ∀ w : World, (binOp .neq 54 (.agg #[.int .u8 ylv, .bool true, .int .u32 ynm, .string (bs ydt)]) (.agg #[.int .u8 ylv, .bool true, .int .u32 ynm, .string (bs ydt)])).run Try.prog w = .ok (.bool false) w := run_neq_loop ylv true ynm ydt
      go_upto_region 12 with fail
      clear c0 c1 c2 c3 n0 n1 n2 n3
      have c1 := CBb.out.c1
      go_upto_region 13 with fail
      have cs := CBb.out.set1 true
      have hz1 : LB 54 (wb.setCell ⟨w.heap.size, 1, none⟩ (.bool true)) z ylv true ynm ydt := CZb.out.otherL (by have := HZ.out; omega) _
      have pbs : PB 24 (wb.setCell ⟨w.heap.size, 1, none⟩ (.bool true)) (w.heap.size + 1) a b c f (.slice ad N cp) := PBb.out.other (by omega) _
      have hbs : Below w.heap.size w (wb.setCell ⟨w.heap.size, 1, none⟩ (.bool true)) := below_set HBb.out (by omega) _
      obtain ⟨wd, hwd⟩ : ∃ k, wb.setCell ⟨w.heap.size, 1, none⟩ (.bool true) = k := ⟨_, rfl⟩
      rw [hwd] at cs hz1 pbs hbs ⊢
      have PBd := Lib.hid pbs
      have HBd := Lib.hid hbs
      have e0 := cs.c0
      have e1 := cs.c1
      have e2 := cs.c2
      have e3 := cs.c3
      have n0 := hz1.c0
      have n1 := hz1.c1
      have n2 := hz1.c2
      have n3 := hz1.c3
      clear cs hz1 pbs hbs hwd c1 r1 HBb CBb PBb CNb CZb
      go_wp2_with fail
      go_meet
      exact ⟨rfl, PBd, HBd⟩
    · go_upto_region 12 with fail
      clear c0 c1 c2 c3 n0 n1 n2 n3
      have c1 := CBb.out.c1
      go_upto_region 13 with fail
      have pbs : PB 24 (wb.setCell ⟨w.heap.size, 1, none⟩ (.bool true)) (w.heap.size + 1) a b c f (.slice ad N cp) := PBb.out.other (by omega) _
      have hbs : Below w.heap.size w (wb.setCell ⟨w.heap.size, 1, none⟩ (.bool true)) := below_set HBb.out (by omega) _
      obtain ⟨wd, hwd⟩ : ∃ k, wb.setCell ⟨w.heap.size, 1, none⟩ (.bool true) = k := ⟨_, rfl⟩
      rw [hwd] at pbs hbs ⊢
      have PBd := Lib.hid pbs
      have HBd := Lib.hid hbs
      clear pbs hbs hwd c1 r1 HBb CBb PBb CNb CZb
      go_wp2_with fail
      go_meet
      exact ⟨rfl, PBd, HBd⟩
  case rest =>
    obtain ⟨rfl, PB3, HB3⟩ := hcut
    have HHB := Lib.hid (show w.heap.size + 1 < wc.heap.size from PB3.out.lt)
    have p0 := PB3.out.c0
    have p1 := PB3.out.c1
    have p2 := PB3.out.c2
    have p3 := PB3.out.c3
    have p4 := PB3.out.c4
    have hb03 := HV.out.later HB3.out
    clear P1 OK1 PB2 HB2 CB2 PM2 HT2
    go_wp2_with fail
    with_reducible refine (O1.out _ hb03).mono ?_
    rintro en w4 ⟨v4, rfl, ho4, hb4⟩
    have HB4 := Lib.hid (HB3.out.trans (hb4.mono HB3.out.size))
    have PB4 := Lib.hid (PB3.out.later hb4)
    have HR4 := Lib.hid (RowT.new ho4 hb4.size)
    have HT4 := Lib.hid ho4.tls
    obtain ⟨ad4, cp4, hv4, _⟩ := ho4.tls.shape
    rw [HN.out] at hv4
    subst hv4
    clear hb4 ho4 PB3 HB3 hb03 p0 p1 p2 p3 p4
    go_upto_region 16 with fail
    have pn := PB.new 32 w4 a b c f (.slice ad4 N cp4)
    have aa := (Below.refl w4.heap.size w4).alloc (Nat.le_refl _) (.cells #[.int .u8 a, .int .u8 b, .int .u8 c, .string (bs f), .slice ad4 N cp4] 32)
    obtain ⟨h, hh⟩ : ∃ k, w4.heap.size = k := ⟨_, rfl⟩
    obtain ⟨w5, hw5⟩ : ∃ k, w4.alloc (.cells #[.int .u8 a, .int .u8 b, .int .u8 c, .string (bs f), .slice ad4 N cp4] 32) = k := ⟨_, rfl⟩
    rw [hw5] at pn aa ⊢
    have HB5 := Lib.hid (HB4.out.trans (aa.mono HB4.out.size))
    have PB5 := Lib.hid (PB4.out.later aa)
    have HR5 := Lib.hid (HR4.out.later (Nat.le_refl _) aa)
    have HT5 := Lib.hid (HT4.out.later aa)
    rw [hh] at pn HR5 ⊢
    have PH5 := Lib.hid pn
    have HLO := Lib.hid (show wc.heap.size ≤ h by rw [← hh]; exact HR4.out.le)
    have n0 := pn.c0
    have n1 := pn.c1
    have n2 := pn.c2
    have n3 := pn.c3
    have n4 := pn.c4
    clear pn aa hw5 hh HB4 PB4 HR4 HT4
    rcases @ansL_ok a b c f l with hz | ⟨hz, hb3⟩
    · rw [hz] at N1
      have N2 : Hid (∀ ad' cp' w, Tls w (.slice ad' N cp') l → Calls Try.prog 32 #[.agg #[.int .u8 a, .int .u8 b, .int .u8 c, .string (bs f), .slice ad' N cp']] w fun en w' => ∃ v', en = .returned (.tuple #[.agg #[.int .u8 0, .int .u8 0, .int .u8 0, .string { data := #[] }, v'], .int .i64 4]) ∧ TlT w' w.heap.size v' [] ∧ Below w.heap.size w w') := N1
      have S2 : Hid (∀ u v w, Tls w u [] → Tls w v [] → Calls Try.prog 21 #[.agg #[.int .u8 0, .int .u8 0, .int .u8 0, .string { data := #[] }, u], .agg #[.int .u8 0, .int .u8 0, .int .u8 0, .string { data := #[] }, v]] w fun en w' => en = .returned (.bool true) ∧ Below w.heap.size w w') := fun u v w hu hv => by
        have h := same12_any u v 0 0 0 0 0 0 [] [] [] [] w hu hv (by decide) (by decide)
        rw [decide_eq_true ⟨rfl, rfl, rfl, rfl, rfl⟩] at h; exact h
      clear N1 hz
      go_wp2_with fail
      with_reducible refine (N2.out _ _ _ HT5.out).mono ?_
      rintro en w6 ⟨v6, rfl, ho6, hb6⟩
      have HB6 := Lib.hid (HB5.out.trans (hb6.mono HB5.out.size))
      obtain ⟨ad6, cp6, hv6, _⟩ := ho6.tls.shape
      simp only [List.length_nil] at hv6
      subst hv6
      have HT6 : Hid (Tls w6 (.slice ad6 0 cp6) []) := Lib.hid ho6.tls
      clear hb6 ho6 HB5 PB5 HR5 HT5 PH5 n0 n1 n2 n3 n4
      go_upto_region 17 with fail
      have pn := PB.new 32 w6 0 0 0 [] (.slice ad6 0 cp6)
      have aa := (Below.refl w6.heap.size w6).alloc (Nat.le_refl _) (.cells #[.int .u8 0, .int .u8 0, .int .u8 0, .string { data := #[] }, .slice ad6 0 cp6] 32)
      obtain ⟨k, hk⟩ : ∃ k, w6.heap.size = k := ⟨_, rfl⟩
      obtain ⟨w7, hw7⟩ : ∃ k, w6.alloc (.cells #[.int .u8 0, .int .u8 0, .int .u8 0, .string { data := #[] }, .slice ad6 0 cp6] 32) = k := ⟨_, rfl⟩
      have pn7 : PB 32 w7 k 0 0 0 [] (.slice ad6 0 cp6) := by rw [← hw7, ← hk]; exact pn
      rw [hw7] at aa ⊢
      rw [hk]
      have HB7 := Lib.hid (HB6.out.trans (aa.mono HB6.out.size))
      have HT7 := Lib.hid (HT6.out.later aa)
      have HTn : Hid (Tls w7 (.slice none 0 0) []) := Lib.hid (Tls.nil _)
      have n0 := pn7.c0
      have n1 := pn7.c1
      have n2 := pn7.c2
      have n3 : w7.cell? ⟨k, 3, none⟩ = some (.string { data := #[] }) := pn7.c3
      have n4 := pn7.c4
      clear pn pn7 aa hw7 hk HB6 HT6
      go_wp2_with fail
      with_reducible refine (S2.out _ _ _ HT7.out HTn.out).mono ?_
      rintro en w8 ⟨rfl, hb8⟩
      have HB8 := Lib.hid (HB7.out.trans (hb8.mono HB7.out.size))
      clear hb8 HT7 HTn HB7
      go_wp2_with fail
      with_reducible refine (WK.out _).mono ?_
      rintro en w9 ⟨rfl, hb9⟩
      go_wp2
      go_ret
      exact ⟨rfl, HB8.out.trans (hb9.mono HB8.out.size)⟩
    rw [hz] at N1
    have N2 : Hid (∀ ad' cp' w, Tls w (.slice ad' N cp') l → Calls Try.prog 32 #[.agg #[.int .u8 a, .int .u8 b, .int .u8 c, .string (bs f), .slice ad' N cp']] w fun en w' => ∃ v', en = .returned (.tuple #[.agg #[.int .u8 a, .int .u8 2, .int .u8 c, .string (bs f), v'], .int .i64 0]) ∧ TlT w' w.heap.size v' l ∧ Below w.heap.size w w') := N1
    clear N1 hz
    subst hb3
    go_wp2_with fail
    with_reducible refine (N2.out _ _ _ HT5.out).mono ?_
    rintro en w6 ⟨v6, rfl, ho6, hb6⟩
    have HB6 := Lib.hid (HB5.out.trans (hb6.mono HB5.out.size))
    have PB6 := Lib.hid (PB5.out.later hb6)
    have HR6 := Lib.hid (HR5.out.later (Nat.le_of_lt PH5.out.lt) hb6)
    have PH6 := Lib.hid (PH5.out.later hb6)
    have HA6 := Lib.hid (RowT.new ho6 hb6.size)
    have HHL := Lib.hid PH5.out.lt
    obtain ⟨ad6, cp6, hv6, _⟩ := ho6.tls.shape
    rw [HN.out] at hv6
    subst hv6
    clear hb6 ho6 HB5 PB5 HR5 HT5 PH5 n0 n1 n2 n3 n4
    go_upto_region 17 with fail
    have pn := PB.new 32 w6 a 2 c f (.slice ad6 N cp6)
    have aa := (Below.refl w6.heap.size w6).alloc (Nat.le_refl _) (.cells #[.int .u8 a, .int .u8 2, .int .u8 c, .string (bs f), .slice ad6 N cp6] 32)
    obtain ⟨k, hk⟩ : ∃ k, w6.heap.size = k := ⟨_, rfl⟩
    obtain ⟨lo, hlo⟩ : ∃ k, w5.heap.size = k := ⟨_, rfl⟩
    obtain ⟨w7, hw7⟩ : ∃ k, w6.alloc (.cells #[.int .u8 a, .int .u8 2, .int .u8 c, .string (bs f), .slice ad6 N cp6] 32) = k := ⟨_, rfl⟩
    rw [hw7] at pn aa ⊢
    have HB7 := Lib.hid (HB6.out.trans (aa.mono HB6.out.size))
    have PB7 := Lib.hid (PB6.out.later aa)
    have HR7 := Lib.hid (HR6.out.later (Nat.le_of_lt PH6.out.lt) aa)
    have PH7 := Lib.hid (PH6.out.later aa)
    have HA7 := Lib.hid (HA6.out.later (Nat.le_refl _) aa)
    have HK := Lib.hid (show w.heap.size + 1 < k ∧ h < k by have := PB6.out.lt; have := PH6.out.lt; omega)
    rw [hk] at pn HA7 ⊢
    rw [hlo] at HHL HA7
    have PK7 := Lib.hid pn
    clear pn aa hw7 hk hlo HB6 PB6 HR6 PH6 HA6
    go_upto_region 19 with fail
    have h4 := PH7.out.c4
    go_upto_if 130 with fail
    go_cut [6] (fun s6 wx => s6 = .bool false ∧ Hid (PB 24 wx (w.heap.size + 1) a 3 c f (.slice ad N cp)) ∧ Hid (PB 32 wx k a 2 c f (.slice ad6 N cp6)) ∧ Hid (RowT wx (.slice ad6 N cp6) l lo k) ∧ Hid (Below w.heap.size w wx))
    case first =>
      by_cases hN0 : 0 < N
      rotate_left
      · obtain rfl : N = 0 := by omega
        clear hN0
        go_wp2_with fail
        go_meet
        exact ⟨rfl, PB7, PK7, HA7, HB7⟩
      have dN : decide ((0 : Int) < (N : Int)) = true := decide_eq_true (by omega)
      have dN2 : decide (0 < N) = true := decide_eq_true hN0
      have HN0 := Lib.hid hN0
      obtain ⟨g, gs, rfl, hg1, hg2, hgc, hgf⟩ := HR7.out.head (by rw [HN.out]; exact hN0)
      obtain ⟨_, _, hsh, hpc⟩ := (HV.out.later HB7.out).shape
      injection hsh with e1 e2 e3
      subst e1
      obtain ⟨pb, po, rfl, hcell⟩ := hpc.resolve_left (by intro hl0; have h5 := HN.out; rw [hl0] at h5; simp at h5; omega)
      have hp1 := (hcell 0 (by have := HN.out; omega)).2
      rw [show po + 0 * 2 + 1 = po + 1 by omega] at hp1
      have hpb : pb < w.heap.size := by
        obtain ⟨_, _, hsh, hpc⟩ := HV.out.shape
        injection hsh with e1 e2 e3
        subst e1
        obtain ⟨pb', po', hpe, hcell⟩ := hpc.resolve_left (by intro hl0; have h5 := HN.out; rw [hl0] at h5; simp at h5; omega)
        injection hpe with hpe
        injection hpe with e4 e5
        subst e4
        exact World.block_lt_of_cell? w _ (hcell 0 (by have := HN.out; omega)).2
      obtain ⟨y, hy⟩ : ∃ y, (l[0]'(by have := HN.out; omega)).2 = y := ⟨_, rfl⟩
      rw [hy] at hp1
      clear hcell hpc hy e2 e3
      go_upto_region 21 with fail
      have HG := Lib.hid (And.intro (show g ≠ w.heap.size + 1 by have := HHB.out; omega) (And.intro (show g ≠ k by have := HK.out; omega) (show g < lo by have := HHL.out; omega)))
      obtain ⟨vo, hvo⟩ : ∃ vo, vo = Value.string { data := #[111, 116, 104, 101, 114] } := ⟨_, rfl⟩
      have PBs := Lib.hid (PB7.out.other (t := g) (o := 1) HG.out.1 vo)
      have PKs := Lib.hid (PK7.out.other (t := g) (o := 1) HG.out.2.1 vo)
      have HAs := Lib.hid (HA7.out.set (p := g) (o := 1) (Or.inl HG.out.2.2) vo)
      have HBs := Lib.hid (below_set (b := g) (o := 1) HB7.out (show w.heap.size ≤ g by have := HHB.out; omega) vo)
      have phs := (PH7.out.other (t := g) (o := 1) (by omega) vo).c4
      have pbs := PBs.out.c4
      have ts : (w7.setCell ⟨g, 1, none⟩ vo).cell? ⟨pb, po + 1, none⟩ = some (.string (bs y)) := (cell_else w7 (q := g) (p := pb) (by have := HHB.out; omega) 1 (po + 1) vo).trans hp1
      have gs1 : ((w7.setCell ⟨g, 1, none⟩ vo).cell? ⟨g, 1, none⟩) = some vo := World.cell?_setCell_same' w7 ⟨g, 1, none⟩ vo (by rw [hgc]; rfl)
      have gf1 : (w7.setCell ⟨g, 1, none⟩ vo).frozen? ⟨g, 1, none⟩ = false := by rw [World.frozen?_setCell]; exact hgf
      rw [hvo] at PBs PKs HAs HBs phs pbs ts gs1 gf1
      obtain ⟨wt, hwt⟩ : ∃ k, w7.setCell ⟨g, 1, none⟩ (.string { data := #[111, 116, 104, 101, 114] }) = k := ⟨_, rfl⟩
      rw [hwt] at PBs PKs HAs HBs phs pbs ts gs1 gf1 ⊢
      clear hwt hvo hgc hgf hp1 HB7 PB7 HR7 PH7 HA7 PK7 h4
      go_region
      all_goals go_wp2_with fail
      all_goals go_meet
      all_goals exact ⟨rfl, Lib.hid ((show PB 24 wt.drew (w.heap.size + 1) a 3 c f (.slice (some ⟨pb, po, none⟩) N cp) from PBs.out).other (t := g) (o := 1) HG.out.1 _), Lib.hid ((show PB 32 wt.drew k a 2 c f (.slice ad6 N cp6) from PKs.out).other (t := g) (o := 1) HG.out.2.1 _), Lib.hid ((show RowT wt.drew (.slice ad6 N cp6) l lo k from HAs.out.drew).set (p := g) (o := 1) (Or.inl HG.out.2.2) _), Lib.hid (below_set (b := g) (o := 1) HBs.out.drew (show w.heap.size ≤ g by have := HHB.out; omega) _)⟩
      all_goals go_wp2_with fail
      all_goals go_meet
      all_goals sorry
    case rest =>
      clear HB7 PB7 HR7 PH7 HA7 PK7 h4
      obtain ⟨rfl, PB8, PK8, HA8, HB8⟩ := hcut
      have k1 := PK8.out.c1
      have r1 := PK8.out.fr 1
      go_upto_region 23 with fail
      have pks := PK8.out.set1 3
      have pbs := PB8.out.other (t := k) (o := 1) (by have := HK.out; omega) (.int .u8 3)
      have has := HA8.out.set (p := k) (o := 1) (Or.inr (Nat.le_refl _)) (.int .u8 3)
      have hbs := below_set (b := k) (o := 1) HB8.out (by have := HK.out; omega) (.int .u8 3)
      obtain ⟨w9, hw9⟩ : ∃ k', wc.setCell ⟨k, 1, none⟩ (.int .u8 3) = k' := ⟨_, rfl⟩
      rw [hw9] at pks pbs has hbs ⊢
      have HB9 := Lib.hid hbs
      have pad : PB 32 w9.drew k a 3 c f (.slice ad6 N cp6) := pks
      have prd : PB 24 w9.drew (w.heap.size + 1) a 3 c f (.slice ad N cp) := pbs
      have tAd : Hid (Tls w9.drew (.slice ad6 N cp6) l) := Lib.hid has.own.tls
      have tRd : Hid (Tls w9.drew (.slice ad N cp) l) := Lib.hid (HV.out.later hbs.drew)
      have S1 : Hid (∀ u v w, Tls w u l → Tls w v l → Calls Try.prog 21 #[.agg #[.int .u8 a, .int .u8 3, .int .u8 c, .string (bs f), u], .agg #[.int .u8 a, .int .u8 3, .int .u8 c, .string (bs f), v]] w fun en w' => en = .returned (.bool true) ∧ Below w.heap.size w w') := fun u v w hu hv => by
        have h := same12_any u v a 3 c a 3 c f f l l w hu hv HL20.out HL20.out
        rw [decide_eq_true ⟨rfl, rfl, rfl, rfl, rfl⟩] at h; exact h
      clear pks pbs has hbs hw9 PB8 PK8 HA8 HB8 k1 r1
      go_region_held3 (fun W => W.cell? ⟨k, 0, none⟩ = some (.int .u8 a) ∧ W.cell? ⟨k, 1, none⟩ = some (.int .u8 3) ∧ W.cell? ⟨k, 2, none⟩ = some (.int .u8 c) ∧ W.cell? ⟨k, 3, none⟩ = some (.string (bs f)) ∧ W.cell? ⟨k, 4, none⟩ = some (.slice ad6 N cp6) ∧ W.cell? ⟨w.heap.size + 1, 0, none⟩ = some (.int .u8 a) ∧ W.cell? ⟨w.heap.size + 1, 1, none⟩ = some (.int .u8 3) ∧ W.cell? ⟨w.heap.size + 1, 2, none⟩ = some (.int .u8 c) ∧ W.cell? ⟨w.heap.size + 1, 3, none⟩ = some (.string (bs f)) ∧ W.cell? ⟨w.heap.size + 1, 4, none⟩ = some (.slice ad N cp))
        (first | exact PB.tenB pad prd | exact PB.tenB pax prx | exact PB.tenB pay pry | exact PB.tenB paz prz)
        (first
          | (go_at_call 18; (with_reducible refine (O1.out _ tRd.out).mono ?_); rintro en wx ⟨vx, rfl, hox, hbx⟩; have pax := pad.later hbx; have prx := prd.later hbx; have tAx := Lib.hid (tAd.out.later hbx); have tvx := hox.tls)
          | (go_at_call 21; (with_reducible refine (S1.out _ _ _ tAx.out tvx).mono ?_); rintro en wy ⟨rfl, hby⟩; have pay := pax.later hby; have pry := prx.later hby)
          | (go_at_call 26; (with_reducible refine (WK.out _).mono ?_); rintro en wz ⟨rfl, hbz⟩; have paz := pay.later hbz; have prz := pry.later hbz))
      all_goals go_wp2
      all_goals go_ret
      all_goals
        have k1 : Below w.heap.size w w9.drew := HB9.out.drew
        have k2 := k1.trans (hbx.mono k1.size)
        have k3 := k2.trans (hby.mono k2.size)
        exact ⟨rfl, k3.trans (hbz.mono k3.size)⟩
end Go.Proofs.Ytcbbocdmmehphaa
