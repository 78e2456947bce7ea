/- ltm: the walk of LtmBack. -/
import Derived.Test.YtcbbocdmmehphaaG11
import Derived.Test.YtcbbocdmmehphaaG14
import Derived.Test.YtcbbocdmmehphaaRG
set_option linter.unusedVariables false
namespace Go.Proofs.Ytcbbocdmmehphaa
open Go.RowKit

/-- The state: the trace's block, the reply's block, the message's block. -/
structure BK (w W : World) (AT AR : Array Value) (q : Nat) (A B C : Int) (F : List UInt8) (v : Value) : Prop where
  g : GB 72 W w.heap.size AT
  k : GB 76 W (w.heap.size + 1) AR
  p : PB 32 W q A B C F v
  bel : Below w.heap.size w W
  hq : w.heap.size + 1 < q
section
variable {w W W' : World} {AT AR : Array Value} {q : Nat} {A B C : Int} {F : List UInt8} {v : Value}
theorem BK.later (h : BK w W AT AR q A B C F v) (hb : Below W.heap.size W W') : BK w W' AT AR q A B C F v :=
  ⟨h.g.later hb, h.k.later hb, h.p.later hb, h.bel.trans (hb.mono h.bel.size), h.hq⟩
theorem BK.sets (h : BK w W AT AR q A B C F v) (A' B' C' : Int) (F' : List UInt8) (v' : Value) : BK w (((((W.setCell ⟨q, 0, none⟩ (.int .u8 A')).setCell ⟨q, 1, none⟩ (.int .u8 B')).setCell ⟨q, 2, none⟩ (.int .u8 C')).setCell ⟨q, 3, none⟩ (.string (bs F'))).setCell ⟨q, 4, none⟩ v') AT AR q A' B' C' F' v' := by
  have hq := h.hq
  exact ⟨((((h.g.other (by omega) _).other (by omega) _).other (by omega) _).other (by omega) _).other (by omega) _, ((((h.k.other (by omega) _).other (by omega) _).other (by omega) _).other (by omega) _).other (by omega) _,
    PB.sets5G h.p, below_set (below_set (below_set (below_set (below_set h.bel (by omega) _) (by omega) _) (by omega) _) (by omega) _) (by omega) _, hq⟩
end
set_option maxRecDepth 100000 in
set_option maxHeartbeats 8000000 in
theorem LtmBack_walk (t : Tr) (r : Rp) (bt : ByteArray) (w : World) (ht : t.Ok) (hr : r.Ok) (hsz : bt.size ≤ maxLen) : Calls Try.prog 10 #[.agg #[.int .u8 t.lv, .int .u32 t.nm, .int .u8 t.tl, .int .u8 t.fr.a, .int .u8 t.fr.b, .int .u8 t.fr.c, .int .u8 t.fr.d, .int .u8 t.fr.e, .int .u8 t.fr.f, .int .u8 t.tt.a, .int .u8 t.tt.b, .int .u8 t.tt.c, .int .u8 t.tt.d, .int .u8 t.tt.e, .int .u8 t.tt.f], .agg #[.int .u8 r.lv, .int .u32 r.nm, .int .u8 r.tl, .bool r.st, .bool r.en, .int .u8 r.mi.a, .int .u8 r.mi.b, .int .u8 r.mi.c, .int .u8 r.mi.d, .int .u8 r.mi.e, .int .u8 r.mi.f, .int .u8 r.mo.a, .int .u8 r.mo.b, .int .u8 r.mo.c, .int .u8 r.mo.d, .int .u8 r.mo.e, .int .u8 r.mo.f], .string bt] w fun en w' => en = .returned (.bool true) ∧ Below w.heap.size w w' := by
  obtain ⟨s, rfl⟩ : ∃ l, bt = bs l := ⟨_, bs_of bt⟩
  rw [bs_size] at hsz
  have WK := Lib.hid wakes15_any
  have hss := bs_size s
  obtain ⟨AT, hAT⟩ : ∃ A : Array Value, A = #[.int .u8 t.lv, .int .u32 t.nm, .int .u8 t.tl, .int .u8 t.fr.a, .int .u8 t.fr.b, .int .u8 t.fr.c, .int .u8 t.fr.d, .int .u8 t.fr.e, .int .u8 t.fr.f, .int .u8 t.tt.a, .int .u8 t.tt.b, .int .u8 t.tt.c, .int .u8 t.tt.d, .int .u8 t.tt.e, .int .u8 t.tt.f] := ⟨_, rfl⟩
  obtain ⟨AR, hAR⟩ : ∃ A : Array Value, A = #[.int .u8 r.lv, .int .u32 r.nm, .int .u8 r.tl, .bool r.st, .bool r.en, .int .u8 r.mi.a, .int .u8 r.mi.b, .int .u8 r.mi.c, .int .u8 r.mi.d, .int .u8 r.mi.e, .int .u8 r.mi.f, .int .u8 r.mo.a, .int .u8 r.mo.b, .int .u8 r.mo.c, .int .u8 r.mo.d, .int .u8 r.mo.e, .int .u8 r.mo.f] := ⟨_, rfl⟩
  obtain ⟨ZT, hZT⟩ : ∃ A : Array Value, A = #[.int .u8 0, .int .u32 0, .int .u8 0, .int .u8 0, .int .u8 0, .int .u8 0, .int .u8 0, .int .u8 0, .int .u8 0, .int .u8 0, .int .u8 0, .int .u8 0, .int .u8 0, .int .u8 0, .int .u8 0] := ⟨_, rfl⟩
  obtain ⟨ZR, hZR⟩ : ∃ A : Array Value, A = #[.int .u8 0, .int .u32 0, .int .u8 0, .bool false, .bool false, .int .u8 0, .int .u8 0, .int .u8 0, .int .u8 0, .int .u8 0, .int .u8 0, .int .u8 0, .int .u8 0, .int .u8 0, .int .u8 0, .int .u8 0, .int .u8 0] := ⟨_, rfl⟩
  have hT0 : AT[0]? = some (.int .u8 t.lv) := by rw [hAT]; rfl
  have hR0 : AR[0]? = some (.int .u8 r.lv) := by rw [hAR]; rfl
  have ST := Lib.hid (show AT.size = 15 by rw [hAT]; rfl)
  have SR := Lib.hid (show AR.size = 17 by rw [hAR]; rfl)
  have SZT := Lib.hid (show ZT.size = 15 by rw [hZT]; rfl)
  have SZR := Lib.hid (show ZR.size = 17 by rw [hZR]; rfl)
  have OT : Hid (AT.all (·.oneCell') = true) := Lib.hid (by rw [hAT]; simp [Value.oneCell'])
  have OR : Hid (AR.all (·.oneCell') = true) := Lib.hid (by rw [hAR]; simp [Value.oneCell'])
  have OZT : Hid (ZT.all (·.oneCell') = true) := Lib.hid (by rw [hZT]; simp [Value.oneCell'])
  have OZR : Hid (ZR.all (·.oneCell') = true) := Lib.hid (by rw [hZR]; simp [Value.oneCell'])
  have IT : Hid ((Try.prog.info? 72).map (·.size) = some AT.size) := Lib.hid (by rw [ST.out]; kernel_rfl)
  have IR : Hid ((Try.prog.info? 76).map (·.size) = some AR.size) := Lib.hid (by rw [SR.out]; kernel_rfl)
  have IZT : Hid ((Try.prog.info? 72).map (·.size) = some ZT.size) := Lib.hid (by rw [SZT.out]; kernel_rfl)
  have IZR : Hid ((Try.prog.info? 76).map (·.size) = some ZR.size) := Lib.hid (by rw [SZR.out]; kernel_rfl)
  have LT_ : Hid ((Try.prog.info? 72).map (·.size) = some AT.toList.length) := Lib.hid (by rw [Array.length_toList]; exact IT.out)
  have LR_ : Hid ((Try.prog.info? 76).map (·.size) = some AR.toList.length) := Lib.hid (by rw [Array.length_toList]; exact IR.out)
  have neT : ∀ w : World, (binOp .neq 72 (.agg AT) (.agg AT)).run Try.prog w = .ok (.bool false) w := by rw [hAT]; exact run_neq_tr t
  have neR : ∀ w : World, (binOp .neq 76 (.agg AR) (.agg AR)).run Try.prog w = .ok (.bool false) w := by rw [hAR]; exact run_neq_rp r
  have hgT := eqGuard_tr
  have hgR := eqGuard_rp
  obtain ⟨A, B, C, F, e, hP⟩ : ∃ A B C F e, putTr t = (A, B, C, F, e) := ⟨_, _, _, _, _, rfl⟩
  obtain ⟨A', B', C', F', L, e', hQ⟩ : ∃ A B C F L e, putRp r = (A, B, C, F, L, e) := ⟨_, _, _, _, _, _, rfl⟩
  have OKT := Lib.hid (putTr_ok ht hP)
  have OKR := Lib.hid (putRp_ok hr hQ)
  have P1 : Hid (∀ w, Calls Try.prog 33 #[.agg AT] w fun en w' => en = .returned (.tuple #[.agg #[.int .u8 A, .int .u8 B, .int .u8 C, .string (bs F), .slice none 0 0], .int .i64 e]) ∧ Below w.heap.size w w') := Lib.hid fun w => by
    have h := ltput_any t w ht
    rw [hP] at h; rw [hAT]; exact h
  have P3 : Hid (∀ w, Calls Try.prog 36 #[.agg AR] w fun en w' => ∃ v', en = .returned (.tuple #[.agg #[.int .u8 A', .int .u8 B', .int .u8 C', .string (bs F'), v'], .int .i64 e']) ∧ TlT w' w.heap.size v' L ∧ Below w.heap.size w w') := Lib.hid fun w => by
    have h := ltputR_any r w hr
    rw [hQ] at h; rw [hAR]; exact h
  have TT : Hid (∀ a b c f v w, f.length ≤ 1000 → tkTr a b f = (t, 0) → Calls Try.prog 40 #[.agg #[.int .u8 a, .int .u8 b, .int .u8 c, .string (bs f), v]] w fun en w' => en = .returned (.tuple #[.agg AT, .int .i64 0]) ∧ Below w.heap.size w w') := Lib.hid fun a b c f v w hf he => by
    have h := lttake_any v a b c f w hf
    rw [he] at h; rw [hAT]; exact h
  have TZ : Hid (∀ a b c f v w, f.length ≤ 1000 → tkTr a b f = (tr0, 4) → Calls Try.prog 40 #[.agg #[.int .u8 a, .int .u8 b, .int .u8 c, .string (bs f), v]] w fun en w' => en = .returned (.tuple #[.agg ZT, .int .i64 4]) ∧ Below w.heap.size w w') := Lib.hid fun a b c f v w hf he => by
    have h := lttake_any v a b c f w hf
    rw [he] at h; rw [hZT]; exact h
  have RT_ : Hid (∀ a b c f l v w, f.length ≤ 1000 → (0 ≤ c ∧ c < 256) → Tls w v l → l.length ≤ 1000 → (∀ x ∈ l, x.2.length ≤ 100000) → tkRp a b c f l = (r, 0) → Calls Try.prog 41 #[.agg #[.int .u8 a, .int .u8 b, .int .u8 c, .string (bs f), v]] w fun en w' => en = .returned (.tuple #[.agg AR, .int .i64 0]) ∧ Below w.heap.size w w') := Lib.hid fun a b c f l v w hf hc hv hl hs he => by
    have h := lttakeR_any v l a b c f w hf hc hv hl hs
    rw [he] at h; rw [hAR]; exact h
  have RZ : Hid (∀ a b c f l v w, f.length ≤ 1000 → (0 ≤ c ∧ c < 256) → Tls w v l → l.length ≤ 1000 → (∀ x ∈ l, x.2.length ≤ 100000) → tkRp a b c f l = (rp0, 4) → Calls Try.prog 41 #[.agg #[.int .u8 a, .int .u8 b, .int .u8 c, .string (bs f), v]] w fun en w' => en = .returned (.tuple #[.agg ZR, .int .i64 4]) ∧ Below w.heap.size w w') := Lib.hid fun a b c f l v w hf hc hv hl hs he => by
    have h := lttakeR_any v l a b c f w hf hc hv hl hs
    rw [he] at h; rw [hZR]; exact h
  rw [← hAT, ← hAR]
  clear hP hQ ht hr hAT hAR hZT hZR
  go_enter Try.func10, Try.ntmps10
  go_upto_region 1 with fail
  have g0 := (GB.new 72 w AT).later ((Below.refl _ _).alloc (Nat.le_refl _) (.cells AR 76))
  have k0 : GB 76 ((w.alloc (.cells AT 72)).alloc (.cells AR 76)) (w.heap.size + 1) AR := by
    have := GB.new 76 (w.alloc (.cells AT 72)) AR
    rw [show (w.alloc (.cells AT 72)).heap.size = w.heap.size + 1 by simp] at this
    exact this
  have hb0 : Below w.heap.size w ((w.alloc (.cells AT 72)).alloc (.cells AR 76)) := ((Below.refl _ _).alloc (Nat.le_refl _) _).alloc (by simp) _
  obtain ⟨w0, hw0⟩ : ∃ k, (w.alloc (.cells AT 72)).alloc (.cells AR 76) = k := ⟨_, rfl⟩
  rw [hw0] at g0 k0 hb0 ⊢
  have G0 := Lib.hid g0
  have K0 := Lib.hid k0
  have HB0 := Lib.hid hb0
  clear hw0 g0 k0 hb0
  by_cases g3 : 1000 < s.length
  · have d3 : decide ((1000 : Int) < (s.length : Int)) = true := decide_eq_true (by omega)
    go_wp2_with fail
    with_reducible refine (WK.out _).mono ?_
    rintro en w1 ⟨rfl, hb⟩
    go_wp2
    go_ret
    exact ⟨rfl, HB0.out.trans (hb.mono HB0.out.size)⟩
  have d3 : decide ((1000 : Int) < (s.length : Int)) = false := decide_eq_false (by omega)
  have HS := Lib.hid g3
  clear g3 hsz
  go_wp2_with ((with_reducible refine wpList_load_mid rfl 72 (.tmp 3) rfl w.heap.size 0 ?hx AT.toList _ G0.out.range Try.underlying72 ?hu LT_.out ?_); (case hx => rfl); (case hu => rfl))
  with_reducible refine (P1.out _).mono ?_
  rintro en w1 ⟨rfl, hb1⟩
  have G1 := Lib.hid (G0.out.later hb1)
  have K1 := Lib.hid (K0.out.later hb1)
  have HB1 := Lib.hid (HB0.out.trans (hb1.mono HB0.out.size))
  clear hb1 G0 K0 HB0 P1
  go_upto_region 4 with fail
  have pb := PB.new 32 w1 A B C F (.slice none 0 0)
  have aa := (Below.refl w1.heap.size w1).alloc (Nat.le_refl _) (.cells #[.int .u8 A, .int .u8 B, .int .u8 C, .string (bs F), .slice none 0 0] 32)
  obtain ⟨q, hq⟩ : ∃ k, w1.heap.size = k := ⟨_, rfl⟩
  obtain ⟨w2, hw2⟩ : ∃ k, w1.alloc (.cells #[.int .u8 A, .int .u8 B, .int .u8 C, .string (bs F), .slice none 0 0] 32) = k := ⟨_, rfl⟩
  rw [hw2] at pb aa ⊢
  have hqq : w.heap.size + 1 < q := by have := K1.out.lt; omega
  rw [hq] at pb ⊢
  have BK2 : Hid (BK w w2 AT AR q A B C F (.slice none 0 0)) := Lib.hid ⟨G1.out.later aa, K1.out.later aa, pb, HB1.out.trans (aa.mono HB1.out.size), hqq⟩
  clear pb aa hw2 hq hqq G1 K1 HB1
  have c0 := BK2.out.g.c 0 _ hT0
  obtain ⟨D, hD⟩ : ∃ D, decide (t.lv < 8) = D := ⟨_, rfl⟩
  have de : (e == 0) = D := by
    rcases OKT.out with ⟨h1, h2⟩ | ⟨h1, h2, -⟩
    · rw [h2, ← hD, decide_eq_false (by omega)]; rfl
    · rw [h2, ← hD, decide_eq_true (by omega)]; rfl
  go_upto_if 41 with fail
  go_cut [6] (fun s6 wx => s6 = .bool false ∧ Hid (BK w wx AT AR q A B C F (.slice none 0 0)))
  case first =>
    rcases OKT.out with ⟨h1, he⟩ | ⟨h1, he, ha, hb, hc, hf, ⟨X, k1, k2, k3⟩, k4, k5⟩
    · have hDf : D = false := by rw [← hD]; exact decide_eq_false (by omega)
      subst hDf
      clear hD OKT
      go_wp2_with fail
      go_meet
      exact ⟨rfl, BK2⟩
    have hDt : D = true := by rw [← hD]; exact decide_eq_true (by omega)
    subst hDt
    have U1 : Hid (∀ w, Calls Try.prog 17 #[.agg #[.int .u8 A, .int .u8 B, .int .u8 C, .string (bs F), .slice none 0 0]] w fun en w' => en = .returned (.tuple #[.string (bs X), .int .i64 0]) ∧ Below w.heap.size w w') := Lib.hid fun w => by
      have h := cput_any (.slice none 0 0) A B C F [] w (Tls.nil _) (by simp) (by simp) (by omega) (by decide) ha hb hc
      rw [k1] at h; exact h
    have ad1 := run_add_bs X s (by have := HS.out; omega)
    have hsX := bs_size X
    have U2 : Hid (∀ w, Calls Try.prog 20 #[.string (bs (X ++ s))] w fun en w' => ∃ v', en = .returned (.tuple #[.agg #[.int .u8 A, .int .u8 B, .int .u8 C, .string (bs F), v'], .int .i64 0]) ∧ TlT w' w.heap.size v' [] ∧ Below w.heap.size w w') := Lib.hid fun w => by
      have h := ctake_any (X ++ s) w (by have := HS.out; simp; omega)
      rw [k3 s] at h; exact h
    have U3 : Hid (∀ v w, Calls Try.prog 40 #[.agg #[.int .u8 A, .int .u8 B, .int .u8 C, .string (bs F), v]] w fun en w' => en = .returned (.tuple #[.agg AT, .int .i64 0]) ∧ Below w.heap.size w w') := Lib.hid fun v w => TT.out A B C F v w (by omega) k4
    have U4 : Hid (∀ v w, Tls w v [] → Calls Try.prog 41 #[.agg #[.int .u8 A, .int .u8 B, .int .u8 C, .string (bs F), v]] w fun en w' => en = .returned (.tuple #[.agg ZR, .int .i64 4]) ∧ Below w.heap.size w w') := Lib.hid fun v w hv => RZ.out A B C F [] v w (by omega) hc hv (by simp) (by simp) k5
    have m0 := BK2.out.p.c0
    have m1 := BK2.out.p.c1
    have m2 := BK2.out.p.c2
    have m3 := BK2.out.p.c3
    have m4 := BK2.out.p.c4
    clear hD h1 he ha hb hc hf k1 k2 k3 k4 k5 OKT
    go_wp2_with fail
    with_reducible refine (U1.out _).mono ?_
    rintro en w3 ⟨rfl, hb3⟩
    have BK3 := Lib.hid (BK2.out.later hb3)
    clear hb3 BK2 m0 m1 m2 m3 m4 c0
    go_wp2_with fail
    with_reducible refine (U2.out _).mono ?_
    rintro en w4 ⟨v4, rfl, ho4, hb4⟩
    have BK4 := Lib.hid (BK3.out.later hb4)
    obtain ⟨ad4, cp4, hv4, _⟩ := ho4.tls.shape
    simp only [List.length_nil] at hv4
    subst hv4
    have HT4 : Hid (Tls w4 (.slice ad4 0 cp4) []) := Lib.hid ho4.tls
    clear hb4 ho4 BK3
    go_upto_region 9 with fail
    have pn := PB.new 32 w4 A B C F (.slice ad4 0 cp4)
    have aa := (Below.refl w4.heap.size w4).alloc (Nat.le_refl _) (.cells #[.int .u8 A, .int .u8 B, .int .u8 C, .string (bs F), .slice ad4 0 cp4] 32)
    obtain ⟨n, hn⟩ : ∃ k, w4.heap.size = k := ⟨_, rfl⟩
    obtain ⟨w5, hw5⟩ : ∃ k, w4.alloc (.cells #[.int .u8 A, .int .u8 B, .int .u8 C, .string (bs F), .slice ad4 0 cp4] 32) = k := ⟨_, rfl⟩
    rw [hw5] at pn aa ⊢
    have BK5 := Lib.hid (BK4.out.later aa)
    have HT5 := Lib.hid (HT4.out.later aa)
    rw [hn] at pn ⊢
    have PN5 := Lib.hid pn
    have n0 := pn.c0
    have n1 := pn.c1
    have n2 := pn.c2
    have n3 := pn.c3
    have n4 := pn.c4
    clear pn aa hw5 hn BK4 HT4
    go_wp2_with fail
    with_reducible refine (U3.out _ _).mono ?_
    rintro en w6 ⟨rfl, hb6⟩
    have BK6 := Lib.hid (BK5.out.later hb6)
    have PN6 := Lib.hid (PN5.out.later hb6)
    have HT6 := Lib.hid (HT5.out.later hb6)
    clear hb6 BK5 PN5 HT5 n0 n1 n2 n3 n4
    have gz := GB.new 72 w6 #[.int .u8 0, .int .u32 0, .int .u8 0, .int .u8 0, .int .u8 0, .int .u8 0, .int .u8 0, .int .u8 0, .int .u8 0, .int .u8 0, .int .u8 0, .int .u8 0, .int .u8 0, .int .u8 0, .int .u8 0]
    have TH := Lib.hid (gz.there (n := AT.size) (Nat.le_of_eq ST.out))
    go_upto_region 10 with ((with_reducible refine wpList_store_mid rfl 72 (.tmp 13) (.tmp 57) rfl w6.heap.size 0 AT ?hx ?hy TH.out IT.out OT.out ?_); (case hx => rfl); (case hy => rfl))
    have g7 := gz.store (A := AT) ST.out.symm OT.out
    have hbz : Below w6.heap.size w6 ((w6.alloc (.cells #[.int .u8 0, .int .u32 0, .int .u8 0, .int .u8 0, .int .u8 0, .int .u8 0, .int .u8 0, .int .u8 0, .int .u8 0, .int .u8 0, .int .u8 0, .int .u8 0, .int .u8 0, .int .u8 0, .int .u8 0] 72)).setCells w6.heap.size 0 AT.toList) := below_cellsG (Nat.le_refl _) _ _ _ ((Below.refl _ _).alloc (Nat.le_refl _) _)
    obtain ⟨u, hu⟩ : ∃ k, w6.heap.size = k := ⟨_, rfl⟩
    obtain ⟨w7, hw7⟩ : ∃ k, (w6.alloc (.cells #[.int .u8 0, .int .u32 0, .int .u8 0, .int .u8 0, .int .u8 0, .int .u8 0, .int .u8 0, .int .u8 0, .int .u8 0, .int .u8 0, .int .u8 0, .int .u8 0, .int .u8 0, .int .u8 0, .int .u8 0] 72)).setCells w6.heap.size 0 AT.toList = k := ⟨_, rfl⟩
    have BK7 := Lib.hid (BK6.out.later hbz)
    have PN7 := Lib.hid (PN6.out.later hbz)
    have HT7 := Lib.hid (HT6.out.later hbz)
    rw [hu] at hw7
    rw [hu, hw7] at g7 BK7 PN7 HT7 ⊢
    have GU7 := Lib.hid g7
    have n0 := PN7.out.c0
    have n1 := PN7.out.c1
    have n2 := PN7.out.c2
    have n3 := PN7.out.c3
    have n4 := PN7.out.c4
    clear gz g7 hbz hw7 BK6 PN6 HT6 TH hu
    go_wp2_with fail
    with_reducible refine (U4.out _ _ HT7.out).mono ?_
    rintro en w8 ⟨rfl, hb8⟩
    have BK8 := Lib.hid (BK7.out.later hb8)
    have GU8 := Lib.hid (GU7.out.later hb8)
    clear hb8 BK7 PN7 HT7 GU7 n0 n1 n2 n3 n4
    have gz := GB.new 76 w8 #[.int .u8 0, .int .u32 0, .int .u8 0, .bool false, .bool false, .int .u8 0, .int .u8 0, .int .u8 0, .int .u8 0, .int .u8 0, .int .u8 0, .int .u8 0, .int .u8 0, .int .u8 0, .int .u8 0, .int .u8 0, .int .u8 0]
    have TH := Lib.hid (gz.there (n := ZR.size) (Nat.le_of_eq SZR.out))
    go_upto_region 11 with ((with_reducible refine wpList_store_mid rfl 76 (.tmp 15) (.tmp 62) rfl w8.heap.size 0 ZR ?hx ?hy TH.out IZR.out OZR.out ?_); (case hx => rfl); (case hy => rfl))
    have hbz : Below w8.heap.size w8 ((w8.alloc (.cells #[.int .u8 0, .int .u32 0, .int .u8 0, .bool false, .bool false, .int .u8 0, .int .u8 0, .int .u8 0, .int .u8 0, .int .u8 0, .int .u8 0, .int .u8 0, .int .u8 0, .int .u8 0, .int .u8 0, .int .u8 0, .int .u8 0] 76)).setCells w8.heap.size 0 ZR.toList) := below_cellsG (Nat.le_refl _) _ _ _ ((Below.refl _ _).alloc (Nat.le_refl _) _)
    obtain ⟨w9, hw9⟩ : ∃ k, (w8.alloc (.cells #[.int .u8 0, .int .u32 0, .int .u8 0, .bool false, .bool false, .int .u8 0, .int .u8 0, .int .u8 0, .int .u8 0, .int .u8 0, .int .u8 0, .int .u8 0, .int .u8 0, .int .u8 0, .int .u8 0, .int .u8 0, .int .u8 0] 76)).setCells w8.heap.size 0 ZR.toList = k := ⟨_, rfl⟩
    have BK9 := Lib.hid (BK8.out.later hbz)
    have GU9 := Lib.hid (GU8.out.later hbz)
    rw [hw9] at BK9 GU9 ⊢
    clear gz hbz hw9 BK8 GU8 TH
    go_wp2_with (first | ((with_reducible refine wpList_load_gG ?hw 72 (.tmp 13) rfl u 0 ?hx AT.toList _ GU9.out.range Try.underlying72 ?hu LT_.out ?_); (case hw => rfl); (case hx => rfl); (case hu => rfl)) | ((with_reducible refine wpList_load_gG ?hw 72 (.tmp 3) rfl w.heap.size 0 ?hx AT.toList _ BK9.out.g.range Try.underlying72 ?hu LT_.out ?_); (case hw => rfl); (case hx => rfl); (case hu => rfl)))
    go_meet
    exact ⟨rfl, BK9⟩
  case rest =>
    obtain ⟨rfl, BK3⟩ := hcut
    clear BK2 OKT de hD c0
    go_wp2_with ((with_reducible refine wpList_load_mid rfl 76 (.tmp 4) rfl (w.heap.size + 1) 0 ?hx AR.toList _ BK3.out.k.range Try.underlying76 ?hu LR_.out ?_); (case hx => rfl); (case hu => rfl))
    with_reducible refine (P3.out _).mono ?_
    rintro en w4 ⟨v4, rfl, ho4, hb4⟩
    have BK4 := Lib.hid (BK3.out.later hb4)
    have HR4 := Lib.hid ho4
    obtain ⟨M, hM⟩ : ∃ M, L.length = M := ⟨_, rfl⟩
    obtain ⟨ad4, cp4, hv4, _⟩ := ho4.tls.shape
    rw [hM] at hv4
    subst hv4
    have HL := Lib.hid (show wc.heap.size > q from BK3.out.p.lt)
    have m0 := BK4.out.p.c0
    have m1 := BK4.out.p.c1
    have m2 := BK4.out.p.c2
    have m3 := BK4.out.p.c3
    have m4 := BK4.out.p.c4
    have f0 := BK4.out.p.fr 0
    have f1 := BK4.out.p.fr 1
    have f2 := BK4.out.p.fr 2
    have f3 := BK4.out.p.fr 3
    have f4 := BK4.out.p.fr 4
    clear hb4 ho4 BK3
    go_upto_region 14 with fail
    have bs5 := BK4.out.sets A' B' C' F' (.slice ad4 M cp4)
    have ht5 : Tls (((((w4.setCell ⟨q, 0, none⟩ (.int .u8 A')).setCell ⟨q, 1, none⟩ (.int .u8 B')).setCell ⟨q, 2, none⟩ (.int .u8 C')).setCell ⟨q, 3, none⟩ (.string (bs F'))).setCell ⟨q, 4, none⟩ (.slice ad4 M cp4)) (.slice ad4 M cp4) L := (((((HR4.out.set (by have := HL.out; omega) _).set (by have := HL.out; omega) _).set (by have := HL.out; omega) _).set (by have := HL.out; omega) _).set (by have := HL.out; omega) _).tls
    obtain ⟨w5, hw5⟩ : ∃ k, ((((w4.setCell ⟨q, 0, none⟩ (.int .u8 A')).setCell ⟨q, 1, none⟩ (.int .u8 B')).setCell ⟨q, 2, none⟩ (.int .u8 C')).setCell ⟨q, 3, none⟩ (.string (bs F'))).setCell ⟨q, 4, none⟩ (.slice ad4 M cp4) = k := ⟨_, rfl⟩
    rw [hw5] at bs5 ht5 ⊢
    have BK5 := Lib.hid bs5
    have HT5 := Lib.hid ht5
    clear hw5 bs5 ht5 m0 m1 m2 m3 m4 f0 f1 f2 f3 f4 BK4 HR4 HL
    have c0 := BK5.out.k.c 0 _ hR0
    obtain ⟨D', hD'⟩ : ∃ D, decide (r.lv < 8) = D := ⟨_, rfl⟩
    have de' : (e' == 0) = D' := by
      rcases OKR.out with ⟨h1, h2⟩ | ⟨h1, h2, -⟩
      · rw [h2, ← hD', decide_eq_false (by omega)]; rfl
      · rw [h2, ← hD', decide_eq_true (by omega)]; rfl
    go_upto_if 95 with fail
    go_cut [6] (fun s6 wx => s6 = .bool false ∧ Hid (Below w.heap.size w wx))
    case first =>
      rcases OKR.out with ⟨h1, he⟩ | ⟨h1, he, ha, hb, hc, hf, hl2, hl64, hpt, ⟨X, k1, k2, k3⟩, k4, k5⟩
      · have hDf : D' = false := by rw [← hD']; exact decide_eq_false (by omega)
        subst hDf
        clear hD' OKR
        go_wp2_with fail
        go_meet
        exact ⟨rfl, Lib.hid BK5.out.bel⟩
      have hDt : D' = true := by rw [← hD']; exact decide_eq_true (by omega)
      subst hDt
      have hl5 : ∀ x ∈ L, x.2.length ≤ maxLen := fun x hx => Nat.le_trans (hl64 x hx) (by decide)
      have U1 : Hid (∀ v w, Tls w v L → Calls Try.prog 17 #[.agg #[.int .u8 A', .int .u8 B', .int .u8 C', .string (bs F'), v]] w fun en w' => en = .returned (.tuple #[.string (bs X), .int .i64 0]) ∧ Below w.heap.size w w') := Lib.hid fun v w hv => by
        have h := cput_any v A' B' C' F' L w hv (by omega) hl5 (by omega) (by omega) ha hb hc
        rw [k1] at h; exact h
      have ad1 := run_add_bs X s (by have := HS.out; omega)
      have hsX := bs_size X
      have U2 : Hid (∀ w, Calls Try.prog 20 #[.string (bs (X ++ s))] w fun en w' => ∃ v', en = .returned (.tuple #[.agg #[.int .u8 A', .int .u8 B', .int .u8 C', .string (bs F'), v'], .int .i64 0]) ∧ TlT w' w.heap.size v' L ∧ Below w.heap.size w w') := Lib.hid fun w => by
        have h := ctake_any (X ++ s) w (by have := HS.out; simp; omega)
        rw [k3 s] at h; exact h
      have U3 : Hid (∀ v w, Calls Try.prog 40 #[.agg #[.int .u8 A', .int .u8 B', .int .u8 C', .string (bs F'), v]] w fun en w' => en = .returned (.tuple #[.agg ZT, .int .i64 4]) ∧ Below w.heap.size w w') := Lib.hid fun v w => TZ.out A' B' C' F' v w (by omega) k5
      have U4 : Hid (∀ v w, Tls w v L → Calls Try.prog 41 #[.agg #[.int .u8 A', .int .u8 B', .int .u8 C', .string (bs F'), v]] w fun en w' => en = .returned (.tuple #[.agg AR, .int .i64 0]) ∧ Below w.heap.size w w') := Lib.hid fun v w hv => RT_.out A' B' C' F' L v w (by omega) hc hv (by omega) (fun x hx => Nat.le_trans (hl64 x hx) (by decide)) k4
      have m0 := BK5.out.p.c0
      have m1 := BK5.out.p.c1
      have m2 := BK5.out.p.c2
      have m3 := BK5.out.p.c3
      have m4 := BK5.out.p.c4
      have HM := Lib.hid hM
      clear hD' h1 he ha hb hc hf hl2 hl64 hpt hl5 k1 k2 k3 k4 k5 OKR hM
      go_wp2_with fail
      with_reducible refine (U1.out _ _ HT5.out).mono ?_
      rintro en w6 ⟨rfl, hb6⟩
      have BK6 := Lib.hid (BK5.out.later hb6)
      clear hb6 BK5 HT5 m0 m1 m2 m3 m4 c0
      go_wp2_with fail
      with_reducible refine (U2.out _).mono ?_
      rintro en w7 ⟨v7, rfl, ho7, hb7⟩
      have BK7 := Lib.hid (BK6.out.later hb7)
      obtain ⟨ad7, cp7, hv7, _⟩ := ho7.tls.shape
      rw [HM.out] at hv7
      subst hv7
      have HT7 : Hid (Tls w7 (.slice ad7 M cp7) L) := Lib.hid ho7.tls
      clear hb7 ho7 BK6
      go_upto_region 19 with fail
      have pn := PB.new 32 w7 A' B' C' F' (.slice ad7 M cp7)
      have aa := (Below.refl w7.heap.size w7).alloc (Nat.le_refl _) (.cells #[.int .u8 A', .int .u8 B', .int .u8 C', .string (bs F'), .slice ad7 M cp7] 32)
      obtain ⟨n, hn⟩ : ∃ k, w7.heap.size = k := ⟨_, rfl⟩
      obtain ⟨w8, hw8⟩ : ∃ k, w7.alloc (.cells #[.int .u8 A', .int .u8 B', .int .u8 C', .string (bs F'), .slice ad7 M cp7] 32) = k := ⟨_, rfl⟩
      rw [hw8] at pn aa ⊢
      have BK8 := Lib.hid (BK7.out.later aa)
      have HT8 := Lib.hid (HT7.out.later aa)
      rw [hn] at pn ⊢
      have PN8 := Lib.hid pn
      have n0 := pn.c0
      have n1 := pn.c1
      have n2 := pn.c2
      have n3 := pn.c3
      have n4 := pn.c4
      clear pn aa hw8 hn BK7 HT7
      go_wp2_with fail
      with_reducible refine (U4.out _ _ HT8.out).mono ?_
      rintro en w9 ⟨rfl, hb9⟩
      have BK9 := Lib.hid (BK8.out.later hb9)
      have PN9 := Lib.hid (PN8.out.later hb9)
      clear hb9 BK8 PN8 HT8 n0 n1 n2 n3 n4
      have gz := GB.new 76 w9 #[.int .u8 0, .int .u32 0, .int .u8 0, .bool false, .bool false, .int .u8 0, .int .u8 0, .int .u8 0, .int .u8 0, .int .u8 0, .int .u8 0, .int .u8 0, .int .u8 0, .int .u8 0, .int .u8 0, .int .u8 0, .int .u8 0]
      have TH := Lib.hid (gz.there (n := AR.size) (Nat.le_of_eq SR.out))
      go_upto_region 20 with ((with_reducible refine wpList_store_mid rfl 76 (.tmp 21) (.tmp 111) rfl w9.heap.size 0 AR ?hx ?hy TH.out IR.out OR.out ?_); (case hx => rfl); (case hy => rfl))
      have g7 := gz.store (A := AR) SR.out.symm OR.out
      have hbz : Below w9.heap.size w9 ((w9.alloc (.cells #[.int .u8 0, .int .u32 0, .int .u8 0, .bool false, .bool false, .int .u8 0, .int .u8 0, .int .u8 0, .int .u8 0, .int .u8 0, .int .u8 0, .int .u8 0, .int .u8 0, .int .u8 0, .int .u8 0, .int .u8 0, .int .u8 0] 76)).setCells w9.heap.size 0 AR.toList) := below_cellsG (Nat.le_refl _) _ _ _ ((Below.refl _ _).alloc (Nat.le_refl _) _)
      obtain ⟨u, hu⟩ : ∃ k, w9.heap.size = k := ⟨_, rfl⟩
      obtain ⟨wa, hwa⟩ : ∃ k, (w9.alloc (.cells #[.int .u8 0, .int .u32 0, .int .u8 0, .bool false, .bool false, .int .u8 0, .int .u8 0, .int .u8 0, .int .u8 0, .int .u8 0, .int .u8 0, .int .u8 0, .int .u8 0, .int .u8 0, .int .u8 0, .int .u8 0, .int .u8 0] 76)).setCells w9.heap.size 0 AR.toList = k := ⟨_, rfl⟩
      have BKa := Lib.hid (BK9.out.later hbz)
      have PNa := Lib.hid (PN9.out.later hbz)
      rw [hu] at hwa
      rw [hu, hwa] at g7 BKa PNa ⊢
      have GUa := Lib.hid g7
      have n0 := PNa.out.c0
      have n1 := PNa.out.c1
      have n2 := PNa.out.c2
      have n3 := PNa.out.c3
      have n4 := PNa.out.c4
      clear gz g7 hbz hwa BK9 PN9 TH hu
      go_wp2_with fail
      with_reducible refine (U3.out _ _).mono ?_
      rintro en wb ⟨rfl, hbb⟩
      have BKb := Lib.hid (BKa.out.later hbb)
      have GUb := Lib.hid (GUa.out.later hbb)
      clear hbb BKa PNa GUa n0 n1 n2 n3 n4
      have gz := GB.new 72 wb #[.int .u8 0, .int .u32 0, .int .u8 0, .int .u8 0, .int .u8 0, .int .u8 0, .int .u8 0, .int .u8 0, .int .u8 0, .int .u8 0, .int .u8 0, .int .u8 0, .int .u8 0, .int .u8 0, .int .u8 0]
      have TH := Lib.hid (gz.there (n := ZT.size) (Nat.le_of_eq SZT.out))
      go_upto_region 21 with ((with_reducible refine wpList_store_mid rfl 72 (.tmp 23) (.tmp 116) rfl wb.heap.size 0 ZT ?hx ?hy TH.out IZT.out OZT.out ?_); (case hx => rfl); (case hy => rfl))
      have hbz : Below wb.heap.size wb ((wb.alloc (.cells #[.int .u8 0, .int .u32 0, .int .u8 0, .int .u8 0, .int .u8 0, .int .u8 0, .int .u8 0, .int .u8 0, .int .u8 0, .int .u8 0, .int .u8 0, .int .u8 0, .int .u8 0, .int .u8 0, .int .u8 0] 72)).setCells wb.heap.size 0 ZT.toList) := below_cellsG (Nat.le_refl _) _ _ _ ((Below.refl _ _).alloc (Nat.le_refl _) _)
      obtain ⟨wd, hwd⟩ : ∃ k, (wb.alloc (.cells #[.int .u8 0, .int .u32 0, .int .u8 0, .int .u8 0, .int .u8 0, .int .u8 0, .int .u8 0, .int .u8 0, .int .u8 0, .int .u8 0, .int .u8 0, .int .u8 0, .int .u8 0, .int .u8 0, .int .u8 0] 72)).setCells wb.heap.size 0 ZT.toList = k := ⟨_, rfl⟩
      have BKd := Lib.hid (BKb.out.later hbz)
      have GUd := Lib.hid (GUb.out.later hbz)
      rw [hwd] at BKd GUd ⊢
      clear gz hbz hwd BKb GUb TH
      go_wp2_with (first | ((with_reducible refine wpList_load_gG ?hw 76 (.tmp 21) rfl u 0 ?hx AR.toList _ GUd.out.range Try.underlying76 ?hu LR_.out ?_); (case hw => rfl); (case hx => rfl); (case hu => rfl)) | ((with_reducible refine wpList_load_gG ?hw 76 (.tmp 4) rfl (w.heap.size + 1) 0 ?hx AR.toList _ BKd.out.k.range Try.underlying76 ?hu LR_.out ?_); (case hw => rfl); (case hx => rfl); (case hu => rfl)))
      go_meet
      exact ⟨rfl, Lib.hid BKd.out.bel⟩
    case rest =>
      obtain ⟨rfl, HB6⟩ := hcut
      go_wp2_with fail
      with_reducible refine (WK.out _).mono ?_
      rintro en w7 ⟨rfl, hb7⟩
      go_wp2
      go_ret
      exact ⟨rfl, HB6.out.trans (hb7.mono HB6.out.size)⟩
end Go.Proofs.Ytcbbocdmmehphaa
