/- ccm: the walk of CcmTakes. -/
import Derived.Test.YtcbbocdmmehphaaD5
import Derived.Test.YtcbbocdmmehphaaD6
set_option linter.unusedVariables false
namespace Go.Proofs.Ytcbbocdmmehphaa
open Go.RowKit

theorem CB.both {T T' : TypeId} {W : World} {q q' : Nat} {xlv : Int} {xrd : Bool} {xiv xsq xme : Int} {xm : List UInt8} (h : CB T W q xlv xrd xiv xsq xme xm) (h' : CB T' W q' xlv xrd xiv xsq xme xm) :
    W.cell? ⟨q, 0, none⟩ = some (.int .u8 xlv) ∧ W.cell? ⟨q, 1, none⟩ = some (.bool xrd) ∧ W.cell? ⟨q, 2, none⟩ = some (.int .u8 xiv) ∧ W.cell? ⟨q, 3, none⟩ = some (.int .u32 xsq) ∧ W.cell? ⟨q, 4, none⟩ = some (.int .u16 xme) ∧ W.cell? ⟨q, 5, none⟩ = some (.string (bs xm)) ∧
    W.cell? ⟨q', 0, none⟩ = some (.int .u8 xlv) ∧ W.cell? ⟨q', 1, none⟩ = some (.bool xrd) ∧ W.cell? ⟨q', 2, none⟩ = some (.int .u8 xiv) ∧ W.cell? ⟨q', 3, none⟩ = some (.int .u32 xsq) ∧ W.cell? ⟨q', 4, none⟩ = some (.int .u16 xme) ∧ W.cell? ⟨q', 5, none⟩ = some (.string (bs xm)) :=
  ⟨h.c0, h.c1, h.c2, h.c3, h.c4, h.c5, h'.c0, h'.c1, h'.c2, h'.c3, h'.c4, h'.c5⟩
set_option maxRecDepth 100000 in
set_option maxHeartbeats 8000000 in
theorem CcmTakes_walk (a b c : Int) (f : List UInt8) (v : Value) (l : List Th) (w : World) (hA : PdA w a b c f v l) : Calls Try.prog 12 #[.agg #[.int .u8 a, .int .u8 b, .int .u8 c, .string (bs f), v]] w fun en w' => en = .returned (.bool true) ∧ Below w.heap.size w w' := by
  obtain ⟨ha, hb, hc, hf, hv, hl, hs⟩ := hA
  have WK := Lib.hid wakes13_any
  have hsf := bs_size f
  obtain ⟨ad, cp, rfl, _⟩ := hv.shape
  obtain ⟨N, hN⟩ : ∃ N, l.length = N := ⟨_, rfl⟩
  rw [hN] at hl hv ⊢
  have HV := Lib.hid hv
  clear hv
  go_enter Try.func12, Try.ntmps12
  go_upto_region 1 with fail
  have pb := PB.new 24 w a b c f (.slice ad N cp)
  have hb0 : Below w.heap.size w (w.alloc (.cells #[.int .u8 a, .int .u8 b, .int .u8 c, .string (bs f), .slice ad N cp] 24)) := (Below.refl _ _).alloc (Nat.le_refl _) _
  obtain ⟨w0, hw0⟩ : ∃ k, w.alloc (.cells #[.int .u8 a, .int .u8 b, .int .u8 c, .string (bs f), .slice ad N cp] 24) = k := ⟨_, rfl⟩
  rw [hw0] at pb hb0 ⊢
  have c0 := pb.c0
  have c1 := pb.c1
  have c2 := pb.c2
  have c3 := pb.c3
  have c4 := pb.c4
  have PB0 := Lib.hid pb
  have HB0 := Lib.hid hb0
  clear hw0 pb hb0
  by_cases h1 : 400 < f.length
  · have d1 : decide ((400 : Int) < (f.length : Int)) = true := decide_eq_true (by omega)
    go_wp2_with fail
    with_reducible refine (WK.out _).mono ?_
    rintro en w1 ⟨rfl, hb⟩
    go_wp2
    go_ret
    exact ⟨rfl, HB0.out.trans (hb.mono HB0.out.size)⟩
  have d1 : decide ((400 : Int) < (f.length : Int)) = false := decide_eq_false (by omega)
  by_cases h2 : 20 < N
  · have d2 : decide ((20 : Int) < (N : Int)) = true := decide_eq_true (by omega)
    go_wp2_with fail
    with_reducible refine (WK.out _).mono ?_
    rintro en w1 ⟨rfl, hb⟩
    go_wp2
    go_ret
    exact ⟨rfl, HB0.out.trans (hb.mono HB0.out.size)⟩
  have d2 : decide ((20 : Int) < (N : Int)) = false := decide_eq_false (by omega)
  obtain ⟨xlv, xrd, xiv, xsq, xme, xm, e, hT⟩ : ∃ xlv xrd xiv xsq xme xm e, tkC a b c f = (xlv, xrd, xiv, xsq, xme, xm, e) := ⟨_, _, _, _, _, _, _, rfl⟩
  have O1 : Hid (∀ w, Tls w (.slice ad N cp) l → Calls Try.prog 18 #[.agg #[.int .u8 a, .int .u8 b, .int .u8 c, .string (bs f), .slice ad N cp]] w fun en w' => ∃ v', en = .returned (.agg #[.int .u8 a, .int .u8 b, .int .u8 c, .string (bs f), v']) ∧ TlT w' w.heap.size v' l ∧ Below w.heap.size w w') := fun w h => of12_any _ a b c f l w h (by omega)
  have P1 : Hid (∀ ad' cp' w, Calls Try.prog 47 #[.agg #[.int .u8 a, .int .u8 b, .int .u8 c, .string (bs f), .slice ad' N cp']] w fun en w' => en = .returned (.tuple #[.agg #[.int .u8 xlv, .bool xrd, .int .u8 xiv, .int .u32 xsq, .int .u16 xme, .string (bs xm)], .int .i64 e]) ∧ Below w.heap.size w w') := fun ad' cp' w => by
    have h := cctake_any (.slice ad' N cp') a b c f w (by omega) ha hc ⟨_, _, _, rfl⟩
    rw [hT] at h; exact h
  have P2 : Hid (∀ w, Calls Try.prog 48 #[.agg #[.int .u8 a, .int .u8 b, .int .u8 c, .string (bs f), .slice ad N cp]] w fun en w' => en = .returned (.tuple #[.agg #[.int .u8 xlv, .bool xrd, .int .u8 xiv, .int .u32 xsq, .int .u16 xme, .string (bs xm)], .int .i64 e]) ∧ Below w.heap.size w w') := fun w => by
    have h := refTake13_any (.slice ad N cp) a b c f w (by omega) ha hc ⟨_, _, _, rfl⟩
    rw [hT] at h; exact h
  have O2 : Hid (∀ w, Calls Try.prog 44 #[.agg #[.int .u8 xlv, .bool xrd, .int .u8 xiv, .int .u32 xsq, .int .u16 xme, .string (bs xm)]] w fun en w' => en = .returned (.agg #[.int .u8 xlv, .bool xrd, .int .u8 xiv, .int .u32 xsq, .int .u16 xme, .string (bs xm)]) ∧ Below w.heap.size w w') := fun w => of13_any xlv xrd xiv xsq xme xm w
  have HN := Lib.hid hN
  clear hT h1 h2 ha hb hc hf hl hs hN
  go_wp2_with fail
  with_reducible refine (O1.out _ (HV.out.later HB0.out)).mono ?_
  rintro en w1 ⟨v1, rfl, ho1, hb1⟩
  have HB1 := Lib.hid (HB0.out.trans (hb1.mono HB0.out.size))
  have PB1 := Lib.hid (PB0.out.later hb1)
  obtain ⟨ad', cp', hv1, _⟩ := ho1.tls.shape
  rw [HN.out] at hv1
  subst hv1
  clear hb1 ho1 PB0 HB0 c0 c1 c2 c3 c4 O1 HV
  go_wp2_with fail
  with_reducible refine (P1.out _ _ _).mono ?_
  rintro en w2 ⟨rfl, hb2⟩
  have HB2 := Lib.hid (HB1.out.trans (hb2.mono HB1.out.size))
  have PB2 := Lib.hid (PB1.out.later hb2)
  clear hb2 PB1 HB1
  go_upto_region 4 with fail
  have cb := CB.new 88 w2 xlv xrd xiv xsq xme xm
  have aa := (Below.refl w2.heap.size w2).alloc (Nat.le_refl _) (.cells #[.int .u8 xlv, .bool xrd, .int .u8 xiv, .int .u32 xsq, .int .u16 xme, .string (bs xm)] 88)
  obtain ⟨q, hq⟩ : ∃ k, w2.heap.size = k := ⟨_, rfl⟩
  obtain ⟨w3, hw3⟩ : ∃ k, w2.alloc (.cells #[.int .u8 xlv, .bool xrd, .int .u8 xiv, .int .u32 xsq, .int .u16 xme, .string (bs xm)] 88) = k := ⟨_, rfl⟩
  rw [hw3] at cb aa ⊢
  have HB3 := Lib.hid (HB2.out.trans (aa.mono HB2.out.size))
  have PB3 := Lib.hid (PB2.out.later aa)
  rw [hq] at cb ⊢
  have CB3 := Lib.hid cb
  have c0 := PB3.out.c0
  have c1 := PB3.out.c1
  have c2 := PB3.out.c2
  have c3 := PB3.out.c3
  have c4 := PB3.out.c4
  clear cb aa hw3 hq PB2 HB2
  go_wp2_with fail
  with_reducible refine (P2.out _).mono ?_
  rintro en w4 ⟨rfl, hb4⟩
  have HB4 := Lib.hid (HB3.out.trans (hb4.mono HB3.out.size))
  have CB4 := Lib.hid (CB3.out.later hb4)
  clear hb4 PB3 CB3 HB3 c0 c1 c2 c3 c4
  go_upto_region 5 with fail
  have cr := CB.new 86 w4 xlv xrd xiv xsq xme xm
  have aa := (Below.refl w4.heap.size w4).alloc (Nat.le_refl _) (.cells #[.int .u8 xlv, .bool xrd, .int .u8 xiv, .int .u32 xsq, .int .u16 xme, .string (bs xm)] 86)
  obtain ⟨r, hr⟩ : ∃ k, w4.heap.size = k := ⟨_, rfl⟩
  obtain ⟨w5, hw5⟩ : ∃ k, w4.alloc (.cells #[.int .u8 xlv, .bool xrd, .int .u8 xiv, .int .u32 xsq, .int .u16 xme, .string (bs xm)] 86) = k := ⟨_, rfl⟩
  rw [hw5] at cr aa ⊢
  have HB5 := Lib.hid (HB4.out.trans (aa.mono HB4.out.size))
  have CB5 := Lib.hid (CB4.out.later aa)
  rw [hr] at cr ⊢
  have CR5 := Lib.hid cr
  clear cr aa hw5 hr CB4 HB4
  have cbd : CB 88 w5.drew q xlv xrd xiv xsq xme xm := CB5.out
  have crd : CB 86 w5.drew r xlv xrd xiv xsq xme xm := CR5.out
  have eqC : ∀ w : World, (binOp .eql 88 (.agg #[.int .u8 xlv, .bool xrd, .int .u8 xiv, .int .u32 xsq, .int .u16 xme, .string (bs xm)]) (.agg #[.int .u8 xlv, .bool xrd, .int .u8 xiv, .int .u32 xsq, .int .u16 xme, .string (bs xm)])).run Try.prog w = .ok (.bool true) w := run_eql_check xlv xrd xiv xsq xme xm
  have hg := eqGuard_ck
  have dee : (e == e) = true := by simp
  go_region_held3 (fun W => W.cell? ⟨q, 0, none⟩ = some (.int .u8 xlv) ∧ W.cell? ⟨q, 1, none⟩ = some (.bool xrd) ∧ W.cell? ⟨q, 2, none⟩ = some (.int .u8 xiv) ∧ W.cell? ⟨q, 3, none⟩ = some (.int .u32 xsq) ∧ W.cell? ⟨q, 4, none⟩ = some (.int .u16 xme) ∧ W.cell? ⟨q, 5, none⟩ = some (.string (bs xm)) ∧
    W.cell? ⟨r, 0, none⟩ = some (.int .u8 xlv) ∧ W.cell? ⟨r, 1, none⟩ = some (.bool xrd) ∧ W.cell? ⟨r, 2, none⟩ = some (.int .u8 xiv) ∧ W.cell? ⟨r, 3, none⟩ = some (.int .u32 xsq) ∧ W.cell? ⟨r, 4, none⟩ = some (.int .u16 xme) ∧ W.cell? ⟨r, 5, none⟩ = some (.string (bs xm)))
    (first | exact CB.both cbd crd | exact CB.both cbx crx | exact CB.both cby cry)
    (first
      | (go_at_call 44; (with_reducible refine (O2.out _).mono ?_); rintro en wx ⟨rfl, hbx⟩; have cbx := cbd.later hbx; have crx := crd.later hbx)
      | (go_at_call 42; (with_reducible refine (WK.out _).mono ?_); rintro en wy ⟨rfl, hby⟩; have cby := cbx.later hby; have cry := crx.later hby))
  all_goals go_wp2
  all_goals go_ret
  all_goals
    have k1 : Below w.heap.size w w5.drew := HB5.out.drew
    have k2 := k1.trans (hbx.mono k1.size)
    exact ⟨rfl, k2.trans (hby.mono k2.size)⟩
end Go.Proofs.Ytcbbocdmmehphaa
