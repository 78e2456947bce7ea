/- lbm: the walk of LbmTakes. -/
import Derived.Test.YtcbbocdmmehphaaE8
import Derived.Test.YtcbbocdmmehphaaE6
import Derived.Test.YtcbbocdmmehphaaRP
import Derived.Test.YtcbbocdmmehphaaC2
set_option linter.unusedVariables false
namespace Go.Proofs.Ytcbbocdmmehphaa
open Go.RowKit

theorem LB.both {T T' : TypeId} {W : World} {q q' : Nat} {xlv : Int} {xrp : Bool} {xnm : Int} {xdt : List UInt8} (h : LB T W q xlv xrp xnm xdt) (h' : LB T' W q' xlv xrp xnm xdt) :
    W.cell? ⟨q, 0, none⟩ = some (.int .u8 xlv) ∧ W.cell? ⟨q, 1, none⟩ = some (.bool xrp) ∧ W.cell? ⟨q, 2, none⟩ = some (.int .u32 xnm) ∧ W.cell? ⟨q, 3, none⟩ = some (.string (bs xdt)) ∧
    W.cell? ⟨q', 0, none⟩ = some (.int .u8 xlv) ∧ W.cell? ⟨q', 1, none⟩ = some (.bool xrp) ∧ W.cell? ⟨q', 2, none⟩ = some (.int .u32 xnm) ∧ W.cell? ⟨q', 3, none⟩ = some (.string (bs xdt)) :=
  ⟨h.c0, h.c1, h.c2, h.c3, h'.c0, h'.c1, h'.c2, h'.c3⟩
theorem ansL_len (a b c : Int) (f : List UInt8) (l : List Th) : (ansL a b c f l).2.2.2.2.1.length ≤ l.length := by
  unfold ansL
  split
  · exact Nat.le_refl _
  · exact Nat.zero_le _
set_option maxRecDepth 100000 in
set_option maxHeartbeats 8000000 in
theorem LbmTakes_walk (a b c : Int) (f : List UInt8) (v : Value) (l : List Th) (w : World) (hA : PdA w a b c f v l) : Calls Try.prog 7 #[.agg #[.int .u8 a, .int .u8 b, .int .u8 c, .string (bs f), v]] w fun en w' => en = .returned (.bool true) ∧ Below w.heap.size w w' := by
  obtain ⟨ha, hb, hc, hf, hv, hl, hs⟩ := hA
  have WK := Lib.hid wakes14_any
  have hsf := bs_size f
  obtain ⟨ad, cp, rfl, _⟩ := hv.shape
  obtain ⟨N, hN⟩ : ∃ N, l.length = N := ⟨_, rfl⟩
  rw [hN] at hl hv ⊢
  have HV := Lib.hid hv
  clear hv
  go_enter Try.func7, Try.ntmps7
  go_upto_region 1 with fail
  have pb := PB.new 24 w a b c f (.slice ad N cp)
  have hb0 : Below w.heap.size w (w.alloc (.cells #[.int .u8 a, .int .u8 b, .int .u8 c, .string (bs f), .slice ad N cp] 24)) := (Below.refl _ _).alloc (Nat.le_refl _) _
  obtain ⟨w0, hw0⟩ : ∃ k, w.alloc (.cells #[.int .u8 a, .int .u8 b, .int .u8 c, .string (bs f), .slice ad N cp] 24) = k := ⟨_, rfl⟩
  rw [hw0] at pb hb0 ⊢
  have c0 := pb.c0
  have c1 := pb.c1
  have c2 := pb.c2
  have c3 := pb.c3
  have c4 := pb.c4
  have PB0 := Lib.hid pb
  have HB0 := Lib.hid hb0
  clear hw0 pb hb0
  by_cases h1 : 400 < f.length
  · have d1 : decide ((400 : Int) < (f.length : Int)) = true := decide_eq_true (by omega)
    go_wp2_with fail
    with_reducible refine (WK.out _).mono ?_
    rintro en w1 ⟨rfl, hb⟩
    go_wp2
    go_ret
    exact ⟨rfl, HB0.out.trans (hb.mono HB0.out.size)⟩
  have d1 : decide ((400 : Int) < (f.length : Int)) = false := decide_eq_false (by omega)
  by_cases h2 : 20 < N
  · have d2 : decide ((20 : Int) < (N : Int)) = true := decide_eq_true (by omega)
    go_wp2_with fail
    with_reducible refine (WK.out _).mono ?_
    rintro en w1 ⟨rfl, hb⟩
    go_wp2
    go_ret
    exact ⟨rfl, HB0.out.trans (hb.mono HB0.out.size)⟩
  have d2 : decide ((20 : Int) < (N : Int)) = false := decide_eq_false (by omega)
  obtain ⟨xlv, xrp, xnm, xdt, e, hT⟩ : ∃ xlv xrp xnm xdt e, tkL a b f l = (xlv, xrp, xnm, xdt, e) := ⟨_, _, _, _, _, rfl⟩
  have hLn := ansL_len a b c f l
  obtain ⟨A, B, C, F, L, g, hG⟩ : ∃ A B C F L g, ansL a b c f l = (A, B, C, F, L, g) := ⟨_, _, _, _, _, _, rfl⟩
  have hans : (A, B, C, F, L, g) = if e = 0 ∧ xrp = false then (a, 2, c, f, l, 0) else (0, 0, 0, [], [], 4) := by rw [← hG]; unfold ansL; rw [hT]
  rw [hG] at hLn
  have hLn' : L.length ≤ 100000 := by have : L.length ≤ l.length := hLn; omega
  have O1 : Hid (∀ w, Tls w (.slice ad N cp) l → Calls Try.prog 18 #[.agg #[.int .u8 a, .int .u8 b, .int .u8 c, .string (bs f), .slice ad N cp]] w fun en w' => ∃ v', en = .returned (.agg #[.int .u8 a, .int .u8 b, .int .u8 c, .string (bs f), v']) ∧ TlT w' w.heap.size v' l ∧ Below w.heap.size w w') := fun w h => of12_any _ a b c f l w h (by omega)
  have P1 : Hid (∀ ad' cp' w, Tls w (.slice ad' N cp') l → Calls Try.prog 30 #[.agg #[.int .u8 a, .int .u8 b, .int .u8 c, .string (bs f), .slice ad' N cp']] w fun en w' => en = .returned (.tuple #[.agg #[.int .u8 xlv, .bool xrp, .int .u32 xnm, .string (bs xdt)], .int .i64 e]) ∧ Below w.heap.size w w') := fun ad' cp' w hv => by
    have h := lbtake_any (.slice ad' N cp') l a b c f w (by omega) hb hv (by omega)
    rw [hT] at h; exact h
  have P2 : Hid (∀ w, Tls w (.slice ad N cp) l → Calls Try.prog 31 #[.agg #[.int .u8 a, .int .u8 b, .int .u8 c, .string (bs f), .slice ad N cp]] w fun en w' => en = .returned (.tuple #[.agg #[.int .u8 xlv, .bool xrp, .int .u32 xnm, .string (bs xdt)], .int .i64 e]) ∧ Below w.heap.size w w') := fun w hv => by
    have h := refTake14_any (.slice ad N cp) l a b c f w (by omega) hv (by omega)
    rw [hT] at h; exact h
  have P3 : Hid (∀ ad' cp' w, Tls w (.slice ad' N cp') l → Calls Try.prog 32 #[.agg #[.int .u8 a, .int .u8 b, .int .u8 c, .string (bs f), .slice ad' N cp']] w fun en w' => ∃ v', en = .returned (.tuple #[.agg #[.int .u8 A, .int .u8 B, .int .u8 C, .string (bs F), v'], .int .i64 g]) ∧ TlT w' w.heap.size v' L ∧ Below w.heap.size w w') := fun ad' cp' w hv => by
    have h := lbanswer_any (.slice ad' N cp') l a b c f w (by omega) hb hv (by omega)
    rw [hG] at h; exact h
  have O2 : Hid (∀ w, Calls Try.prog 28 #[.agg #[.int .u8 xlv, .bool xrp, .int .u32 xnm, .string (bs xdt)]] w fun en w' => en = .returned (.agg #[.int .u8 xlv, .bool xrp, .int .u32 xnm, .string (bs xdt)]) ∧ Below w.heap.size w w') := fun w => of14_any xlv xrp xnm xdt w
  have S1 : Hid (∀ u v w, Tls w u L → Tls w v L → Calls Try.prog 21 #[.agg #[.int .u8 A, .int .u8 B, .int .u8 C, .string (bs F), u], .agg #[.int .u8 A, .int .u8 B, .int .u8 C, .string (bs F), v]] w fun en w' => en = .returned (.bool true) ∧ Below w.heap.size w w') := fun u v w hu hv => by
    have h := same12_any u v A B C A B C F F L L w hu hv hLn' hLn'
    rw [decide_eq_true ⟨rfl, rfl, rfl, rfl, rfl⟩] at h; exact h
  have HN := Lib.hid hN
  have HANS := Lib.hid hans
  clear hT h1 h2 ha hb hc hf hl hs hN hLn hLn' hG hans
  go_wp2_with fail
  with_reducible refine (O1.out _ (HV.out.later HB0.out)).mono ?_
  rintro en w1 ⟨v1, rfl, ho1, hb1⟩
  have HB1 := Lib.hid (HB0.out.trans (hb1.mono HB0.out.size))
  have PB1 := Lib.hid (PB0.out.later hb1)
  have ht1 := ho1.tls
  obtain ⟨ad', cp', hv1, _⟩ := ho1.tls.shape
  rw [HN.out] at hv1
  subst hv1
  have HT1 := Lib.hid ht1
  clear hb1 ho1 ht1 PB0 HB0 c0 c1 c2 c3 c4
  go_wp2_with fail
  with_reducible refine (P1.out _ _ _ HT1.out).mono ?_
  rintro en w2 ⟨rfl, hb2⟩
  have HB2 := Lib.hid (HB1.out.trans (hb2.mono HB1.out.size))
  have PB2 := Lib.hid (PB1.out.later hb2)
  clear hb2 PB1 HB1 HT1
  go_upto_region 4 with fail
  have cb := LB.new 54 w2 xlv xrp xnm xdt
  have aa := (Below.refl w2.heap.size w2).alloc (Nat.le_refl _) (.cells #[.int .u8 xlv, .bool xrp, .int .u32 xnm, .string (bs xdt)] 54)
  obtain ⟨q, hq⟩ : ∃ k, w2.heap.size = k := ⟨_, rfl⟩
  obtain ⟨w3, hw3⟩ : ∃ k, w2.alloc (.cells #[.int .u8 xlv, .bool xrp, .int .u32 xnm, .string (bs xdt)] 54) = k := ⟨_, rfl⟩
  rw [hw3] at cb aa ⊢
  have HB3 := Lib.hid (HB2.out.trans (aa.mono HB2.out.size))
  have PB3 := Lib.hid (PB2.out.later aa)
  rw [hq] at cb ⊢
  have CB3 := Lib.hid cb
  have c0 := PB3.out.c0
  have c1 := PB3.out.c1
  have c2 := PB3.out.c2
  have c3 := PB3.out.c3
  have c4 := PB3.out.c4
  clear cb aa hw3 hq PB2 HB2
  go_wp2_with fail
  with_reducible refine (P2.out _ (HV.out.later HB3.out)).mono ?_
  rintro en w4 ⟨rfl, hb4⟩
  have HB4 := Lib.hid (HB3.out.trans (hb4.mono HB3.out.size))
  have CB4 := Lib.hid (CB3.out.later hb4)
  have PB4 := Lib.hid (PB3.out.later hb4)
  clear hb4 PB3 CB3 HB3 c0 c1 c2 c3 c4
  go_upto_region 5 with fail
  have cr := LB.new 52 w4 xlv xrp xnm xdt
  have aa := (Below.refl w4.heap.size w4).alloc (Nat.le_refl _) (.cells #[.int .u8 xlv, .bool xrp, .int .u32 xnm, .string (bs xdt)] 52)
  obtain ⟨r, hr⟩ : ∃ k, w4.heap.size = k := ⟨_, rfl⟩
  obtain ⟨w5, hw5⟩ : ∃ k, w4.alloc (.cells #[.int .u8 xlv, .bool xrp, .int .u32 xnm, .string (bs xdt)] 52) = k := ⟨_, rfl⟩
  rw [hw5] at cr aa ⊢
  have HB5 := Lib.hid (HB4.out.trans (aa.mono HB4.out.size))
  have CB5 := Lib.hid (CB4.out.later aa)
  have PB5 := Lib.hid (PB4.out.later aa)
  rw [hr] at cr ⊢
  have CR5 := Lib.hid cr
  have c0 := PB5.out.c0
  have c1 := PB5.out.c1
  have c2 := PB5.out.c2
  have c3 := PB5.out.c3
  have c4 := PB5.out.c4
  clear cr aa hw5 hr CB4 HB4 PB4
  go_wp2_with fail
  with_reducible refine (O1.out _ (HV.out.later HB5.out)).mono ?_
  rintro en w6 ⟨v1, rfl, ho1, hb1⟩
  have HB6 := Lib.hid (HB5.out.trans (hb1.mono HB5.out.size))
  have PB6 := Lib.hid (PB5.out.later hb1)
  have CB6 := Lib.hid (CB5.out.later hb1)
  have CR6 := Lib.hid (CR5.out.later hb1)
  have ht1 := ho1.tls
  obtain ⟨ad', cp', hv1, _⟩ := ho1.tls.shape
  rw [HN.out] at hv1
  subst hv1
  have HT6 := Lib.hid ht1
  clear hb1 ho1 ht1 PB5 HB5 CB5 CR5 c0 c1 c2 c3 c4
  go_wp2_with fail
  with_reducible refine (P3.out _ _ _ HT6.out).mono ?_
  rintro en w7 ⟨v3, rfl, ho3, hb3⟩
  have HB7 := Lib.hid (HB6.out.trans (hb3.mono HB6.out.size))
  have PB7 := Lib.hid (PB6.out.later hb3)
  have CB7 := Lib.hid (CB6.out.later hb3)
  have CR7 := Lib.hid (CR6.out.later hb3)
  have ht3 := ho3.tls
  obtain ⟨s3, k3, hv3, _⟩ := ho3.tls.shape
  obtain ⟨M, hM⟩ : ∃ M, L.length = M := ⟨_, rfl⟩
  rw [hM] at hv3
  subst hv3
  have HT7 := Lib.hid ht3
  clear hb3 ho3 ht3 PB6 HB6 CB6 CR6 HT6
  go_upto_region 6 with fail
  have ca := PB.new 32 w7 A B C F (.slice s3 M k3)
  have aa := (Below.refl w7.heap.size w7).alloc (Nat.le_refl _) (.cells #[.int .u8 A, .int .u8 B, .int .u8 C, .string (bs F), .slice s3 M k3] 32)
  obtain ⟨t, ht⟩ : ∃ k, w7.heap.size = k := ⟨_, rfl⟩
  obtain ⟨w8, hw8⟩ : ∃ k, w7.alloc (.cells #[.int .u8 A, .int .u8 B, .int .u8 C, .string (bs F), .slice s3 M k3] 32) = k := ⟨_, rfl⟩
  rw [hw8] at ca aa ⊢
  have HB8 := Lib.hid (HB7.out.trans (aa.mono HB7.out.size))
  have PB8 := Lib.hid (PB7.out.later aa)
  have CB8 := Lib.hid (CB7.out.later aa)
  have CR8 := Lib.hid (CR7.out.later aa)
  have HT8 := Lib.hid (HT7.out.later aa)
  rw [ht] at ca ⊢
  have CA8 := Lib.hid ca
  clear ca aa hw8 ht HB7 PB7 CB7 CR7 HT7
  have cbd : LB 54 w8.drew q xlv xrp xnm xdt := CB8.out
  have crd : LB 52 w8.drew r xlv xrp xnm xdt := CR8.out
  have eqC : ∀ w : World, (binOp .neq 54 (.agg #[.int .u8 xlv, .bool xrp, .int .u32 xnm, .string (bs xdt)]) (.agg #[.int .u8 xlv, .bool xrp, .int .u32 xnm, .string (bs xdt)])).run Try.prog w = .ok (.bool false) w := run_neq_loop xlv xrp xnm xdt
  have hg := eqGuard_lp
  have dee : (e != e) = false := by simp
  go_region_held3 (fun W => W.cell? ⟨q, 0, none⟩ = some (.int .u8 xlv) ∧ W.cell? ⟨q, 1, none⟩ = some (.bool xrp) ∧ W.cell? ⟨q, 2, none⟩ = some (.int .u32 xnm) ∧ W.cell? ⟨q, 3, none⟩ = some (.string (bs xdt)) ∧
    W.cell? ⟨r, 0, none⟩ = some (.int .u8 xlv) ∧ W.cell? ⟨r, 1, none⟩ = some (.bool xrp) ∧ W.cell? ⟨r, 2, none⟩ = some (.int .u32 xnm) ∧ W.cell? ⟨r, 3, none⟩ = some (.string (bs xdt)))
    (first | exact LB.both cbd crd | exact LB.both cbx crx)
    (first
      | (go_at_call 28; (with_reducible refine (O2.out _).mono ?_); rintro en wx ⟨rfl, hbx⟩; have cbx := cbd.later hbx; have crx := crd.later hbx))
  have k1 : Below w.heap.size w w8.drew := HB8.out.drew
  have HB9 := Lib.hid (k1.trans (hbx.mono k1.size))
  have PB9 := Lib.hid ((show PB 24 w8.drew w.heap.size a b c f (.slice ad N cp) from PB8.out).later hbx)
  have CA9 := Lib.hid ((show PB 32 w8.drew t A B C F (.slice s3 M k3) from CA8.out).later hbx)
  have HT9 := Lib.hid ((show Tls w8.drew (.slice s3 M k3) L from HT8.out).later hbx)
  have r1 := crx.c1
  clear HB8 PB8 CA8 HT8 cbd crd cbx crx hbx k1 CB8 CR8 eqC hg
  by_cases hok : e = 0 ∧ xrp = false
  rotate_left
  · have h4 : (A, B, C, F, L, g) = (0, 0, 0, [], [], 4) := by rw [HANS.out, if_neg hok]
    simp only [Prod.mk.injEq] at h4
    obtain ⟨rfl, rfl, rfl, rfl, rfl, rfl⟩ := h4
    have hM0 : M = 0 := hM.symm
    subst hM0
    have a0 := CA9.out.c0
    have a1 := CA9.out.c1
    have a2 := CA9.out.c2
    have a3 := CA9.out.c3
    have a4 := CA9.out.c4
    have S2 : Hid (∀ u v w, Tls w u [] → Tls w v [] → Calls Try.prog 21 #[.agg #[.int .u8 0, .int .u8 0, .int .u8 0, .string (bs []), u], .agg #[.int .u8 0, .int .u8 0, .int .u8 0, .string { data := #[] }, v]] w fun en w' => en = .returned (.bool true) ∧ Below w.heap.size w w') := S1
    have T0 : Hid (∀ w : World, Tls w (.slice none 0 0) []) := Lib.hid fun w => Tls.nil w
    by_cases he : e = 0
    · have de : (e != 0) = false := by rw [he]; rfl
      have dp : xrp = true := by
        cases xrp
        · exact absurd ⟨he, rfl⟩ hok
        · rfl
      subst dp
      clear hok he
      go_wp2_with fail
      with_reducible refine (S2.out _ _ _ HT9.out (T0.out _)).mono ?_
      rintro en wy ⟨rfl, hby⟩
      have HBy := Lib.hid (HB9.out.trans (hby.mono HB9.out.size))
      clear hby
      go_wp2_with fail
      with_reducible refine (WK.out _).mono ?_
      rintro en wz ⟨rfl, hbz⟩
      go_wp2
      go_ret
      exact ⟨rfl, HBy.out.trans (hbz.mono HBy.out.size)⟩
    · have de : (e != 0) = true := by rw [bne_iff_ne]; exact he
      clear hok he
      go_wp2_with fail
      with_reducible refine (S2.out _ _ _ HT9.out (T0.out _)).mono ?_
      rintro en wy ⟨rfl, hby⟩
      have HBy := Lib.hid (HB9.out.trans (hby.mono HB9.out.size))
      clear hby
      go_wp2_with fail
      with_reducible refine (WK.out _).mono ?_
      rintro en wz ⟨rfl, hbz⟩
      go_wp2
      go_ret
      exact ⟨rfl, HBy.out.trans (hbz.mono HBy.out.size)⟩
  have h4 : (A, B, C, F, L, g) = (a, 2, c, f, l, 0) := by rw [HANS.out, if_pos hok]
  simp only [Prod.mk.injEq] at h4
  obtain ⟨rfl, rfl, rfl, rfl, rfl, rfl⟩ := h4
  obtain ⟨rfl, rfl⟩ := hok
  have c0 := PB9.out.c0
  have c1 := PB9.out.c1
  have c2 := PB9.out.c2
  have c3 := PB9.out.c3
  have c4 := PB9.out.c4
  clear PB9
  go_wp2_with fail
  with_reducible refine (O1.out _ (HV.out.later HB9.out)).mono ?_
  rintro en w10 ⟨v1, rfl, ho1, hb1⟩
  have HB10 := Lib.hid (HB9.out.trans (hb1.mono HB9.out.size))
  have CA10 := Lib.hid (CA9.out.later hb1)
  have HT10 := Lib.hid (HT9.out.later hb1)
  have hto := ho1
  obtain ⟨ad', cp', hv1, _⟩ := ho1.tls.shape
  rw [HN.out] at hv1
  subst hv1
  have HO10 := Lib.hid hto
  clear hb1 ho1 hto HB9 CA9 HT9 c0 c1 c2 c3 c4 r1
  go_upto_region 11 with fail
  have pn := PB.new 32 w10 A b C F (.slice ad' N cp')
  have aa := (Below.refl w10.heap.size w10).alloc (Nat.le_refl _) (.cells #[.int .u8 A, .int .u8 b, .int .u8 C, .string (bs F), .slice ad' N cp'] 32)
  have k1 := pn.c1
  have r1 := pn.fr 1
  have ps := pn.set1 2
  have bb : Below w10.heap.size w10 ((w10.alloc (.cells #[.int .u8 A, .int .u8 b, .int .u8 C, .string (bs F), .slice ad' N cp'] 32)).setCell ⟨w10.heap.size, 1, none⟩ (.int .u8 2)) := below_set aa (Nat.le_refl _) _
  obtain ⟨u, hu⟩ : ∃ k, w10.heap.size = k := ⟨_, rfl⟩
  obtain ⟨wa, hwa⟩ : ∃ k, w10.alloc (.cells #[.int .u8 A, .int .u8 b, .int .u8 C, .string (bs F), .slice ad' N cp'] 32) = k := ⟨_, rfl⟩
  rw [hwa] at k1 r1 ps bb ⊢
  have HT11 := Lib.hid (HT10.out.later bb)
  have HO11 := Lib.hid (HO10.out.tls.later bb)
  have CA11 := Lib.hid (CA10.out.later bb)
  have HB11 := Lib.hid (HB10.out.trans (bb.mono HB10.out.size))
  rw [hu] at k1 r1 ps HT11 HO11 CA11 HB11 ⊢
  have PS11 := Lib.hid ps
  clear pn aa ps bb hu hwa HT10 HO10 CA10 HB10
  go_upto_region 12 with fail
  obtain ⟨wb, hwb⟩ : ∃ k, wa.setCell ⟨u, 1, none⟩ (.int .u8 2) = k := ⟨_, rfl⟩
  rw [hwb] at PS11 HT11 HO11 CA11 HB11 ⊢
  clear hwb k1 r1
  have a0 := CA11.out.c0
  have a1 := CA11.out.c1
  have a2 := CA11.out.c2
  have a3 := CA11.out.c3
  have a4 := CA11.out.c4
  have b0 := PS11.out.c0
  have b1 := PS11.out.c1
  have b2 := PS11.out.c2
  have b3 := PS11.out.c3
  have b4 := PS11.out.c4
  go_wp2_with fail
  with_reducible refine (S1.out _ _ _ HT11.out HO11.out).mono ?_
  rintro en wy ⟨rfl, hby⟩
  have HBy := Lib.hid (HB11.out.trans (hby.mono HB11.out.size))
  clear hby
  go_wp2_with fail
  with_reducible refine (WK.out _).mono ?_
  rintro en wz ⟨rfl, hbz⟩
  go_wp2
  go_ret
  exact ⟨rfl, HBy.out.trans (hbz.mono HBy.out.size)⟩
end Go.Proofs.Ytcbbocdmmehphaa
