/- lbm: the walk of LbmPuts. -/
import Derived.Test.YtcbbocdmmehphaaE8
import Derived.Test.YtcbbocdmmehphaaE2
import Derived.Test.YtcbbocdmmehphaaRL
import Derived.Test.YtcbbocdmmehphaaC2
set_option linter.unusedVariables false
namespace Go.Proofs.Ytcbbocdmmehphaa
open Go.RowKit

/-- Two messages side by side: their ten cells. -/
theorem PB.tenL {T U : TypeId} {W : World} {q r : Nat} {a b c a' b' c' : Int} {f f' : List UInt8} {v v' : Value} (h : PB T W q a b c f v) (k : PB U W r a' b' c' f' v') :
    W.cell? ⟨q, 0, none⟩ = some (.int .u8 a) ∧ W.cell? ⟨q, 1, none⟩ = some (.int .u8 b) ∧ W.cell? ⟨q, 2, none⟩ = some (.int .u8 c) ∧ W.cell? ⟨q, 3, none⟩ = some (.string (bs f)) ∧ W.cell? ⟨q, 4, none⟩ = some v ∧
    W.cell? ⟨r, 0, none⟩ = some (.int .u8 a') ∧ W.cell? ⟨r, 1, none⟩ = some (.int .u8 b') ∧ W.cell? ⟨r, 2, none⟩ = some (.int .u8 c') ∧ W.cell? ⟨r, 3, none⟩ = some (.string (bs f')) ∧ W.cell? ⟨r, 4, none⟩ = some v' :=
  ⟨h.c0, h.c1, h.c2, h.c3, h.c4, k.c0, k.c1, k.c2, k.c3, k.c4⟩
theorem putL_len (xlv : Int) (xrp : Bool) (xnm : Int) (xdt : List UInt8) : (putL xlv xrp xnm xdt).2.2.2.1.length ≤ 1 := by
  unfold putL thL
  split
  · exact Nat.zero_le _
  · split
    · exact Nat.zero_le _
    · show (if xdt = [] then [] else [(3, xdt)] : List Th).length ≤ 1
      split
      · exact Nat.zero_le _
      · exact Nat.le_refl _
set_option maxRecDepth 100000 in
set_option maxHeartbeats 8000000 in
theorem LbmPuts_walk (xlv : Int) (xrp : Bool) (xnm : Int) (xdt : List UInt8) (w : World) (hA : LpA xlv xnm xdt) : Calls Try.prog 6 #[.agg #[.int .u8 xlv, .bool xrp, .int .u32 xnm, .string (bs xdt)]] w fun en w' => en = .returned (.bool true) ∧ Below w.heap.size w w' := by
  obtain ⟨h1, h2, h3⟩ := hA
  have hsm := bs_size xdt
  have WK := Lib.hid wakes14_any
  go_enter Try.func6, Try.ntmps6
  go_upto_region 1 with fail
  have cb0 := LB.new 52 w xlv xrp xnm xdt
  have hb0 : Below w.heap.size w (w.alloc (.cells #[.int .u8 xlv, .bool xrp, .int .u32 xnm, .string (bs xdt)] 52)) := (Below.refl _ _).alloc (Nat.le_refl _) _
  obtain ⟨w0, hw0⟩ : ∃ k, w.alloc (.cells #[.int .u8 xlv, .bool xrp, .int .u32 xnm, .string (bs xdt)] 52) = k := ⟨_, rfl⟩
  rw [hw0] at cb0 hb0 ⊢
  have c0 := cb0.c0
  have c1 := cb0.c1
  have c2 := cb0.c2
  have c3 := cb0.c3
  have LB0 := Lib.hid cb0
  have HB0 := Lib.hid hb0
  clear hw0 cb0 hb0
  by_cases hl : 300 < xdt.length
  · have dl : decide ((300 : Int) < (xdt.length : Int)) = true := decide_eq_true (by omega)
    go_wp2_with fail
    with_reducible refine (WK.out _).mono ?_
    rintro en w1 ⟨rfl, hb⟩
    go_wp2
    go_ret
    exact ⟨rfl, HB0.out.trans (hb.mono HB0.out.size)⟩
  have dl : decide ((300 : Int) < (xdt.length : Int)) = false := decide_eq_false (by omega)
  have hth := putL_len xlv xrp xnm xdt
  obtain ⟨A, B, F, L, e, hP⟩ : ∃ A B F L e, putL xlv xrp xnm xdt = (A, B, F, L, e) := ⟨_, _, _, _, _, rfl⟩
  rw [hP] at hth
  have hth' : L.length ≤ 100000 := by show L.length ≤ 100000; have : L.length ≤ 1 := hth; omega
  have O1 : Hid (∀ w, Calls Try.prog 28 #[.agg #[.int .u8 xlv, .bool xrp, .int .u32 xnm, .string (bs xdt)]] w fun en w' => en = .returned (.agg #[.int .u8 xlv, .bool xrp, .int .u32 xnm, .string (bs xdt)]) ∧ Below w.heap.size w w') := fun w => of14_any xlv xrp xnm xdt w
  have P1 : Hid (∀ w, Calls Try.prog 27 #[.agg #[.int .u8 xlv, .bool xrp, .int .u32 xnm, .string (bs xdt)]] w fun en w' => ∃ v', en = .returned (.tuple #[.agg #[.int .u8 A, .int .u8 B, .int .u8 0, .string (bs F), v'], .int .i64 e]) ∧ TlT w' w.heap.size v' L ∧ Below w.heap.size w w') := fun w => by
    have h := lbput_any xlv xrp xnm xdt w (by omega) h2
    rw [hP] at h; exact h
  have P2 : Hid (∀ w, Calls Try.prog 29 #[.agg #[.int .u8 xlv, .bool xrp, .int .u32 xnm, .string (bs xdt)]] w fun en w' => ∃ v', en = .returned (.tuple #[.agg #[.int .u8 A, .int .u8 B, .int .u8 0, .string (bs F), v'], .int .i64 e]) ∧ TlR w' w.heap.size v' L ∧ Below w.heap.size w w') := fun w => by
    have h := refPut14_any xlv xrp xnm xdt w (by omega) h2
    rw [hP] at h; exact h
  have O2 : Hid (∀ v w, Tls w v L → Calls Try.prog 18 #[.agg #[.int .u8 A, .int .u8 B, .int .u8 0, .string (bs F), v]] w fun en w' => ∃ v', en = .returned (.agg #[.int .u8 A, .int .u8 B, .int .u8 0, .string (bs F), v']) ∧ TlT w' w.heap.size v' L ∧ Below w.heap.size w w') := fun v w hv => of12_any v A B 0 F L w hv hth'
  have S1 : Hid (∀ u v w, Tls w u L → Tls w v L → Calls Try.prog 21 #[.agg #[.int .u8 A, .int .u8 B, .int .u8 0, .string (bs F), u], .agg #[.int .u8 A, .int .u8 B, .int .u8 0, .string (bs F), v]] w fun en w' => en = .returned (.bool true) ∧ Below w.heap.size w w') := fun u v w hu hv => by
    have h := same12_any u v A B 0 A B 0 F F L L w hu hv hth' hth'
    rw [decide_eq_true ⟨rfl, rfl, rfl, rfl, rfl⟩] at h; exact h
  clear hP h1 h2 h3 hl hth hth'
  go_wp2_with fail
  with_reducible refine (O1.out _).mono ?_
  rintro en w1 ⟨rfl, hb1⟩
  have LB1 := Lib.hid (LB0.out.later hb1)
  have HB1 := Lib.hid (HB0.out.trans (hb1.mono HB0.out.size))
  clear hb1 LB0 HB0 c0 c1 c2 c3
  go_wp2_with fail
  with_reducible refine (P1.out _).mono ?_
  rintro en w2 ⟨v1, rfl, ho2, hb2⟩
  have LB2 := Lib.hid (LB1.out.later hb2)
  have HB2 := Lib.hid (HB1.out.trans (hb2.mono HB1.out.size))
  have HT2 := Lib.hid ho2.tls
  obtain ⟨vn, hvn⟩ : ∃ n, L.length = n := ⟨_, rfl⟩
  obtain ⟨s1, k1, hs1, -⟩ := ho2.tls.shape
  rw [hvn] at hs1
  subst hs1
  clear hb2 ho2 LB1 HB1
  go_upto_region 4 with fail
  have pb := PB.new 32 w2 A B 0 F (.slice s1 vn k1)
  have aa := (Below.refl w2.heap.size w2).alloc (Nat.le_refl _) (.cells #[.int .u8 A, .int .u8 B, .int .u8 0, .string (bs F), .slice s1 vn k1] 32)
  obtain ⟨q, hq⟩ : ∃ k, w2.heap.size = k := ⟨_, rfl⟩
  obtain ⟨w3, hw3⟩ : ∃ k, w2.alloc (.cells #[.int .u8 A, .int .u8 B, .int .u8 0, .string (bs F), .slice s1 vn k1] 32) = k := ⟨_, rfl⟩
  rw [hw3] at pb aa ⊢
  have LB3 := Lib.hid (LB2.out.later aa)
  have HT3 := Lib.hid (HT2.out.later aa)
  have HB3 := Lib.hid (HB2.out.trans (aa.mono HB2.out.size))
  rw [hq] at pb ⊢
  have PB3 := Lib.hid pb
  have c0 := LB3.out.c0
  have c1 := LB3.out.c1
  have c2 := LB3.out.c2
  have c3 := LB3.out.c3
  clear pb aa hw3 hq LB2 HB2 HT2
  go_wp2_with fail
  with_reducible refine (P2.out _).mono ?_
  rintro en w4 ⟨v2, rfl, ho4, hb4⟩
  have PB4 := Lib.hid (PB3.out.later hb4)
  have HT4 := Lib.hid (HT3.out.later hb4)
  have HR4 := Lib.hid ho4.tls
  have HB4 := Lib.hid (HB3.out.trans (hb4.mono HB3.out.size))
  obtain ⟨s2, k2, hs2, -⟩ := ho4.tls.shape
  rw [hvn] at hs2
  subst hs2
  clear hb4 ho4 LB3 PB3 HB3 HT3 c0 c1 c2 c3
  go_upto_region 5 with fail
  have pr := PB.new 24 w4 A B 0 F (.slice s2 vn k2)
  have aa := (Below.refl w4.heap.size w4).alloc (Nat.le_refl _) (.cells #[.int .u8 A, .int .u8 B, .int .u8 0, .string (bs F), .slice s2 vn k2] 24)
  obtain ⟨r, hr⟩ : ∃ k, w4.heap.size = k := ⟨_, rfl⟩
  obtain ⟨w5, hw5⟩ : ∃ k, w4.alloc (.cells #[.int .u8 A, .int .u8 B, .int .u8 0, .string (bs F), .slice s2 vn k2] 24) = k := ⟨_, rfl⟩
  rw [hw5] at pr aa ⊢
  have pa := PB4.out.later aa
  have tA := HT4.out.later aa
  have tR := HR4.out.later aa
  have HB5 := Lib.hid (HB4.out.trans (aa.mono HB4.out.size))
  rw [hr] at pr ⊢
  have pad : PB 32 w5.drew q A B 0 F (.slice s1 vn k1) := pa
  have prd : PB 24 w5.drew r A B 0 F (.slice s2 vn k2) := pr
  have tAd : Hid (Tls w5.drew (.slice s1 vn k1) L) := Lib.hid tA
  have tRd : Hid (Tls w5.drew (.slice s2 vn k2) L) := Lib.hid tR
  clear pa pr tA tR aa hw5 hr PB4 HB4 HT4 HR4 hvn hsm
  have kk : (e == e) = true := by simp
  go_region_held3 (fun W => W.cell? ⟨q, 0, none⟩ = some (.int .u8 A) ∧ W.cell? ⟨q, 1, none⟩ = some (.int .u8 B) ∧ W.cell? ⟨q, 2, none⟩ = some (.int .u8 0) ∧ W.cell? ⟨q, 3, none⟩ = some (.string (bs F)) ∧ W.cell? ⟨q, 4, none⟩ = some (.slice s1 vn k1) ∧ W.cell? ⟨r, 0, none⟩ = some (.int .u8 A) ∧ W.cell? ⟨r, 1, none⟩ = some (.int .u8 B) ∧ W.cell? ⟨r, 2, none⟩ = some (.int .u8 0) ∧ W.cell? ⟨r, 3, none⟩ = some (.string (bs F)) ∧ W.cell? ⟨r, 4, none⟩ = some (.slice s2 vn k2))
    (first | exact PB.tenL pad prd | exact PB.tenL pax prx | exact PB.tenL pay pry | exact PB.tenL paz prz)
    (first
      | (go_at_call 18; (with_reducible refine (O2.out _ _ tRd.out).mono ?_); rintro en wx ⟨vx, rfl, hox, hbx⟩; have pax := pad.later hbx; have prx := prd.later hbx; have tAx := Lib.hid (tAd.out.later hbx); have tvx := hox.tls)
      | (go_at_call 21; (with_reducible refine (S1.out _ _ _ tAx.out tvx).mono ?_); rintro en wy ⟨rfl, hby⟩; have pay := pax.later hby; have pry := prx.later hby)
      | (go_at_call 26; (with_reducible refine (WK.out _).mono ?_); rintro en wz ⟨rfl, hbz⟩; have paz := pay.later hbz; have prz := pry.later hbz))
  all_goals go_wp2
  all_goals go_ret
  all_goals
    have k1 : Below w.heap.size w w5.drew := HB5.out.drew
    have k2 := k1.trans (hbx.mono k1.size)
    have k3 := k2.trans (hby.mono k2.size)
    exact ⟨rfl, k3.trans (hbz.mono k3.size)⟩
end Go.Proofs.Ytcbbocdmmehphaa
