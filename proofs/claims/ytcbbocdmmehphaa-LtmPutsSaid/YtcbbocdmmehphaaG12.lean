/- ltm: the walk of LtmPuts. -/
import Derived.Test.YtcbbocdmmehphaaG11
import Derived.Test.YtcbbocdmmehphaaG2
import Derived.Test.YtcbbocdmmehphaaG5
import Derived.Test.YtcbbocdmmehphaaRG
import Derived.Test.YtcbbocdmmehphaaC1
import Derived.Test.YtcbbocdmmehphaaC2
set_option linter.unusedVariables false
namespace Go.Proofs.Ytcbbocdmmehphaa
open Go.RowKit

/-- The four messages side by side. -/
structure L4 (W : World) (q1 q2 q3 q4 : Nat) (A B C : Int) (F : List UInt8) (A' B' C' : Int) (F' : List UInt8) (v1 v2 : Value) (L : List Th) : Prop where
  p1 : PB 32 W q1 A B C F (.slice none 0 0)
  p2 : PB 24 W q2 A B C F (.slice none 0 0)
  p3 : PB 32 W q3 A' B' C' F' v1
  p4 : PB 24 W q4 A' B' C' F' v2
  t1 : Tls W v1 L
  t2 : Tls W v2 L
section
variable {W W' : World} {q1 q2 q3 q4 : Nat} {A B C A' B' C' : Int} {F F' : List UInt8} {v1 v2 : Value} {L : List Th}
theorem L4.later (h : L4 W q1 q2 q3 q4 A B C F A' B' C' F' v1 v2 L) (hb : Below W.heap.size W W') : L4 W' q1 q2 q3 q4 A B C F A' B' C' F' v1 v2 L :=
  ⟨h.p1.later hb, h.p2.later hb, h.p3.later hb, h.p4.later hb, h.t1.later hb, h.t2.later hb⟩
theorem L4.sat (h : L4 W q1 q2 q3 q4 A B C F A' B' C' F' v1 v2 L) :
    W.cell? ⟨q1, 0, none⟩ = some (.int .u8 A) ∧ W.cell? ⟨q1, 1, none⟩ = some (.int .u8 B) ∧ W.cell? ⟨q1, 2, none⟩ = some (.int .u8 C) ∧ W.cell? ⟨q1, 3, none⟩ = some (.string (bs F)) ∧ W.cell? ⟨q1, 4, none⟩ = some (.slice none 0 0) ∧
    W.cell? ⟨q2, 0, none⟩ = some (.int .u8 A) ∧ W.cell? ⟨q2, 1, none⟩ = some (.int .u8 B) ∧ W.cell? ⟨q2, 2, none⟩ = some (.int .u8 C) ∧ W.cell? ⟨q2, 3, none⟩ = some (.string (bs F)) ∧ W.cell? ⟨q2, 4, none⟩ = some (.slice none 0 0) ∧
    W.cell? ⟨q3, 0, none⟩ = some (.int .u8 A') ∧ W.cell? ⟨q3, 1, none⟩ = some (.int .u8 B') ∧ W.cell? ⟨q3, 2, none⟩ = some (.int .u8 C') ∧ W.cell? ⟨q3, 3, none⟩ = some (.string (bs F')) ∧ W.cell? ⟨q3, 4, none⟩ = some v1 ∧
    W.cell? ⟨q4, 0, none⟩ = some (.int .u8 A') ∧ W.cell? ⟨q4, 1, none⟩ = some (.int .u8 B') ∧ W.cell? ⟨q4, 2, none⟩ = some (.int .u8 C') ∧ W.cell? ⟨q4, 3, none⟩ = some (.string (bs F')) ∧ W.cell? ⟨q4, 4, none⟩ = some v2 :=
  ⟨h.p1.c0, h.p1.c1, h.p1.c2, h.p1.c3, h.p1.c4, h.p2.c0, h.p2.c1, h.p2.c2, h.p2.c3, h.p2.c4, h.p3.c0, h.p3.c1, h.p3.c2, h.p3.c3, h.p3.c4, h.p4.c0, h.p4.c1, h.p4.c2, h.p4.c3, h.p4.c4⟩
end
set_option maxRecDepth 100000 in
set_option maxHeartbeats 8000000 in
theorem LtmPuts_walk (t : Tr) (r : Rp) (w : World) (ht : t.Ok) (hr : r.Ok) : Calls Try.prog 9 #[.agg #[.int .u8 t.lv, .int .u32 t.nm, .int .u8 t.tl, .int .u8 t.fr.a, .int .u8 t.fr.b, .int .u8 t.fr.c, .int .u8 t.fr.d, .int .u8 t.fr.e, .int .u8 t.fr.f, .int .u8 t.tt.a, .int .u8 t.tt.b, .int .u8 t.tt.c, .int .u8 t.tt.d, .int .u8 t.tt.e, .int .u8 t.tt.f], .agg #[.int .u8 r.lv, .int .u32 r.nm, .int .u8 r.tl, .bool r.st, .bool r.en, .int .u8 r.mi.a, .int .u8 r.mi.b, .int .u8 r.mi.c, .int .u8 r.mi.d, .int .u8 r.mi.e, .int .u8 r.mi.f, .int .u8 r.mo.a, .int .u8 r.mo.b, .int .u8 r.mo.c, .int .u8 r.mo.d, .int .u8 r.mo.e, .int .u8 r.mo.f]] w fun en w' => en = .returned (.bool true) ∧ Below w.heap.size w w' := by
  have WK := Lib.hid wakes15_any
  obtain ⟨AT, hAT⟩ : ∃ A : Array Value, A = #[.int .u8 t.lv, .int .u32 t.nm, .int .u8 t.tl, .int .u8 t.fr.a, .int .u8 t.fr.b, .int .u8 t.fr.c, .int .u8 t.fr.d, .int .u8 t.fr.e, .int .u8 t.fr.f, .int .u8 t.tt.a, .int .u8 t.tt.b, .int .u8 t.tt.c, .int .u8 t.tt.d, .int .u8 t.tt.e, .int .u8 t.tt.f] := ⟨_, rfl⟩
  obtain ⟨AR, hAR⟩ : ∃ A : Array Value, A = #[.int .u8 r.lv, .int .u32 r.nm, .int .u8 r.tl, .bool r.st, .bool r.en, .int .u8 r.mi.a, .int .u8 r.mi.b, .int .u8 r.mi.c, .int .u8 r.mi.d, .int .u8 r.mi.e, .int .u8 r.mi.f, .int .u8 r.mo.a, .int .u8 r.mo.b, .int .u8 r.mo.c, .int .u8 r.mo.d, .int .u8 r.mo.e, .int .u8 r.mo.f] := ⟨_, rfl⟩
  obtain ⟨A, B, C, F, e, hP⟩ : ∃ A B C F e, putTr t = (A, B, C, F, e) := ⟨_, _, _, _, _, rfl⟩
  have hlen : (putRp r).2.2.2.2.1.length ≤ 100000 := by
    unfold putRp
    split
    · exact Nat.zero_le _
    · show (prtL 5 r.mi ++ prtL 6 r.mo).length ≤ 100000
      have h5 := prtL_len 5 r.mi
      have h6 := prtL_len 6 r.mo
      rw [List.length_append]; omega
  obtain ⟨A', B', C', F', L, e', hQ⟩ : ∃ A B C F L e, putRp r = (A, B, C, F, L, e) := ⟨_, _, _, _, _, _, rfl⟩
  rw [hQ] at hlen
  have hlen' : L.length ≤ 100000 := hlen
  have O1 : Hid (∀ w, Calls Try.prog 34 #[.agg AT] w fun en w' => en = .returned (.agg AT) ∧ Below w.heap.size w w') := Lib.hid (by rw [hAT]; exact fun w => of15_any t w)
  have O2 : Hid (∀ w, Calls Try.prog 37 #[.agg AR] w fun en w' => en = .returned (.agg AR) ∧ Below w.heap.size w w') := Lib.hid (by rw [hAR]; exact fun w => ofR15_any r w)
  have P1 : Hid (∀ w, Calls Try.prog 33 #[.agg AT] w fun en w' => en = .returned (.tuple #[.agg #[.int .u8 A, .int .u8 B, .int .u8 C, .string (bs F), .slice none 0 0], .int .i64 e]) ∧ Below w.heap.size w w') := Lib.hid fun w => by
    have h := ltput_any t w ht
    rw [hP] at h; rw [hAT]; exact h
  have P2 : Hid (∀ w, Calls Try.prog 35 #[.agg AT] w fun en w' => en = .returned (.tuple #[.agg #[.int .u8 A, .int .u8 B, .int .u8 C, .string (bs F), .slice none 0 0], .int .i64 e]) ∧ Below w.heap.size w w') := Lib.hid fun w => by
    have h := refPut15_any t w ht
    rw [hP] at h; rw [hAT]; exact h
  have P3 : Hid (∀ w, Calls Try.prog 36 #[.agg AR] w fun en w' => ∃ v', en = .returned (.tuple #[.agg #[.int .u8 A', .int .u8 B', .int .u8 C', .string (bs F'), v'], .int .i64 e']) ∧ TlT w' w.heap.size v' L ∧ Below w.heap.size w w') := Lib.hid fun w => by
    have h := ltputR_any r w hr
    rw [hQ] at h; rw [hAR]; exact h
  have P4 : Hid (∀ w, Calls Try.prog 38 #[.agg AR] w fun en w' => ∃ v', en = .returned (.tuple #[.agg #[.int .u8 A', .int .u8 B', .int .u8 C', .string (bs F'), v'], .int .i64 e']) ∧ TlR w' w.heap.size v' L ∧ Below w.heap.size w w') := Lib.hid fun w => by
    have h := refPutR15_any r w hr
    rw [hQ] at h; rw [hAR]; exact h
  have F1 : Hid (∀ w, Calls Try.prog 18 #[.agg #[.int .u8 A, .int .u8 B, .int .u8 C, .string (bs F), .slice none 0 0]] w fun en w' => ∃ v', en = .returned (.agg #[.int .u8 A, .int .u8 B, .int .u8 C, .string (bs F), v']) ∧ TlT w' w.heap.size v' [] ∧ Below w.heap.size w w') := Lib.hid fun w => of12_any _ A B C F [] w (TlT.none w 0).tls (by simp)
  have F2 : Hid (∀ v w, Tls w v L → Calls Try.prog 18 #[.agg #[.int .u8 A', .int .u8 B', .int .u8 C', .string (bs F'), v]] w fun en w' => ∃ v', en = .returned (.agg #[.int .u8 A', .int .u8 B', .int .u8 C', .string (bs F'), v']) ∧ TlT w' w.heap.size v' L ∧ Below w.heap.size w w') := Lib.hid fun v w hv => of12_any v A' B' C' F' L w hv hlen'
  have S1 : Hid (∀ v w, Tls w v [] → Calls Try.prog 21 #[.agg #[.int .u8 A, .int .u8 B, .int .u8 C, .string (bs F), .slice none 0 0], .agg #[.int .u8 A, .int .u8 B, .int .u8 C, .string (bs F), v]] w fun en w' => en = .returned (.bool true) ∧ Below w.heap.size w w') := Lib.hid fun v w hv => by
    have h := same12_any _ v A B C A B C F F [] [] w (TlT.none w 0).tls hv (by simp) (by simp)
    rw [decide_eq_true ⟨rfl, rfl, rfl, rfl, rfl⟩] at h; exact h
  have S2 : Hid (∀ u v w, Tls w u L → Tls w v L → Calls Try.prog 21 #[.agg #[.int .u8 A', .int .u8 B', .int .u8 C', .string (bs F'), u], .agg #[.int .u8 A', .int .u8 B', .int .u8 C', .string (bs F'), v]] w fun en w' => en = .returned (.bool true) ∧ Below w.heap.size w w') := Lib.hid fun u v w hu hv => by
    have h := same12_any u v A' B' C' A' B' C' F' F' L L w hu hv hlen' hlen'
    rw [decide_eq_true ⟨rfl, rfl, rfl, rfl, rfl⟩] at h; exact h
  have HIT : Hid ((Try.prog.info? 68).map (·.size) = some AT.toList.length) := Lib.hid (by rw [hAT]; kernel_rfl)
  have HIR : Hid ((Try.prog.info? 70).map (·.size) = some AR.toList.length) := Lib.hid (by rw [hAR]; kernel_rfl)
  rw [← hAT, ← hAR]
  clear hP hQ hlen hlen' ht hr hAT hAR
  go_enter Try.func9, Try.ntmps9
  go_upto_region 1 with fail
  have g0 := (GB.new 68 w AT).later ((Below.refl _ _).alloc (Nat.le_refl _) (.cells AR 70))
  have k0 : GB 70 ((w.alloc (.cells AT 68)).alloc (.cells AR 70)) (w.heap.size + 1) AR := by
    have := GB.new 70 (w.alloc (.cells AT 68)) AR
    rw [show (w.alloc (.cells AT 68)).heap.size = w.heap.size + 1 by simp] at this
    exact this
  have hb0 : Below w.heap.size w ((w.alloc (.cells AT 68)).alloc (.cells AR 70)) := ((Below.refl _ _).alloc (Nat.le_refl _) _).alloc (by simp) _
  obtain ⟨w0, hw0⟩ : ∃ k, (w.alloc (.cells AT 68)).alloc (.cells AR 70) = k := ⟨_, rfl⟩
  rw [hw0] at g0 k0 hb0 ⊢
  have G0 := Lib.hid g0
  have K0 := Lib.hid k0
  have HB0 := Lib.hid hb0
  clear hw0 g0 k0 hb0
  go_wp2_with ((with_reducible refine wpList_load_mid rfl 68 (.tmp 2) rfl w.heap.size 0 ?hx AT.toList _ G0.out.range Try.underlying68 ?hu HIT.out ?_); (case hx => rfl); (case hu => rfl))
  with_reducible refine (O1.out _).mono ?_
  rintro en w1 ⟨rfl, hb1⟩
  have G1 := Lib.hid (G0.out.later hb1)
  have K1 := Lib.hid (K0.out.later hb1)
  have HB1 := Lib.hid (HB0.out.trans (hb1.mono HB0.out.size))
  clear hb1 G0 K0 HB0
  go_wp2_with fail
  with_reducible refine (P1.out _).mono ?_
  rintro en w2 ⟨rfl, hb2⟩
  have G2 := Lib.hid (G1.out.later hb2)
  have K2 := Lib.hid (K1.out.later hb2)
  have HB2 := Lib.hid (HB1.out.trans (hb2.mono HB1.out.size))
  clear hb2 G1 K1 HB1
  go_upto_region 2 with fail
  have pb := PB.new 32 w2 A B C F (.slice none 0 0)
  have aa := (Below.refl w2.heap.size w2).alloc (Nat.le_refl _) (.cells #[.int .u8 A, .int .u8 B, .int .u8 C, .string (bs F), .slice none 0 0] 32)
  obtain ⟨q1, hq⟩ : ∃ k, w2.heap.size = k := ⟨_, rfl⟩
  obtain ⟨w3, hw3⟩ : ∃ k, w2.alloc (.cells #[.int .u8 A, .int .u8 B, .int .u8 C, .string (bs F), .slice none 0 0] 32) = k := ⟨_, rfl⟩
  rw [hw3] at pb aa ⊢
  have G3 := Lib.hid (G2.out.later aa)
  have K3 := Lib.hid (K2.out.later aa)
  have HB3 := Lib.hid (HB2.out.trans (aa.mono HB2.out.size))
  rw [hq] at pb ⊢
  have PA3 := Lib.hid pb
  clear pb aa hw3 hq G2 K2 HB2
  go_wp2_with ((with_reducible refine wpList_load_mid rfl 68 (.tmp 2) rfl w.heap.size 0 ?hx AT.toList _ G3.out.range Try.underlying68 ?hu HIT.out ?_); (case hx => rfl); (case hu => rfl))
  with_reducible refine (P2.out _).mono ?_
  rintro en w4 ⟨rfl, hb4⟩
  have K4 := Lib.hid (K3.out.later hb4)
  have PA4 := Lib.hid (PA3.out.later hb4)
  have HB4 := Lib.hid (HB3.out.trans (hb4.mono HB3.out.size))
  clear hb4 G3 K3 HB3 PA3
  go_upto_region 3 with fail
  have pb := PB.new 24 w4 A B C F (.slice none 0 0)
  have aa := (Below.refl w4.heap.size w4).alloc (Nat.le_refl _) (.cells #[.int .u8 A, .int .u8 B, .int .u8 C, .string (bs F), .slice none 0 0] 24)
  obtain ⟨q2, hq⟩ : ∃ k, w4.heap.size = k := ⟨_, rfl⟩
  obtain ⟨w5, hw5⟩ : ∃ k, w4.alloc (.cells #[.int .u8 A, .int .u8 B, .int .u8 C, .string (bs F), .slice none 0 0] 24) = k := ⟨_, rfl⟩
  rw [hw5] at pb aa ⊢
  have K5 := Lib.hid (K4.out.later aa)
  have PA5 := Lib.hid (PA4.out.later aa)
  have HB5 := Lib.hid (HB4.out.trans (aa.mono HB4.out.size))
  rw [hq] at pb ⊢
  have PB5 := Lib.hid pb
  clear pb aa hw5 hq K4 PA4 HB4
  go_wp2_with ((with_reducible refine wpList_load_mid rfl 70 (.tmp 3) rfl (w.heap.size + 1) 0 ?hx AR.toList _ K5.out.range Try.underlying70 ?hu HIR.out ?_); (case hx => rfl); (case hu => rfl))
  with_reducible refine (O2.out _).mono ?_
  rintro en w6 ⟨rfl, hb6⟩
  have K6 := Lib.hid (K5.out.later hb6)
  have PA6 := Lib.hid (PA5.out.later hb6)
  have PB6 := Lib.hid (PB5.out.later hb6)
  have HB6 := Lib.hid (HB5.out.trans (hb6.mono HB5.out.size))
  clear hb6 K5 PA5 PB5 HB5
  go_wp2_with fail
  with_reducible refine (P3.out _).mono ?_
  rintro en w7 ⟨v1, rfl, ho7, hb7⟩
  have K7 := Lib.hid (K6.out.later hb7)
  have PA7 := Lib.hid (PA6.out.later hb7)
  have PB7 := Lib.hid (PB6.out.later hb7)
  have HB7 := Lib.hid (HB6.out.trans (hb7.mono HB6.out.size))
  have HT7 := Lib.hid ho7.tls
  obtain ⟨vn, hvn⟩ : ∃ n, L.length = n := ⟨_, rfl⟩
  obtain ⟨s1, k1, hs1, -⟩ := ho7.tls.shape
  rw [hvn] at hs1
  subst hs1
  clear hb7 ho7 K6 PA6 PB6 HB6
  go_upto_region 4 with fail
  have pb := PB.new 32 w7 A' B' C' F' (.slice s1 vn k1)
  have aa := (Below.refl w7.heap.size w7).alloc (Nat.le_refl _) (.cells #[.int .u8 A', .int .u8 B', .int .u8 C', .string (bs F'), .slice s1 vn k1] 32)
  obtain ⟨q3, hq⟩ : ∃ k, w7.heap.size = k := ⟨_, rfl⟩
  obtain ⟨w8, hw8⟩ : ∃ k, w7.alloc (.cells #[.int .u8 A', .int .u8 B', .int .u8 C', .string (bs F'), .slice s1 vn k1] 32) = k := ⟨_, rfl⟩
  rw [hw8] at pb aa ⊢
  have K8 := Lib.hid (K7.out.later aa)
  have PA8 := Lib.hid (PA7.out.later aa)
  have PB8 := Lib.hid (PB7.out.later aa)
  have HT8 := Lib.hid (HT7.out.later aa)
  have HB8 := Lib.hid (HB7.out.trans (aa.mono HB7.out.size))
  rw [hq] at pb ⊢
  have PC8 := Lib.hid pb
  clear pb aa hw8 hq K7 PA7 PB7 HT7 HB7
  go_wp2_with ((with_reducible refine wpList_load_mid rfl 70 (.tmp 3) rfl (w.heap.size + 1) 0 ?hx AR.toList _ K8.out.range Try.underlying70 ?hu HIR.out ?_); (case hx => rfl); (case hu => rfl))
  with_reducible refine (P4.out _).mono ?_
  rintro en w9 ⟨v2, rfl, ho9, hb9⟩
  have PA9 := Lib.hid (PA8.out.later hb9)
  have PB9 := Lib.hid (PB8.out.later hb9)
  have PC9 := Lib.hid (PC8.out.later hb9)
  have HT9 := Lib.hid (HT8.out.later hb9)
  have HR9 := Lib.hid ho9.tls
  have HB9 := Lib.hid (HB8.out.trans (hb9.mono HB8.out.size))
  obtain ⟨s2, k2, hs2, -⟩ := ho9.tls.shape
  rw [hvn] at hs2
  subst hs2
  clear hb9 ho9 K8 PA8 PB8 PC8 HT8 HB8
  go_upto_region 5 with fail
  have pb := PB.new 24 w9 A' B' C' F' (.slice s2 vn k2)
  have aa := (Below.refl w9.heap.size w9).alloc (Nat.le_refl _) (.cells #[.int .u8 A', .int .u8 B', .int .u8 C', .string (bs F'), .slice s2 vn k2] 24)
  obtain ⟨q4, hq⟩ : ∃ k, w9.heap.size = k := ⟨_, rfl⟩
  obtain ⟨wa, hwa⟩ : ∃ k, w9.alloc (.cells #[.int .u8 A', .int .u8 B', .int .u8 C', .string (bs F'), .slice s2 vn k2] 24) = k := ⟨_, rfl⟩
  rw [hwa] at pb aa ⊢
  rw [hq] at pb ⊢
  have LD : Hid (L4 wa.drew q1 q2 q3 q4 A B C F A' B' C' F' (.slice s1 vn k1) (.slice s2 vn k2) L) := Lib.hid ((L4.mk (PA9.out.later aa) (PB9.out.later aa) (PC9.out.later aa) pb (HT9.out.later aa) (HR9.out.later aa)).later (Below.refl _ _).drew)
  have HB : Hid (Below w.heap.size w wa.drew) := Lib.hid (HB9.out.trans (aa.mono HB9.out.size)).drew
  clear pb aa hwa hq PA9 PB9 PC9 HT9 HR9 HB9 hvn
  have kk : (e == e) = true := by simp
  have kk' : (e' == e') = true := by simp
  go_region_held3 (fun W => W.cell? ⟨q1, 0, none⟩ = some (.int .u8 A) ∧ W.cell? ⟨q1, 1, none⟩ = some (.int .u8 B) ∧ W.cell? ⟨q1, 2, none⟩ = some (.int .u8 C) ∧ W.cell? ⟨q1, 3, none⟩ = some (.string (bs F)) ∧ W.cell? ⟨q1, 4, none⟩ = some (.slice none 0 0) ∧
    W.cell? ⟨q2, 0, none⟩ = some (.int .u8 A) ∧ W.cell? ⟨q2, 1, none⟩ = some (.int .u8 B) ∧ W.cell? ⟨q2, 2, none⟩ = some (.int .u8 C) ∧ W.cell? ⟨q2, 3, none⟩ = some (.string (bs F)) ∧ W.cell? ⟨q2, 4, none⟩ = some (.slice none 0 0) ∧
    W.cell? ⟨q3, 0, none⟩ = some (.int .u8 A') ∧ W.cell? ⟨q3, 1, none⟩ = some (.int .u8 B') ∧ W.cell? ⟨q3, 2, none⟩ = some (.int .u8 C') ∧ W.cell? ⟨q3, 3, none⟩ = some (.string (bs F')) ∧ W.cell? ⟨q3, 4, none⟩ = some (.slice s1 vn k1) ∧
    W.cell? ⟨q4, 0, none⟩ = some (.int .u8 A') ∧ W.cell? ⟨q4, 1, none⟩ = some (.int .u8 B') ∧ W.cell? ⟨q4, 2, none⟩ = some (.int .u8 C') ∧ W.cell? ⟨q4, 3, none⟩ = some (.string (bs F')) ∧ W.cell? ⟨q4, 4, none⟩ = some (.slice s2 vn k2))
    (exact LD.out.sat)
    (first
      | (go_at_call 18; (with_reducible refine (F1.out _).mono ?_); rintro en wx ⟨vx, rfl, hox, hbx⟩; have LD := Lib.hid (LD.out.later hbx); have HB := Lib.hid (HB.out.trans (hbx.mono HB.out.size)); have tvx := Lib.hid hox.tls; clear hbx hox)
      | (go_at_call 21; (with_reducible refine (S1.out _ _ tvx.out).mono ?_); rintro en wy ⟨rfl, hby⟩; have LD := Lib.hid (LD.out.later hby); have HB := Lib.hid (HB.out.trans (hby.mono HB.out.size)); clear hby tvx)
      | (go_at_call 18; (with_reducible refine (F2.out _ _ LD.out.t2).mono ?_); rintro en wz ⟨vz, rfl, hoz, hbz⟩; have LD := Lib.hid (LD.out.later hbz); have HB := Lib.hid (HB.out.trans (hbz.mono HB.out.size)); have tvz := Lib.hid hoz.tls; clear hbz hoz)
      | (go_at_call 21; (with_reducible refine (S2.out _ _ _ LD.out.t1 tvz.out).mono ?_); rintro en wu ⟨rfl, hbu⟩; have LD := Lib.hid (LD.out.later hbu); have HB := Lib.hid (HB.out.trans (hbu.mono HB.out.size)); clear hbu tvz)
      | (go_at_call 39; (with_reducible refine (WK.out _).mono ?_); rintro en wv ⟨rfl, hbv⟩; have LD := Lib.hid (LD.out.later hbv); have HB := Lib.hid (HB.out.trans (hbv.mono HB.out.size)); clear hbv))
  all_goals go_wp2
  all_goals go_ret
  all_goals exact ⟨rfl, HB.out⟩
end Go.Proofs.Ytcbbocdmmehphaa
