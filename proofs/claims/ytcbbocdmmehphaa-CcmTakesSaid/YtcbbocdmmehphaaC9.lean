/- cfm: the walk of CfmTakes. -/
import Derived.Test.YtcbbocdmmehphaaC8
import Derived.Deep.RegionHeld3
set_option linter.unusedVariables false
namespace Go.Proofs.Ytcbbocdmmehphaa
open Go.RowKit

theorem PB.ten {T T' : TypeId} {W : World} {q q' : Nat} {a b c a' b' c' : Int} {f f' : List UInt8} {v v' : Value} (h : PB T W q a b c f v) (h' : PB T' W q' a' b' c' f' v') :
    W.cell? ⟨q, 0, none⟩ = some (.int .u8 a) ∧ W.cell? ⟨q, 1, none⟩ = some (.int .u8 b) ∧ W.cell? ⟨q, 2, none⟩ = some (.int .u8 c) ∧ W.cell? ⟨q, 3, none⟩ = some (.string (bs f)) ∧ W.cell? ⟨q, 4, none⟩ = some v ∧
    W.cell? ⟨q', 0, none⟩ = some (.int .u8 a') ∧ W.cell? ⟨q', 1, none⟩ = some (.int .u8 b') ∧ W.cell? ⟨q', 2, none⟩ = some (.int .u8 c') ∧ W.cell? ⟨q', 3, none⟩ = some (.string (bs f')) ∧ W.cell? ⟨q', 4, none⟩ = some v' :=
  ⟨h.c0, h.c1, h.c2, h.c3, h.c4, h'.c0, h'.c1, h'.c2, h'.c3, h'.c4⟩
theorem tkP_len (s : List UInt8) : (tkP s).2.2.2.2.1.length ≤ s.length := by
  unfold tkP
  split
  · rename_i x y z n r
    repeat' split
    · simp
    · simp
    · have := takeT_len _ (r.drop n.toNat) (Nat.le_refl _)
      simp at this ⊢; omega
    · simp
  · simp
set_option maxRecDepth 100000 in
set_option maxHeartbeats 8000000 in
theorem CfmTakes_walk (t : ByteArray) (kind : Int) (w : World) (ht : t.size ≤ maxLen) (hk : (Lit.int .u16 kind).wf = true) : Calls Try.prog 5 #[.string t, .int .u16 kind] w fun en w' => en = .returned (.bool true) ∧ Below w.heap.size w w' := by
  obtain ⟨s, rfl⟩ : ∃ l, t = bs l := ⟨_, bs_of t⟩
  rw [bs_size] at ht
  have hsz := bs_size s
  have WK := Lib.hid wakes12_any
  by_cases h2 : 2000 < s.length
  · have d2 : decide ((2000 : Int) < (s.length : Int)) = true := decide_eq_true (by omega)
    go_enter Try.func5, Try.ntmps5
    go_wp2_with fail
    with_reducible refine (WK.out _).mono ?_
    rintro en w1 ⟨rfl, hb⟩
    go_wp2
    go_ret
    exact ⟨rfl, hb⟩
  have d2 : decide ((2000 : Int) < (s.length : Int)) = false := decide_eq_false (by omega)
  have hLl := tkP_len s
  obtain ⟨a, b, c, F, L, e, hT⟩ : ∃ a b c F L e, tkP s = (a, b, c, F, L, e) := ⟨_, _, _, _, _, _, rfl⟩
  obtain ⟨x, y, z, hH⟩ : ∃ x y z, hdV s = (x, y, z) := ⟨_, _, _, rfl⟩
  rw [hT] at hLl
  have hl2 : L.length ≤ 100000 := by simp at hLl; omega
  have P1 : Hid (∀ w, Calls Try.prog 20 #[.string (bs s)] w fun en w' => ∃ v', en = .returned (.tuple #[.agg #[.int .u8 a, .int .u8 b, .int .u8 c, .string (bs F), v'], .int .i64 e]) ∧ TlT w' w.heap.size v' L ∧ Below w.heap.size w w') := fun w => by
    have h := ctake_any s w (by omega)
    rw [hT] at h; exact h
  have P2 : Hid (∀ w, Calls Try.prog 23 #[.string (bs s)] w fun en w' => ∃ v', en = .returned (.tuple #[.agg #[.int .u8 a, .int .u8 b, .int .u8 c, .string (bs F), v'], .int .i64 e]) ∧ TlR w' w.heap.size v' L ∧ Below w.heap.size w w') := fun w => by
    have h := refTake12_any s w (by omega)
    rw [hT] at h; exact h
  have H1 : Hid (∀ w, Calls Try.prog 22 #[.string (bs s)] w fun en w' => en = .returned (.tuple #[.int .u8 x, .int .u8 y, .bool z]) ∧ Below w.heap.size w w') := fun w => by
    have h := Head_any s w (by omega)
    rw [hH] at h; exact h
  have H2 : Hid (∀ w, Calls Try.prog 24 #[.string (bs s)] w fun en w' => en = .returned (.tuple #[.int .u8 x, .int .u8 y, .bool z]) ∧ Below w.heap.size w w') := fun w => by
    have h := refHead_any s w (by omega)
    rw [hH] at h; exact h
  obtain ⟨x', y', z', hO⟩ : ∃ x' y' z', (if kind = 35074 then (x, y, z) else (0, 0, false)) = (x', y', z') := ⟨_, _, _, rfl⟩
  have H3 : Hid (∀ w, Calls Try.prog 25 #[.agg #[.int .u8 0, .int .u8 0, .int .u8 0, .int .u8 0, .int .u8 0, .int .u8 0, .int .u8 0, .int .u8 0, .int .u8 0, .int .u8 0, .int .u8 0, .int .u8 0, .bool false, .int .u8 0, .int .u16 0, .int .u16 kind, .string (bs s)]] w fun en w' => en = .returned (.tuple #[.int .u8 x', .int .u8 y', .bool z']) ∧ Below w.heap.size w w') := fun w => by
    have h := cof_any 0 0 0 0 0 0 0 0 0 0 0 0 0 0 kind false s w (by omega)
    rw [hH] at h
    by_cases hy : kind = 35074
    · rw [if_pos hy] at h hO; injection hO with q1 q2; injection q2 with q2 q3; rw [← q1, ← q2, ← q3]; exact h
    · rw [if_neg hy] at h hO; injection hO with q1 q2; injection q2 with q2 q3; rw [← q1, ← q2, ← q3]; exact h
  have O1 : Hid (∀ v w, Tls w v L → Calls Try.prog 18 #[.agg #[.int .u8 a, .int .u8 b, .int .u8 c, .string (bs F), v]] w fun en w' => ∃ v', en = .returned (.agg #[.int .u8 a, .int .u8 b, .int .u8 c, .string (bs F), v']) ∧ TlT w' w.heap.size v' L ∧ Below w.heap.size w w') := fun v w h => of12_any v a b c F L w h hl2
  have S1 : Hid (∀ u v w, Tls w u L → Tls w v L → Calls Try.prog 21 #[.agg #[.int .u8 a, .int .u8 b, .int .u8 c, .string (bs F), u], .agg #[.int .u8 a, .int .u8 b, .int .u8 c, .string (bs F), v]] w fun en w' => en = .returned (.bool true) ∧ Below w.heap.size w w') := fun u v w hu hv => by
    have h := same12_any u v a b c a b c F F L L w hu hv hl2 hl2
    rw [decide_eq_true ⟨rfl, rfl, rfl, rfl, rfl⟩] at h; exact h
  have KO : Hid ((kind ≠ 35074 ∧ x' = 0 ∧ y' = 0 ∧ z' = false) ∨ (kind = 35074 ∧ x' = x ∧ y' = y ∧ z' = z)) := by
    have : (kind ≠ 35074 ∧ x' = 0 ∧ y' = 0 ∧ z' = false) ∨ (kind = 35074 ∧ x' = x ∧ y' = y ∧ z' = z) := by
      by_cases hy : kind = 35074
      · rw [if_pos hy] at hO; injection hO with q1 q2; injection q2 with q2 q3; right; exact ⟨hy, q1.symm, q2.symm, q3.symm⟩
      · rw [if_neg hy] at hO; injection hO with q1 q2; injection q2 with q2 q3; left; exact ⟨hy, q1.symm, q2.symm, q3.symm⟩
    exact Lib.hid this
  clear hT hH hO hLl hl2 h2 ht hk
  go_enter Try.func5, Try.ntmps5
  go_wp2_with fail
  with_reducible refine (P1.out _).mono ?_
  rintro en w1 ⟨v1, rfl, ho1, hb1⟩
  have HB1 := Lib.hid hb1
  have HT1 := Lib.hid ho1.tls
  obtain ⟨ad, cp, rfl, _⟩ := ho1.tls.shape
  clear ho1 hb1
  go_upto_region 4 with fail
  have pb := PB.new 32 w1 a b c F (.slice ad L.length cp)
  have tt := HT1.out.later ((Below.refl _ _).alloc (Nat.le_refl _) (.cells #[.int .u8 a, .int .u8 b, .int .u8 c, .string (bs F), .slice ad L.length cp] 32))
  have bb : Below w.heap.size w (w1.alloc (.cells #[.int .u8 a, .int .u8 b, .int .u8 c, .string (bs F), .slice ad L.length cp] 32)) := HB1.out.alloc HB1.out.size _
  obtain ⟨q1, hq1⟩ : ∃ k, w1.heap.size = k := ⟨_, rfl⟩
  obtain ⟨w2, hw2⟩ : ∃ k, w1.alloc (.cells #[.int .u8 a, .int .u8 b, .int .u8 c, .string (bs F), .slice ad L.length cp] 32) = k := ⟨_, rfl⟩
  rw [hw2] at pb tt bb ⊢
  rw [hq1] at pb ⊢
  have PB2 := Lib.hid pb
  have HT2 := Lib.hid tt
  have HB2 := Lib.hid bb
  clear pb tt bb hw2 hq1 HB1 HT1
  go_wp2_with fail
  with_reducible refine (P2.out _).mono ?_
  rintro en w3 ⟨v3, rfl, ho3, hb3⟩
  have HB3 := Lib.hid (HB2.out.trans (hb3.mono HB2.out.size))
  have PB3 := Lib.hid (PB2.out.later hb3)
  have HT3 := Lib.hid (HT2.out.later hb3)
  have HR3 := Lib.hid ho3.tls
  obtain ⟨ad', cp', rfl, _⟩ := ho3.tls.shape
  clear ho3 hb3 PB2 HT2 HB2
  go_upto_region 5 with fail
  have pr := PB.new 24 w3 a b c F (.slice ad' L.length cp')
  have aa := (Below.refl w3.heap.size w3).alloc (Nat.le_refl _) (.cells #[.int .u8 a, .int .u8 b, .int .u8 c, .string (bs F), .slice ad' L.length cp'] 24)
  obtain ⟨q3, hq3⟩ : ∃ k, w3.heap.size = k := ⟨_, rfl⟩
  obtain ⟨w4, hw4⟩ : ∃ k, w3.alloc (.cells #[.int .u8 a, .int .u8 b, .int .u8 c, .string (bs F), .slice ad' L.length cp'] 24) = k := ⟨_, rfl⟩
  rw [hw4] at pr aa ⊢
  have PB4 := Lib.hid (PB3.out.later aa)
  have HT4 := Lib.hid (HT3.out.later aa)
  have HR4 := Lib.hid (HR3.out.later aa)
  have HB4 := Lib.hid (HB3.out.trans (aa.mono HB3.out.size))
  rw [hq3] at pr ⊢
  have PR4 := Lib.hid pr
  clear pr aa hw4 hq3 PB3 HT3 HR3 HB3
  go_wp2_with fail
  with_reducible refine (H1.out _).mono ?_
  rintro en w5 ⟨rfl, hb5⟩
  have PB5 := Lib.hid (PB4.out.later hb5)
  have PR5 := Lib.hid (PR4.out.later hb5)
  have HT5 := Lib.hid (HT4.out.later hb5)
  have HR5 := Lib.hid (HR4.out.later hb5)
  have HB5 := Lib.hid (HB4.out.trans (hb5.mono HB4.out.size))
  clear hb5 PB4 PR4 HT4 HR4 HB4
  go_wp2_with fail
  with_reducible refine (H2.out _).mono ?_
  rintro en w6 ⟨rfl, hb6⟩
  have PB6 := Lib.hid (PB5.out.later hb6)
  have PR6 := Lib.hid (PR5.out.later hb6)
  have HT6 := Lib.hid (HT5.out.later hb6)
  have HR6 := Lib.hid (HR5.out.later hb6)
  have HB6 := Lib.hid (HB5.out.trans (hb6.mono HB5.out.size))
  clear hb6 PB5 PR5 HT5 HR5 HB5
  go_wp2_with fail
  with_reducible refine (H3.out _).mono ?_
  rintro en w7 ⟨rfl, hb7⟩
  have PB7 := Lib.hid (PB6.out.later hb7)
  have PR7 := Lib.hid (PR6.out.later hb7)
  have HT7 := Lib.hid (HT6.out.later hb7)
  have HR7 := Lib.hid (HR6.out.later hb7)
  have HB7 := Lib.hid (HB6.out.trans (hb7.mono HB6.out.size))
  clear hb7 PB6 PR6 HT6 HR6 HB6
  go_upto_region 8 with fail
  go_cut [83] (fun s83 wx => s83 = .bool false ∧ wx = w7)
  case first =>
    rcases KO.out with ⟨k1, k2, k3, k4⟩ | ⟨k1, k2, k3, k4⟩
    · have dk : (kind != 35074) = true := by rw [bne_iff_ne]; exact k1
      have dk2 : (kind == 35074) = false := by rw [beq_eq_false_iff_ne]; exact k1
      subst k2 k3 k4
      clear k1
      go_wp2_with fail
      go_meet
      exact ⟨rfl, rfl⟩
    · have dk : (kind != 35074) = false := by rw [k1]; rfl
      have dk2 : (kind == 35074) = true := by rw [k1]; rfl
      subst k2 k3 k4
      have dx : (x' != x') = false := by simp
      have dy : (y' != y') = false := by simp
      have dz : (z' != z') = false := by simp
      clear k1
      go_wp2_with fail
      go_meet
      exact ⟨by first | rfl | simp, rfl⟩
  obtain ⟨rfl, hwc⟩ := hcut
  rw [hwc]
  clear hwc
  go_upto_region 10 with fail
  have pa := PB7.out
  have pr := PR7.out
  have ta : Tls w7.drew (.slice ad L.length cp) L := HT7.out.later (Below.refl _ _).drew
  have tr : Tls w7.drew (.slice ad' L.length cp') L := HR7.out.later (Below.refl _ _).drew
  have pad : PB 32 w7.drew q1 a b c F (.slice ad L.length cp) := PB7.out
  have prd : PB 24 w7.drew q3 a b c F (.slice ad' L.length cp') := PR7.out
  go_region_held3 (fun W => W.cell? ⟨q1, 0, none⟩ = some (.int .u8 a) ∧ W.cell? ⟨q1, 1, none⟩ = some (.int .u8 b) ∧ W.cell? ⟨q1, 2, none⟩ = some (.int .u8 c) ∧ W.cell? ⟨q1, 3, none⟩ = some (.string (bs F)) ∧ W.cell? ⟨q1, 4, none⟩ = some (.slice ad L.length cp) ∧ W.cell? ⟨q3, 0, none⟩ = some (.int .u8 a) ∧ W.cell? ⟨q3, 1, none⟩ = some (.int .u8 b) ∧ W.cell? ⟨q3, 2, none⟩ = some (.int .u8 c) ∧ W.cell? ⟨q3, 3, none⟩ = some (.string (bs F)) ∧ W.cell? ⟨q3, 4, none⟩ = some (.slice ad' L.length cp'))
    (first | exact PB.ten pad prd | exact PB.ten pax prx | exact PB.ten pay pry | exact PB.ten paz prz)
    (first
      | (go_at_call 18; (with_reducible refine (O1.out _ _ tr).mono ?_); rintro en wx ⟨vx, rfl, hox, hbx⟩; have pax := pad.later hbx; have prx := prd.later hbx; have tax := ta.later hbx; have tvx := hox.tls)
      | (go_at_call 21; (with_reducible refine (S1.out _ _ _ tax tvx).mono ?_); rintro en wy ⟨rfl, hby⟩; have pay := pax.later hby; have pry := prx.later hby)
      | (go_at_call 16; (with_reducible refine (WK.out _).mono ?_); rintro en wz ⟨rfl, hbz⟩; have paz := pay.later hbz; have prz := pry.later hbz))
  all_goals go_wp2
  all_goals go_ret
  all_goals
    have k1 : Below w.heap.size w w7.drew := HB7.out.drew
    have k2 := k1.trans (hbx.mono k1.size)
    have k3 := k2.trans (hby.mono k2.size)
    exact ⟨rfl, k3.trans (hbz.mono k3.size)⟩
end Go.Proofs.Ytcbbocdmmehphaa
