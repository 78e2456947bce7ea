/- ZP17: the texts C5 as one. -/
import Derived.Test.YtlkdfofpnmpidaaGreatZP13
import Derived.Test.YtlkdfofpnmpidaaGreatZP15
import Derived.Test.YtlkdfofpnmpidaaGreatZP16
/- cfm: Take. -/
set_option linter.unusedVariables false
namespace Go.Proofs.YtlkdfofpnmpidaaGreat
open Go.RowKit

/-- A message of bytes: its numbers, its fixed part, its things, the error. -/
def tkP : List UInt8 → Int × Int × Int × List UInt8 × List Th × Int
  | x :: y :: z :: n :: r => if (x.toNat : Int) % 32 ≠ 0 then (0, 0, 0, [], [], 4) else if r.length < n.toNat then (0, 0, 0, [], [], 3) else if (takeT (r.drop n.toNat)).2.2 = 0 then ((x.toNat : Int) / 32, y.toNat, z.toNat, r.take n.toNat, (takeT (r.drop n.toNat)).1, 0) else (0, 0, 0, [], [], (takeT (r.drop n.toNat)).2.2)
  | _ => (0, 0, 0, [], [], 3)
theorem tkP_cons (x y z n : UInt8) (r : List UInt8) : tkP (x :: y :: z :: n :: r) = if (x.toNat : Int) % 32 ≠ 0 then (0, 0, 0, [], [], 4) else if r.length < n.toNat then (0, 0, 0, [], [], 3) else if (takeT (r.drop n.toNat)).2.2 = 0 then ((x.toNat : Int) / 32, (y.toNat : Int), (z.toNat : Int), r.take n.toNat, (takeT (r.drop n.toNat)).1, 0) else (0, 0, 0, [], [], (takeT (r.drop n.toNat)).2.2) := rfl
theorem tkP_short (s : List UInt8) (h : s.length < 4) : tkP s = (0, 0, 0, [], [], 3) := by
  match s, h with
  | [], _ => rfl
  | [_], _ => rfl
  | [_, _], _ => rfl
  | [_, _, _], _ => rfl
theorem list4 (s : List UInt8) (h : 4 ≤ s.length) : ∃ x y z n r, s = x :: y :: z :: n :: r := by
  match s, h with
  | x :: y :: z :: n :: r, _ => exact ⟨x, y, z, n, r, rfl⟩
theorem bsAt (s : List UInt8) (j : Nat) (c : UInt8) (x : Int) (h : s[j]? = some c) (hx : (c.toNat : Int) = x) : ∀ h' : j < (bs s).size, (((bs s)[j]'h').toNat : Int) = x := fun h' => by
  obtain ⟨hj, hc⟩ := List.getElem?_eq_some_iff.1 h
  rw [bs_get s j h' hj, hc, hx]
theorem rdc (c : UInt8) (r : List UInt8) : rdText (c :: r) 0 1 = ([c], r, 0) := rdText_app [c] r 1 rfl (by omega)
section
variable {T : TypeId} {W W' : World} {q : Nat} {a b c : Int} {f : List UInt8} {v : Value}
theorem PB.set3 (h : PB T W q a b c f v) (g : List UInt8) : PB T (W.setCell ⟨q, 3, none⟩ (.string (bs g))) q a b c g v := by
  unfold PB at *; simp [World.setCell, Array.getElem?_modify, h]
theorem PB.set4 (h : PB T W q a b c f v) (u : Value) : PB T (W.setCell ⟨q, 4, none⟩ u) q a b c f u := by
  unfold PB at *; simp [World.setCell, Array.getElem?_modify, h]
theorem PB.other {t o : Nat} (h : PB T W q a b c f v) (ht : t ≠ q) (u : Value) : PB T (W.setCell ⟨t, o, none⟩ u) q a b c f v := by
  unfold PB; rw [Below.heap_setCell _ _ _ _ (by intro e; simp at e; omega)]; exact h
theorem PB.only {p : Nat} (h : PB T W q a b c f v) (ho : Only p W W') (hne : q ≠ p) : PB T W' q a b c f v := by
  unfold PB; rw [ho.block q h.lt (by simpa using hne)]; exact h
end
/-- Take's state. -/
structure CS (w : World) (q : Nat) (W : World) (l : List UInt8) (e : Int) (a b c : Int) (f : List UInt8) (v : Value) : Prop where
  rd : Rd W (w.heap.size + 1) l e
  z : PB 103 W w.heap.size 0 0 0 [] (.slice none 0 0)
  p : PB 103 W q a b c f v
  bel : Below w.heap.size w W
  hq : w.heap.size + 1 < q
section
variable {w W W' : World} {q : Nat} {l l' : List UInt8} {e e' a b c : Int} {f : List UInt8} {v : Value}
theorem CS.next (h : CS w q W l e a b c f v) (hr : Rd W' (w.heap.size + 1) l' e') (ho : Only (w.heap.size + 1) W W') : CS w q W' l' e' a b c f v :=
  ⟨hr, h.z.only ho (by omega), h.p.only ho (by have := h.hq; omega), h.bel.trans (ho.below (by omega) h.bel.size), h.hq⟩
theorem CS.later (h : CS w q W l e a b c f v) (hb : Below W.heap.size W W') : CS w q W' l e a b c f v :=
  ⟨h.rd.later hb, h.z.later hb, h.p.later hb, h.bel.trans (hb.mono h.bel.size), h.hq⟩
theorem CS.set3 (h : CS w q W l e a b c f v) (g : List UInt8) : CS w q (W.setCell ⟨q, 3, none⟩ (.string (bs g))) l e a b c g v :=
  ⟨h.rd.setOther (by have := h.hq; omega) _, h.z.other (by have := h.hq; omega) _, h.p.set3 g, below_set h.bel (by have := h.hq; omega) _, h.hq⟩
theorem CS.set4 (h : CS w q W l e a b c f v) (u : Value) : CS w q (W.setCell ⟨q, 4, none⟩ u) l e a b c f u :=
  ⟨h.rd.setOther (by have := h.hq; omega) _, h.z.other (by have := h.hq; omega) _, h.p.set4 u, below_set h.bel (by have := h.hq; omega) _, h.hq⟩
end
set_option maxRecDepth 100000 in
set_option maxHeartbeats 8000000 in
theorem ctake_any (s : List UInt8) (w : World) (hl : s.length ≤ 100000) : Calls Tryz.prog 53 #[.string (bs s)] w fun en w' =>
    ∃ v', en = .returned (.tuple #[.agg #[.int .u8 (tkP s).1, .int .u8 (tkP s).2.1, .int .u8 (tkP s).2.2.1, .string (bs (tkP s).2.2.2.1), v'], .int .i64 (tkP s).2.2.2.2.2]) ∧ TlT w' w.heap.size v' (tkP s).2.2.2.2.1 ∧ Below w.heap.size w w' := by
  have hsz := bs_size s
  obtain ⟨R, hR⟩ : ∃ R, tkP s = R := ⟨_, rfl⟩
  have HR := Lib.hid hR
  rw [hR]; clear hR
  by_cases h4 : s.length < 4
  · have d4 : decide ((s.length : Int) < 4) = true := decide_eq_true (by omega)
    have hRR : R = (0, 0, 0, [], [], 3) := by rw [← HR.out]; exact tkP_short s h4
    have HRR := Lib.hid hRR
    clear hRR h4
    go_enter Tryz.func53, Tryz.ntmps53
    go_wp2_with fail
    refine bodyPost_ret (v := .tuple #[.agg #[.int .u8 0, .int .u8 0, .int .u8 0, .string (bs []), .slice none 0 0], .int .i64 3]) (by simp [results, Tryz.results53, go_sem]; rfl) rfl ⟨.slice none 0 0, by rw [HRR.out], by rw [HRR.out]; exact TlT.none _ _, (Below.refl _ _).alloc (Nat.le_refl _) _⟩
  have d4 : decide ((s.length : Int) < 4) = false := decide_eq_false (by omega)
  obtain ⟨x, y, z, n, r, hs⟩ := list4 s (by omega)
  obtain ⟨X, eX⟩ : ∃ i : Int, (x.toNat : Int) = i := ⟨_, rfl⟩
  have gX := bsAt s 0 x X (by rw [hs]; rfl) eX
  have xb : 0 ≤ X ∧ X < 256 := by have := x.toNat_lt; omega
  have mk : bits .and .u8 X 31 = X % 32 := bits_mask .u8 8 (by decide) wraps_u8 5 (by decide) X xb.1 xb.2
  have L4 : 4 ≤ s.length := by omega
  by_cases hx : X % 32 = 0
  rotate_left
  · have dx : (X % 32 != 0) = true := by rw [bne_iff_ne]; exact hx
    have hRR : R = (0, 0, 0, [], [], 4) := by rw [← HR.out, hs, tkP_cons, if_pos (by omega)]
    have HRR := Lib.hid hRR
    clear hRR h4 hs hx
    go_enter Tryz.func53, Tryz.ntmps53
    go_wp2_with fail
    refine bodyPost_ret (v := .tuple #[.agg #[.int .u8 0, .int .u8 0, .int .u8 0, .string (bs []), .slice none 0 0], .int .i64 4]) (by simp [results, Tryz.results53, go_sem]; rfl) rfl ⟨.slice none 0 0, by rw [HRR.out], by rw [HRR.out]; exact TlT.none _ _, (Below.refl _ _).alloc (Nat.le_refl _) _⟩
  have dx : (X % 32 != 0) = false := by rw [hx]; rfl
  obtain ⟨Y, eY⟩ : ∃ i : Int, (y.toNat : Int) = i := ⟨_, rfl⟩
  obtain ⟨Z, eZ⟩ : ∃ i : Int, (z.toNat : Int) = i := ⟨_, rfl⟩
  obtain ⟨N, eN⟩ : ∃ i : Int, (n.toNat : Int) = i := ⟨_, rfl⟩
  have yb : 0 ≤ Y ∧ Y < 256 := by have := y.toNat_lt; omega
  have zb : 0 ≤ Z ∧ Z < 256 := by have := z.toNat_lt; omega
  have nb : 0 ≤ N ∧ N < 256 := by have := n.toNat_lt; omega
  have rl : r.length ≤ 100000 := by rw [hs] at hl; simp at hl; omega
  obtain ⟨F, l5, e5, h5⟩ : ∃ a b c, rdText r 0 N = (a, b, c) := ⟨_, _, _, rfl⟩
  obtain ⟨D, l6, e6, h6⟩ : ∃ a b c, rdRest l5 e5 = (a, b, c) := ⟨_, _, _, rfl⟩
  obtain ⟨L, t7, g, h7⟩ : ∃ a b c, takeT D = (a, b, c) := ⟨_, _, _, rfl⟩
  have l5l : l5.length ≤ 100000 := by have := rd_le r 0 N; rw [h5] at this; exact Nat.le_trans this rl
  have Dl : D.length ≤ 100000 := by have := rd_le1 l5 e5 (l5.length : Int); rw [show rdText l5 e5 (l5.length : Int) = rdRest l5 e5 from rfl, h6] at this; exact Nat.le_trans this l5l
  have U1 : ∀ w p, Rd w p s 0 → Calls Tryz.prog 90 #[.pointer (some ⟨p, 0, none⟩)] w fun en w' => en = .returned (.int .u8 X) ∧ Rd w' p (y :: z :: n :: r) 0 ∧ Only p w w' := fun w p hr => by
    have h := U8_any p s 0 w hr (by omega)
    rw [hs, rdc, numOf_one, eX] at h; exact h
  have U2 : ∀ w p, Rd w p (y :: z :: n :: r) 0 → Calls Tryz.prog 90 #[.pointer (some ⟨p, 0, none⟩)] w fun en w' => en = .returned (.int .u8 Y) ∧ Rd w' p (z :: n :: r) 0 ∧ Only p w w' := fun w p hr => by
    have h := U8_any p _ 0 w hr (by simp; omega)
    rw [rdc, numOf_one, eY] at h; exact h
  have U3 : ∀ w p, Rd w p (z :: n :: r) 0 → Calls Tryz.prog 90 #[.pointer (some ⟨p, 0, none⟩)] w fun en w' => en = .returned (.int .u8 Z) ∧ Rd w' p (n :: r) 0 ∧ Only p w w' := fun w p hr => by
    have h := U8_any p _ 0 w hr (by simp; omega)
    rw [rdc, numOf_one, eZ] at h; exact h
  have U4 : ∀ w p, Rd w p (n :: r) 0 → Calls Tryz.prog 90 #[.pointer (some ⟨p, 0, none⟩)] w fun en w' => en = .returned (.int .u8 N) ∧ Rd w' p r 0 ∧ Only p w w' := fun w p hr => by
    have h := U8_any p _ 0 w hr (by simp; omega)
    rw [rdc, numOf_one, eN] at h; exact h
  have T5 : ∀ w p, Rd w p r 0 → Calls Tryz.prog 91 #[.pointer (some ⟨p, 0, none⟩), .int .i64 N] w fun en w' => en = .returned (.string (bs F)) ∧ Rd w' p l5 e5 ∧ Only p w w' := fun w p hr => by
    have h := text_any p r 0 N w hr (by omega)
    rw [h5] at h; exact h
  have R6 : ∀ w p, Rd w p l5 e5 → Calls Tryz.prog 93 #[.pointer (some ⟨p, 0, none⟩)] w fun en w' => en = .returned (.string (bs D)) ∧ Rd w' p l6 e6 ∧ Only p w w' := fun w p hr => by
    have h := rest_any p l5 e5 w hr (by omega)
    rw [h6] at h; exact h
  have K7 : ∀ w, Calls Tryz.prog 92 #[.string (bs D)] w fun en w' => ∃ v', en = .returned (.tuple #[v', .string (bs t7), .int .i64 g]) ∧ TlT w' w.heap.size v' L ∧ Below w.heap.size w w' := fun w => by
    have h := ttake_any D w Dl
    rw [h7] at h; exact h
  obtain ⟨G, hG⟩ : ∃ G, (if e6 ≠ 0 then e6 else g) = G := ⟨_, rfl⟩
  have hRR : (G = 0 ∧ R = (X / 32, Y, Z, F, L, 0)) ∨ (G ≠ 0 ∧ R = (0, 0, 0, [], [], G)) := by
    rw [← HR.out, hs, tkP_cons, if_neg (show ¬ (x.toNat : Int) % 32 ≠ 0 by omega), eX, eY, eZ, ← hG]
    by_cases hn : r.length < n.toNat
    · have e5' : rdText r 0 N = ([], [], 3) := by unfold rdText; rw [if_neg (by omega), if_pos (by omega)]
      rw [e5'] at h5; injection h5 with _ h5; injection h5 with q1 q2
      rw [← q1, ← q2] at h6
      have e6' : rdRest ([] : List UInt8) 3 = ([], [], 3) := rfl
      rw [e6'] at h6; injection h6 with _ h6; injection h6 with _ q3
      right; rw [if_pos hn, ← q3, if_pos (show (3 : Int) ≠ 0 by decide)]; exact ⟨by decide, rfl⟩
    · have e5' : rdText r 0 N = (r.take n.toNat, r.drop n.toNat, 0) := by
        unfold rdText
        by_cases h0 : N ≤ 0
        · rw [if_pos (Or.inl h0), show n.toNat = 0 by omega]; rfl
        · rw [if_neg (by omega), if_neg (by omega), show N.toNat = n.toNat by omega]
      rw [e5'] at h5; injection h5 with q0 h5; injection h5 with q1 q2
      rw [← q1, ← q2] at h6
      have e6' : rdRest (r.drop n.toNat) 0 = (r.drop n.toNat, [], 0) := by
        unfold rdRest rdText
        by_cases h0 : ((r.drop n.toNat).length : Int) ≤ 0
        · have : r.drop n.toNat = [] := List.eq_nil_of_length_eq_zero (by omega)
          rw [this]; rfl
        · rw [if_neg (by omega), if_neg (by omega), show ((r.drop n.toNat).length : Int).toNat = (r.drop n.toNat).length by omega, List.take_length, List.drop_length]
      rw [e6'] at h6; injection h6 with q3 h6; injection h6 with _ q4
      rw [if_neg hn, q3, h7, ← q4, if_neg (by decide), q0]
      by_cases hg : g = 0
      · left; rw [if_pos hg]; exact ⟨hg, by rfl⟩
      · right; rw [if_neg hg]; exact ⟨hg, rfl⟩
  have HRR := Lib.hid hRR
  have UU1 := Lib.hid U1
  have UU2 := Lib.hid U2
  have UU3 := Lib.hid U3
  have UU4 := Lib.hid U4
  have TT5 := Lib.hid T5
  have RR6 := Lib.hid R6
  have KK7 := Lib.hid K7
  have HG := Lib.hid hG
  have wx : IntKind.u8.wrap (X / 32) = X / 32 := IntWalk.u8_in _ (by omega)
  clear hRR U1 U2 U3 U4 T5 R6 K7 hG h4 hs hx eX eY eZ eN h5 h6 h7
  go_enter Tryz.func53, Tryz.ntmps53
  go_wp2_with fail
  obtain ⟨w0, hw0⟩ : ∃ w0, w.alloc (.cells #[.int .u8 0, .int .u8 0, .int .u8 0, .string { data := #[] }, .slice none 0 0] 103) = w0 := ⟨_, rfl⟩
  have pz : PB 103 w0 w.heap.size 0 0 0 [] (.slice none 0 0) := by rw [← hw0]; exact PB.new 103 w 0 0 0 [] (.slice none 0 0)
  have hb0 : Below w.heap.size w w0 := by rw [← hw0]; exact (Below.refl _ _).alloc (Nat.le_refl _) _
  have hz0 : w0.heap.size = w.heap.size + 1 := by rw [← hw0]; simp
  rw [hw0]
  clear hw0
  with_reducible refine (of_any s w0).mono ?_
  rintro en w1 ⟨rfl, hr1, hb1, hlt⟩
  rw [hz0] at hr1 ⊢
  have PZ1 := Lib.hid (pz.later hb1)
  have HB1 := Lib.hid (hb0.trans (hb1.mono hb0.size))
  have HR1 := Lib.hid hr1
  clear pz hb0 hr1 hb1
  go_wp2_with fail
  with_reducible refine (UU1.out _ _ HR1.out).mono ?_
  rintro en w2 ⟨rfl, hr2, ho2⟩
  have PZ2 := Lib.hid (PZ1.out.only ho2 (by omega))
  have HB2 := Lib.hid (HB1.out.trans (ho2.below (by omega) HB1.out.size))
  have HR2 := Lib.hid hr2
  clear hr2 ho2 PZ1 HB1 HR1
  go_wp2_with fail
  with_reducible refine (UU2.out _ _ HR2.out).mono ?_
  rintro en w3 ⟨rfl, hr3, ho3⟩
  have PZ3 := Lib.hid (PZ2.out.only ho3 (by omega))
  have HB3 := Lib.hid (HB2.out.trans (ho3.below (by omega) HB2.out.size))
  have HR3 := Lib.hid hr3
  clear hr3 ho3 PZ2 HB2 HR2
  go_wp2_with fail
  with_reducible refine (UU3.out _ _ HR3.out).mono ?_
  rintro en w4 ⟨rfl, hr4, ho4⟩
  have PZ4 := Lib.hid (PZ3.out.only ho4 (by omega))
  have HB4 := Lib.hid (HB3.out.trans (ho4.below (by omega) HB3.out.size))
  have HR4 := Lib.hid hr4
  clear hr4 ho4 PZ3 HB3 HR3
  go_upto_region 7 with fail
  have hlt4 : w.heap.size + 1 < w4.heap.size := HR4.out.lt
  have cs4 : CS w w4.heap.size (w4.alloc (.cells #[.int .u8 (X / 32), .int .u8 Y, .int .u8 Z, .string { data := #[] }, .slice none 0 0] 103)) (n :: r) 0 (X / 32) Y Z [] (.slice none 0 0) :=
    ⟨HR4.out.later ((Below.refl _ _).alloc (Nat.le_refl _) _), PZ4.out.later ((Below.refl _ _).alloc (Nat.le_refl _) _), PB.new 103 w4 (X / 32) Y Z [] (.slice none 0 0), HB4.out.alloc HB4.out.size _, hlt4⟩
  obtain ⟨q, hq⟩ : ∃ q, w4.heap.size = q := ⟨_, rfl⟩
  obtain ⟨w5, hw5⟩ : ∃ k, w4.alloc (.cells #[.int .u8 (X / 32), .int .u8 Y, .int .u8 Z, .string { data := #[] }, .slice none 0 0] 103) = k := ⟨_, rfl⟩
  rw [hw5] at cs4 ⊢
  rw [hq] at cs4 ⊢
  have CS5 := Lib.hid cs4
  clear cs4 hw5 hq PZ4 HB4 HR4 hlt4
  go_wp2_with fail
  with_reducible refine (UU4.out _ _ CS5.out.rd).mono ?_
  rintro en w6 ⟨rfl, hr6, ho6⟩
  have CS6 := Lib.hid (CS5.out.next hr6 ho6)
  clear hr6 ho6 CS5
  go_wp2_with fail
  with_reducible refine (TT5.out _ _ CS6.out.rd).mono ?_
  rintro en w7 ⟨rfl, hr7, ho7⟩
  have CS7 := Lib.hid (CS6.out.next hr7 ho7)
  have c3 := CS7.out.p.c3
  have f3 := CS7.out.p.fr 3
  clear hr7 ho7 CS6
  go_upto_region 8 with fail
  have cs8 := CS7.out.set3 F
  obtain ⟨w8, hw8⟩ : ∃ k, w7.setCell ⟨q, 3, none⟩ (.string (bs F)) = k := ⟨_, rfl⟩
  rw [hw8] at cs8 ⊢
  have CS8 := Lib.hid cs8
  clear cs8 hw8 CS7 c3 f3
  go_wp2_with fail
  with_reducible refine (RR6.out _ _ CS8.out.rd).mono ?_
  rintro en w9 ⟨rfl, hr9, ho9⟩
  have CS9 := Lib.hid (CS8.out.next hr9 ho9)
  clear hr9 ho9 CS8
  go_wp2_with fail
  with_reducible refine (KK7.out _).mono ?_
  rintro en wa ⟨v', rfl, hown, hba⟩
  have CSa := Lib.hid (CS9.out.later hba)
  have hqa : q < w9.heap.size := CS9.out.p.lt
  have HO := Lib.hid hown
  have HQA := Lib.hid hqa
  obtain ⟨sa, sc, rfl, _⟩ := hown.tls.shape
  have c4 := CSa.out.p.c4
  have f4 := CSa.out.p.fr 4
  clear hown hba CS9 hqa
  go_upto_region 10 with fail
  have csb := CSa.out.set4 (.slice sa L.length sc)
  have hob := HO.out.set HQA.out (o := 4) (.slice sa L.length sc)
  obtain ⟨wb, hwb⟩ : ∃ k, wa.setCell ⟨q, 4, none⟩ (.slice sa L.length sc) = k := ⟨_, rfl⟩
  rw [hwb] at csb hob ⊢
  have CSb := Lib.hid csb
  have HOb := Lib.hid hob
  clear csb hob hwb CSa HO c4 f4
  go_wp2_with fail
  with_reducible refine (err_any _ _ _ _ CSb.out.rd).mono ?_
  rintro en _ ⟨rfl, rfl⟩
  go_wp2_with fail
  with_reducible refine (first2_any _ e6 g _ (by simp [go_sem]) (by simp [go_sem])).mono ?_
  rintro en _ ⟨rfl, rfl⟩
  rw [HG.out]
  have csc := CSb.out.later ((Below.refl _ _).alloc (Nat.le_refl _) (.cells #[.int .i64 e6, .int .i64 g] 32))
  have hoc := HOb.out.later ((Below.refl _ _).alloc (Nat.le_refl _) (.cells #[.int .i64 e6, .int .i64 g] 32))
  obtain ⟨wc, hwc⟩ : ∃ k, wb.alloc (.cells #[.int .i64 e6, .int .i64 g] 32) = k := ⟨_, rfl⟩
  rw [hwc] at csc hoc ⊢
  have CSc := Lib.hid csc
  have HOc := Lib.hid hoc
  have z0 := csc.z.c0
  have z1 := csc.z.c1
  have z2 := csc.z.c2
  have z3 := csc.z.c3
  have z4 := csc.z.c4
  have y0 := csc.z.fr 0
  have y1 := csc.z.fr 1
  have y2 := csc.z.fr 2
  have y3 := csc.z.fr 3
  have y4 := csc.z.fr 4
  have k0 := csc.p.c0
  have k1 := csc.p.c1
  have k2 := csc.p.c2
  have k3 := csc.p.c3
  have k4 := csc.p.c4
  clear csc hoc hwc CSb HOb HG
  rcases HRR.out with ⟨h0, h3⟩ | ⟨h0, h3⟩
  · have d0 : (G != 0) = false := by rw [h0]; rfl
    have H3 := Lib.hid h3
    clear h0 h3
    go_wp2_with fail
    refine bodyPost_ret (v := .tuple #[.agg #[.int .u8 (X / 32), .int .u8 Y, .int .u8 Z, .string (bs F), .slice sa L.length sc], .int .i64 0]) (by simp [results, Tryz.results53, go_sem, z0, z1, z2, z3, z4]) rfl ⟨.slice sa L.length sc, by rw [H3.out], ?_, below_set (below_set (below_set (below_set (below_set CSc.out.bel (Nat.le_refl _) _) (Nat.le_refl _) _) (Nat.le_refl _) _) (Nat.le_refl _) _) (Nat.le_refl _) _⟩
    have h1 := HQA.out
    have h2 := CSc.out.hq
    rw [H3.out]
    exact (((((HOc.out.set (by omega) _).set (by omega) _).set (by omega) _).set (by omega) _).set (by omega) _).mono (by omega)
  · have d0 : (G != 0) = true := by rw [bne_iff_ne]; exact h0
    have H3 := Lib.hid h3
    clear h0 h3
    go_wp2_with fail
    refine bodyPost_ret (v := .tuple #[.agg #[.int .u8 0, .int .u8 0, .int .u8 0, .string (bs []), .slice none 0 0], .int .i64 G]) (by simp [results, Tryz.results53, go_sem, z0, z1, z2, z3, z4]; rfl) rfl ⟨.slice none 0 0, by rw [H3.out], by rw [H3.out]; exact TlT.none _ _, below_set (below_set (below_set (below_set (below_set CSc.out.bel (Nat.le_refl _) _) (Nat.le_refl _) _) (Nat.le_refl _) _) (Nat.le_refl _) _) (Nat.le_refl _) _⟩
end Go.Proofs.YtlkdfofpnmpidaaGreat
