/- ZP28: the texts D2 as one. -/
import Derived.Test.YtlkdfofpnmpidaaGreatZP18
/- ccm: Take. -/
set_option linter.unusedVariables false
namespace Go.Proofs.YtlkdfofpnmpidaaGreat
open Go.RowKit

theorem nat_and7 (m : Nat) : m &&& 2 ^ 7 = m / 2 ^ 7 % 2 * 2 ^ 7 := by
  apply Nat.eq_of_testBit_eq
  intro i
  rw [Nat.testBit_and, Nat.testBit_two_pow]
  have h2 : m / 2 ^ 7 % 2 = 0 ∨ m / 2 ^ 7 % 2 = 1 := by omega
  by_cases hi : 7 = i
  · subst hi
    rcases h2 with h2 | h2
    · rw [Nat.testBit_eq_decide_div_mod_eq, h2]; rfl
    · rw [Nat.testBit_eq_decide_div_mod_eq, h2]; rfl
  · rw [decide_eq_false hi, Bool.and_false]
    rcases h2 with h2 | h2
    · rw [h2]; simp
    · rw [h2, Nat.one_mul, Nat.testBit_two_pow, decide_eq_false hi]
theorem and_128 (n : Int) (h0 : 0 ≤ n) (h1 : n < 256) : bits .and .u8 n 128 = n / 128 * 128 := by
  obtain ⟨m, rfl⟩ : ∃ m : Nat, n = m := ⟨n.toNat, by omega⟩
  rw [u8_and (m : Int) 128 (by omega) (by omega) (by omega) (by omega)]
  have e : (m : Int).toNat &&& (128 : Int).toNat = m / 2 ^ 7 % 2 * 2 ^ 7 := nat_and7 m
  rw [e]
  omega
/-- The steps of Take. -/
def cr1 (f : List UInt8) := rdText f 0 4
def cr2 (f : List UInt8) := rdText (cr1 f).2.1 (cr1 f).2.2 2
def cr3 (f : List UInt8) := rdText (cr2 f).2.1 (cr2 f).2.2 48
def cr4 (f : List UInt8) := rdText (cr3 f).2.1 (cr3 f).2.2 16
def crE (f : List UInt8) : Int := (rdEnd (cr4 f).2.1 (cr4 f).2.2).2
/-- A message's check, and the error. -/
def tkC (a b c : Int) (f : List UInt8) : Int × Bool × Int × Int × Int × List UInt8 × Int :=
  if b = 1 ∧ crE f = 0 ∧ mayC a (c % 8) (numOf (cr2 f).1) (cr3 f).1 = true then (a, decide (127 < c), c % 8, numOf (cr1 f).1, numOf (cr2 f).1, (cr3 f).1, 0) else (0, false, 0, 0, 0, [], 4)
/-- Take's state: the reader, the message's block, the result's block. -/
structure CT (w W : World) (l : List UInt8) (e a b c : Int) (f : List UInt8) (v : Value) : Prop where
  rd : Rd W (w.heap.size + 2) l e
  pb : PB 103 W w.heap.size a b c f v
  pz : CB 107 W (w.heap.size + 1) 0 false 0 0 0 []
  bel : Below w.heap.size w W
section
variable {w W W' : World} {l l' : List UInt8} {e e' a b c : Int} {f : List UInt8} {v : Value}
theorem CT.next (h : CT w W l e a b c f v) (hr : Rd W' (w.heap.size + 2) l' e') (ho : Only (w.heap.size + 2) W W') : CT w W' l' e' a b c f v :=
  ⟨hr, h.pb.only ho (by omega), h.pz.only ho (by omega), h.bel.trans (ho.below (by omega) h.bel.size)⟩
theorem CT.later (h : CT w W l e a b c f v) (hb : Below W.heap.size W W') : CT w W' l e a b c f v :=
  ⟨h.rd.later hb, h.pb.later hb, h.pz.later hb, h.bel.trans (hb.mono h.bel.size)⟩
theorem CT.alloc (h : CT w W l e a b c f v) (o : Obj) : CT w (W.alloc o) l e a b c f v := h.later ((Below.refl _ _).alloc (Nat.le_refl _) o)
end
/-- The new check's block. -/
def NQ (w W : World) (q : Nat) : Prop := CB 107 W q 0 false 0 0 0 [] ∧ w.heap.size + 2 < q
theorem NQ.new {w W : World} {l : List UInt8} {e a b c : Int} {f : List UInt8} {v : Value} (h : CT w W l e a b c f v) : NQ w (W.alloc (.cells #[.int .u8 0, .bool false, .int .u8 0, .int .u32 0, .int .u16 0, .string { data := #[] }] 107)) W.heap.size := ⟨CB.new 107 W 0 false 0 0 0 [], h.rd.lt⟩
theorem NQ.only {w W W' : World} {q : Nat} (h : NQ w W q) (ho : Only (w.heap.size + 2) W W') : NQ w W' q := ⟨h.1.only ho (by have := h.2; omega), h.2⟩
theorem CB.sets {W : World} {q : Nat} {T : TypeId} {ylv : Int} {yrd : Bool} {yiv ysq yme : Int} {ym : List UInt8} (h : CB T W q ylv yrd yiv ysq yme ym) (xlv : Int) (xrd : Bool) (xiv xsq xme : Int) (xm : List UInt8) :
    CB T ((((((W.setCell ⟨q, 0, none⟩ (.int .u8 xlv)).setCell ⟨q, 1, none⟩ (.bool xrd)).setCell ⟨q, 2, none⟩ (.int .u8 xiv)).setCell ⟨q, 3, none⟩ (.int .u32 xsq)).setCell ⟨q, 4, none⟩ (.int .u16 xme)).setCell ⟨q, 5, none⟩ (.string (bs xm))) q xlv xrd xiv xsq xme xm := by
  unfold CB at *
  simp [World.setCell, Array.getElem?_modify, h]
theorem CB.other {T : TypeId} {W : World} {q t o : Nat} {xlv : Int} {xrd : Bool} {xiv xsq xme : Int} {xm : List UInt8} (h : CB T W q xlv xrd xiv xsq xme xm) (ht : t ≠ q) (u : Value) : CB T (W.setCell ⟨t, o, none⟩ u) q xlv xrd xiv xsq xme xm := by
  unfold CB; rw [Below.heap_setCell _ _ _ _ (by intro e; simp at e; omega)]; exact h
theorem CT.set {w W : World} {l : List UInt8} {e a b c : Int} {f : List UInt8} {v : Value} {q o : Nat} (h : CT w W l e a b c f v) (hq : w.heap.size + 2 < q) (u : Value) : CT w (W.setCell ⟨q, o, none⟩ u) l e a b c f v :=
  ⟨h.rd.setOther (by omega) _, h.pb.other (by omega) _, h.pz.other (by omega) _, below_set h.bel (by omega) _⟩
theorem CT.drew {w W : World} {l : List UInt8} {e a b c : Int} {f : List UInt8} {v : Value} (h : CT w W l e a b c f v) : CT w W.drew l e a b c f v := h.later (Below.refl _ _).drew
theorem NQ.drew {w W : World} {q : Nat} (h : NQ w W q) : NQ w W.drew q := ⟨h.1, h.2⟩
theorem CT.sets {w W : World} {l : List UInt8} {e a b c : Int} {f : List UInt8} {v : Value} {q : Nat} (h : CT w W l e a b c f v) (hq : NQ w W q) (v0 v1 v2 v3 v4 v5 : Value) : CT w ((((((W.setCell ⟨q, 0, none⟩ v0).setCell ⟨q, 1, none⟩ v1).setCell ⟨q, 2, none⟩ v2).setCell ⟨q, 3, none⟩ v3).setCell ⟨q, 4, none⟩ v4).setCell ⟨q, 5, none⟩ v5) l e a b c f v :=
  (((((h.set hq.2 v0).set hq.2 v1).set hq.2 v2).set hq.2 v3).set hq.2 v4).set hq.2 v5
theorem CT.two {w W : World} {l : List UInt8} {e a b c : Int} {f : List UInt8} {v : Value} (h : CT w W l e a b c f v) : W.cell? ⟨w.heap.size, 0, none⟩ = some (.int .u8 a) ∧ W.cell? ⟨w.heap.size, 2, none⟩ = some (.int .u8 c) := ⟨h.pb.c0, h.pb.c2⟩
set_option maxRecDepth 100000 in
set_option maxHeartbeats 8000000 in
theorem cctake_any (v : Value) (a b c : Int) (f : List UInt8) (w : World) (hf : f.length ≤ 1000) (ha : 0 ≤ a ∧ a < 256) (hc : 0 ≤ c ∧ c < 256) (hv : ∃ x n k, v = .slice x n k) : Calls Tryz.prog 123 #[.agg #[.int .u8 a, .int .u8 b, .int .u8 c, .string (bs f), v]] w fun en w' =>
    en = .returned (.tuple #[.agg #[.int .u8 (tkC a b c f).1, .bool (tkC a b c f).2.1, .int .u8 (tkC a b c f).2.2.1, .int .u32 (tkC a b c f).2.2.2.1, .int .u16 (tkC a b c f).2.2.2.2.1, .string (bs (tkC a b c f).2.2.2.2.2.1)], .int .i64 (tkC a b c f).2.2.2.2.2.2]) ∧ Below w.heap.size w w' := by
  obtain ⟨vx, vn, vk, rfl⟩ := hv
  obtain ⟨R, hR⟩ : ∃ R, tkC a b c f = R := ⟨_, rfl⟩
  rw [hR]
  obtain ⟨sq, l1, e1, h1⟩ : ∃ y l e, numOf (cr1 f).1 = y ∧ (cr1 f).2.1 = l ∧ (cr1 f).2.2 = e := ⟨_, _, _, rfl, rfl, rfl⟩
  obtain ⟨me, l2, e2, h2⟩ : ∃ y l e, numOf (cr2 f).1 = y ∧ (cr2 f).2.1 = l ∧ (cr2 f).2.2 = e := ⟨_, _, _, rfl, rfl, rfl⟩
  obtain ⟨m, l3, e3, h3⟩ : ∃ y l e, (cr3 f).1 = y ∧ (cr3 f).2.1 = l ∧ (cr3 f).2.2 = e := ⟨_, _, _, rfl, rfl, rfl⟩
  obtain ⟨t, l4, e4, h4⟩ : ∃ y l e, (cr4 f).1 = y ∧ (cr4 f).2.1 = l ∧ (cr4 f).2.2 = e := ⟨_, _, _, rfl, rfl, rfl⟩
  have q2 : rdText l1 e1 2 = cr2 f := by unfold cr2; rw [h1.2.1, h1.2.2]
  have q3 : rdText l2 e2 48 = cr3 f := by unfold cr3; rw [h2.2.1, h2.2.2]
  have q4 : rdText l3 e3 16 = cr4 f := by unfold cr4; rw [h3.2.1, h3.2.2]
  have n1 : l1.length ≤ f.length := by have := rd_le f 0 4; rw [show rdText f 0 4 = cr1 f from rfl, h1.2.1] at this; exact this
  have n2 : l2.length ≤ l1.length := by have := rd_le l1 e1 2; rw [q2, h2.2.1] at this; exact this
  have n3 : l3.length ≤ l2.length := by have := rd_le l2 e2 48; rw [q3, h3.2.1] at this; exact this
  have n4 : l4.length ≤ l3.length := by have := rd_le l3 e3 16; rw [q4, h4.2.1] at this; exact this
  have nm : m.length ≤ 1000 := by have := rd_le1 l2 e2 48; rw [q3, h3.1] at this; omega
  obtain ⟨l5, E, h5⟩ : ∃ l e, (rdEnd l4 e4).1 = l ∧ (rdEnd l4 e4).2 = e := ⟨_, _, rfl, rfl⟩
  have hE : crE f = E := by unfold crE; rw [h4.2.1, h4.2.2, h5.2]
  have U1 : Hid (∀ w p, Rd w p f 0 → Calls Tryz.prog 139 #[.pointer (some ⟨p, 0, none⟩)] w fun en w' => en = .returned (.int .u32 sq) ∧ Rd w' p l1 e1 ∧ Only p w w') := fun w p hr => by
    have h := U32_any p f 0 w hr (by omega)
    rw [show rdText f 0 4 = cr1 f from rfl, h1.1, h1.2.1, h1.2.2] at h; exact h
  have U2 : Hid (∀ w p, Rd w p l1 e1 → Calls Tryz.prog 121 #[.pointer (some ⟨p, 0, none⟩)] w fun en w' => en = .returned (.int .u16 me) ∧ Rd w' p l2 e2 ∧ Only p w w') := fun w p hr => by
    have h := U16_any p l1 e1 w hr (by omega)
    rw [q2, h2.1, h2.2.1, h2.2.2] at h; exact h
  have U3 : Hid (∀ w p, Rd w p l2 e2 → Calls Tryz.prog 91 #[.pointer (some ⟨p, 0, none⟩), .int .i64 48] w fun en w' => en = .returned (.string (bs m)) ∧ Rd w' p l3 e3 ∧ Only p w w') := fun w p hr => by
    have h := text_any p l2 e2 48 w hr (by omega)
    rw [q3, h3.1, h3.2.1, h3.2.2] at h; exact h
  have U4 : Hid (∀ w p, Rd w p l3 e3 → Calls Tryz.prog 91 #[.pointer (some ⟨p, 0, none⟩), .int .i64 16] w fun en w' => en = .returned (.string (bs t)) ∧ Rd w' p l4 e4 ∧ Only p w w') := fun w p hr => by
    have h := text_any p l3 e3 16 w hr (by omega)
    rw [q4, h4.1, h4.2.1, h4.2.2] at h; exact h
  have U5 : Hid (∀ w p, Rd w p l4 e4 → Calls Tryz.prog 140 #[.pointer (some ⟨p, 0, none⟩)] w fun en w' => en = .returned (.int .i64 E) ∧ Rd w' p l5 E ∧ Only p w w') := fun w p hr => by
    have h := end_any p l4 e4 w hr (by omega)
    rw [h5.1, h5.2] at h; exact h
  obtain ⟨K, hK⟩ : ∃ K, mayC a (c % 8) me m = K := ⟨_, rfl⟩
  obtain ⟨G, hG⟩ : ∃ G : Bool, decide (127 < c) = G := ⟨_, rfl⟩
  have M1 : Hid (∀ w, Calls Tryz.prog 77 #[.agg #[.int .u8 a, .bool G, .int .u8 (c % 8), .int .u32 sq, .int .u16 me, .string (bs m)]] w fun en w' => en = .returned (.bool K) ∧ Below w.heap.size w w') := by
    rw [← hK]; exact fun w => may13_any a G (c % 8) sq me m w nm
  have hRR : R = if b = 1 ∧ E = 0 ∧ K = true then (a, G, c % 8, sq, me, m, 0) else (0, false, 0, 0, 0, [], 4) := by
    rw [← hR]; unfold tkC; rw [hE, h1.1, h2.1, h3.1, hK, hG]
  have HRR := Lib.hid hRR
  have a7 : bits .and .u8 c 7 = c % 8 := bits_mask .u8 8 (by decide) wraps_u8 3 (by decide) c hc.1 hc.2
  have a128 : bits .and .u8 c 128 = c / 128 * 128 := and_128 c hc.1 hc.2
  have g128 : (c / 128 * 128 != 0) = G := by
    rw [← hG]
    by_cases h : 127 < c
    · rw [decide_eq_true h, bne_iff_ne]; omega
    · rw [decide_eq_false h]
      have : c / 128 * 128 = 0 := by omega
      rw [this]; rfl
  clear hRR hR h1 h2 h3 h4 q2 q3 q4 n1 n2 n3 n4 nm h5 hE hK hG ha hf
  go_enter Tryz.func123, Tryz.ntmps123
  go_upto_region 1 with fail
  have pb0 := (PB.new 103 w a b c f (.slice vx vn vk)).later ((Below.refl _ _).alloc (Nat.le_refl _) (.cells #[.int .u8 0, .bool false, .int .u8 0, .int .u32 0, .int .u16 0, .string { data := #[] }] 107))
  have pz : CB 107 ((w.alloc (.cells #[.int .u8 a, .int .u8 b, .int .u8 c, .string (bs f), .slice vx vn vk] 103)).alloc (.cells #[.int .u8 0, .bool false, .int .u8 0, .int .u32 0, .int .u16 0, .string { data := #[] }] 107)) (w.heap.size + 1) 0 false 0 0 0 [] := by
    have := CB.new 107 (w.alloc (.cells #[.int .u8 a, .int .u8 b, .int .u8 c, .string (bs f), .slice vx vn vk] 103)) 0 false 0 0 0 []
    rw [show (w.alloc (.cells #[.int .u8 a, .int .u8 b, .int .u8 c, .string (bs f), .slice vx vn vk] 103)).heap.size = w.heap.size + 1 by simp] at this
    exact this
  have hb0 : Below w.heap.size w ((w.alloc (.cells #[.int .u8 a, .int .u8 b, .int .u8 c, .string (bs f), .slice vx vn vk] 103)).alloc (.cells #[.int .u8 0, .bool false, .int .u8 0, .int .u32 0, .int .u16 0, .string { data := #[] }] 107)) := ((Below.refl _ _).alloc (Nat.le_refl _) _).alloc (by simp) _
  have hz0 : ((w.alloc (.cells #[.int .u8 a, .int .u8 b, .int .u8 c, .string (bs f), .slice vx vn vk] 103)).alloc (.cells #[.int .u8 0, .bool false, .int .u8 0, .int .u32 0, .int .u16 0, .string { data := #[] }] 107)).heap.size = w.heap.size + 2 := by simp
  obtain ⟨w0, hw0⟩ : ∃ k, (w.alloc (.cells #[.int .u8 a, .int .u8 b, .int .u8 c, .string (bs f), .slice vx vn vk] 103)).alloc (.cells #[.int .u8 0, .bool false, .int .u8 0, .int .u32 0, .int .u16 0, .string { data := #[] }] 107) = k := ⟨_, rfl⟩
  rw [hw0] at pb0 pz hb0 hz0 ⊢
  have c3 := pb0.c3
  have PB0 := Lib.hid pb0
  have PZ0 := Lib.hid pz
  have HB0 := Lib.hid hb0
  have HZ0 := Lib.hid hz0
  clear hw0 pb0 pz hb0 hz0
  go_wp2_with fail
  with_reducible refine (of_any f w0).mono ?_
  rintro en w1 ⟨rfl, hr1, hb1, hlt⟩
  rw [HZ0.out] at hr1 ⊢
  have PB1 := PB0.out.later hb1
  have PZ1 := PZ0.out.later hb1
  have HB1 := HB0.out.trans (hb1.mono HB0.out.size)
  have c0 : w1.drew.cell? ⟨w.heap.size, 0, none⟩ = some (.int .u8 a) := PB1.c0
  have c2 : w1.drew.cell? ⟨w.heap.size, 2, none⟩ = some (.int .u8 c) := PB1.c2
  have rd1 : Rd w1.drew (w.heap.size + 2) f 0 := hr1
  have pbd : PB 103 w1.drew w.heap.size a b c f (.slice vx vn vk) := PB1
  have pzd : CB 107 w1.drew (w.heap.size + 1) 0 false 0 0 0 [] := PZ1
  have hbd : Below w.heap.size w w1.drew := HB1.drew
  have CT1 : Hid (CT w w1 f 0 a b c f (.slice vx vn vk)) := Lib.hid ⟨rd1, pbd, pzd, HB1⟩
  have CTd : Hid (CT w w1.drew f 0 a b c f (.slice vx vn vk)) := Lib.hid ⟨rd1, pbd, pzd, hbd⟩
  clear hb1 c3 PB0 PZ0 HB0 HZ0 PB1 PZ1 HB1 hr1 pbd pzd hbd hlt rd1
  go_wp2_with fail
  go_upto_region 3 with fail
  go_cut [8] (fun s8 wx => ∃ q : Nat, s8 = .pointer (some ⟨q, 0, none⟩) ∧ Hid (CT w wx l3 e3 a b c f (.slice vx vn vk)) ∧ Hid (CB 107 wx q a G (c % 8) sq me m) ∧ Hid (w.heap.size + 2 < q))
  case first =>
    go_region_held3 (fun W => W.cell? ⟨w.heap.size, 0, none⟩ = some (.int .u8 a) ∧ W.cell? ⟨w.heap.size, 2, none⟩ = some (.int .u8 c))
      (first | (with_reducible exact CTd.out.two) | (with_reducible exact (CT1.out.alloc _).drew.two) | (with_reducible exact (CTd.out.alloc _).two) | (with_reducible exact CTx.out.two) | (with_reducible exact (CTx.out.alloc _).two) | (with_reducible exact CTy.out.two) | (with_reducible exact (CTy.out.alloc _).two) | (with_reducible exact CTz.out.two) | (with_reducible exact (CTz.out.alloc _).two) | (with_reducible exact (CTz.out.sets NQq.out _ _ _ _ _ _).two))
      (first
        | (go_at_call 139; (first
            | ((with_reducible refine (U1.out _ _ CTd.out.rd).mono ?_); rintro en wx ⟨rfl, rdx, hox⟩; have CTx := Lib.hid (CTd.out.next rdx hox))
            | ((with_reducible refine (U1.out _ _ (CT1.out.alloc _).drew.rd).mono ?_); rintro en wx ⟨rfl, rdx, hox⟩; have CTx := Lib.hid ((CT1.out.alloc _).drew.next rdx hox); have NQq := Lib.hid ((NQ.new CT1.out).drew.only hox))
            | ((with_reducible refine (U1.out _ _ (CTd.out.alloc _).rd).mono ?_); rintro en wx ⟨rfl, rdx, hox⟩; have CTx := Lib.hid ((CTd.out.alloc _).next rdx hox); have NQq := Lib.hid ((NQ.new CTd.out).only hox))); have c0x := CTx.out.pb.c0; have c2x := CTx.out.pb.c2)
        | (go_at_call 121; (first
            | ((with_reducible refine (U2.out _ _ CTx.out.rd).mono ?_); rintro en wy ⟨rfl, rdy, hoy⟩; have CTy := Lib.hid (CTx.out.next rdy hoy); try have NQq := Lib.hid (NQq.out.only hoy))
            | ((with_reducible refine (U2.out _ _ (CTx.out.alloc _).rd).mono ?_); rintro en wy ⟨rfl, rdy, hoy⟩; have CTy := Lib.hid ((CTx.out.alloc _).next rdy hoy); have NQq := Lib.hid ((NQ.new CTx.out).only hoy))); have c0y := CTy.out.pb.c0; have c2y := CTy.out.pb.c2)
        | (go_at_call 91; (first
            | ((with_reducible refine (U3.out _ _ CTy.out.rd).mono ?_); rintro en wz ⟨rfl, rdz, hoz⟩; have CTz := Lib.hid (CTy.out.next rdz hoz); try have NQq := Lib.hid (NQq.out.only hoz))
            | ((with_reducible refine (U3.out _ _ (CTy.out.alloc _).rd).mono ?_); rintro en wz ⟨rfl, rdz, hoz⟩; have CTz := Lib.hid ((CTy.out.alloc _).next rdz hoz); have NQq := Lib.hid ((NQ.new CTy.out).only hoz))); have c0z := CTz.out.pb.c0; have c2z := CTz.out.pb.c2; try (have k0 := NQq.out.1.c0; have k1 := NQq.out.1.c1; have k2 := NQq.out.1.c2; have k3 := NQq.out.1.c3; have k4 := NQq.out.1.c4; have k5 := NQq.out.1.c5; have r0 := NQq.out.1.fr 0; have r1 := NQq.out.1.fr 1; have r2 := NQq.out.1.fr 2; have r3 := NQq.out.1.fr 3; have r4 := NQq.out.1.fr 4; have r5 := NQq.out.1.fr 5)))
    all_goals go_wp2_with fail
    all_goals go_meet
    all_goals first
      | exact ⟨_, rfl, Lib.hid (CTz.out.sets NQq.out _ _ _ _ _ _), Lib.hid (CB.sets NQq.out.1 _ _ _ _ _ _), Lib.hid NQq.out.2⟩
      | exact ⟨_, rfl, Lib.hid (CTz.out.alloc _), Lib.hid (CB.new _ _ _ _ _ _ _ _), Lib.hid CTz.out.rd.lt⟩
  case rest =>
    clear CTd CT1 c0 c2
    obtain ⟨q, rfl, CT3, CQ3, HQ⟩ := hcut
    go_wp2_with fail
    with_reducible refine (U4.out _ _ CT3.out.rd).mono ?_
    rintro en w4 ⟨rfl, hr4, ho4⟩
    have CT4 := Lib.hid (CT3.out.next hr4 ho4)
    have CQ4 := Lib.hid (CQ3.out.only ho4 (by have := HQ.out; omega))
    have c1 := CT4.out.pb.c1
    clear hr4 ho4 CT3 CQ3
    by_cases hb : b = 1
    rotate_left
    · have db : (b != 1) = true := by rw [bne_iff_ne]; exact hb
      have hR2 : R = (0, false, 0, 0, 0, [], 4) := by rw [HRR.out, if_neg (fun h => hb h.1)]
      have HR2 := Lib.hid hR2
      clear hR2 hb
      have z0 := CT4.out.pz.c0
      have z1 := CT4.out.pz.c1
      have z2 := CT4.out.pz.c2
      have z3 := CT4.out.pz.c3
      have z4 := CT4.out.pz.c4
      have z5 := CT4.out.pz.c5
      have y0 := CT4.out.pz.fr 0
      have y1 := CT4.out.pz.fr 1
      have y2 := CT4.out.pz.fr 2
      have y3 := CT4.out.pz.fr 3
      have y4 := CT4.out.pz.fr 4
      have y5 := CT4.out.pz.fr 5
      go_wp2_with fail
      refine bodyPost_ret (v := .tuple #[.agg #[.int .u8 0, .bool false, .int .u8 0, .int .u32 0, .int .u16 0, .string (bs [])], .int .i64 4]) (by simp [results, Tryz.results123, go_sem, z0, z1, z2, z3, z4, z5]; rfl) rfl ⟨by rw [HR2.out], below_set (below_set (below_set (below_set (below_set (below_set CT4.out.bel (by omega) _) (by omega) _) (by omega) _) (by omega) _) (by omega) _) (by omega) _⟩
    have db : (b != 1) = false := by rw [hb]; rfl
    go_wp2_with fail
    with_reducible refine (U5.out _ _ CT4.out.rd).mono ?_
    rintro en w5 ⟨rfl, hr5, ho5⟩
    have CT5 := Lib.hid (CT4.out.next hr5 ho5)
    have CQ5 := Lib.hid (CQ4.out.only ho5 (by have := HQ.out; omega))
    clear hr5 ho5 CT4 CQ4 c1
    by_cases hE : E = 0
    rotate_left
    · have dE : (E != 0) = true := by rw [bne_iff_ne]; exact hE
      have hR2 : R = (0, false, 0, 0, 0, [], 4) := by rw [HRR.out, if_neg (fun h => hE h.2.1)]
      have HR2 := Lib.hid hR2
      clear hR2 hb hE
      have z0 := CT5.out.pz.c0
      have z1 := CT5.out.pz.c1
      have z2 := CT5.out.pz.c2
      have z3 := CT5.out.pz.c3
      have z4 := CT5.out.pz.c4
      have z5 := CT5.out.pz.c5
      have y0 := CT5.out.pz.fr 0
      have y1 := CT5.out.pz.fr 1
      have y2 := CT5.out.pz.fr 2
      have y3 := CT5.out.pz.fr 3
      have y4 := CT5.out.pz.fr 4
      have y5 := CT5.out.pz.fr 5
      go_wp2_with fail
      refine bodyPost_ret (v := .tuple #[.agg #[.int .u8 0, .bool false, .int .u8 0, .int .u32 0, .int .u16 0, .string (bs [])], .int .i64 4]) (by simp [results, Tryz.results123, go_sem, z0, z1, z2, z3, z4, z5]; rfl) rfl ⟨by rw [HR2.out], below_set (below_set (below_set (below_set (below_set (below_set CT5.out.bel (by omega) _) (by omega) _) (by omega) _) (by omega) _) (by omega) _) (by omega) _⟩
    have dE : (E != 0) = false := by rw [hE]; rfl
    have k0 := CQ5.out.c0
    have k1 := CQ5.out.c1
    have k2 := CQ5.out.c2
    have k3 := CQ5.out.c3
    have k4 := CQ5.out.c4
    have k5 := CQ5.out.c5
    go_wp2_with fail
    with_reducible refine (M1.out _).mono ?_
    rintro en w6 ⟨rfl, hb6⟩
    have CT6 := Lib.hid (CT5.out.later hb6)
    have CQ6 := Lib.hid (CQ5.out.later hb6)
    clear hb6 CT5 CQ5 k0 k1 k2 k3 k4 k5
    cases K with
    | false =>
      have hR2 : R = (0, false, 0, 0, 0, [], 4) := by rw [HRR.out, if_neg (fun h => Bool.noConfusion h.2.2)]
      have HR2 := Lib.hid hR2
      clear hR2 hb hE
      have z0 := CT6.out.pz.c0
      have z1 := CT6.out.pz.c1
      have z2 := CT6.out.pz.c2
      have z3 := CT6.out.pz.c3
      have z4 := CT6.out.pz.c4
      have z5 := CT6.out.pz.c5
      have y0 := CT6.out.pz.fr 0
      have y1 := CT6.out.pz.fr 1
      have y2 := CT6.out.pz.fr 2
      have y3 := CT6.out.pz.fr 3
      have y4 := CT6.out.pz.fr 4
      have y5 := CT6.out.pz.fr 5
      go_wp2_with fail
      refine bodyPost_ret (v := .tuple #[.agg #[.int .u8 0, .bool false, .int .u8 0, .int .u32 0, .int .u16 0, .string (bs [])], .int .i64 4]) (by simp [results, Tryz.results123, go_sem, z0, z1, z2, z3, z4, z5]; rfl) rfl ⟨by rw [HR2.out], below_set (below_set (below_set (below_set (below_set (below_set CT6.out.bel (by omega) _) (by omega) _) (by omega) _) (by omega) _) (by omega) _) (by omega) _⟩
    | true =>
      have hR2 : R = (a, G, c % 8, sq, me, m, 0) := by rw [HRR.out, if_pos ⟨hb, hE, rfl⟩]
      have HR2 := Lib.hid hR2
      have k0 := CQ6.out.c0
      have k1 := CQ6.out.c1
      have k2 := CQ6.out.c2
      have k3 := CQ6.out.c3
      have k4 := CQ6.out.c4
      have k5 := CQ6.out.c5
      clear hR2 hb hE
      have z0 := CT6.out.pz.c0
      have z1 := CT6.out.pz.c1
      have z2 := CT6.out.pz.c2
      have z3 := CT6.out.pz.c3
      have z4 := CT6.out.pz.c4
      have z5 := CT6.out.pz.c5
      have y0 := CT6.out.pz.fr 0
      have y1 := CT6.out.pz.fr 1
      have y2 := CT6.out.pz.fr 2
      have y3 := CT6.out.pz.fr 3
      have y4 := CT6.out.pz.fr 4
      have y5 := CT6.out.pz.fr 5
      go_wp2_with fail
      refine bodyPost_ret (v := .tuple #[.agg #[.int .u8 a, .bool G, .int .u8 (c % 8), .int .u32 sq, .int .u16 me, .string (bs m)], .int .i64 0]) (by simp [results, Tryz.results123, go_sem, z0, z1, z2, z3, z4, z5]) rfl ⟨by rw [HR2.out], below_set (below_set (below_set (below_set (below_set (below_set CT6.out.bel (by omega) _) (by omega) _) (by omega) _) (by omega) _) (by omega) _) (by omega) _⟩
end Go.Proofs.YtlkdfofpnmpidaaGreat
