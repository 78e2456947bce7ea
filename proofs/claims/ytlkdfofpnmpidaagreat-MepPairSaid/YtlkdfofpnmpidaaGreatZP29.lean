/- ZP29: the texts Y5, E0 as one. -/
import Derived.Test.YtlkdfofpnmpidaaGreatZP27
import Derived.Test.YtlkdfofpnmpidaaGreatZP28
import Derived.Test.YtlkdfofpnmpidaaGreatZP24
import Derived.Test.YtlkdfofpnmpidaaGreatZP08
/- mep: a check that comes. -/
set_option linter.unusedVariables false
set_option linter.unusedSimpArgs false
namespace Go.Proofs.YtlkdfofpnmpidaaGreat
open Go.RowKit

theorem tkC_b (a b c : Int) (f : List UInt8) : (tkC a b c f).2.2.2.2.2.1.length ≤ 1000 ∧ (0 ≤ (tkC a b c f).2.2.2.1 ∧ (tkC a b c f).2.2.2.1 < 4294967296) ∧ (0 ≤ (tkC a b c f).2.2.2.2.1 ∧ (tkC a b c f).2.2.2.2.1 < 65536) := by
  unfold tkC
  split
  · refine ⟨?_, ⟨(numOf_bd _).1, numOf_lt _ 4 _ (rdText_len _ _ 4) (by decide)⟩, ⟨(numOf_bd _).1, numOf_lt _ 2 _ (rdText_len _ _ 2) (by decide)⟩⟩
    exact Nat.le_trans (rdText_len (cr2 f).2.1 (cr2 f).2.2 48) (by decide)
  · refine ⟨by simp, ⟨by simp, by simp⟩, ⟨by simp, by simp⟩⟩
/-- What the machine knows behind a check. -/
def hearM (o : Ow20) (s : Ms) (lv : Int) (rd : Bool) (iv me : Int) (md : List UInt8) : Ms :=
  { s with V := (hearC o.a s.V s.bd s.cr lv rd iv me md).1, bd := (hearC o.a s.V s.bd s.cr lv rd iv me md).2.1, cr := (hearC o.a s.V s.bd s.cr lv rd iv me md).2.2 }
def chkM (o : Ow20) (s : Ms) (a b c : Int) (f : List UInt8) : Ms × Bool :=
  if (tkC a b c f).2.2.2.2.2.2 = 0 then (hearM o s (tkC a b c f).1 (tkC a b c f).2.1 (tkC a b c f).2.2.1 (tkC a b c f).2.2.2.2.1 (tkC a b c f).2.2.2.2.2.1, true) else (s, false)
/-- The box of what came, beside the point. -/
structure CM (w W : World) (o : Ow20) (ov : Value) (x : Mp) (s : Ms) (wv : Value) (B : Nat) (A : Array Value) : Prop where
  mm : MM W o ov x s wv
  cb : GB 142 W B A
  fr : Fr (x.D wv) w W
  lb : w.heap.size ≤ B
section
variable {w W W' : World} {o : Ow20} {ov : Value} {x : Mp} {s : Ms} {wv : Value} {B : Nat} {A : Array Value}
theorem CM.later (h : CM w W o ov x s wv B A) (hb : Below W.heap.size W W') : CM w W' o ov x s wv B A := ⟨h.mm.later hb, h.cb.later hb, h.fr.trans (.of_below hb), h.lb⟩
theorem CM.drew (h : CM w W o ov x s wv B A) : CM w W.drew o ov x s wv B A := h.later (Below.refl _ _).drew
theorem CM.alloc (h : CM w W o ov x s wv B A) (b : Obj) : CM w (W.alloc b) o ov x s wv B A := h.later ((Below.refl _ _).alloc (Nat.le_refl _) b)
theorem CM.box (h : MM w o ov x s wv) (A : Array Value) : CM w (w.alloc (.cells A 142)) o ov x s wv w.heap.size A :=
  ⟨h.alloc _, GB.new _ _ _, .of_below ((Below.refl _ _).alloc (Nat.le_refl _) _), Nat.le_refl _⟩
theorem CM.notD (h0 : MM w o ov x s wv) {k : Nat} (hk : w.heap.size ≤ k) : ¬ x.D wv k := fun hd => by have := h0.ltD hd; omega
end
set_option maxRecDepth 100000 in
set_option maxHeartbeats 8000000 in
theorem mcheck_any (o : Ow20) (ov : Value) (x : Mp) (s : Ms) (wv : Value) (sr ds : Mc) (a b c : Int) (f : List UInt8) (v : Value) (w : World) (h : MM w o ov x s wv) (hB : Bnd s.V s.bd s.cr)
    (hf : f.length ≤ 1000) (ha : 0 ≤ a ∧ a < 256) (hc : 0 ≤ c ∧ c < 256) (hv : ∃ x n k, v = .slice x n k) : Calls Tryz.prog 95 #[.pointer (some ⟨x.p, 0, none⟩), .agg #[.int .u8 sr.a, .int .u8 sr.b, .int .u8 sr.c, .int .u8 sr.d, .int .u8 sr.e, .int .u8 sr.f, .int .u8 ds.a, .int .u8 ds.b, .int .u8 ds.c, .int .u8 ds.d, .int .u8 ds.e, .int .u8 ds.f, .int .u8 a, .int .u8 b, .int .u8 c, .string (bs f), v]] w fun en w' =>
    en = .returned (.tuple #[.slice none 0 0, .bool (chkM o s a b c f).2]) ∧ MM w' o ov x (chkM o s a b c f).1 wv ∧ Fr (x.D wv) w w' := by
  obtain ⟨⟨lv, rd, iv, sq, me, m, e⟩, ht⟩ : ∃ z, tkC a b c f = z := ⟨_, rfl⟩
  have TK : Hid (∀ w, Calls Tryz.prog 123 #[.agg #[.int .u8 a, .int .u8 b, .int .u8 c, .string (bs f), v]] w fun en w' => en = .returned (.tuple #[.agg #[.int .u8 lv, .bool rd, .int .u8 iv, .int .u32 sq, .int .u16 me, .string (bs m)], .int .i64 e]) ∧ Below w.heap.size w w') := Lib.hid fun w => by
    have h := cctake_any v a b c f w hf ha hc hv
    rw [ht] at h; exact h
  have hbd := tkC_b a b c f
  rw [ht] at hbd
  have HBD := Lib.hid hbd
  obtain ⟨R, hR⟩ : ∃ R, chkM o s a b c f = R := ⟨_, rfl⟩
  have HR : Hid (R = if e = 0 then (hearM o s lv rd iv me m, true) else (s, false)) := Lib.hid (by rw [← hR]; unfold chkM; rw [ht])
  rw [hR]
  obtain ⟨vx, vn, vk, rfl⟩ := hv
  obtain ⟨v, hvv⟩ : ∃ v, Value.slice vx vn vk = v := ⟨_, rfl⟩
  have HB := Lib.hid hB
  rw [hvv] at TK ⊢
  have C0 := Lib.hid (CM.box h #[.int .u8 sr.a, .int .u8 sr.b, .int .u8 sr.c, .int .u8 sr.d, .int .u8 sr.e, .int .u8 sr.f, .int .u8 ds.a, .int .u8 ds.b, .int .u8 ds.c, .int .u8 ds.d, .int .u8 ds.e, .int .u8 ds.f, .int .u8 a, .int .u8 b, .int .u8 c, .string (bs f), v])
  have H0 := Lib.hid h
  clear hR hbd ht hB h hf ha hc hvv
  go_enter Tryz.func95, Tryz.ntmps95
  go_upto_region 1 with fail
  obtain ⟨w0, hw0⟩ : ∃ z, w.alloc (.cells #[.int .u8 sr.a, .int .u8 sr.b, .int .u8 sr.c, .int .u8 sr.d, .int .u8 sr.e, .int .u8 sr.f, .int .u8 ds.a, .int .u8 ds.b, .int .u8 ds.c, .int .u8 ds.d, .int .u8 ds.e, .int .u8 ds.f, .int .u8 a, .int .u8 b, .int .u8 c, .string (bs f), v] 142) = z := ⟨_, rfl⟩
  obtain ⟨B, hBB⟩ : ∃ z, w.heap.size = z := ⟨_, rfl⟩
  rw [hw0] at C0 ⊢
  rw [hBB] at C0 ⊢
  clear hw0 hBB
  have k12 : w0.cell? ⟨B, 12, none⟩ = some (.int .u8 a) := C0.out.cb.c 12 _ rfl
  have k13 : w0.cell? ⟨B, 13, none⟩ = some (.int .u8 b) := C0.out.cb.c 13 _ rfl
  have k14 : w0.cell? ⟨B, 14, none⟩ = some (.int .u8 c) := C0.out.cb.c 14 _ rfl
  have k15 : w0.cell? ⟨B, 15, none⟩ = some (.string (bs f)) := C0.out.cb.c 15 _ rfl
  have k16 : w0.cell? ⟨B, 16, none⟩ = some v := C0.out.cb.c 16 _ rfl
  go_wp2_with fail
  with_reducible refine (TK.out _).mono ?_
  rintro en w1 ⟨rfl, hb1⟩
  have C1 := Lib.hid (C0.out.later hb1)
  clear hb1 C0 k12 k13 k14 k15 k16
  go_upto_region 2 with fail
  have g2 := GB.new 107 w1 #[.int .u8 lv, .bool rd, .int .u8 iv, .int .u32 sq, .int .u16 me, .string (bs m)]
  have C2 := Lib.hid (C1.out.alloc (.cells #[.int .u8 lv, .bool rd, .int .u8 iv, .int .u32 sq, .int .u16 me, .string (bs m)] 107))
  obtain ⟨w2, hw2⟩ : ∃ z, w1.alloc (.cells #[.int .u8 lv, .bool rd, .int .u8 iv, .int .u32 sq, .int .u16 me, .string (bs m)] 107) = z := ⟨_, rfl⟩
  obtain ⟨t, htt⟩ : ∃ z, w1.heap.size = z := ⟨_, rfl⟩
  rw [hw2] at C2 g2 ⊢
  rw [htt] at g2 ⊢
  have G2 := Lib.hid g2
  have HT := Lib.hid (CM.notD H0.out (k := t) (by rw [← htt]; exact C1.out.fr.size))
  clear hw2 g2 htt C1
  by_cases he : e = 0
  · have HZ := Lib.hid (show R = (hearM o s lv rd iv me m, true) by rw [HR.out, if_pos he])
    subst he
    have HE : Hid (∀ W, MM W o ov x s wv → Calls Tryz.prog 124 #[.pointer (some ⟨x.q, 0, none⟩), .agg #[.int .u8 lv, .bool rd, .int .u8 iv, .int .u32 sq, .int .u16 me, .string (bs m)]] W fun en w' => en = .returned (.tuple #[]) ∧ MM w' o ov x (hearM o s lv rd iv me m) wv ∧ Two x.q x.m W w') := Lib.hid fun W hW =>
      (hear_any x.q x.m o.a s.V s.bd s.cr lv rd iv sq me m W hW.mc HB.out HBD.out.1 HBD.out.2.1 HBD.out.2.2).mono fun en w' ⟨h1, h2, h3⟩ => ⟨h1, hW.rem h2 h3, h3⟩
    obtain ⟨s1, hs1⟩ : ∃ z, hearM o s lv rd iv me m = z := ⟨_, rfl⟩
    rw [hs1] at HE HZ
    clear hs1 HR HBD HB TK
    go_upto_region 3 with fail
    go_cut [] (fun wx => Hid (MM wx o ov x s1 wv ∧ Fr (x.D wv) w wx))
    case first =>
      have md1 : MM w2.drew o ov x s wv := C2.out.mm.drew
      have gd : GB 107 w2.drew t #[.int .u8 lv, .bool rd, .int .u8 iv, .int .u32 sq, .int .u16 me, .string (bs m)] := G2.out.drew
      have sv : w2.drew.cell? ⟨x.p, 12, none⟩ = some (.pointer (some ⟨x.q, 0, none⟩)) ∧ w2.drew.cell? ⟨t, 0, none⟩ = some (.int .u8 lv) ∧ w2.drew.cell? ⟨t, 1, none⟩ = some (.bool rd) ∧ w2.drew.cell? ⟨t, 2, none⟩ = some (.int .u8 iv) ∧ w2.drew.cell? ⟨t, 3, none⟩ = some (.int .u32 sq) ∧ w2.drew.cell? ⟨t, 4, none⟩ = some (.int .u16 me) ∧ w2.drew.cell? ⟨t, 5, none⟩ = some (.string (bs m)) :=
        ⟨md1.cq, gd.c 0 _ rfl, gd.c 1 _ rfl, gd.c 2 _ rfl, gd.c 3 _ rfl, gd.c 4 _ rfl, gd.c 5 _ rfl⟩
      have lt' : t < w2.heap.size := G2.out.lt
      have nD : ¬ x.D wv t := HT.out
      go_region_held3 (fun W => W.cell? ⟨x.p, 12, none⟩ = some (.pointer (some ⟨x.q, 0, none⟩)) ∧ W.cell? ⟨t, 0, none⟩ = some (.int .u8 lv) ∧ W.cell? ⟨t, 1, none⟩ = some (.bool rd) ∧ W.cell? ⟨t, 2, none⟩ = some (.int .u8 iv) ∧ W.cell? ⟨t, 3, none⟩ = some (.int .u32 sq) ∧ W.cell? ⟨t, 4, none⟩ = some (.int .u16 me) ∧ W.cell? ⟨t, 5, none⟩ = some (.string (bs m)))
        (first | with_reducible exact sv | with_reducible exact sv2)
        (first
          | (go_at_call 124; (with_reducible refine (HE.out _ md1).mono ?_); rintro en wx ⟨rfl, hmx, htx⟩
             have gx : GB 107 wx t #[.int .u8 lv, .bool rd, .int .u8 iv, .int .u32 sq, .int .u16 me, .string (bs m)] := gd.fr' (Fr.of_two (D := x.D wv) htx (.inr (.inl rfl)) (.inr (.inr (.inl rfl)))) nD
             have sv2 : wx.cell? ⟨x.p, 12, none⟩ = some (.pointer (some ⟨x.q, 0, none⟩)) ∧ wx.cell? ⟨t, 0, none⟩ = some (.int .u8 lv) ∧ wx.cell? ⟨t, 1, none⟩ = some (.bool rd) ∧ wx.cell? ⟨t, 2, none⟩ = some (.int .u8 iv) ∧ wx.cell? ⟨t, 3, none⟩ = some (.int .u32 sq) ∧ wx.cell? ⟨t, 4, none⟩ = some (.int .u16 me) ∧ wx.cell? ⟨t, 5, none⟩ = some (.string (bs m)) :=
               ⟨hmx.cq, gx.c 0 _ rfl, gx.c 1 _ rfl, gx.c 2 _ rfl, gx.c 3 _ rfl, gx.c 4 _ rfl, gx.c 5 _ rfl⟩))
      go_wp2
      go_meet
      exact Lib.hid ⟨hmx, (C2.out.fr.drew).trans (.of_two htx (.inr (.inl rfl)) (.inr (.inr (.inl rfl))))⟩
    case rest =>
      have HM := Lib.hid hcut.out
      clear hcut G2 C2 HE
      go_wp2
      go_ret2
      exact ⟨by rw [HZ.out]; rfl, by rw [HZ.out]; exact HM.out.1, HM.out.2⟩
  · have HZ := Lib.hid (show R = (s, false) by rw [HR.out, if_neg he])
    have e1 : (e == 0) = false := by rw [beq_eq_false_iff_ne]; exact he
    clear he HR HBD HB TK G2
    go_wp2
    go_ret2
    exact ⟨by rw [HZ.out]; rfl, by rw [HZ.out]; exact C2.out.mm, C2.out.fr⟩
end Go.Proofs.YtlkdfofpnmpidaaGreat

/- lbm: loops; the law's own 'of'. -/
set_option linter.unusedVariables false
namespace Go.Proofs.YtlkdfofpnmpidaaGreat
open Go.RowKit

/-- A loop's block. -/
def LB (T : TypeId) (W : World) (q : Nat) (xlv : Int) (xrp : Bool) (xnm : Int) (xdt : List UInt8) : Prop := W.heap[q]? = some (.cells #[.int .u8 xlv, .bool xrp, .int .u32 xnm, .string (bs xdt)] T (0, 0))
section
variable {T : TypeId} {W W' : World} {q : Nat} {xlv : Int} {xrp : Bool} {xnm : Int} {xdt : List UInt8}
theorem LB.lt (h : LB T W q xlv xrp xnm xdt) : q < W.heap.size := by
  rcases Nat.lt_or_ge q W.heap.size with h1 | h1
  · exact h1
  · unfold LB at h; rw [Array.getElem?_eq_none h1] at h; cases h
theorem LB.later (h : LB T W q xlv xrp xnm xdt) (hb : Below W.heap.size W W') : LB T W' q xlv xrp xnm xdt := by
  unfold LB; rw [hb.block q h.lt]; exact h
theorem LB.below {B : Nat} (h : LB T W q xlv xrp xnm xdt) (hq : q < B) (hb : Below B W W') : LB T W' q xlv xrp xnm xdt := by
  unfold LB; rw [hb.block q hq]; exact h
theorem LB.c0 (h : LB T W q xlv xrp xnm xdt) : W.cell? ⟨q, 0, none⟩ = some (.int .u8 xlv) := by unfold LB at h; simp [World.cell?, h]
theorem LB.c1 (h : LB T W q xlv xrp xnm xdt) : W.cell? ⟨q, 1, none⟩ = some (.bool xrp) := by unfold LB at h; simp [World.cell?, h]
theorem LB.c2 (h : LB T W q xlv xrp xnm xdt) : W.cell? ⟨q, 2, none⟩ = some (.int .u32 xnm) := by unfold LB at h; simp [World.cell?, h]
theorem LB.c3 (h : LB T W q xlv xrp xnm xdt) : W.cell? ⟨q, 3, none⟩ = some (.string (bs xdt)) := by unfold LB at h; simp [World.cell?, h]
theorem LB.fr (h : LB T W q xlv xrp xnm xdt) (o : Nat) : W.frozen? ⟨q, o, none⟩ = false := by unfold LB at h; simp [World.frozen?, h]
theorem LB.new (T : TypeId) (W : World) (xlv : Int) (xrp : Bool) (xnm : Int) (xdt : List UInt8) : LB T (W.alloc (.cells #[.int .u8 xlv, .bool xrp, .int .u32 xnm, .string (bs xdt)] T)) W.heap.size xlv xrp xnm xdt := heap_alloc_new W _
end
end Go.Proofs.YtlkdfofpnmpidaaGreat
