/- ZP27: the texts Y4 as one. -/
import Derived.Test.YtlkdfofpnmpidaaGreatZP26
import Derived.Test.YtlkdfofpnmpidaaGreatZP23
import Derived.Test.YtlkdfofpnmpidaaGreatZP22
import Derived.Test.YtlkdfofpnmpidaaGreatZP18
import Derived.Deep.RegionHeld3
/- mep: Tick. -/
set_option linter.unusedVariables false
set_option linter.unusedSimpArgs false
namespace Go.Proofs.YtlkdfofpnmpidaaGreat
open Go.RowKit

/-- The machine's tick. -/
def remT (s : Ms) : Ms := { s with V := tickV s.V, bd := dn1 s.bd, cr := dn1 s.cr }
def wstM (s : Ms) : Int := worstV s.V s.bd s.cr
/-- The alarm's tick. -/
def almT (lw : Int) (s : Ms) : Ms := { s with al := (tickA lw s.al (wstM s)).1 }
def chkG (lv : Int) : Mc := ⟨1, 128, 194, 0, 0, 48 + lv⟩
/-- A check of an end point. -/
def ckP (o : Ow20) (worst sq : Int) : Int × Int × Int × List UInt8 × Int := putC o.a.lv (decide (2 ≤ worst)) o.a.iv sq o.a.mp o.a.md
def ckS (o : Ow20) (worst sq : Int) : List Sn := sentR (chkG o.a.lv) (ckP o worst sq).1 (ckP o worst sq).2.1 (ckP o worst sq).2.2.1 (ckP o worst sq).2.2.2.1 []
/-- A point's tick: what it knows then, what is sent, what is reported. -/
def tickM (o : Ow20) (s : Ms) : Ms × List Sn × Int :=
  if 0 < s.lf - 1 then ({ almT o.lw (remT s) with lf := s.lf - 1 }, [], (tickA o.lw s.al (wstM (remT s))).2)
  else ({ almT o.lw (remT s) with lf := tickC o.a.iv, sq := s.sq + 1 }, ckS o (wstM (remT s)) (s.sq + 1), (tickA o.lw s.al (wstM (remT s))).2)
theorem MM.drew {W : World} {o : Ow20} {ov : Value} {x : Mp} {s : Ms} {wv : Value} (h : MM W o ov x s wv) : MM W.drew o ov x s wv := h.later (Below.refl _ _).drew
theorem MM.alloc {W : World} {o : Ow20} {ov : Value} {x : Mp} {s : Ms} {wv : Value} (h : MM W o ov x s wv) (b : Obj) : MM (W.alloc b) o ov x s wv := h.later ((Below.refl _ _).alloc (Nat.le_refl _) b)
theorem MM.two {W : World} {o : Ow20} {ov : Value} {x : Mp} {s : Ms} {wv : Value} (h : MM W o ov x s wv) : W.cell? ⟨x.p, 12, none⟩ = some (.pointer (some ⟨x.q, 0, none⟩)) ∧ W.cell? ⟨x.p, 13, none⟩ = some (.pointer (some ⟨x.r, 0, none⟩)) := ⟨h.cq, h.cr'⟩
theorem MM.six {W : World} {o : Ow20} {ov : Value} {x : Mp} {s : Ms} {wv : Value} (h : MM W o ov x s wv) : W.cell? ⟨x.p, 0, none⟩ = some (.int .u8 o.a.lv) ∧ W.cell? ⟨x.p, 12, none⟩ = some (.pointer (some ⟨x.q, 0, none⟩)) ∧ W.cell? ⟨x.p, 1, none⟩ = some (.int .u8 o.a.iv) ∧ W.cell? ⟨x.p, 15, none⟩ = some (.int .u32 s.sq) ∧ W.cell? ⟨x.p, 3, none⟩ = some (.int .u16 o.a.mp) ∧ W.cell? ⟨x.p, 2, none⟩ = some (.string (bs o.a.md)) := ⟨h.clv, h.cq, h.civ, h.csq, h.cmp, h.cmd⟩
theorem PB.zero (T : TypeId) (W : World) : PB T (W.alloc (.cells #[.int .u8 0, .int .u8 0, .int .u8 0, .string { data := #[] }, .slice none 0 0] T)) W.heap.size 0 0 0 [] (.slice none 0 0) := PB.new T W 0 0 0 [] (.slice none 0 0)
theorem MM.ltD {W : World} {o : Ow20} {ov : Value} {x : Mp} {s : Ms} {wv : Value} (h : MM W o ov x s wv) {k : Nat} (hk : x.D wv k) : k < W.heap.size := by
  rcases hk with rfl | rfl | rfl | rfl | hk
  · exact h.gb.lt
  · exact h.mc.lt
  · exact h.mc.om.lt
  · exact GB.lt h.al
  · exact (Ow.lt h.wy hk).2
theorem MM.new {W W0 : World} {o : Ow20} {ov : Value} {x : Mp} {s s0 : Ms} {wv : Value} (h : MM W o ov x s wv) (h0 : MM W0 o ov x s0 wv) {t : Nat} (ht : W0.heap.size ≤ t) (j : Nat) (v : Value) : MM (W.setCell ⟨t, j, none⟩ v) o ov x s wv :=
  h.fr (Fr.set (D := fun k => k = t) rfl j v) (fun k hk e => by have := h0.ltD hk; omega)
theorem MM.five {W W0 : World} {o : Ow20} {ov : Value} {x : Mp} {s s0 : Ms} {wv : Value} (h : MM W o ov x s wv) (h0 : MM W0 o ov x s0 wv) {t : Nat} (ht : W0.heap.size ≤ t) (v0 v1 v2 v3 v4 : Value) : MM (((((W.setCell ⟨t, 0, none⟩ v0).setCell ⟨t, 1, none⟩ v1).setCell ⟨t, 2, none⟩ v2).setCell ⟨t, 3, none⟩ v3).setCell ⟨t, 4, none⟩ v4) o ov x s wv :=
  ((((h.new h0 ht 0 v0).new h0 ht 1 v1).new h0 ht 2 v2).new h0 ht 3 v3).new h0 ht 4 v4
theorem below_five {B t : Nat} {w W : World} (h : Below B w W) (ht : B ≤ t) {v0 v1 v2 v3 v4 : Value} : Below B w (((((W.setCell ⟨t, 0, none⟩ v0).setCell ⟨t, 1, none⟩ v1).setCell ⟨t, 2, none⟩ v2).setCell ⟨t, 3, none⟩ v3).setCell ⟨t, 4, none⟩ v4) :=
  below_set (below_set (below_set (below_set (below_set h ht _) ht _) ht _) ht _) ht _
theorem wstM_b (s : Ms) : 0 ≤ wstM s ∧ wstM s ≤ 4 := by unfold wstM worstV; (repeat' split) <;> omega
/-- What a point's numbers may be. -/
structure Ms.Ok (s : Ms) : Prop where
  bnd : Bnd s.V s.bd s.cr
  al : s.al.Ok
  lf : 0 ≤ s.lf ∧ s.lf ≤ 1000
  sq : 0 ≤ s.sq ∧ s.sq ≤ 1000000
  bad : 0 ≤ s.bad ∧ s.bad ≤ 1000000
  lp : 0 ≤ s.lp ∧ s.lp ≤ 1000000
  dat : s.dat.length ≤ 1000
  rep : 0 ≤ s.rep ∧ s.rep ≤ 1000000
  ali : 0 ≤ s.ali ∧ s.ali ≤ 1000000
  tr : 0 ≤ s.tr ∧ s.tr ≤ 1000000
  way : s.way.length ≤ 32
  rp : ∀ r ∈ s.way, r.Ok
set_option maxRecDepth 100000 in
set_option maxHeartbeats 8000000 in
theorem mtick_any (o : Ow20) (ho : o.Ok) (hlv : o.a.lv < 8) (ov : Value) (x : Mp) (s : Ms) (wv : Value) (w : World) (h : MM w o ov x s wv) (hs : s.Ok) : Calls Tryz.prog 11 #[.pointer (some ⟨x.p, 0, none⟩)] w fun en w' =>
    ∃ v, en = .returned (.tuple #[v, .int .u8 (tickM o s).2.2]) ∧ Ow 7 snC 55 w' w.heap.size v (tickM o s).2.1 ∧ MM w' o ov x (tickM o s).1 wv ∧ Fr (x.D wv) w w' := by
  obtain ⟨R, hR⟩ : ∃ R, tickM o s = R := ⟨_, rfl⟩
  have HR := Lib.hid hR
  rw [hR]
  have HO := Lib.hid ho
  have HS := Lib.hid hs
  have HLV := Lib.hid hlv
  have M0 := Lib.hid h
  have c12 := h.cq
  clear hR ho hs hlv h
  go_enter Tryz.func11, Tryz.ntmps11
  go_wp2_with fail
  with_reducible refine (tick_any x.q x.m o.a s.V s.bd s.cr w M0.out.mc HS.out.bnd).mono ?_
  rintro en w1 ⟨rfl, hmc, htw⟩
  have M1 : Hid (MM w1 o ov x (remT s) wv) := Lib.hid (M0.out.rem hmc htw)
  have F1 : Hid (Fr (x.D wv) w w1) := Lib.hid (.of_two htw (.inr (.inl rfl)) (.inr (.inr (.inl rfl))))
  clear hmc htw c12
  obtain ⟨s1, hs1⟩ : ∃ s1, remT s = s1 := ⟨_, rfl⟩
  have HS1 := Lib.hid hs1
  rw [hs1] at M1
  clear hs1
  obtain ⟨wo, hwo⟩ : ∃ z, wstM s1 = z := ⟨_, rfl⟩
  obtain ⟨⟨al2, told⟩, hto⟩ : ∃ z, tickA o.lw s1.al wo = z := ⟨_, rfl⟩
  have HW := Lib.hid (And.intro hwo hto)
  go_upto_region 4 with fail
  go_cut [4] (fun s4 wx => s4 = .int .u8 told ∧ Hid (MM wx o ov x { s1 with al := al2 } wv ∧ Fr (x.D wv) w1 wx))
  case first =>
    have c12 := M1.out.cq
    have c13 := M1.out.cr'
    have hwst : ∀ W, MM W o ov x s1 wv → Calls Tryz.prog 35 #[.pointer (some ⟨x.q, 0, none⟩)] W fun en w' => en = .returned (.int .u8 wo) ∧ Below W.heap.size W w' := fun W hW => by
      have := worst_any x.q x.m o.a s1.V s1.bd s1.cr W hW.mc
      rw [show worstV s1.V s1.bd s1.cr = wo from hwo] at this
      exact this
    have hwst := Lib.hid hwst
    have hat : Hid (∀ W, MM W o ov x s1 wv → Calls Tryz.prog 34 #[.pointer (some ⟨x.r, 0, none⟩), .int .u8 wo] W fun en w' => en = .returned (.int .u8 told) ∧ AL w' x.r o.lw al2 ∧ Only x.r W w') := Lib.hid fun W hW => by
      have := atick_any x.r o.lw wo s1.al W hW.al (by rw [← HS1.out]; exact HS.out.al) (by rw [← HW.out.1]; exact wstM_b s1)
      rw [HW.out.2] at this
      exact this
    have md : MM w1.drew o ov x s1 wv := M1.out.drew
    clear c12 c13 hwo hto
    go_region_held3 (fun W => W.cell? ⟨x.p, 12, none⟩ = some (.pointer (some ⟨x.q, 0, none⟩)) ∧ W.cell? ⟨x.p, 13, none⟩ = some (.pointer (some ⟨x.r, 0, none⟩)))
      (first | exact md.two | exact mx.two | exact my.two)
      (first
        | (go_at_call 35; (with_reducible refine (hwst.out _ md).mono ?_); rintro en wx ⟨rfl, hbx⟩; have mx := md.later hbx)
        | (go_at_call 34; (with_reducible refine (hat.out _ mx).mono ?_); rintro en wy ⟨rfl, hay, hoy⟩; have my := mx.alr hay hoy))
    go_wp2
    go_meet
    exact ⟨by trivial, Lib.hid ⟨my, (Fr.of_below ((Below.refl w1.heap.size w1).drew.trans hbx)).trans (.of_only hoy (.inr (.inr (.inr (.inl rfl)))))⟩⟩
  case rest =>
    obtain ⟨rfl, HM⟩ := hcut
    obtain ⟨s2, hs2⟩ : ∃ z, ({ s1 with al := al2 } : Ms) = z := ⟨_, rfl⟩
    rw [hs2] at HM
    have M2 := Lib.hid HM.out.1
    have F2 : Hid (Fr (x.D wv) w wc) := Lib.hid (F1.out.trans HM.out.2)
    have HL : Hid (s2.lf = s.lf ∧ s2.sq = s.sq) := Lib.hid (by rw [← hs2, ← HS1.out]; exact ⟨rfl, rfl⟩)
    have EW2 : Hid (wstM s2 = wo) := Lib.hid (by rw [← hs2]; exact HW.out.1)
    have HSB := Lib.hid (And.intro (show 0 ≤ s2.lf ∧ s2.lf ≤ 1000 by rw [HL.out.1]; exact HS.out.lf) (show 0 ≤ s2.sq ∧ s2.sq ≤ 1000000 by rw [HL.out.2]; exact HS.out.sq))
    obtain ⟨L2, hL2⟩ : ∃ z, s2.lf - 1 = z := ⟨_, rfl⟩
    have HRR : Hid (R = if 0 < L2 then ({ s2 with lf := L2 }, [], told) else ({ s2 with lf := tickC o.a.iv, sq := s2.sq + 1 }, ckS o wo (s2.sq + 1), told)) := Lib.hid (by
      rw [← HR.out]; unfold tickM almT
      have e3 : s.al = s1.al := by rw [← HS1.out]; rfl
      rw [HS1.out, e3, HW.out.1, HW.out.2, ← HL.out.1, ← HL.out.2, ← hL2, ← hs2])
    clear HM M1 F1 hwo hto HR HS1 HS M0 hs2
    have c14 : wc.cell? ⟨x.p, 14, none⟩ = some (.int .i64 s2.lf) := M2.out.clf
    have f14 := M2.out.fz 14
    have hlb := HSB.out.1
    go_upto_region 6 with fail
    try rw [hL2]
    have m3 := M2.out.sLf L2
    have f3 : Fr (x.D wv) w (wc.setCell ⟨x.p, 14, none⟩ (.int .i64 L2)) := F2.out.trans (.set (.inl rfl) _ _)
    obtain ⟨w3, hw3⟩ : ∃ z, wc.setCell ⟨x.p, 14, none⟩ (.int .i64 L2) = z := ⟨_, rfl⟩
    obtain ⟨s3, hs3⟩ : ∃ z, ({ s2 with lf := L2 } : Ms) = z := ⟨_, rfl⟩
    rw [hw3] at m3 f3 ⊢
    rw [hs3] at m3 HRR
    have M3 := Lib.hid m3
    have F3 := Lib.hid f3
    have EW3 : Hid (wstM s3 = wo) := Lib.hid (by rw [← hs3]; exact EW2.out)
    have E3 : Hid (s3.lf = L2 ∧ s3.sq = s2.sq ∧ ∀ a b : Int, ({ s2 with lf := a, sq := b } : Ms) = { s3 with lf := a, sq := b }) := Lib.hid (by rw [← hs3]; exact ⟨rfl, rfl, fun _ _ => rfl⟩)
    clear hw3 m3 f3 M2 F2 c14 f14 hL2 hs3 hlb
    have c14 : w3.cell? ⟨x.p, 14, none⟩ = some (.int .i64 L2) := by rw [← E3.out.1]; exact M3.out.clf
    by_cases hlf : 0 < L2
    · have d1 : decide (0 < L2) = true := decide_eq_true hlf
      have HZ := Lib.hid (show R = (s3, [], told) by rw [HRR.out, if_pos hlf])
      clear hlf HRR
      go_wp2
      go_ret2
      exact ⟨.slice none 0 0, by rw [HZ.out]; rfl, by rw [HZ.out]; exact Ow.none _ _, by rw [HZ.out]; exact M3.out, F3.out⟩
    have d1 : decide (0 < L2) = false := decide_eq_false hlf
    have HZ := Lib.hid (show R = ({ s3 with lf := tickC o.a.iv, sq := s2.sq + 1 }, ckS o wo (s2.sq + 1), told) by rw [HRR.out, if_neg hlf, E3.out.2.2])
    clear hlf HRR
    have c1 : w3.cell? ⟨x.p, 1, none⟩ = some (.int .u8 o.a.iv) := M3.out.civ
    have f14 := M3.out.fz 14
    obtain ⟨T, hT⟩ : ∃ T, tickC o.a.iv = T := ⟨_, rfl⟩
    have TK : Hid (∀ w, Calls Tryz.prog 36 #[.int .u8 o.a.iv] w fun en w' => en = .returned (.int .i64 T) ∧ w = w') := Lib.hid fun w => by rw [← hT]; exact ticks_any o.a.iv w
    rw [hT] at HZ
    clear hT
    go_upto_region 9 with (go_at_call 36; with_reducible refine (TK.out _).mono ?_; rintro e wt ⟨rfl, rfl⟩)
    have m4 := M3.out.sLf T
    have f4 : Fr (x.D wv) w (w3.setCell ⟨x.p, 14, none⟩ (.int .i64 T)) := F3.out.trans (.set (.inl rfl) _ _)
    obtain ⟨w4, hw4⟩ : ∃ z, w3.setCell ⟨x.p, 14, none⟩ (.int .i64 T) = z := ⟨_, rfl⟩
    obtain ⟨s4, hs4⟩ : ∃ z, ({ s3 with lf := T } : Ms) = z := ⟨_, rfl⟩
    rw [hw4] at m4 f4 ⊢
    rw [hs4] at m4
    have M4 := Lib.hid m4
    have F4 := Lib.hid f4
    have EW4 : Hid (wstM s4 = wo) := Lib.hid (by rw [← hs4]; exact EW3.out)
    have E4 : Hid (s4.sq = s2.sq ∧ ∀ b : Int, ({ s3 with lf := T, sq := b } : Ms) = { s4 with sq := b }) := Lib.hid (by rw [← hs4]; exact ⟨E3.out.2.1, fun _ => rfl⟩)
    clear hw4 m4 f4 M3 F3 c14 f14 c1 TK hs4
    obtain ⟨Q, hQ⟩ : ∃ z, s2.sq = z := ⟨_, rfl⟩
    have hsb : 0 ≤ Q ∧ Q ≤ 1000000 := by rw [← hQ]; exact HSB.out.2
    have c15 : w4.cell? ⟨x.p, 15, none⟩ = some (.int .u32 Q) := by rw [← hQ, ← E4.out.1]; exact M4.out.csq
    have f15 := M4.out.fz 15
    rw [E4.out.2, hQ] at HZ
    have hw32 : IntKind.u32.wrap (Q + 1) = Q + 1 := IntWalk.u32_in _ (by omega)
    clear hQ HL HSB E3 E4
    go_upto_region 10 with fail
    have m5 := M4.out.sSq (Q + 1)
    have f5 : Fr (x.D wv) w (w4.setCell ⟨x.p, 15, none⟩ (.int .u32 (Q + 1))) := F4.out.trans (.set (.inl rfl) _ _)
    obtain ⟨w5, hw5⟩ : ∃ z, w4.setCell ⟨x.p, 15, none⟩ (.int .u32 (Q + 1)) = z := ⟨_, rfl⟩
    obtain ⟨s5, hs5⟩ : ∃ z, ({ s4 with sq := Q + 1 } : Ms) = z := ⟨_, rfl⟩
    rw [hw5] at m5 f5 ⊢
    rw [hs5] at m5 HZ
    have EW5 : Hid (wstM s5 = wo) := Lib.hid (by rw [← hs5]; exact EW4.out)
    have hQ1 : Q + 1 = s5.sq := by rw [← hs5]
    rw [hQ1] at HZ
    have HQ1 : Hid (0 ≤ s5.sq ∧ s5.sq < 4294967296) := Lib.hid (by rw [← hQ1]; omega)
    have M5 := Lib.hid m5
    have F5 := Lib.hid f5
    clear hw5 m5 f5 M4 F4 c15 f15 hs5 hw32 hQ1 hsb
    obtain ⟨⟨p1, p2, p3, P, pe⟩, hP⟩ : ∃ z, ckP o wo s5.sq = z := ⟨_, rfl⟩
    have HOA := Lib.hid HO.out.a
    have DF : Hid (∀ W, MM W o ov x s5 wv → Calls Tryz.prog 38 #[.pointer (some ⟨x.q, 0, none⟩)] W fun en w' => en = .returned (.bool (decide (2 ≤ wstM s5))) ∧ Below W.heap.size W w') := Lib.hid fun W hW => defects_any x.q x.m o.a s5.V s5.bd s5.cr W hW.mc
    have PU : Hid (∀ W, Calls Tryz.prog 37 #[.agg #[.int .u8 o.a.lv, .bool (decide (2 ≤ wstM s5)), .int .u8 o.a.iv, .int .u32 s5.sq, .int .u16 o.a.mp, .string (bs o.a.md)]] W fun en w' => en = .returned (.tuple #[.agg #[.int .u8 p1, .int .u8 p2, .int .u8 p3, .string (bs P), .slice none 0 0], .int .i64 pe]) ∧ Below W.heap.size W w') := Lib.hid fun W => by
      have h := ccput_any o.a.lv (decide (2 ≤ wstM s5)) o.a.iv s5.sq o.a.mp o.a.md W HOA.out.md HQ1.out HOA.out.mp
      rw [EW5.out] at h ⊢
      rw [show putC o.a.lv (decide (2 ≤ wo)) o.a.iv s5.sq o.a.mp o.a.md = (p1, p2, p3, P, pe) from hP] at h
      exact h
    have HPB : Hid (ckS o wo s5.sq = sentR (chkG o.a.lv) p1 p2 p3 P []) := Lib.hid (by unfold ckS; rw [hP])
    have HPQ : Hid ((0 ≤ p1 ∧ p1 < 256) ∧ (0 ≤ p2 ∧ p2 < 256) ∧ (0 ≤ p3 ∧ p3 < 256) ∧ P.length ≤ 1000000) := Lib.hid (by
      have h := hP
      unfold ckP putC at h
      split at h
      · rename_i hmay
        have hiv := mayC_iv hmay
        simp only [Prod.mk.injEq] at h
        obtain ⟨h1, h2, h3, h4, h5⟩ := h
        refine ⟨by have := HOA.out.lv; omega, by omega, ?_, ?_⟩
        · rw [← h3]; split <;> omega
        · rw [← h4]; unfold fxC; have := HOA.out.md; simp [be_length]; omega
      · simp only [Prod.mk.injEq] at h
        obtain ⟨h1, h2, h3, h4, h5⟩ := h
        refine ⟨by omega, by omega, by omega, by rw [← h4]; simp⟩)
    rw [HPB.out] at HZ
    clear HPB hP
    obtain ⟨DD, hDD⟩ : ∃ z, decide (2 ≤ wstM s5) = z := ⟨_, rfl⟩
    rw [hDD] at DF PU
    clear hDD
    go_cut [5] (fun s5x wx => ∃ bx : Nat, s5x = .pointer (some ⟨bx, 0, none⟩) ∧ Hid (PB 103 wx bx p1 p2 p3 P (.slice none 0 0) ∧ MM wx o ov x s5 wv ∧ Fr (x.D wv) w5 wx))
    case first =>
      have md : MM w5.drew o ov x s5 wv := M5.out.drew
      have mal : ∀ b, MM (w5.alloc b).drew o ov x s5 wv := fun b => (M5.out.alloc b).drew
      have pzd : PB 103 (w5.alloc (.cells #[.int .u8 0, .int .u8 0, .int .u8 0, .string { data := #[] }, .slice none 0 0] 103)).drew w5.heap.size 0 0 0 [] (.slice none 0 0) := PB.zero 103 w5
      have hle : w5.heap.size ≤ w5.heap.size := Nat.le_refl _
      go_region_held3 (fun W => W.cell? ⟨x.p, 0, none⟩ = some (.int .u8 o.a.lv) ∧ W.cell? ⟨x.p, 12, none⟩ = some (.pointer (some ⟨x.q, 0, none⟩)) ∧ W.cell? ⟨x.p, 1, none⟩ = some (.int .u8 o.a.iv) ∧ W.cell? ⟨x.p, 15, none⟩ = some (.int .u32 s5.sq) ∧ W.cell? ⟨x.p, 3, none⟩ = some (.int .u16 o.a.mp) ∧ W.cell? ⟨x.p, 2, none⟩ = some (.string (bs o.a.md)))
        (first | with_reducible exact md.six | with_reducible exact mx.six | with_reducible exact my.six | with_reducible exact (mal _).six | with_reducible exact (mx.alloc _).six | with_reducible exact (my.five M5.out hle _ _ _ _ _).six | with_reducible exact (my.five M5.out fx.size _ _ _ _ _).six | with_reducible exact (my.alloc _).six)
        (first
          | (go_at_call 38; (with_reducible refine (DF.out _ md).mono ?_); rintro en wx ⟨rfl, hbx⟩; have mx := md.later hbx; have fx : Below w5.heap.size w5 wx := (Below.refl w5.heap.size w5).drew.trans hbx)
          | (go_at_call 38; (with_reducible refine (DF.out _ (mal _)).mono ?_); rintro en wx ⟨rfl, hbx⟩; have mx := (mal _).later hbx; have fx : Below w5.heap.size w5 wx := ((Below.refl w5.heap.size w5).alloc (Nat.le_refl _) _).drew.trans (hbx.mono (by simp)); have zx : PB 103 wx w5.heap.size 0 0 0 [] (.slice none 0 0) := by with_reducible exact pzd.later hbx)
          | (go_at_call 37; (with_reducible refine (PU.out _).mono ?_); rintro en wy ⟨rfl, hby⟩; have my : MM wy o ov x s5 wv := by with_reducible exact mx.later hby
             have fy : Below w5.heap.size w5 wy := fx.trans (hby.mono fx.size)
             have zy : PB 103 wy w5.heap.size 0 0 0 [] (.slice none 0 0) := by with_reducible exact zx.later hby
             have q0 := zy.c0; have q1 := zy.c1; have q2 := zy.c2; have q3 := zy.c3; have q4 := zy.c4; have g0 := zy.fr 0; have g1 := zy.fr 1; have g2 := zy.fr 2; have g3 := zy.fr 3; have g4 := zy.fr 4)
          | (go_at_call 37; (with_reducible refine (PU.out _).mono ?_); rintro en wy ⟨rfl, hby⟩; have my : MM wy o ov x s5 wv := by with_reducible exact (mx.alloc _).later hby
             have fy : Below w5.heap.size w5 wy := (fx.alloc fx.size _).trans (hby.mono (Nat.le_trans fx.size (by simp)))
             have zy : PB 103 wy wx.heap.size 0 0 0 [] (.slice none 0 0) := by with_reducible exact (PB.zero 103 wx).later hby
             have q0 := zy.c0; have q1 := zy.c1; have q2 := zy.c2; have q3 := zy.c3; have q4 := zy.c4; have g0 := zy.fr 0; have g1 := zy.fr 1; have g2 := zy.fr 2; have g3 := zy.fr 3; have g4 := zy.fr 4)
          | (go_at_call 37; (with_reducible refine (PU.out _).mono ?_); rintro en wy ⟨rfl, hby⟩; have my : MM wy o ov x s5 wv := by with_reducible exact mx.later hby
             have fy : Below w5.heap.size w5 wy := fx.trans (hby.mono fx.size)
             have zy := PB.zero 103 wy
             have q0 := zy.c0; have q1 := zy.c1; have q2 := zy.c2; have q3 := zy.c3; have q4 := zy.c4; have g0 := zy.fr 0; have g1 := zy.fr 1; have g2 := zy.fr 2; have g3 := zy.fr 3; have g4 := zy.fr 4))
      all_goals
        go_wp2
        go_meet
        refine ⟨_, by with_reducible rfl, Lib.hid ⟨?ca, ?cb, .of_below ?cc⟩⟩
        case ca => first | with_reducible exact PB.sets5G zy | exact PB.new _ _ _ _ _ _ _
        case cb => first | with_reducible exact my.five M5.out hle _ _ _ _ _ | with_reducible exact my.five M5.out fx.size _ _ _ _ _ | with_reducible exact my.alloc _
        case cc => first | with_reducible exact below_five fy hle | with_reducible exact below_five fy fx.size | with_reducible exact fy.alloc fy.size _
    case rest =>
      obtain ⟨bx, rfl, HB⟩ := hcut
      have M6 := Lib.hid HB.out.2.1
      have F6 : Hid (Fr (x.D wv) w wc) := Lib.hid (F5.out.trans HB.out.2.2)
      have PB6 := Lib.hid HB.out.1
      clear HB M5 F5 DF PU
      have c0 : wc.cell? ⟨x.p, 0, none⟩ = some (.int .u8 o.a.lv) := M6.out.clv
      have CH : Hid (∀ w, Calls Tryz.prog 39 #[.int .u8 o.a.lv] w fun en w' => en = .returned (.tuple #[.agg #[.int .u8 1, .int .u8 128, .int .u8 194, .int .u8 0, .int .u8 0, .int .u8 (48 + o.a.lv)], .bool true]) ∧ Below w.heap.size w w') := Lib.hid fun w => by
        have h := Check_any o.a.lv w HOA.out.lv.1 HOA.out.lv.2
        unfold grpV at h
        rw [if_neg (by have := HLV.out; omega)] at h
        exact h
      go_wp2_with fail
      with_reducible refine (CH.out _).mono ?_
      rintro en w7 ⟨rfl, hb7⟩
      have M7 := Lib.hid (M6.out.later hb7)
      have F7 : Hid (Fr (x.D wv) w w7) := Lib.hid (F6.out.trans (.of_below hb7))
      have PB7 := Lib.hid (PB6.out.later hb7)
      clear hb7 M6 F6 PB6 c0
      go_upto_region 12 with fail
      obtain ⟨G, hG⟩ : ∃ z, 48 + o.a.lv = z := ⟨_, rfl⟩
      have HG := Lib.hid (show chkG o.a.lv = ⟨1, 128, 194, 0, 0, G⟩ by unfold chkG; rw [hG])
      rw [hG]
      have hal := (Below.refl w7.heap.size w7).alloc (Nat.le_refl _) (.cells #[.int .u8 1, .int .u8 128, .int .u8 194, .int .u8 0, .int .u8 0, .int .u8 G] 25)
      have M8 := Lib.hid (M7.out.later hal)
      have F8 : Hid (Fr (x.D wv) w (w7.alloc (.cells #[.int .u8 1, .int .u8 128, .int .u8 194, .int .u8 0, .int .u8 0, .int .u8 G] 25))) := Lib.hid (F7.out.trans (.of_below hal))
      have PB8 := Lib.hid (PB7.out.later hal)
      have g8 := GB.new 25 w7 #[.int .u8 1, .int .u8 128, .int .u8 194, .int .u8 0, .int .u8 0, .int .u8 G]
      obtain ⟨w8, hw8⟩ : ∃ z, w7.alloc (.cells #[.int .u8 1, .int .u8 128, .int .u8 194, .int .u8 0, .int .u8 0, .int .u8 G] 25) = z := ⟨_, rfl⟩
      obtain ⟨by_, hby⟩ : ∃ z, w7.heap.size = z := ⟨_, rfl⟩
      rw [hw8] at M8 F8 PB8 g8 ⊢
      rw [hby] at g8 ⊢
      have d0 : w8.cell? ⟨by_, 0, none⟩ = some (.int .u8 1) := g8.c 0 _ rfl
      have d1 : w8.cell? ⟨by_, 1, none⟩ = some (.int .u8 128) := g8.c 1 _ rfl
      have d2 : w8.cell? ⟨by_, 2, none⟩ = some (.int .u8 194) := g8.c 2 _ rfl
      have d3 : w8.cell? ⟨by_, 3, none⟩ = some (.int .u8 0) := g8.c 3 _ rfl
      have d4 : w8.cell? ⟨by_, 4, none⟩ = some (.int .u8 0) := g8.c 4 _ rfl
      have d5 : w8.cell? ⟨by_, 5, none⟩ = some (.int .u8 G) := g8.c 5 _ rfl
      have c0 := PB8.out.c0
      have c1 := PB8.out.c1
      have c2 := PB8.out.c2
      have c3 := PB8.out.c3
      have c4 := PB8.out.c4
      rw [HG.out] at HZ
      clear hG hal hw8 hby g8 M7 F7 PB7 HG CH
      have SN := Lib.hid (sent_any ⟨1, 128, 194, 0, 0, G⟩ (.slice none 0 0) p1 p2 p3 P [] w8 (Tls.nil _) (by simp) (by simp) HPQ.out.2.2.2 (by simp [putT]) HPQ.out.1 HPQ.out.2.1 HPQ.out.2.2.1)
      go_wp2_with fail
      with_reducible refine SN.out.mono ?_
      rintro en w9 ⟨u, rfl, hu, hb9⟩
      have M9 := Lib.hid (M8.out.later hb9)
      have F9 : Hid (Fr (x.D wv) w w9) := Lib.hid (F8.out.trans (.of_below hb9))
      have HU : Hid (Ow 7 snC 55 w9 w.heap.size u (sentR ⟨1, 128, 194, 0, 0, G⟩ p1 p2 p3 P [])) := Lib.hid (Ow.mono hu F8.out.size)
      clear hb9 M8 F8 hu SN PB8 d0 d1 d2 d3 d4 d5 c0 c1 c2 c3 c4
      go_wp2
      go_ret2
      exact ⟨u, by rw [HZ.out]; rfl, by rw [HZ.out]; exact HU.out, by rw [HZ.out]; exact M9.out, F9.out⟩
end Go.Proofs.YtlkdfofpnmpidaaGreat
