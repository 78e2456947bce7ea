/- ZP50: the texts Y18 as one. -/
import Derived.Test.YtlkdfofpnmpidaaGreatZP46
import Derived.Test.YtlkdfofpnmpidaaGreatZP49
/- mep: State, walked. -/
set_option linter.unusedVariables false
set_option linter.unusedSimpArgs false
namespace Go.Proofs.YtlkdfofpnmpidaaGreat
open Go.RowKit

/-- What lies there: the point, the result's box, the copy of the replies. -/
structure ZQ (w W : World) (o : Ow20) (ov : Value) (x : Mp) (s : Ms) (wv : Value) (vw : Value) : Prop where
  mm : MM W o ov x s wv
  zb : GB 69 W w.heap.size #[.slice none 0 0, .slice none 0 0, .int .u8 0, .int .u8 0, .int .u64 0, .int .u32 0, .int .i64 0, .int .i64 0, .int .u32 0, .slice none 0 0]
  wy : Rw 17 rqC W vw s.way
  bel : Below w.heap.size w W
section
variable {w W W' : World} {o : Ow20} {ov : Value} {x : Mp} {s s0 : Ms} {wv vw : Value}
theorem ZQ.later (h : ZQ w W o ov x s wv vw) (hb : Below W.heap.size W W') : ZQ w W' o ov x s wv vw := ⟨h.mm.later hb, h.zb.later hb, h.wy.later rqC_len hb, h.bel.trans (hb.mono h.bel.size)⟩
theorem ZQ.drew (h : ZQ w W o ov x s wv vw) : ZQ w W.drew o ov x s wv vw := h.later (Below.refl _ _).drew
theorem ZQ.seven (h : ZQ w W o ov x s wv vw) : W.cell? ⟨x.p, 12, none⟩ = some (.pointer (some ⟨x.q, 0, none⟩)) ∧ W.cell? ⟨x.p, 13, none⟩ = some (.pointer (some ⟨x.r, 0, none⟩)) ∧ W.cell? ⟨x.p, 16, none⟩ = some (.int .u64 s.bad) ∧ W.cell? ⟨x.p, 17, none⟩ = some (.int .u32 s.lp) ∧ W.cell? ⟨x.p, 19, none⟩ = some (.int .i64 s.rep) ∧ W.cell? ⟨x.p, 20, none⟩ = some (.int .i64 s.ali) ∧ W.cell? ⟨x.p, 21, none⟩ = some (.int .u32 s.tr) := ⟨h.mm.cq, h.mm.cr', h.mm.cbad, h.mm.clpx, h.mm.crep, h.mm.cali, h.mm.ctr⟩
theorem below_ten {B t : Nat} (h : Below B w W) (ht : B ≤ t) {v0 v1 v2 v3 v4 v5 v6 v7 v8 v9 : Value} : Below B w ((((((((((W.setCell ⟨t, 0, none⟩ v0).setCell ⟨t, 1, none⟩ v1).setCell ⟨t, 2, none⟩ v2).setCell ⟨t, 3, none⟩ v3).setCell ⟨t, 4, none⟩ v4).setCell ⟨t, 5, none⟩ v5).setCell ⟨t, 6, none⟩ v6).setCell ⟨t, 7, none⟩ v7).setCell ⟨t, 8, none⟩ v8).setCell ⟨t, 9, none⟩ v9) :=
  below_set (below_set (below_set (below_set (below_set (below_set (below_set (below_set (below_set (below_set h ht _) ht _) ht _) ht _) ht _) ht _) ht _) ht _) ht _) ht _
theorem MM.ten (h0 : MM w o ov x s0 wv) (h : MM W o ov x s wv) {t : Nat} (ht : w.heap.size ≤ t) (v0 v1 v2 v3 v4 v5 v6 v7 v8 v9 : Value) : MM ((((((((((W.setCell ⟨t, 0, none⟩ v0).setCell ⟨t, 1, none⟩ v1).setCell ⟨t, 2, none⟩ v2).setCell ⟨t, 3, none⟩ v3).setCell ⟨t, 4, none⟩ v4).setCell ⟨t, 5, none⟩ v5).setCell ⟨t, 6, none⟩ v6).setCell ⟨t, 7, none⟩ v7).setCell ⟨t, 8, none⟩ v8).setCell ⟨t, 9, none⟩ v9) o ov x s wv :=
  (((((h.five h0 ht v0 v1 v2 v3 v4).new h0 ht 5 v5).new h0 ht 6 v6).new h0 ht 7 v7).new h0 ht 8 v8).new h0 ht 9 v9
theorem ZQ.stored (h0 : MM w o ov x s wv) (h : ZQ w W o ov x s wv vw) (v0 v1 v2 v3 v4 v5 v6 v7 v8 v9 : Value) : ((((((((((W.setCell ⟨w.heap.size, 0, none⟩ v0).setCell ⟨w.heap.size, 1, none⟩ v1).setCell ⟨w.heap.size, 2, none⟩ v2).setCell ⟨w.heap.size, 3, none⟩ v3).setCell ⟨w.heap.size, 4, none⟩ v4).setCell ⟨w.heap.size, 5, none⟩ v5).setCell ⟨w.heap.size, 6, none⟩ v6).setCell ⟨w.heap.size, 7, none⟩ v7).setCell ⟨w.heap.size, 8, none⟩ v8).setCell ⟨w.heap.size, 9, none⟩ v9).cell? ⟨x.p, 12, none⟩ = some (.pointer (some ⟨x.q, 0, none⟩)) ∧ ((((((((((W.setCell ⟨w.heap.size, 0, none⟩ v0).setCell ⟨w.heap.size, 1, none⟩ v1).setCell ⟨w.heap.size, 2, none⟩ v2).setCell ⟨w.heap.size, 3, none⟩ v3).setCell ⟨w.heap.size, 4, none⟩ v4).setCell ⟨w.heap.size, 5, none⟩ v5).setCell ⟨w.heap.size, 6, none⟩ v6).setCell ⟨w.heap.size, 7, none⟩ v7).setCell ⟨w.heap.size, 8, none⟩ v8).setCell ⟨w.heap.size, 9, none⟩ v9).cell? ⟨x.p, 13, none⟩ = some (.pointer (some ⟨x.r, 0, none⟩)) ∧ ((((((((((W.setCell ⟨w.heap.size, 0, none⟩ v0).setCell ⟨w.heap.size, 1, none⟩ v1).setCell ⟨w.heap.size, 2, none⟩ v2).setCell ⟨w.heap.size, 3, none⟩ v3).setCell ⟨w.heap.size, 4, none⟩ v4).setCell ⟨w.heap.size, 5, none⟩ v5).setCell ⟨w.heap.size, 6, none⟩ v6).setCell ⟨w.heap.size, 7, none⟩ v7).setCell ⟨w.heap.size, 8, none⟩ v8).setCell ⟨w.heap.size, 9, none⟩ v9).cell? ⟨x.p, 16, none⟩ = some (.int .u64 s.bad) ∧ ((((((((((W.setCell ⟨w.heap.size, 0, none⟩ v0).setCell ⟨w.heap.size, 1, none⟩ v1).setCell ⟨w.heap.size, 2, none⟩ v2).setCell ⟨w.heap.size, 3, none⟩ v3).setCell ⟨w.heap.size, 4, none⟩ v4).setCell ⟨w.heap.size, 5, none⟩ v5).setCell ⟨w.heap.size, 6, none⟩ v6).setCell ⟨w.heap.size, 7, none⟩ v7).setCell ⟨w.heap.size, 8, none⟩ v8).setCell ⟨w.heap.size, 9, none⟩ v9).cell? ⟨x.p, 17, none⟩ = some (.int .u32 s.lp) ∧ ((((((((((W.setCell ⟨w.heap.size, 0, none⟩ v0).setCell ⟨w.heap.size, 1, none⟩ v1).setCell ⟨w.heap.size, 2, none⟩ v2).setCell ⟨w.heap.size, 3, none⟩ v3).setCell ⟨w.heap.size, 4, none⟩ v4).setCell ⟨w.heap.size, 5, none⟩ v5).setCell ⟨w.heap.size, 6, none⟩ v6).setCell ⟨w.heap.size, 7, none⟩ v7).setCell ⟨w.heap.size, 8, none⟩ v8).setCell ⟨w.heap.size, 9, none⟩ v9).cell? ⟨x.p, 19, none⟩ = some (.int .i64 s.rep) ∧ ((((((((((W.setCell ⟨w.heap.size, 0, none⟩ v0).setCell ⟨w.heap.size, 1, none⟩ v1).setCell ⟨w.heap.size, 2, none⟩ v2).setCell ⟨w.heap.size, 3, none⟩ v3).setCell ⟨w.heap.size, 4, none⟩ v4).setCell ⟨w.heap.size, 5, none⟩ v5).setCell ⟨w.heap.size, 6, none⟩ v6).setCell ⟨w.heap.size, 7, none⟩ v7).setCell ⟨w.heap.size, 8, none⟩ v8).setCell ⟨w.heap.size, 9, none⟩ v9).cell? ⟨x.p, 20, none⟩ = some (.int .i64 s.ali) ∧ ((((((((((W.setCell ⟨w.heap.size, 0, none⟩ v0).setCell ⟨w.heap.size, 1, none⟩ v1).setCell ⟨w.heap.size, 2, none⟩ v2).setCell ⟨w.heap.size, 3, none⟩ v3).setCell ⟨w.heap.size, 4, none⟩ v4).setCell ⟨w.heap.size, 5, none⟩ v5).setCell ⟨w.heap.size, 6, none⟩ v6).setCell ⟨w.heap.size, 7, none⟩ v7).setCell ⟨w.heap.size, 8, none⟩ v8).setCell ⟨w.heap.size, 9, none⟩ v9).cell? ⟨x.p, 21, none⟩ = some (.int .u32 s.tr) := by
  have m := MM.ten h0 h.mm (t := w.heap.size) (Nat.le_refl _) v0 v1 v2 v3 v4 v5 v6 v7 v8 v9
  exact ⟨m.cq, m.cr', m.cbad, m.clpx, m.crep, m.cali, m.ctr⟩
theorem Fr.ten {t : Nat} (v0 v1 v2 v3 v4 v5 v6 v7 v8 v9 : Value) : Fr (fun k => k = t) W ((((((((((W.setCell ⟨t, 0, none⟩ v0).setCell ⟨t, 1, none⟩ v1).setCell ⟨t, 2, none⟩ v2).setCell ⟨t, 3, none⟩ v3).setCell ⟨t, 4, none⟩ v4).setCell ⟨t, 5, none⟩ v5).setCell ⟨t, 6, none⟩ v6).setCell ⟨t, 7, none⟩ v7).setCell ⟨t, 8, none⟩ v8).setCell ⟨t, 9, none⟩ v9) :=
  have f : ∀ (W : World) (o : Nat) (v : Value), Fr (fun k => k = t) W (W.setCell ⟨t, o, none⟩ v) := fun W o v => Fr.set (D := fun k => k = t) (show (fun k => k = t) t from rfl) o v
  (((((((((f _ _ _).trans (f _ _ _)).trans (f _ _ _)).trans (f _ _ _)).trans (f _ _ _)).trans (f _ _ _)).trans (f _ _ _)).trans (f _ _ _)).trans (f _ _ _)).trans (f _ _ _)
/-- What stands behind the result's box. -/
def Aft (t : Nat) (v : Value) : Prop := ∀ g, v.ownBlock = some g → t < g
theorem Rw.ten {α : Type} {k : Nat} {f : α → List Value} {v : Value} {l : List α} {t : Nat} (hf : ∀ x, (f x).length = k) (h : Rw k f W v l) (ha : Aft t v) (v0 v1 v2 v3 v4 v5 v6 v7 v8 v9 : Value) : Rw k f ((((((((((W.setCell ⟨t, 0, none⟩ v0).setCell ⟨t, 1, none⟩ v1).setCell ⟨t, 2, none⟩ v2).setCell ⟨t, 3, none⟩ v3).setCell ⟨t, 4, none⟩ v4).setCell ⟨t, 5, none⟩ v5).setCell ⟨t, 6, none⟩ v6).setCell ⟨t, 7, none⟩ v7).setCell ⟨t, 8, none⟩ v8).setCell ⟨t, 9, none⟩ v9) v l :=
  h.fr hf (Fr.ten v0 v1 v2 v3 v4 v5 v6 v7 v8 v9) (fun g hg e => Nat.lt_irrefl _ (e ▸ ha g hg))
theorem GB.ten {T : TypeId} {A : Array Value} {t : Nat} (h : GB T W t A) (hA : A.size = 10) (v0 v1 v2 v3 v4 v5 v6 v7 v8 v9 : Value) : GB T ((((((((((W.setCell ⟨t, 0, none⟩ v0).setCell ⟨t, 1, none⟩ v1).setCell ⟨t, 2, none⟩ v2).setCell ⟨t, 3, none⟩ v3).setCell ⟨t, 4, none⟩ v4).setCell ⟨t, 5, none⟩ v5).setCell ⟨t, 6, none⟩ v6).setCell ⟨t, 7, none⟩ v7).setCell ⟨t, 8, none⟩ v8).setCell ⟨t, 9, none⟩ v9) t #[v0, v1, v2, v3, v4, v5, v6, v7, v8, v9] := by
  obtain ⟨l⟩ := A
  match l, hA with
  | [a0, a1, a2, a3, a4, a5, a6, a7, a8, a9], _ =>
    have h9 := (((((((((h.set 0 v0).set 1 v1).set 2 v2).set 3 v3).set 4 v4).set 5 v5).set 6 v6).set 7 v7).set 8 v8).set 9 v9
    simp only [List.setIfInBounds_toArray, List.set_cons_succ, List.set_cons_zero] at h9
    exact h9
end
set_option maxRecDepth 100000 in
set_option maxHeartbeats 16000000 in
theorem mstate_any (o : Ow20) (ov : Value) (x : Mp) (s : Ms) (wv : Value) (hwl : s.way.length ≤ 1000) (w : World) (h : MM w o ov x s wv) :
    Calls Tryz.prog 21 #[.pointer (some ⟨x.p, 0, none⟩)] w fun en w' => ∃ vl vr vw,
    en = .returned (.agg #[vl, vr, .int .u8 (wstM s), .int .u8 s.al.td, .int .u64 s.bad, .int .u32 s.lp, .int .i64 s.rep, .int .i64 s.ali, .int .u32 s.tr, vw]) ∧
    Rw 1 u1 w' vl (thoseV isL s.V) ∧ Rw 1 u1 w' vr (thoseV isR s.V) ∧ Rw 17 rqC w' vw s.way ∧ MM w' o ov x s wv ∧ Below w.heap.size w w' := by
  have H0 := Lib.hid h
  obtain ⟨wa, wc0, hwv, -⟩ := (h.wy.rw rqC_len).shape
  obtain ⟨wn, hwn⟩ : ∃ n, s.way.length = n := ⟨_, rfl⟩
  rw [hwn] at hwv hwl
  subst hwv
  have IT := Lib.hid (show (Tryz.prog.info? 69).map (·.size) = some 10 by kernel_rfl)
  have HWN := Lib.hid (And.intro hwn hwl)
  have hmk : ∀ W : World, (Instr.makeSlice 67 (.int .i64 (wn : Int)) (.int .i64 (wn : Int))).run Tryz.prog W = .ok (.slice (some ⟨W.heap.size, 0, none⟩) wn wn) (W.alloc (.cells (zR wn) 81)) := fun W => make_rq wn hwl W
  have hb0 : Below w.heap.size w (w.alloc (.cells #[.slice none 0 0, .slice none 0 0, .int .u8 0, .int .u8 0, .int .u64 0, .int .u32 0, .int .i64 0, .int .i64 0, .int .u32 0, .slice none 0 0] 69)) := (Below.refl _ _).alloc (Nat.le_refl _) _
  have M0 := Lib.hid (And.intro (h.later hb0) (And.intro (show GB 69 (w.alloc (.cells #[.slice none 0 0, .slice none 0 0, .int .u8 0, .int .u8 0, .int .u64 0, .int .u32 0, .int .i64 0, .int .i64 0, .int .u32 0, .slice none 0 0] 69)) w.heap.size #[.slice none 0 0, .slice none 0 0, .int .u8 0, .int .u8 0, .int .u64 0, .int .u32 0, .int .i64 0, .int .i64 0, .int .u32 0, .slice none 0 0] from heap_alloc_new _ _) hb0))
  clear hwn h hb0
  go_enter Tryz.func21, Tryz.ntmps21
  go_upto_region 1 with fail
  obtain ⟨w0, hw0⟩ : ∃ z, w.alloc (.cells #[.slice none 0 0, .slice none 0 0, .int .u8 0, .int .u8 0, .int .u64 0, .int .u32 0, .int .i64 0, .int .i64 0, .int .u32 0, .slice none 0 0] 69) = z := ⟨_, rfl⟩
  rw [hw0] at M0 ⊢
  clear hw0
  have c22 : w0.cell? ⟨x.p, 22, none⟩ = some (.slice wa wn wc0) := M0.out.1.cway
  go_upto_region 4 with fail
  have hal := (Below.refl w0.heap.size w0).alloc (Nat.le_refl _) (.cells (zR wn) 81)
  have M1 := Lib.hid (And.intro (M0.out.1.later hal) (And.intro (M0.out.2.1.later hal) (M0.out.2.2.trans (hal.mono M0.out.2.2.size))))
  obtain ⟨w2, hcp, hoy, hb2⟩ := copy_rq (w0.alloc (.cells (zR wn) 81)) w0.heap.size wn w0.heap.size (zR wn) (by simp [zR, madeCells]) hwl (heap_alloc_new _ _) (Nat.le_refl _) (.slice wa wn wc0) s.way (M1.out.1.wy.rw rqC_len) HWN.out.1 3
  have Z2 : Hid (ZQ w w2 o ov x s (.slice wa wn wc0) (.slice (some ⟨w0.heap.size, 0, none⟩) wn wn)) := Lib.hid
    ⟨M1.out.1.fr (D := fun k => w0.heap.size ≤ k) ⟨hb2.os, hb2.tape, hb2.output, hb2.size, fun k hk hd => hb2.block k (by omega)⟩ (fun k hk e => by have := M0.out.1.ltD hk; omega), M1.out.2.1.below M0.out.2.1.lt hb2, hoy.rw rqC_len, M1.out.2.2.trans (hb2.mono M0.out.2.2.size)⟩
  have c22' : (w0.alloc (.cells (zR wn) 81)).cell? ⟨x.p, 22, none⟩ = some (.slice wa wn wc0) := M1.out.1.cway
  have HGG := Lib.hid (show w.heap.size < w0.heap.size from M0.out.2.1.lt)
  obtain ⟨g, hg⟩ : ∃ k, w0.heap.size = k := ⟨_, rfl⟩
  rw [hg] at HGG
  have HGA : Hid (Aft w.heap.size (.slice (some ⟨g, 0, none⟩) wn wn)) := Lib.hid fun k hk => by cases hk; exact HGG.out
  obtain ⟨w1, hw1⟩ : ∃ k, w0.alloc (.cells (zR wn) 81) = k := ⟨_, rfl⟩
  rw [hg, hw1] at hcp
  rw [hg] at Z2
  rw [hw1] at c22'
  rw [hg, hw1]
  clear hal hoy hb2 M0 M1 hw1 hg hmk c22
  go_upto_region 5 with fail
  clear hcp c22'
  obtain ⟨nl, hnl⟩ : ∃ k, (thoseV isL s.V).length = k := ⟨_, rfl⟩
  obtain ⟨nr, hnr⟩ : ∃ k, (thoseV isR s.V).length = k := ⟨_, rfl⟩
  have ML : Hid (∀ W, ZQ w W o ov x s (.slice wa wn wc0) (.slice (some ⟨g, 0, none⟩) wn wn) → Calls Tryz.prog 67 #[.pointer (some ⟨x.q, 0, none⟩)] W fun en w' => ∃ sa sc, en = .returned (.slice sa nl sc) ∧ Rw 1 u1 w' (.slice sa nl sc) (thoseV isL s.V) ∧ Aft w.heap.size (.slice sa nl sc) ∧ Below W.heap.size W w') := Lib.hid fun W h => (mL_any x.q x.m o.a s.V s.bd s.cr W h.mm.mc).mono fun en w' ⟨v, e, hu, hb⟩ => by
    obtain ⟨sa, sc, hv, -⟩ := hu.cells
    rw [hnl] at hv
    exact ⟨sa, sc, by rw [e, hv], hv ▸ Us.ru hu, by
      rcases hu.shape with ⟨e1, -⟩ | ⟨g1, cap, t1, e1, hB, -⟩
      · rw [hv] at e1; rw [e1]; intro g hg; cases hg
      · rw [hv] at e1; rw [e1]; intro g hg; cases hg; exact Nat.lt_of_lt_of_le h.zb.lt hB, hb⟩
  have MR : Hid (∀ W, ZQ w W o ov x s (.slice wa wn wc0) (.slice (some ⟨g, 0, none⟩) wn wn) → Calls Tryz.prog 68 #[.pointer (some ⟨x.q, 0, none⟩)] W fun en w' => ∃ sa sc, en = .returned (.slice sa nr sc) ∧ Rw 1 u1 w' (.slice sa nr sc) (thoseV isR s.V) ∧ Aft w.heap.size (.slice sa nr sc) ∧ Below W.heap.size W w') := Lib.hid fun W h => (mR_any x.q x.m o.a s.V s.bd s.cr W h.mm.mc).mono fun en w' ⟨v, e, hu, hb⟩ => by
    obtain ⟨sa, sc, hv, -⟩ := hu.cells
    rw [hnr] at hv
    exact ⟨sa, sc, by rw [e, hv], hv ▸ Us.ru hu, by
      rcases hu.shape with ⟨e1, -⟩ | ⟨g1, cap, t1, e1, hB, -⟩
      · rw [hv] at e1; rw [e1]; intro g hg; cases hg
      · rw [hv] at e1; rw [e1]; intro g hg; cases hg; exact Nat.lt_of_lt_of_le h.zb.lt hB, hb⟩
  obtain ⟨kw, hkw⟩ : ∃ k, wstM s = k := ⟨_, rfl⟩
  have WO : Hid (∀ W, ZQ w W o ov x s (.slice wa wn wc0) (.slice (some ⟨g, 0, none⟩) wn wn) → Calls Tryz.prog 35 #[.pointer (some ⟨x.q, 0, none⟩)] W fun en w' => en = .returned (.int .u8 kw) ∧ Below W.heap.size W w') := Lib.hid fun W h => (worst_any x.q x.m o.a s.V s.bd s.cr W h.mm.mc).mono fun en w' ⟨e, hb⟩ => ⟨by rw [e, ← hkw]; rfl, hb⟩
  have TO : Hid (∀ W, ZQ w W o ov x s (.slice wa wn wc0) (.slice (some ⟨g, 0, none⟩) wn wn) → Calls Tryz.prog 69 #[.pointer (some ⟨x.r, 0, none⟩)] W fun en w' => en = .returned (.int .u8 s.al.td) ∧ w' = W) := Lib.hid fun W h => told_any x.r o.lw s.al W h.mm.al
  have hx0 : ZQ w w2.drew o ov x s (.slice wa wn wc0) (.slice (some ⟨g, 0, none⟩) wn wn) := Z2.out.drew
  go_cut [] (fun wx => ∃ la lc ra rc, Hid (GB 69 wx w.heap.size #[.slice la nl lc, .slice ra nr rc, .int .u8 kw, .int .u8 s.al.td, .int .u64 s.bad, .int .u32 s.lp, .int .i64 s.rep, .int .i64 s.ali, .int .u32 s.tr, .slice (some ⟨g, 0, none⟩) wn wn] ∧ Rw 1 u1 wx (.slice la nl lc) (thoseV isL s.V) ∧ Rw 1 u1 wx (.slice ra nr rc) (thoseV isR s.V) ∧ Rw 17 rqC wx (.slice (some ⟨g, 0, none⟩) wn wn) s.way ∧ MM wx o ov x s (.slice wa wn wc0) ∧ Below w.heap.size w wx))
  case first =>
    go_region_held3 (fun W => W.cell? ⟨x.p, 12, none⟩ = some (.pointer (some ⟨x.q, 0, none⟩)) ∧ W.cell? ⟨x.p, 13, none⟩ = some (.pointer (some ⟨x.r, 0, none⟩)) ∧ W.cell? ⟨x.p, 16, none⟩ = some (.int .u64 s.bad) ∧ W.cell? ⟨x.p, 17, none⟩ = some (.int .u32 s.lp) ∧ W.cell? ⟨x.p, 19, none⟩ = some (.int .i64 s.rep) ∧ W.cell? ⟨x.p, 20, none⟩ = some (.int .i64 s.ali) ∧ W.cell? ⟨x.p, 21, none⟩ = some (.int .u32 s.tr))
      (first | with_reducible exact hx0.seven | with_reducible exact hx1.seven | with_reducible exact ZQ.stored H0.out hx1 _ _ _ _ _ _ _ _ _ _)
      (first
        | (go_at_call 67; (with_reducible refine (ML.out _ ‹_›).mono ?_); rintro en wx ⟨la, lc, rfl, rl, al, hbx⟩
           have hx1 := ZQ.later ‹_› hbx; (try have rr := rr.later u1_len hbx))
        | (go_at_call 68; (with_reducible refine (MR.out _ ‹_›).mono ?_); rintro en wx ⟨ra, rc, rfl, rr, ar, hbx⟩
           have hx1 := ZQ.later ‹_› hbx; (try have rl := rl.later u1_len hbx))
        | (go_at_call 35; (with_reducible refine (WO.out _ ‹_›).mono ?_); rintro en wx ⟨rfl, hbx⟩
           have hx1 := ZQ.later ‹_› hbx; (try have rl := rl.later u1_len hbx); (try have rr := rr.later u1_len hbx))
        | (go_at_call 69; (with_reducible refine (TO.out _ ‹_›).mono ?_); rintro en wx ⟨rfl, rfl⟩; have q0 := hx1.zb.c 0 _ rfl; have q1 := hx1.zb.c 1 _ rfl; have q2 := hx1.zb.c 2 _ rfl; have q3 := hx1.zb.c 3 _ rfl; have q4 := hx1.zb.c 4 _ rfl; have q5 := hx1.zb.c 5 _ rfl; have q6 := hx1.zb.c 6 _ rfl; have q7 := hx1.zb.c 7 _ rfl; have q8 := hx1.zb.c 8 _ rfl; have q9 := hx1.zb.c 9 _ rfl; have f0 := hx1.zb.fr 0; have f1 := hx1.zb.fr 1; have f2 := hx1.zb.fr 2; have f3 := hx1.zb.fr 3; have f4 := hx1.zb.fr 4; have f5 := hx1.zb.fr 5; have f6 := hx1.zb.fr 6; have f7 := hx1.zb.fr 7; have f8 := hx1.zb.fr 8; have f9 := hx1.zb.fr 9))
    all_goals
      go_wp2
      go_meet
      refine ⟨la, lc, ra, rc, Lib.hid ⟨?ca, ?cb, ?cc, ?cd, ?ce, ?cf⟩⟩
      case ca => with_reducible exact hx1.zb.ten rfl _ _ _ _ _ _ _ _ _ _
      case cb => with_reducible exact rl.ten u1_len al _ _ _ _ _ _ _ _ _ _
      case cc => with_reducible exact rr.ten u1_len ar _ _ _ _ _ _ _ _ _ _
      case cd => with_reducible exact hx1.wy.ten rqC_len HGA.out _ _ _ _ _ _ _ _ _ _
      case ce => with_reducible exact MM.ten H0.out hx1.mm (Nat.le_refl _) _ _ _ _ _ _ _ _ _ _
      case cf => with_reducible exact below_ten hx1.bel (Nat.le_refl _)
  case rest =>
    obtain ⟨la, lc, ra, rc, HC⟩ := hcut
    obtain ⟨h1, h2, h3, h4, h5, h6⟩ := HC.out
    go_wp2_with fail
    exact bodyPost_ret (v := .agg #[.slice la nl lc, .slice ra nr rc, .int .u8 kw, .int .u8 s.al.td, .int .u64 s.bad, .int .u32 s.lp, .int .i64 s.rep, .int .i64 s.ali, .int .u32 s.tr, .slice (some ⟨g, 0, none⟩) wn wn]) (res_one (p := 2) (d := _) rfl rfl Tryz.underlying69 _ _ w.heap.size _ rfl h1 IT.out) rfl ⟨_, _, _, by rw [hkw], h2, h3, h4, h5, h6⟩
end Go.Proofs.YtlkdfofpnmpidaaGreat
