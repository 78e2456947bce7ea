/- ZP26: the texts Y3 as one. -/
import Derived.Test.YtlkdfofpnmpidaaGreatZP20
import Derived.Test.YtlkdfofpnmpidaaGreatZP23
import Derived.Test.YtlkdfofpnmpidaaGreatZP25
/- mep: an end point's blocks; New. -/
set_option linter.unusedVariables false
set_option linter.unusedSimpArgs false
namespace Go.Proofs.YtlkdfofpnmpidaaGreat
open Go.RowKit

/-- What a point is. -/
structure Ow20 where
  a : Ow8
  mc : Mc
  lw : Int
structure Ow20.Ok (o : Ow20) : Prop where
  a : o.a.Ok
  mc : o.mc.Ok
  lw : 0 ≤ o.lw ∧ o.lw < 256
/-- What a point knows. -/
structure Ms where
  V : List Vn
  bd : Int
  cr : Int
  al : Al
  lf : Int
  sq : Int
  bad : Int
  lp : Int
  dat : List UInt8
  rep : Int
  ali : Int
  tr : Int
  way : List Rp
/-- Where a point lies. -/
structure Mp where
  p : Nat
  q : Nat
  m : Nat
  r : Nat
def rqC (r : Rp) : List Value := (#[.int .u8 r.lv, .int .u32 r.nm, .int .u8 r.tl, .bool r.st, .bool r.en, .int .u8 r.mi.a, .int .u8 r.mi.b, .int .u8 r.mi.c, .int .u8 r.mi.d, .int .u8 r.mi.e, .int .u8 r.mi.f, .int .u8 r.mo.a, .int .u8 r.mo.b, .int .u8 r.mo.c, .int .u8 r.mo.d, .int .u8 r.mo.e, .int .u8 r.mo.f] : Array Value).toList
theorem rqC_len (r : Rp) : (rqC r).length = 17 := rfl
def own20A (o : Ow20) (ov : Value) : Array Value := #[.int .u8 o.a.lv, .int .u8 o.a.iv, .string (bs o.a.md), .int .u16 o.a.mp, ov, .int .u8 o.mc.a, .int .u8 o.mc.b, .int .u8 o.mc.c, .int .u8 o.mc.d, .int .u8 o.mc.e, .int .u8 o.mc.f, .int .u8 o.lw]
def mpA (o : Ow20) (ov : Value) (x : Mp) (s : Ms) (wv : Value) : Array Value := #[.int .u8 o.a.lv, .int .u8 o.a.iv, .string (bs o.a.md), .int .u16 o.a.mp, ov, .int .u8 o.mc.a, .int .u8 o.mc.b, .int .u8 o.mc.c, .int .u8 o.mc.d, .int .u8 o.mc.e, .int .u8 o.mc.f, .int .u8 o.lw, .pointer (some ⟨x.q, 0, none⟩), .pointer (some ⟨x.r, 0, none⟩), .int .i64 s.lf, .int .u32 s.sq, .int .u64 s.bad, .int .u32 s.lp, .string (bs s.dat), .int .i64 s.rep, .int .i64 s.ali, .int .u32 s.tr, wv]
/-- A point's blocks. -/
def Mp.D (x : Mp) (wv : Value) (k : Nat) : Prop := k = x.p ∨ k = x.q ∨ k = x.m ∨ k = x.r ∨ wv.ownBlock = some k
structure MM (W : World) (o : Ow20) (ov : Value) (x : Mp) (s : Ms) (wv : Value) : Prop where
  gb : GB 95 W x.p (mpA o ov x s wv)
  mc : MC W x.q o.a x.m s.V s.bd s.cr
  al : AL W x.r o.lw s.al
  wy : Ow 17 rqC 81 W 0 wv s.way
  pq : x.p ≠ x.q
  pm : x.p ≠ x.m
  pr : x.p ≠ x.r
  qr : x.q ≠ x.r
  mr : x.m ≠ x.r
  wp : ∀ g, wv.ownBlock = some g → g ≠ x.p ∧ g ≠ x.q ∧ g ≠ x.m ∧ g ≠ x.r
theorem Ow.fr {α : Type} {k : Nat} {f : α → List Value} {E : TypeId} {D : Nat → Prop} {w w' : World} {B : Nat} {v : Value} {l : List α} (h : Ow k f E w B v l) (hr : Fr D w w') (hd : ∀ g, v.ownBlock = some g → ¬ D g) : Ow k f E w' B v l := by
  obtain ⟨h1, h2⟩ := h
  refine ⟨h1, ?_⟩
  rcases h2 with h2 | ⟨g, cap, cur, rfl, hg, hh, r⟩
  · exact .inl h2
  · refine .inr ⟨g, cap, cur, rfl, hg, ?_, r⟩
    rw [hr.block g (Array.getElem?_eq_some_iff.1 hh).1 (hd g (by simp [Value.ownBlock]))]; exact hh
theorem Ow.lt {α : Type} {k : Nat} {f : α → List Value} {E : TypeId} {w : World} {B : Nat} {v : Value} {l : List α} (h : Ow k f E w B v l) {g : Nat} (hg : v.ownBlock = some g) : B ≤ g ∧ g < w.heap.size := World.ownsRow.lt h g hg
section
variable {W W' : World} {o : Ow20} {ov : Value} {x : Mp} {s : Ms} {wv : Value}
theorem MM.lp (h : MM W o ov x s wv) : x.p < W.heap.size := h.gb.lt
theorem MM.later (h : MM W o ov x s wv) (hb : Below W.heap.size W W') : MM W' o ov x s wv :=
  ⟨h.gb.later hb, h.mc.later hb, GB.later h.al hb, Ow.later h.wy hb, h.pq, h.pm, h.pr, h.qr, h.mr, h.wp⟩
theorem MM.fr {D : Nat → Prop} (h : MM W o ov x s wv) (hf : Fr D W W') (hd : ∀ k, x.D wv k → ¬ D k) : MM W' o ov x s wv :=
  ⟨h.gb.fr' hf (hd _ (.inl rfl)), h.mc.fr' hf (hd _ (.inr (.inl rfl))) (hd _ (.inr (.inr (.inl rfl)))), GB.fr' h.al hf (hd _ (.inr (.inr (.inr (.inl rfl))))),
    Ow.fr h.wy hf (fun g hg => hd _ (.inr (.inr (.inr (.inr hg))))), h.pq, h.pm, h.pr, h.qr, h.mr, h.wp⟩
theorem MM.rem (h : MM W o ov x s wv) {V' : List Vn} {bd' cr' : Int} (hm : MC W' x.q o.a x.m V' bd' cr') (ht : Two x.q x.m W W') : MM W' o ov x { s with V := V', bd := bd', cr := cr' } wv := by
  have hf : Fr (fun k => k = x.q ∨ k = x.m) W W' := .of_two ht (.inl rfl) (.inr rfl)
  exact ⟨h.gb.fr' hf (by have := h.pq; have := h.pm; omega), hm, GB.fr' h.al hf (by have := h.qr; have := h.mr; omega), Ow.fr h.wy hf (fun g hg => by have := h.wp g hg; omega), h.pq, h.pm, h.pr, h.qr, h.mr, h.wp⟩
theorem MM.alr (h : MM W o ov x s wv) {al' : Al} (ha : AL W' x.r o.lw al') (ht : Only x.r W W') : MM W' o ov x { s with al := al' } wv := by
  have hf : Fr (fun k => k = x.r) W W' := .of_only ht rfl
  exact ⟨h.gb.fr' hf h.pr, h.mc.fr' hf h.qr h.mr, ha, Ow.fr h.wy hf (fun g hg => by have := h.wp g hg; omega), h.pq, h.pm, h.pr, h.qr, h.mr, h.wp⟩
theorem MM.st (h : MM W o ov x s wv) {s' : Ms} (j : Nat) (v : Value) (e : (mpA o ov x s wv).setIfInBounds j v = mpA o ov x s' wv) (e1 : s'.V = s.V) (e2 : s'.bd = s.bd) (e3 : s'.cr = s.cr) (e4 : s'.al = s.al) (e5 : s'.way = s.way) : MM (W.setCell ⟨x.p, j, none⟩ v) o ov x s' wv := by
  have hf : Fr (fun k => k = x.p) W (W.setCell ⟨x.p, j, none⟩ v) := Fr.set (D := fun k => k = x.p) rfl j v
  refine ⟨by rw [← e]; exact h.gb.set j v, ?_, ?_, ?_, h.pq, h.pm, h.pr, h.qr, h.mr, h.wp⟩
  · rw [e1, e2, e3]; exact h.mc.fr' hf (fun e => h.pq e.symm) (fun e => h.pm e.symm)
  · rw [e4]; exact GB.fr' h.al hf (fun e => h.pr e.symm)
  · rw [e5]; exact Ow.fr h.wy hf (fun g hg => (h.wp g hg).1)
theorem MM.sLf (h : MM W o ov x s wv) (y : Int) : MM (W.setCell ⟨x.p, 14, none⟩ (.int .i64 y)) o ov x { s with lf := y } wv := h.st 14 _ rfl rfl rfl rfl rfl rfl
theorem MM.sSq (h : MM W o ov x s wv) (y : Int) : MM (W.setCell ⟨x.p, 15, none⟩ (.int .u32 y)) o ov x { s with sq := y } wv := h.st 15 _ rfl rfl rfl rfl rfl rfl
theorem MM.sBad (h : MM W o ov x s wv) (y : Int) : MM (W.setCell ⟨x.p, 16, none⟩ (.int .u64 y)) o ov x { s with bad := y } wv := h.st 16 _ rfl rfl rfl rfl rfl rfl
theorem MM.sLp (h : MM W o ov x s wv) (y : Int) : MM (W.setCell ⟨x.p, 17, none⟩ (.int .u32 y)) o ov x { s with lp := y } wv := h.st 17 _ rfl rfl rfl rfl rfl rfl
theorem MM.sDat (h : MM W o ov x s wv) (y : List UInt8) : MM (W.setCell ⟨x.p, 18, none⟩ (.string (bs y))) o ov x { s with dat := y } wv := h.st 18 _ rfl rfl rfl rfl rfl rfl
theorem MM.sRep (h : MM W o ov x s wv) (y : Int) : MM (W.setCell ⟨x.p, 19, none⟩ (.int .i64 y)) o ov x { s with rep := y } wv := h.st 19 _ rfl rfl rfl rfl rfl rfl
theorem MM.sAli (h : MM W o ov x s wv) (y : Int) : MM (W.setCell ⟨x.p, 20, none⟩ (.int .i64 y)) o ov x { s with ali := y } wv := h.st 20 _ rfl rfl rfl rfl rfl rfl
theorem MM.sTr (h : MM W o ov x s wv) (y : Int) : MM (W.setCell ⟨x.p, 21, none⟩ (.int .u32 y)) o ov x { s with tr := y } wv := h.st 21 _ rfl rfl rfl rfl rfl rfl
theorem MM.fz (h : MM W o ov x s wv) (j : Nat) : W.frozen? ⟨x.p, j, none⟩ = false := h.gb.fr j
theorem MM.clv (h : MM W o ov x s wv) : W.cell? ⟨x.p, 0, none⟩ = some (.int .u8 o.a.lv) := h.gb.c 0 _ rfl
theorem MM.civ (h : MM W o ov x s wv) : W.cell? ⟨x.p, 1, none⟩ = some (.int .u8 o.a.iv) := h.gb.c 1 _ rfl
theorem MM.cmd (h : MM W o ov x s wv) : W.cell? ⟨x.p, 2, none⟩ = some (.string (bs o.a.md)) := h.gb.c 2 _ rfl
theorem MM.cmp (h : MM W o ov x s wv) : W.cell? ⟨x.p, 3, none⟩ = some (.int .u16 o.a.mp) := h.gb.c 3 _ rfl
theorem MM.cm0 (h : MM W o ov x s wv) : W.cell? ⟨x.p, 5, none⟩ = some (.int .u8 o.mc.a) := h.gb.c 5 _ rfl
theorem MM.cm1 (h : MM W o ov x s wv) : W.cell? ⟨x.p, 6, none⟩ = some (.int .u8 o.mc.b) := h.gb.c 6 _ rfl
theorem MM.cm2 (h : MM W o ov x s wv) : W.cell? ⟨x.p, 7, none⟩ = some (.int .u8 o.mc.c) := h.gb.c 7 _ rfl
theorem MM.cm3 (h : MM W o ov x s wv) : W.cell? ⟨x.p, 8, none⟩ = some (.int .u8 o.mc.d) := h.gb.c 8 _ rfl
theorem MM.cm4 (h : MM W o ov x s wv) : W.cell? ⟨x.p, 9, none⟩ = some (.int .u8 o.mc.e) := h.gb.c 9 _ rfl
theorem MM.cm5 (h : MM W o ov x s wv) : W.cell? ⟨x.p, 10, none⟩ = some (.int .u8 o.mc.f) := h.gb.c 10 _ rfl
theorem MM.clf (h : MM W o ov x s wv) : W.cell? ⟨x.p, 14, none⟩ = some (.int .i64 s.lf) := h.gb.c 14 _ rfl
theorem MM.csq (h : MM W o ov x s wv) : W.cell? ⟨x.p, 15, none⟩ = some (.int .u32 s.sq) := h.gb.c 15 _ rfl
theorem MM.cbad (h : MM W o ov x s wv) : W.cell? ⟨x.p, 16, none⟩ = some (.int .u64 s.bad) := h.gb.c 16 _ rfl
theorem MM.clpx (h : MM W o ov x s wv) : W.cell? ⟨x.p, 17, none⟩ = some (.int .u32 s.lp) := h.gb.c 17 _ rfl
theorem MM.cdat (h : MM W o ov x s wv) : W.cell? ⟨x.p, 18, none⟩ = some (.string (bs s.dat)) := h.gb.c 18 _ rfl
theorem MM.crep (h : MM W o ov x s wv) : W.cell? ⟨x.p, 19, none⟩ = some (.int .i64 s.rep) := h.gb.c 19 _ rfl
theorem MM.cali (h : MM W o ov x s wv) : W.cell? ⟨x.p, 20, none⟩ = some (.int .i64 s.ali) := h.gb.c 20 _ rfl
theorem MM.ctr (h : MM W o ov x s wv) : W.cell? ⟨x.p, 21, none⟩ = some (.int .u32 s.tr) := h.gb.c 21 _ rfl
theorem MM.cway (h : MM W o ov x s wv) : W.cell? ⟨x.p, 22, none⟩ = some (wv) := h.gb.c 22 _ rfl
theorem MM.cq (h : MM W o ov x s wv) : W.cell? ⟨x.p, 12, none⟩ = some (.pointer (some ⟨x.q, 0, none⟩)) := h.gb.c 12 _ rfl
theorem MM.cr' (h : MM W o ov x s wv) : W.cell? ⟨x.p, 13, none⟩ = some (.pointer (some ⟨x.r, 0, none⟩)) := h.gb.c 13 _ rfl
end
/-- A point that begins. -/
def ms0 (V : List Vn) : Ms := ⟨V, 0, 0, ⟨0, 0, 0⟩, 1, 0, 0, 0, [], 0, 0, 0, []⟩
set_option maxRecDepth 100000 in
set_option maxHeartbeats 8000000 in
theorem mnew_any (o : Ow20) (ho : o.Ok) (sv : Value) (ks : List Int) (hkb : ∀ x ∈ ks, 0 ≤ x ∧ x < 65536) (w : World) (hR : Rw 1 u1 w sv ks) (hkl : ks.length ≤ 1000) : Calls Tryz.prog 8 #[.agg #[.int .u8 o.a.lv, .int .u8 o.a.iv, .string (bs o.a.md), .int .u16 o.a.mp, sv, .int .u8 o.mc.a, .int .u8 o.mc.b, .int .u8 o.mc.c, .int .u8 o.mc.d, .int .u8 o.mc.e, .int .u8 o.mc.f, .int .u8 o.lw]] w fun en w' =>
    ((newV o.a ks = none ∨ ¬ (1 ≤ o.lw ∧ o.lw ≤ 4) ∨ hostV o.mc = false) ∧ en = .returned (.tuple #[.pointer none, .int .i64 2]) ∧ Below w.heap.size w w') ∨
    ∃ V x, newV o.a ks = some V ∧ (1 ≤ o.lw ∧ o.lw ≤ 4) ∧ hostV o.mc = true ∧ en = .returned (.tuple #[.pointer (some ⟨x.p, 0, none⟩), .int .i64 0]) ∧ MM w' o sv x (ms0 V) (.slice none 0 0) ∧ (w.heap.size ≤ x.p ∧ w.heap.size ≤ x.q ∧ w.heap.size ≤ x.m ∧ w.heap.size ≤ x.r) ∧ Below w.heap.size w w' := by
  have HO := Lib.hid ho
  have RN : Hid (∀ w', Below w.heap.size w w' → Calls Tryz.prog 27 #[.agg #[.int .u8 o.a.lv, .int .u16 o.a.mp, .int .u8 o.a.iv, .string (bs o.a.md)], sv] w' fun en w'' =>
    (newV o.a ks = none ∧ en = .returned (.tuple #[.pointer none, .int .i64 2]) ∧ Below w'.heap.size w' w'') ∨
    ∃ V q m, newV o.a ks = some V ∧ en = .returned (.tuple #[.pointer (some ⟨q, 0, none⟩), .int .i64 0]) ∧ NS w' w'' q m o.a V) := Lib.hid fun w' hb => new18_any o.a HO.out.a sv ks hkb w' (hR.later u1_len hb) hkl
  have HH : Hid (∀ w, Calls Tryz.prog 29 #[.agg #[.int .u8 o.mc.a, .int .u8 o.mc.b, .int .u8 o.mc.c, .int .u8 o.mc.d, .int .u8 o.mc.e, .int .u8 o.mc.f]] w fun en w' => en = .returned (.bool (hostV o.mc)) ∧ Below w.heap.size w w') := Lib.hid fun w => host_any o.mc HO.out.mc w
  clear hR hkb ho hkl
  go_enter Tryz.func8, Tryz.ntmps8
  go_upto_region 1 with fail
  have g0 : GB 35 (w.alloc (.cells #[.int .u8 o.a.lv, .int .u8 o.a.iv, .string (bs o.a.md), .int .u16 o.a.mp, sv, .int .u8 o.mc.a, .int .u8 o.mc.b, .int .u8 o.mc.c, .int .u8 o.mc.d, .int .u8 o.mc.e, .int .u8 o.mc.f, .int .u8 o.lw] 35)) w.heap.size (own20A o sv) := heap_alloc_new _ _
  have b0 : Below w.heap.size w (w.alloc (.cells #[.int .u8 o.a.lv, .int .u8 o.a.iv, .string (bs o.a.md), .int .u16 o.a.mp, sv, .int .u8 o.mc.a, .int .u8 o.mc.b, .int .u8 o.mc.c, .int .u8 o.mc.d, .int .u8 o.mc.e, .int .u8 o.mc.f, .int .u8 o.lw] 35)) := (Below.refl _ _).alloc (Nat.le_refl _) _
  obtain ⟨w0, hw0⟩ : ∃ k, w.alloc (.cells #[.int .u8 o.a.lv, .int .u8 o.a.iv, .string (bs o.a.md), .int .u16 o.a.mp, sv, .int .u8 o.mc.a, .int .u8 o.mc.b, .int .u8 o.mc.c, .int .u8 o.mc.d, .int .u8 o.mc.e, .int .u8 o.mc.f, .int .u8 o.lw] 35) = k := ⟨_, rfl⟩
  rw [hw0] at g0 b0 ⊢
  have S0 := Lib.hid (And.intro g0 b0)
  clear hw0 g0 b0
  have k0 : w0.cell? ⟨w.heap.size, 0, none⟩ = some (.int .u8 o.a.lv) := S0.out.1.c 0 _ rfl
  have k1 : w0.cell? ⟨w.heap.size, 1, none⟩ = some (.int .u8 o.a.iv) := S0.out.1.c 1 _ rfl
  have k2 : w0.cell? ⟨w.heap.size, 2, none⟩ = some (.string (bs o.a.md)) := S0.out.1.c 2 _ rfl
  have k3 : w0.cell? ⟨w.heap.size, 3, none⟩ = some (.int .u16 o.a.mp) := S0.out.1.c 3 _ rfl
  have k4 : w0.cell? ⟨w.heap.size, 4, none⟩ = some sv := S0.out.1.c 4 _ rfl
  go_wp2_with fail
  with_reducible refine (RN.out _ S0.out.2).mono ?_
  rintro en w1 hnew
  by_cases hl : 1 ≤ o.lw ∧ o.lw ≤ 4
  · have HL := Lib.hid hl
    have AN : Hid (∀ w, Calls Tryz.prog 28 #[.int .u8 o.lw] w fun en w' => en = .returned (.tuple #[.pointer (some ⟨w.heap.size, 0, none⟩), .int .i64 0]) ∧ AL w' w.heap.size o.lw ⟨0, 0, 0⟩ ∧ Below w.heap.size w w') := Lib.hid fun w => (anew_any o.lw w).mono fun en w' h => by
      rcases h with ⟨h, _⟩ | ⟨_, h⟩
      · exact absurd HL.out h
      · exact h
    clear hl
    rcases hnew with ⟨hv, rfl, hb⟩ | ⟨V, q, m, hv, rfl, ns⟩
    · have S1 := Lib.hid (And.intro (S0.out.1.later hb) (S0.out.2.trans (hb.mono S0.out.2.size)))
      have HV := Lib.hid hv
      clear hv hb S0 RN k0 k1 k2 k3 k4
      have k11 : w1.cell? ⟨w.heap.size, 11, none⟩ = some (.int .u8 o.lw) := S1.out.1.c 11 _ rfl
      go_wp2_with fail
      with_reducible refine (AN.out _).mono ?_
      rintro en w2 ⟨rfl, _, hb2⟩
      have S2 := Lib.hid (S1.out.2.trans (hb2.mono S1.out.2.size))
      clear hb2 S1
      go_wp2
      go_ret2
      exact .inl ⟨.inl HV.out, rfl, S2.out⟩
    · have hbn := ns.bel
      have hq : w.heap.size < q := by have := ns.lq; have := S0.out.2.size; omega
      have hm : w.heap.size < m := by have := ns.lm; have := S0.out.2.size; omega
      have S1 := Lib.hid (And.intro (S0.out.1.later hbn) (And.intro (S0.out.2.trans (hbn.mono S0.out.2.size)) ns.mc))
      have HV := Lib.hid (And.intro hv (And.intro hq hm))
      clear hv hbn S0 RN k0 k1 k2 k3 k4 ns hq hm
      have k11 : w1.cell? ⟨w.heap.size, 11, none⟩ = some (.int .u8 o.lw) := S1.out.1.c 11 _ rfl
      go_wp2_with fail
      with_reducible refine (AN.out _).mono ?_
      rintro en w2 ⟨rfl, hal, hb2⟩
      have S2 := Lib.hid (And.intro (S1.out.1.later hb2) (And.intro (S1.out.2.1.trans (hb2.mono S1.out.2.1.size)) (And.intro (S1.out.2.2.later hb2) (And.intro hal (show w1.heap.size < w2.heap.size from GB.lt hal)))))
      have HQ := Lib.hid (And.intro S1.out.2.2.lt (And.intro S1.out.2.2.om.lt S1.out.2.1.size))
      obtain ⟨r, hr⟩ : ∃ r, w1.heap.size = r := ⟨_, rfl⟩
      rw [hr] at S2 HQ ⊢
      clear hal hb2 S1 hr k11
      have m0 : w2.cell? ⟨w.heap.size, 5, none⟩ = some (.int .u8 o.mc.a) := S2.out.1.c 5 _ rfl
      have m1 : w2.cell? ⟨w.heap.size, 6, none⟩ = some (.int .u8 o.mc.b) := S2.out.1.c 6 _ rfl
      have m2 : w2.cell? ⟨w.heap.size, 7, none⟩ = some (.int .u8 o.mc.c) := S2.out.1.c 7 _ rfl
      have m3 : w2.cell? ⟨w.heap.size, 8, none⟩ = some (.int .u8 o.mc.d) := S2.out.1.c 8 _ rfl
      have m4 : w2.cell? ⟨w.heap.size, 9, none⟩ = some (.int .u8 o.mc.e) := S2.out.1.c 9 _ rfl
      have m5 : w2.cell? ⟨w.heap.size, 10, none⟩ = some (.int .u8 o.mc.f) := S2.out.1.c 10 _ rfl
      go_wp2_with fail
      with_reducible refine (HH.out _).mono ?_
      rintro en w3 ⟨rfl, hb3⟩
      have S3 := Lib.hid (And.intro (S2.out.1.later hb3) (And.intro (S2.out.2.1.trans (hb3.mono S2.out.2.1.size)) (And.intro (S2.out.2.2.1.later hb3) (And.intro (GB.later S2.out.2.2.2.1 hb3) (Nat.lt_of_lt_of_le S2.out.2.2.2.2 hb3.size)))))
      clear hb3 S2 m0 m1 m2 m3 m4 m5
      obtain ⟨G, hG⟩ : ∃ G, hostV o.mc = G := ⟨_, rfl⟩
      rw [hG]
      have HG := Lib.hid hG
      clear hG
      cases G with
      | false =>
        go_wp2
        go_ret2
        exact .inl ⟨.inr (.inr HG.out), rfl, S3.out.2.1⟩
      | true =>
        have c0 : w3.cell? ⟨w.heap.size, 0, none⟩ = some (.int .u8 o.a.lv) := S3.out.1.c 0 _ rfl
        have c1 : w3.cell? ⟨w.heap.size, 1, none⟩ = some (.int .u8 o.a.iv) := S3.out.1.c 1 _ rfl
        have c2 : w3.cell? ⟨w.heap.size, 2, none⟩ = some (.string (bs o.a.md)) := S3.out.1.c 2 _ rfl
        have c3 : w3.cell? ⟨w.heap.size, 3, none⟩ = some (.int .u16 o.a.mp) := S3.out.1.c 3 _ rfl
        have c4 : w3.cell? ⟨w.heap.size, 4, none⟩ = some sv := S3.out.1.c 4 _ rfl
        have c5 : w3.cell? ⟨w.heap.size, 5, none⟩ = some (.int .u8 o.mc.a) := S3.out.1.c 5 _ rfl
        have c6 : w3.cell? ⟨w.heap.size, 6, none⟩ = some (.int .u8 o.mc.b) := S3.out.1.c 6 _ rfl
        have c7 : w3.cell? ⟨w.heap.size, 7, none⟩ = some (.int .u8 o.mc.c) := S3.out.1.c 7 _ rfl
        have c8 : w3.cell? ⟨w.heap.size, 8, none⟩ = some (.int .u8 o.mc.d) := S3.out.1.c 8 _ rfl
        have c9 : w3.cell? ⟨w.heap.size, 9, none⟩ = some (.int .u8 o.mc.e) := S3.out.1.c 9 _ rfl
        have c10 : w3.cell? ⟨w.heap.size, 10, none⟩ = some (.int .u8 o.mc.f) := S3.out.1.c 10 _ rfl
        have c11 : w3.cell? ⟨w.heap.size, 11, none⟩ = some (.int .u8 o.lw) := S3.out.1.c 11 _ rfl
        go_wp2
        go_ret2
        refine .inr ⟨V, ⟨w3.heap.size, q, m, r⟩, HV.out.1, HL.out, HG.out, rfl, ?_, ⟨?_, ?_, ?_, ?_⟩, S3.out.2.1.alloc S3.out.2.1.size _⟩
        · have hb := (Below.refl w3.heap.size w3).alloc (Nat.le_refl _) (.cells (mpA o sv ⟨w3.heap.size, q, m, r⟩ (ms0 V) (.slice none 0 0)) 95)
          have h1 := S3.out.2.2.1.lt
          have h2 := S3.out.2.2.1.om.lt
          have h3 := S3.out.2.2.2.2
          have h4 := HQ.out
          exact ⟨heap_alloc_new _ _, S3.out.2.2.1.later hb, GB.later S3.out.2.2.2.1 hb, Ow.none _ _, by simp only; omega, by simp only; omega, by simp only; omega, by simp only; omega, by simp only; omega, fun g hg => by cases hg⟩
        · exact S3.out.2.1.size
        · have := HV.out.2.1; simp only; omega
        · have := HV.out.2.2; simp only; omega
        · have := HQ.out.2.2; simp only; omega
  · have HL := Lib.hid hl
    have AN : Hid (∀ w, Calls Tryz.prog 28 #[.int .u8 o.lw] w fun en w' => en = .returned (.tuple #[.pointer none, .int .i64 2]) ∧ w' = w) := Lib.hid fun w => (anew_any o.lw w).mono fun en w' h => by
      rcases h with ⟨_, h⟩ | ⟨h, _⟩
      · exact h
      · exact absurd h HL.out
    clear hl
    have hq : ∃ (e : Int) (p : Option Addr), en = .returned (.tuple #[.pointer p, .int .i64 e]) ∧ (e = 0 ∨ e = 2) ∧ Below w0.heap.size w0 w1 := by
      rcases hnew with ⟨_, rfl, hb⟩ | ⟨V, q, m, _, rfl, ns⟩
      · exact ⟨_, _, rfl, .inr rfl, hb⟩
      · exact ⟨_, _, rfl, .inl rfl, ns.bel⟩
    obtain ⟨e, pp, rfl, he, hb⟩ := hq
    have S1 := Lib.hid (And.intro (S0.out.1.later hb) (S0.out.2.trans (hb.mono S0.out.2.size)))
    clear hnew hb S0 RN k0 k1 k2 k3 k4
    have k11 : w1.cell? ⟨w.heap.size, 11, none⟩ = some (.int .u8 o.lw) := S1.out.1.c 11 _ rfl
    rcases he with rfl | rfl
    · go_wp2_with (go_at_call 28; with_reducible refine (AN.out _).mono ?_; rintro e w' ⟨rfl, rfl⟩)
      go_ret2
      exact .inl ⟨.inr (.inl HL.out), rfl, S1.out.2⟩
    · go_wp2_with (go_at_call 28; with_reducible refine (AN.out _).mono ?_; rintro e w' ⟨rfl, rfl⟩)
      go_ret2
      exact .inl ⟨.inr (.inl HL.out), rfl, S1.out.2⟩
end Go.Proofs.YtlkdfofpnmpidaaGreat
