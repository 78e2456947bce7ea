/- ZP41: the texts Y9 as one. -/
import Derived.Test.YtlkdfofpnmpidaaGreatZP39
import Derived.Test.YtlkdfofpnmpidaaGreatZP40
/- mep: a trace that is sought. -/
set_option linter.unusedVariables false
set_option linter.unusedSimpArgs false
namespace Go.Proofs.YtlkdfofpnmpidaaGreat
open Go.RowKit

def trcG (lv : Int) : Mc := ⟨1, 128, 194, 0, 0, 56 + lv⟩
/-- The reply of a point, at the end of a trace. -/
def endP (o : Ow20) (t : Tr) : Rp := ⟨o.a.lv, t.nm, t.tl - 1, false, true, o.mc, mc0⟩
def sekM (o : Ow20) (ds : Mc) (a b : Int) (f : List UInt8) : List Sn × Bool :=
  if ds = o.mc ∨ ds = trcG o.a.lv then
    (if (tkTr a b f).2 = 0 ∧ (tkTr a b f).1.tt = o.mc ∧ (tkTr a b f).1.tl ≠ 0 ∧ ((tkTr a b f).1.fr.a % 2 == 1) = false then
      (sentR (tkTr a b f).1.fr (putRp (endP o (tkTr a b f).1)).1 (putRp (endP o (tkTr a b f).1)).2.1 (putRp (endP o (tkTr a b f).1)).2.2.1 (putRp (endP o (tkTr a b f).1)).2.2.2.1 (putRp (endP o (tkTr a b f).1)).2.2.2.2.1, true)
    else ([], decide ((tkTr a b f).2 = 0)))
  else ([], true)
theorem adI_b (t : List UInt8) (j : Nat) : 0 ≤ adI t j ∧ adI t j < 256 := by unfold adI; have := (t.getD j 0).toNat_lt; omega
theorem mcOf_ok (t : List UInt8) : (mcOf t).Ok := ⟨adI_b _ _, adI_b _ _, adI_b _ _, adI_b _ _, adI_b _ _, adI_b _ _⟩
theorem mc0_ok : mc0.Ok := ⟨by decide, by decide, by decide, by decide, by decide, by decide⟩
theorem tkTr_ok {a b : Int} (ha : 0 ≤ a ∧ a < 256) (f : List UInt8) : (tkTr a b f).1.Ok := by
  unfold tkTr
  split
  · exact ⟨ha, ⟨(numOf_bd _).1, numOf_lt _ 4 _ (rdText_len _ _ 4) (by decide)⟩, ⟨(numOf_bd _).1, numOf_lt _ 1 _ (rdText_len _ _ 1) (by decide)⟩, mcOf_ok _, mcOf_ok _⟩
  · exact ⟨by decide, by decide, by decide, mc0_ok, mc0_ok⟩
theorem prtL_b (k : UInt8) (m : Mc) : (prtL k m).length ≤ 1 ∧ (∀ x ∈ prtL k m, x.2.length ≤ 2000 ∧ x.1 = k) := by
  unfold prtL
  split
  · simp
  · simp [Mc.by_len]
theorem putT_len (M : Nat) : ∀ l : List Th, (∀ x ∈ l, x.2.length ≤ M) → (putT l).1.length ≤ l.length * (M + 3) + 1
  | [], _ => by simp [putT]
  | x :: l, h => by
    have ih := putT_len M l (fun y hy => h y (List.mem_cons_of_mem _ hy))
    have hx := h x (List.mem_cons_self ..)
    have hb : (thB x).length ≤ M + 3 := by simp [thB, be_length]; omega
    have e : (x :: l).length * (M + 3) = l.length * (M + 3) + (M + 3) := by rw [List.length_cons, Nat.add_mul, Nat.one_mul]
    unfold putT
    split
    · split
      · simp only [List.length_append]; omega
      · simp
    · simp
theorem putT_pm {l : List Th} (h1 : l.length ≤ 1000) (h2 : ∀ x ∈ l, x.2.length ≤ 2000) : (putT l).1.length ≤ 1000000000 := by
  have h := putT_len 2000 l h2
  have : l.length * (2000 + 3) ≤ 1000 * 2003 := Nat.mul_le_mul h1 (by decide)
  omega
theorem putRp_ok {r : Rp} (h : r.Ok) : PdB (putRp r).1 (putRp r).2.1 (putRp r).2.2.1 (putRp r).2.2.2.1 (putRp r).2.2.2.2.1 := by
  have l5 := prtL_b 5 r.mi
  have l6 := prtL_b 6 r.mo
  unfold putRp
  split
  · exact ⟨by simp, by simp, by simp, by simp, by simp, by simp, by simp [putT]⟩
  · refine ⟨h.lv, by simp, ?_, ?_, ?_, ?_, ?_⟩
    · unfold flR; cases r.st <;> cases r.en <;> simp
    · unfold fxR; simp [be_length]
    · simp only [List.length_append]; omega
    · intro x hx
      rcases List.mem_append.1 hx with hx | hx
      · exact (l5.2 x hx).1
      · exact (l6.2 x hx).1
    · exact putT_pm (by simp only [List.length_append]; omega) (fun x hx => by
        rcases List.mem_append.1 hx with hx | hx
        · exact (l5.2 x hx).1
        · exact (l6.2 x hx).1)
theorem Tls.fr' {D : Nat → Prop} {w w' : World} {v : Value} {l : List Th} (h : Tls w v l) (hr : Fr D w w') (hd : ∀ g, v.ownBlock = some g → ¬ D g) : Tls w' v l := by
  rcases h with h | ⟨ad, c, rfl, h0 | ⟨b, off, rfl, h2⟩⟩
  · exact .inl h
  · exact .inr ⟨ad, c, rfl, .inl h0⟩
  · refine .inr ⟨_, c, rfl, .inr ⟨b, off, rfl, fun j hj => ?_⟩⟩
    have hlt := World.block_lt_of_cell? _ _ (h2 j hj).1
    have e := hr.block b hlt (hd b rfl)
    have h3 := h2 j hj
    simp only [World.cell?, e] at h3 ⊢
    exact h3
theorem Fr.five {W : World} {t : Nat} {v0 v1 v2 v3 v4 : Value} : Fr (fun k => k = t) W (((((W.setCell ⟨t, 0, none⟩ v0).setCell ⟨t, 1, none⟩ v1).setCell ⟨t, 2, none⟩ v2).setCell ⟨t, 3, none⟩ v3).setCell ⟨t, 4, none⟩ v4) :=
  ((((Fr.set (D := fun k => k = t) rfl 0 v0).trans (Fr.set (D := fun k => k = t) rfl 1 v1)).trans (Fr.set (D := fun k => k = t) rfl 2 v2)).trans (Fr.set (D := fun k => k = t) rfl 3 v3)).trans (Fr.set (D := fun k => k = t) rfl 4 v4)
theorem CM.five {w W W0 : World} {o : Ow20} {ov : Value} {x : Mp} {s : Ms} {wv : Value} {B : Nat} {A : Array Value} (h : CM w W o ov x s wv B A) (h0 : CM w W0 o ov x s wv B A) {t : Nat} (ht : W0.heap.size ≤ t) (v0 v1 v2 v3 v4 : Value) :
    CM w (((((W.setCell ⟨t, 0, none⟩ v0).setCell ⟨t, 1, none⟩ v1).setCell ⟨t, 2, none⟩ v2).setCell ⟨t, 3, none⟩ v3).setCell ⟨t, 4, none⟩ v4) o ov x s wv B A := by
  have hB := h0.cb.lt
  have hw := h0.fr.size
  refine ⟨h.mm.five h0.mm ht v0 v1 v2 v3 v4, ((((h.cb.other (t := t) (by omega) v0).other (t := t) (by omega) v1).other (t := t) (by omega) v2).other (t := t) (by omega) v3).other (t := t) (by omega) v4, ?_, h.lb⟩
  have hb : Below w.heap.size W (((((W.setCell ⟨t, 0, none⟩ v0).setCell ⟨t, 1, none⟩ v1).setCell ⟨t, 2, none⟩ v2).setCell ⟨t, 3, none⟩ v3).setCell ⟨t, 4, none⟩ v4) := below_five ((Below.refl W.heap.size W).mono h.fr.size) (by omega)
  exact ⟨hb.os.trans h.fr.os, hb.tape.trans h.fr.tape, hb.output.trans h.fr.output, Nat.le_trans h.fr.size hb.size, fun k hk hd => (hb.block k hk).trans (h.fr.block k hk hd)⟩
theorem GB.five {T : TypeId} {W : World} {q : Nat} {A : Array Value} (h : GB T W q A) {t : Nat} (ht : t ≠ q) (v0 v1 v2 v3 v4 : Value) :
    GB T (((((W.setCell ⟨t, 0, none⟩ v0).setCell ⟨t, 1, none⟩ v1).setCell ⟨t, 2, none⟩ v2).setCell ⟨t, 3, none⟩ v3).setCell ⟨t, 4, none⟩ v4) q A :=
  ((((h.other ht v0).other ht v1).other ht v2).other ht v3).other ht v4
/-- The cells that the reply is made of. -/
theorem CM.nine {w W : World} {o : Ow20} {ov : Value} {x : Mp} {s : Ms} {wv : Value} {B : Nat} {A : Array Value} {t : Nat} {tr : Tr} (h : CM w W o ov x s wv B A) (g : GB 132 W t #[.int .u8 tr.lv, .int .u32 tr.nm, .int .u8 tr.tl, .int .u8 tr.fr.a, .int .u8 tr.fr.b, .int .u8 tr.fr.c, .int .u8 tr.fr.d, .int .u8 tr.fr.e, .int .u8 tr.fr.f, .int .u8 tr.tt.a, .int .u8 tr.tt.b, .int .u8 tr.tt.c, .int .u8 tr.tt.d, .int .u8 tr.tt.e, .int .u8 tr.tt.f]) :
    W.cell? ⟨x.p, 0, none⟩ = some (.int .u8 o.a.lv) ∧ W.cell? ⟨t, 1, none⟩ = some (.int .u32 tr.nm) ∧ W.cell? ⟨t, 2, none⟩ = some (.int .u8 tr.tl) ∧ W.cell? ⟨x.p, 5, none⟩ = some (.int .u8 o.mc.a) ∧ W.cell? ⟨x.p, 6, none⟩ = some (.int .u8 o.mc.b) ∧ W.cell? ⟨x.p, 7, none⟩ = some (.int .u8 o.mc.c) ∧ W.cell? ⟨x.p, 8, none⟩ = some (.int .u8 o.mc.d) ∧ W.cell? ⟨x.p, 9, none⟩ = some (.int .u8 o.mc.e) ∧ W.cell? ⟨x.p, 10, none⟩ = some (.int .u8 o.mc.f) :=
  ⟨h.mm.clv, g.c 1 _ rfl, g.c 2 _ rfl, h.mm.cm0, h.mm.cm1, h.mm.cm2, h.mm.cm3, h.mm.cm4, h.mm.cm5⟩
set_option maxRecDepth 100000 in
set_option maxHeartbeats 8000000 in
theorem msought_any (o : Ow20) (ho : o.Ok) (hlv : o.a.lv < 8) (ov : Value) (x : Mp) (s : Ms) (wv : Value) (sr ds : Mc) (a b c : Int) (f : List UInt8) (v : Value) (l : List Th) (w : World) (h : MM w o ov x s wv)
    (hp : PdB a b c f l) : Calls Tryz.prog 98 #[.pointer (some ⟨x.p, 0, none⟩), .agg #[.int .u8 sr.a, .int .u8 sr.b, .int .u8 sr.c, .int .u8 sr.d, .int .u8 sr.e, .int .u8 sr.f, .int .u8 ds.a, .int .u8 ds.b, .int .u8 ds.c, .int .u8 ds.d, .int .u8 ds.e, .int .u8 ds.f, .int .u8 a, .int .u8 b, .int .u8 c, .string (bs f), v]] w fun en w' =>
    ∃ u, en = .returned (.tuple #[u, .bool (sekM o ds a b f).2]) ∧ Ow 7 snC 55 w' w.heap.size u (sekM o ds a b f).1 ∧ MM w' o ov x s wv ∧ Fr (x.D wv) w w' := by
  have HP := Lib.hid hp
  have H0 := Lib.hid h
  have HOK := Lib.hid ho
  obtain ⟨⟨tr, e⟩, ht⟩ : ∃ z, tkTr a b f = z := ⟨_, rfl⟩
  have htok := tkTr_ok (b := b) HP.out.pa f
  rw [ht] at htok
  have HTOK : Hid tr.Ok := Lib.hid htok
  obtain ⟨AT, hAT⟩ : ∃ A : Array Value, A = #[.int .u8 tr.lv, .int .u32 tr.nm, .int .u8 tr.tl, .int .u8 tr.fr.a, .int .u8 tr.fr.b, .int .u8 tr.fr.c, .int .u8 tr.fr.d, .int .u8 tr.fr.e, .int .u8 tr.fr.f, .int .u8 tr.tt.a, .int .u8 tr.tt.b, .int .u8 tr.tt.c, .int .u8 tr.tt.d, .int .u8 tr.tt.e, .int .u8 tr.tt.f] := ⟨_, rfl⟩
  have HAT := Lib.hid hAT
  have SAT := Lib.hid (show AT.size = 15 by rw [hAT]; rfl)
  have OAT := Lib.hid (show AT.all (·.oneCell') = true by rw [hAT]; simp [Value.oneCell'])
  have IAT := Lib.hid (show (Tryz.prog.info? 132).map (·.size) = some AT.size by rw [SAT.out]; kernel_rfl)
  have TK : Hid (∀ W, Calls Tryz.prog 127 #[.agg #[.int .u8 a, .int .u8 b, .int .u8 c, .string (bs f), v]] W fun en w' => en = .returned (.tuple #[.agg AT, .int .i64 e]) ∧ Below W.heap.size W w') := Lib.hid fun W => by
    have h := lttake_any v a b c f W HP.out.pf
    rw [ht] at h; rw [HAT.out]; exact h
  obtain ⟨GL, hGL⟩ : ∃ z, 56 + o.a.lv = z := ⟨_, rfl⟩
  have HG : Hid (trcG o.a.lv = ⟨1, 128, 194, 0, 0, GL⟩) := Lib.hid (by unfold trcG; rw [hGL])
  have TRC : Hid (∀ w, Calls Tryz.prog 51 #[.int .u8 o.a.lv] w fun en w' => en = .returned (.tuple #[.agg #[.int .u8 1, .int .u8 128, .int .u8 194, .int .u8 0, .int .u8 0, .int .u8 GL], .bool true]) ∧ Below w.heap.size w w') := Lib.hid fun w => by
    have h := Trace_any o.a.lv w HOK.out.a.lv.1 HOK.out.a.lv.2
    unfold grpV at h
    rw [if_neg (by omega), hGL] at h
    exact h
  obtain ⟨D, hD⟩ : ∃ D, decide (ds = o.mc) = D := ⟨_, rfl⟩
  obtain ⟨D2, hD2⟩ : ∃ D, decide (ds = (⟨1, 128, 194, 0, 0, GL⟩ : Mc)) = D := ⟨_, rfl⟩
  obtain ⟨R, hR⟩ : ∃ R, sekM o ds a b f = R := ⟨_, rfl⟩
  have HR : Hid (R = if (D || D2) = true then (if e = 0 ∧ tr.tt = o.mc ∧ tr.tl ≠ 0 ∧ (tr.fr.a % 2 == 1) = false then (sentR tr.fr (putRp (endP o tr)).1 (putRp (endP o tr)).2.1 (putRp (endP o tr)).2.2.1 (putRp (endP o tr)).2.2.2.1 (putRp (endP o tr)).2.2.2.2.1, true) else ([], decide (e = 0))) else ([], true)) := Lib.hid (by
    rw [← hR]; unfold sekM; rw [ht, HG.out, ← hD, ← hD2]; simp only [Bool.or_eq_true, decide_eq_true_eq])
  have hne : ∀ W : World, (binOp .neq 25 (.agg #[.int .u8 ds.a, .int .u8 ds.b, .int .u8 ds.c, .int .u8 ds.d, .int .u8 ds.e, .int .u8 ds.f]) (.agg #[.int .u8 o.mc.a, .int .u8 o.mc.b, .int .u8 o.mc.c, .int .u8 o.mc.d, .int .u8 o.mc.e, .int .u8 o.mc.f])).run Tryz.prog W = .ok (.bool (!D)) W := fun W => by rw [← hD]; exact neq_macG ds o.mc W
  have hne2 : ∀ W : World, (binOp .neq 25 (.agg #[.int .u8 ds.a, .int .u8 ds.b, .int .u8 ds.c, .int .u8 ds.d, .int .u8 ds.e, .int .u8 ds.f]) (.agg #[.int .u8 1, .int .u8 128, .int .u8 194, .int .u8 0, .int .u8 0, .int .u8 GL])).run Tryz.prog W = .ok (.bool (!D2)) W := fun W => by rw [← hD2]; exact neq_macG ds ⟨1, 128, 194, 0, 0, GL⟩ W
  rw [hR]
  have C0 := Lib.hid (CM.box h #[.int .u8 sr.a, .int .u8 sr.b, .int .u8 sr.c, .int .u8 sr.d, .int .u8 sr.e, .int .u8 sr.f, .int .u8 ds.a, .int .u8 ds.b, .int .u8 ds.c, .int .u8 ds.d, .int .u8 ds.e, .int .u8 ds.f, .int .u8 a, .int .u8 b, .int .u8 c, .string (bs f), v])
  clear hR ht h hp hD hD2 hAT ho htok hlv hGL
  go_enter Tryz.func98, Tryz.ntmps98
  go_upto_region 1 with fail
  obtain ⟨w0, hw0⟩ : ∃ z, w.alloc (.cells #[.int .u8 sr.a, .int .u8 sr.b, .int .u8 sr.c, .int .u8 sr.d, .int .u8 sr.e, .int .u8 sr.f, .int .u8 ds.a, .int .u8 ds.b, .int .u8 ds.c, .int .u8 ds.d, .int .u8 ds.e, .int .u8 ds.f, .int .u8 a, .int .u8 b, .int .u8 c, .string (bs f), v] 142) = z := ⟨_, rfl⟩
  obtain ⟨B, hBB⟩ : ∃ z, w.heap.size = z := ⟨_, rfl⟩
  have HB := Lib.hid hBB
  rw [hw0] at C0 ⊢
  rw [hBB] at C0 ⊢
  clear hw0 hBB
  have c0 : w0.cell? ⟨x.p, 0, none⟩ = some (.int .u8 o.a.lv) := C0.out.mm.clv
  go_wp2_with fail
  with_reducible refine (TRC.out _).mono ?_
  rintro en wt ⟨rfl, hbt⟩
  have Ct := Lib.hid (C0.out.later hbt)
  clear hbt C0 c0
  go_upto_region 2 with fail
  have g1 := GB.new 25 wt #[.int .u8 1, .int .u8 128, .int .u8 194, .int .u8 0, .int .u8 0, .int .u8 GL]
  have C1 := Lib.hid (Ct.out.alloc (.cells #[.int .u8 1, .int .u8 128, .int .u8 194, .int .u8 0, .int .u8 0, .int .u8 GL] 25))
  obtain ⟨w1, hw1⟩ : ∃ z, wt.alloc (.cells #[.int .u8 1, .int .u8 128, .int .u8 194, .int .u8 0, .int .u8 0, .int .u8 GL] 25) = z := ⟨_, rfl⟩
  obtain ⟨t6, ht6⟩ : ∃ z, wt.heap.size = z := ⟨_, rfl⟩
  rw [hw1] at C1 g1 ⊢
  rw [ht6] at g1 ⊢
  have G1 := Lib.hid g1
  clear hw1 ht6 g1 Ct
  go_cut [34] (fun s34 wx => s34 = .bool (!(D || D2)) ∧ Hid (CM w wx o ov x s wv B #[.int .u8 sr.a, .int .u8 sr.b, .int .u8 sr.c, .int .u8 sr.d, .int .u8 sr.e, .int .u8 sr.f, .int .u8 ds.a, .int .u8 ds.b, .int .u8 ds.c, .int .u8 ds.d, .int .u8 ds.e, .int .u8 ds.f, .int .u8 a, .int .u8 b, .int .u8 c, .string (bs f), v]))
  case first =>
    have m0 : ∀ kk : Later w1, kk.out.cell? ⟨x.p, 5, none⟩ = some (.int .u8 o.mc.a) := fun kk => (C1.out.later kk.h).mac.1
    have m1 : ∀ kk : Later w1, kk.out.cell? ⟨x.p, 6, none⟩ = some (.int .u8 o.mc.b) := fun kk => (C1.out.later kk.h).mac.2.1
    have m2 : ∀ kk : Later w1, kk.out.cell? ⟨x.p, 7, none⟩ = some (.int .u8 o.mc.c) := fun kk => (C1.out.later kk.h).mac.2.2.1
    have m3 : ∀ kk : Later w1, kk.out.cell? ⟨x.p, 8, none⟩ = some (.int .u8 o.mc.d) := fun kk => (C1.out.later kk.h).mac.2.2.2.1
    have m4 : ∀ kk : Later w1, kk.out.cell? ⟨x.p, 9, none⟩ = some (.int .u8 o.mc.e) := fun kk => (C1.out.later kk.h).mac.2.2.2.2.1
    have m5 : ∀ kk : Later w1, kk.out.cell? ⟨x.p, 10, none⟩ = some (.int .u8 o.mc.f) := fun kk => (C1.out.later kk.h).mac.2.2.2.2.2
    have d0 : ∀ kk : Later w1, kk.out.cell? ⟨B, 6, none⟩ = some (.int .u8 ds.a) := fun kk => (C1.out.later kk.h).dst.1
    have d1 : ∀ kk : Later w1, kk.out.cell? ⟨B, 7, none⟩ = some (.int .u8 ds.b) := fun kk => (C1.out.later kk.h).dst.2.1
    have d2 : ∀ kk : Later w1, kk.out.cell? ⟨B, 8, none⟩ = some (.int .u8 ds.c) := fun kk => (C1.out.later kk.h).dst.2.2.1
    have d3 : ∀ kk : Later w1, kk.out.cell? ⟨B, 9, none⟩ = some (.int .u8 ds.d) := fun kk => (C1.out.later kk.h).dst.2.2.2.1
    have d4 : ∀ kk : Later w1, kk.out.cell? ⟨B, 10, none⟩ = some (.int .u8 ds.e) := fun kk => (C1.out.later kk.h).dst.2.2.2.2.1
    have d5 : ∀ kk : Later w1, kk.out.cell? ⟨B, 11, none⟩ = some (.int .u8 ds.f) := fun kk => (C1.out.later kk.h).dst.2.2.2.2.2
    have g0 : ∀ kk : Later w1, kk.out.cell? ⟨t6, 0, none⟩ = some (.int .u8 1) := fun kk => (G1.out.later kk.h).c 0 _ rfl
    have g1 : ∀ kk : Later w1, kk.out.cell? ⟨t6, 1, none⟩ = some (.int .u8 128) := fun kk => (G1.out.later kk.h).c 1 _ rfl
    have g2 : ∀ kk : Later w1, kk.out.cell? ⟨t6, 2, none⟩ = some (.int .u8 194) := fun kk => (G1.out.later kk.h).c 2 _ rfl
    have g3 : ∀ kk : Later w1, kk.out.cell? ⟨t6, 3, none⟩ = some (.int .u8 0) := fun kk => (G1.out.later kk.h).c 3 _ rfl
    have g4 : ∀ kk : Later w1, kk.out.cell? ⟨t6, 4, none⟩ = some (.int .u8 0) := fun kk => (G1.out.later kk.h).c 4 _ rfl
    have g5 : ∀ kk : Later w1, kk.out.cell? ⟨t6, 5, none⟩ = some (.int .u8 GL) := fun kk => (G1.out.later kk.h).c 5 _ rfl
    have LH := Lib.hid (fun kk : Later w1 => C1.out.later kk.h)
    cases D with
    | true =>
      refine wp_region_later (by kernel_rfl) (by kernel_rfl) ?_
      repeat (go_big_quiet_step (fail))
      refine wpQuiet_nil ?_
      rintro _ ⟨kk, rfl⟩
      go_wp2_with fail
      go_meet
      exact ⟨by trivial, Lib.hid (LH.out kk)⟩
    | false =>
      refine wp_region_later (by kernel_rfl) (by kernel_rfl) ?_
      repeat (go_big_quiet_step (fail))
      refine wpQuiet_nil ?_
      rintro _ ⟨kk, rfl⟩
      go_wp2_with fail
      go_meet
      exact ⟨by trivial, Lib.hid (LH.out kk)⟩
  case rest =>
    obtain ⟨rfl, HC⟩ := hcut
    clear C1 G1 hne2
    obtain ⟨DD, hDD⟩ : ∃ z, (D || D2) = z := ⟨_, rfl⟩
    rw [hDD] at HR ⊢
    clear hDD
    cases DD with
    | false =>
      have HZ := Lib.hid (show R = ([], true) by rw [HR.out]; rfl)
      clear HR
      go_wp2
      go_ret2
      exact ⟨.slice none 0 0, by first | (rw [HZ.out]; done) | (rw [HZ.out]; rfl), by rw [HZ.out]; exact Ow.none _ _, HC.out.mm, HC.out.fr⟩
    | true =>
      have HR2 := Lib.hid (show R = (if e = 0 ∧ tr.tt = o.mc ∧ tr.tl ≠ 0 ∧ (tr.fr.a % 2 == 1) = false then (sentR tr.fr (putRp (endP o tr)).1 (putRp (endP o tr)).2.1 (putRp (endP o tr)).2.2.1 (putRp (endP o tr)).2.2.2.1 (putRp (endP o tr)).2.2.2.2.1, true) else ([], decide (e = 0))) by rw [HR.out]; rfl)
      clear HR hne
      have p0 := HC.out.pdu.1
      have p1 := HC.out.pdu.2.1
      have p2 := HC.out.pdu.2.2.1
      have p3 := HC.out.pdu.2.2.2.1
      have p4 := HC.out.pdu.2.2.2.2
      go_wp2_with fail
      with_reducible refine (TK.out _).mono ?_
      rintro en w2 ⟨rfl, hb2⟩
      have C2 := Lib.hid (HC.out.later hb2)
      clear hb2 HC p0 p1 p2 p3 p4 TK
      have gz := GB.new 132 w2 #[.int .u8 0, .int .u32 0, .int .u8 0, .int .u8 0, .int .u8 0, .int .u8 0, .int .u8 0, .int .u8 0, .int .u8 0, .int .u8 0, .int .u8 0, .int .u8 0, .int .u8 0, .int .u8 0, .int .u8 0]
      have TH := Lib.hid (gz.there (n := AT.size) (Nat.le_of_eq SAT.out))
      go_upto_region 5 with ((with_reducible refine wpList_store_mid rfl 132 (.tmp 8) (.tmp 39) rfl w2.heap.size 0 AT ?hx ?hy TH.out IAT.out OAT.out ?_); (case hx => rfl); (case hy => rfl))
      have g3 := gz.store (A := AT) SAT.out.symm OAT.out
      have hbz : Below w2.heap.size w2 ((w2.alloc (.cells #[.int .u8 0, .int .u32 0, .int .u8 0, .int .u8 0, .int .u8 0, .int .u8 0, .int .u8 0, .int .u8 0, .int .u8 0, .int .u8 0, .int .u8 0, .int .u8 0, .int .u8 0, .int .u8 0, .int .u8 0] 132)).setCells w2.heap.size 0 AT.toList) := below_cellsG (Nat.le_refl _) _ _ _ ((Below.refl _ _).alloc (Nat.le_refl _) _)
      have C3 := Lib.hid (C2.out.later hbz)
      obtain ⟨t, htt⟩ : ∃ k, w2.heap.size = k := ⟨_, rfl⟩
      have HT := Lib.hid (CM.notD H0.out (k := t) (by rw [← htt]; exact C2.out.fr.size))
      obtain ⟨w3, hw3⟩ : ∃ k, (w2.alloc (.cells #[.int .u8 0, .int .u32 0, .int .u8 0, .int .u8 0, .int .u8 0, .int .u8 0, .int .u8 0, .int .u8 0, .int .u8 0, .int .u8 0, .int .u8 0, .int .u8 0, .int .u8 0, .int .u8 0, .int .u8 0] 132)).setCells w2.heap.size 0 AT.toList = k := ⟨_, rfl⟩
      rw [htt] at hw3
      rw [htt, hw3] at g3 C3 ⊢
      rw [HAT.out] at g3
      have G3 := Lib.hid g3
      clear gz g3 hbz hw3 htt TH C2
      obtain ⟨DT, hDT⟩ : ∃ D, decide (tr.tt = o.mc) = D := ⟨_, rfl⟩
      obtain ⟨G, hG⟩ : ∃ G, (tr.fr.a % 2 == 1) = G := ⟨_, rfl⟩
      obtain ⟨TL, hTL⟩ : ∃ z, tr.tl = z := ⟨_, rfl⟩
      obtain ⟨V, hV⟩ : ∃ V, (!decide (e = 0) || (!DT || (decide (TL = 0) || G))) = V := ⟨_, rfl⟩
      have HVV := Lib.hid hV
      have hneT : ∀ W : World, (binOp .neq 25 (.agg #[.int .u8 tr.tt.a, .int .u8 tr.tt.b, .int .u8 tr.tt.c, .int .u8 tr.tt.d, .int .u8 tr.tt.e, .int .u8 tr.tt.f]) (.agg #[.int .u8 o.mc.a, .int .u8 o.mc.b, .int .u8 o.mc.c, .int .u8 o.mc.d, .int .u8 o.mc.e, .int .u8 o.mc.f])).run Tryz.prog W = .ok (.bool (!DT)) W := fun W => by rw [← hDT]; exact neq_macG tr.tt o.mc W
      have GR : Hid (∀ w, Calls Tryz.prog 73 #[.agg #[.int .u8 tr.fr.a, .int .u8 tr.fr.b, .int .u8 tr.fr.c, .int .u8 tr.fr.d, .int .u8 tr.fr.e, .int .u8 tr.fr.f]] w fun en w' => en = .returned (.bool G) ∧ Below w.heap.size w w') := Lib.hid fun w => by rw [← hG]; exact groupM_any tr.fr HTOK.out.fr w
      have HRV : Hid (R = if V = false then (sentR tr.fr (putRp (endP o tr)).1 (putRp (endP o tr)).2.1 (putRp (endP o tr)).2.2.1 (putRp (endP o tr)).2.2.2.1 (putRp (endP o tr)).2.2.2.2.1, true) else ([], decide (e = 0))) := Lib.hid (by
        rw [HR2.out, ← HVV.out, ← hG, ← hDT, hTL]
        by_cases h1 : e = 0 <;> by_cases h2 : tr.tt = o.mc <;> by_cases h3 : TL = 0 <;> cases h4 : (tr.fr.a % 2 == 1) <;> simp [h1, h2, h3, h4])
      clear hDT hG HR2
      go_cut [62] (fun s62 wx => s62 = .bool V ∧ Hid (CM w wx o ov x s wv B #[.int .u8 sr.a, .int .u8 sr.b, .int .u8 sr.c, .int .u8 sr.d, .int .u8 sr.e, .int .u8 sr.f, .int .u8 ds.a, .int .u8 ds.b, .int .u8 ds.c, .int .u8 ds.d, .int .u8 ds.e, .int .u8 ds.f, .int .u8 a, .int .u8 b, .int .u8 c, .string (bs f), v] ∧ GB 132 wx t #[.int .u8 tr.lv, .int .u32 tr.nm, .int .u8 tr.tl, .int .u8 tr.fr.a, .int .u8 tr.fr.b, .int .u8 tr.fr.c, .int .u8 tr.fr.d, .int .u8 tr.fr.e, .int .u8 tr.fr.f, .int .u8 tr.tt.a, .int .u8 tr.tt.b, .int .u8 tr.tt.c, .int .u8 tr.tt.d, .int .u8 tr.tt.e, .int .u8 tr.tt.f]))
      case first =>
        have m0 : ∀ kk : Later w3, kk.out.cell? ⟨x.p, 5, none⟩ = some (.int .u8 o.mc.a) := fun kk => (C3.out.later kk.h).mac.1
        have m1 : ∀ kk : Later w3, kk.out.cell? ⟨x.p, 6, none⟩ = some (.int .u8 o.mc.b) := fun kk => (C3.out.later kk.h).mac.2.1
        have m2 : ∀ kk : Later w3, kk.out.cell? ⟨x.p, 7, none⟩ = some (.int .u8 o.mc.c) := fun kk => (C3.out.later kk.h).mac.2.2.1
        have m3 : ∀ kk : Later w3, kk.out.cell? ⟨x.p, 8, none⟩ = some (.int .u8 o.mc.d) := fun kk => (C3.out.later kk.h).mac.2.2.2.1
        have m4 : ∀ kk : Later w3, kk.out.cell? ⟨x.p, 9, none⟩ = some (.int .u8 o.mc.e) := fun kk => (C3.out.later kk.h).mac.2.2.2.2.1
        have m5 : ∀ kk : Later w3, kk.out.cell? ⟨x.p, 10, none⟩ = some (.int .u8 o.mc.f) := fun kk => (C3.out.later kk.h).mac.2.2.2.2.2
        have y0 : ∀ kk : Later w3, kk.out.cell? ⟨t, 9, none⟩ = some (.int .u8 tr.tt.a) := fun kk => (G3.out.later kk.h).c 9 _ rfl
        have y1 : ∀ kk : Later w3, kk.out.cell? ⟨t, 10, none⟩ = some (.int .u8 tr.tt.b) := fun kk => (G3.out.later kk.h).c 10 _ rfl
        have y2 : ∀ kk : Later w3, kk.out.cell? ⟨t, 11, none⟩ = some (.int .u8 tr.tt.c) := fun kk => (G3.out.later kk.h).c 11 _ rfl
        have y3 : ∀ kk : Later w3, kk.out.cell? ⟨t, 12, none⟩ = some (.int .u8 tr.tt.d) := fun kk => (G3.out.later kk.h).c 12 _ rfl
        have y4 : ∀ kk : Later w3, kk.out.cell? ⟨t, 13, none⟩ = some (.int .u8 tr.tt.e) := fun kk => (G3.out.later kk.h).c 13 _ rfl
        have y5 : ∀ kk : Later w3, kk.out.cell? ⟨t, 14, none⟩ = some (.int .u8 tr.tt.f) := fun kk => (G3.out.later kk.h).c 14 _ rfl
        have z0 : ∀ kk : Later w3, kk.out.cell? ⟨t, 3, none⟩ = some (.int .u8 tr.fr.a) := fun kk => (G3.out.later kk.h).c 3 _ rfl
        have z1 : ∀ kk : Later w3, kk.out.cell? ⟨t, 4, none⟩ = some (.int .u8 tr.fr.b) := fun kk => (G3.out.later kk.h).c 4 _ rfl
        have z2 : ∀ kk : Later w3, kk.out.cell? ⟨t, 5, none⟩ = some (.int .u8 tr.fr.c) := fun kk => (G3.out.later kk.h).c 5 _ rfl
        have z3 : ∀ kk : Later w3, kk.out.cell? ⟨t, 6, none⟩ = some (.int .u8 tr.fr.d) := fun kk => (G3.out.later kk.h).c 6 _ rfl
        have z4 : ∀ kk : Later w3, kk.out.cell? ⟨t, 7, none⟩ = some (.int .u8 tr.fr.e) := fun kk => (G3.out.later kk.h).c 7 _ rfl
        have z5 : ∀ kk : Later w3, kk.out.cell? ⟨t, 8, none⟩ = some (.int .u8 tr.fr.f) := fun kk => (G3.out.later kk.h).c 8 _ rfl
        have c2 : ∀ kk : Later w3, kk.out.cell? ⟨t, 2, none⟩ = some (.int .u8 TL) := fun kk => by rw [← hTL]; exact (G3.out.later kk.h).c 2 _ rfl
        have LH := Lib.hid (fun kk : Later w3 => And.intro (C3.out.later kk.h) (G3.out.later kk.h))
        clear hTL
        by_cases h1 : e = 0
        · have e0 : (e != 0) = false := by rw [h1]; rfl
          cases DT with
          | false =>
            have HZ := Lib.hid (show V = true by rw [← HVV.out]; simp)
            clear h1 hV
            refine wp_region_later (by kernel_rfl) (by kernel_rfl) ?_
            repeat (go_big_quiet_step (first | (go_at_call 73; exact Calls.later (GR.out _))))
            refine wpQuiet_nil ?_
            rintro _ ⟨kk, rfl⟩
            go_wp2_with fail
            go_meet
            exact ⟨by rw [HZ.out], Lib.hid (LH.out kk)⟩
          | true =>
            by_cases h3 : TL = 0
            · have e3 : (TL == 0) = true := by rw [h3]; rfl
              have HZ := Lib.hid (show V = true by rw [← HVV.out, decide_eq_true h3]; simp)
              clear h1 h3 hV
              refine wp_region_later (by kernel_rfl) (by kernel_rfl) ?_
              repeat (go_big_quiet_step (first | (go_at_call 73; exact Calls.later (GR.out _))))
              refine wpQuiet_nil ?_
              rintro _ ⟨kk, rfl⟩
              go_wp2_with fail
              go_meet
              exact ⟨by rw [HZ.out], Lib.hid (LH.out kk)⟩
            · have e3 : (TL == 0) = false := by rw [beq_eq_false_iff_ne]; exact h3
              have HZ := Lib.hid (show V = G by rw [← HVV.out, decide_eq_true h1, decide_eq_false h3]; rfl)
              clear h1 h3 hV
              refine wp_region_later (by kernel_rfl) (by kernel_rfl) ?_
              repeat (go_big_quiet_step (first | (go_at_call 73; exact Calls.later (GR.out _))))
              refine wpQuiet_nil ?_
              rintro _ ⟨kk, rfl⟩
              go_wp2_with fail
              go_meet
              exact ⟨by rw [HZ.out], Lib.hid (LH.out kk)⟩
        · have e0 : (e != 0) = true := by rw [bne_iff_ne]; exact h1
          have HZ := Lib.hid (show V = true by rw [← HVV.out, decide_eq_false h1]; rfl)
          clear h1 hV
          refine wp_region_later (by kernel_rfl) (by kernel_rfl) ?_
          repeat (go_big_quiet_step (first | (go_at_call 73; exact Calls.later (GR.out _))))
          refine wpQuiet_nil ?_
          rintro _ ⟨kk, rfl⟩
          go_wp2_with fail
          go_meet
          exact ⟨by rw [HZ.out], Lib.hid (LH.out kk)⟩
      case rest =>
        obtain ⟨rfl, HC⟩ := hcut
        have C4 := Lib.hid HC.out.1
        have G4 := Lib.hid HC.out.2
        clear HC C3 G3 hneT GR
        cases V with
        | true =>
          have HZ := Lib.hid (show R = ([], decide (e = 0)) by rw [HRV.out]; rfl)
          obtain ⟨E, hE⟩ : ∃ E, decide (e = 0) = E := ⟨_, rfl⟩
          have e1 : (e == 0) = E := by rw [← hE]; by_cases h : e = 0 <;> simp [h]
          rw [hE] at HZ
          clear HRV hE hV HVV
          go_wp2
          go_ret2
          exact ⟨.slice none 0 0, by first | (rw [HZ.out]; done) | (rw [HZ.out]; rfl), by rw [HZ.out]; exact Ow.none _ _, C4.out.mm, C4.out.fr⟩
        | false =>
          have hTL0 : TL ≠ 0 := by
            intro h
            have := HVV.out
            rw [decide_eq_true h] at this
            simp at this
          have HTL := Lib.hid hTL0
          have HZ := Lib.hid (show R = (sentR tr.fr (putRp (endP o tr)).1 (putRp (endP o tr)).2.1 (putRp (endP o tr)).2.2.1 (putRp (endP o tr)).2.2.2.1 (putRp (endP o tr)).2.2.2.2.1, true) by rw [HRV.out]; rfl)
          clear HRV hV HVV hTL0
          have hrok : (endP o tr).Ok := ⟨HOK.out.a.lv, HTOK.out.nm, by have h1 := HTOK.out.tl; have h2 := HTL.out; show 0 ≤ tr.tl - 1 ∧ tr.tl - 1 < 256; omega, HOK.out.mc, mc0_ok⟩
          have HPR := Lib.hid (putRp_ok hrok)
          have hw8 : IntKind.u8.wrap (tr.tl - 1) = tr.tl - 1 := IntWalk.u8_in _ (by have h1 := HTOK.out.tl; have h2 := HTL.out; omega)
          obtain ⟨⟨p1, p2, p3, P, L, pe⟩, hP⟩ : ∃ z, putRp (endP o tr) = z := ⟨_, rfl⟩
          have PR : Hid (∀ W, Calls Tryz.prog 128 #[.agg #[.int .u8 o.a.lv, .int .u32 tr.nm, .int .u8 (tr.tl - 1), .bool false, .bool true, .int .u8 o.mc.a, .int .u8 o.mc.b, .int .u8 o.mc.c, .int .u8 o.mc.d, .int .u8 o.mc.e, .int .u8 o.mc.f, .int .u8 0, .int .u8 0, .int .u8 0, .int .u8 0, .int .u8 0, .int .u8 0]] W fun en w' =>
              ∃ v', en = .returned (.tuple #[.agg #[.int .u8 p1, .int .u8 p2, .int .u8 p3, .string (bs P), v'], .int .i64 pe]) ∧ TlT w' W.heap.size v' L ∧ Below W.heap.size W w') := Lib.hid fun W => by
            have h := ltputR_any (endP o tr) W hrok
            rw [hP] at h; exact h
          rw [hP] at HZ HPR
          have HPQ : Hid (PdB p1 p2 p3 P L) := Lib.hid HPR.out
          obtain ⟨T1, hT1⟩ : ∃ z, tr.tl - 1 = z := ⟨_, rfl⟩
          rw [hT1] at PR hw8
          clear hrok hP HTL hTL
          go_upto_region 7 with fail
          go_cut [10] (fun s10 wx => ∃ (bx : Nat) (v' : Value), s10 = .pointer (some ⟨bx, 0, none⟩) ∧ Hid (PB 103 wx bx p1 p2 p3 P v' ∧ Tls wx v' L ∧ CM w wx o ov x s wv B #[.int .u8 sr.a, .int .u8 sr.b, .int .u8 sr.c, .int .u8 sr.d, .int .u8 sr.e, .int .u8 sr.f, .int .u8 ds.a, .int .u8 ds.b, .int .u8 ds.c, .int .u8 ds.d, .int .u8 ds.e, .int .u8 ds.f, .int .u8 a, .int .u8 b, .int .u8 c, .string (bs f), v] ∧ GB 132 wx t #[.int .u8 tr.lv, .int .u32 tr.nm, .int .u8 tr.tl, .int .u8 tr.fr.a, .int .u8 tr.fr.b, .int .u8 tr.fr.c, .int .u8 tr.fr.d, .int .u8 tr.fr.e, .int .u8 tr.fr.f, .int .u8 tr.tt.a, .int .u8 tr.tt.b, .int .u8 tr.tt.c, .int .u8 tr.tt.d, .int .u8 tr.tt.e, .int .u8 tr.tt.f]))
          case first =>
            have cd : CM w wc.drew o ov x s wv B #[.int .u8 sr.a, .int .u8 sr.b, .int .u8 sr.c, .int .u8 sr.d, .int .u8 sr.e, .int .u8 sr.f, .int .u8 ds.a, .int .u8 ds.b, .int .u8 ds.c, .int .u8 ds.d, .int .u8 ds.e, .int .u8 ds.f, .int .u8 a, .int .u8 b, .int .u8 c, .string (bs f), v] := C4.out.drew
            have gd : GB 132 wc.drew t #[.int .u8 tr.lv, .int .u32 tr.nm, .int .u8 tr.tl, .int .u8 tr.fr.a, .int .u8 tr.fr.b, .int .u8 tr.fr.c, .int .u8 tr.fr.d, .int .u8 tr.fr.e, .int .u8 tr.fr.f, .int .u8 tr.tt.a, .int .u8 tr.tt.b, .int .u8 tr.tt.c, .int .u8 tr.tt.d, .int .u8 tr.tt.e, .int .u8 tr.tt.f] := G4.out.drew
            have cal : ∀ ob, CM w (wc.alloc ob).drew o ov x s wv B #[.int .u8 sr.a, .int .u8 sr.b, .int .u8 sr.c, .int .u8 sr.d, .int .u8 sr.e, .int .u8 sr.f, .int .u8 ds.a, .int .u8 ds.b, .int .u8 ds.c, .int .u8 ds.d, .int .u8 ds.e, .int .u8 ds.f, .int .u8 a, .int .u8 b, .int .u8 c, .string (bs f), v] := fun ob => (C4.out.alloc ob).drew
            have gal : ∀ ob, GB 132 (wc.alloc ob).drew t #[.int .u8 tr.lv, .int .u32 tr.nm, .int .u8 tr.tl, .int .u8 tr.fr.a, .int .u8 tr.fr.b, .int .u8 tr.fr.c, .int .u8 tr.fr.d, .int .u8 tr.fr.e, .int .u8 tr.fr.f, .int .u8 tr.tt.a, .int .u8 tr.tt.b, .int .u8 tr.tt.c, .int .u8 tr.tt.d, .int .u8 tr.tt.e, .int .u8 tr.tt.f] := fun ob => (G4.out.later ((Below.refl _ _).alloc (Nat.le_refl _) ob)).drew
            have pzd : PB 103 (wc.alloc (.cells #[.int .u8 0, .int .u8 0, .int .u8 0, .string { data := #[] }, .slice none 0 0] 103)).drew wc.heap.size 0 0 0 [] (.slice none 0 0) := PB.zero 103 wc
            have hle : wc.heap.size ≤ wc.heap.size := Nat.le_refl _
            have hnt : wc.heap.size ≠ t := by have := G4.out.lt; omega
            go_region_held3 (fun W => W.cell? ⟨x.p, 0, none⟩ = some (.int .u8 o.a.lv) ∧ W.cell? ⟨t, 1, none⟩ = some (.int .u32 tr.nm) ∧ W.cell? ⟨t, 2, none⟩ = some (.int .u8 tr.tl) ∧ W.cell? ⟨x.p, 5, none⟩ = some (.int .u8 o.mc.a) ∧ W.cell? ⟨x.p, 6, none⟩ = some (.int .u8 o.mc.b) ∧ W.cell? ⟨x.p, 7, none⟩ = some (.int .u8 o.mc.c) ∧ W.cell? ⟨x.p, 8, none⟩ = some (.int .u8 o.mc.d) ∧ W.cell? ⟨x.p, 9, none⟩ = some (.int .u8 o.mc.e) ∧ W.cell? ⟨x.p, 10, none⟩ = some (.int .u8 o.mc.f))
              (first | with_reducible exact cd.nine gd | with_reducible exact (cal _).nine (gal _) | with_reducible exact cx.nine gx | with_reducible exact (cx.five C4.out hle _ _ _ _ _).nine (gx.five hnt _ _ _ _ _) | with_reducible exact (cx.alloc _).nine (gx.later ((Below.refl _ _).alloc (Nat.le_refl _) _)))
              (first
                | (go_at_call 128; (with_reducible refine (PR.out _).mono ?_); rintro en wx ⟨v', rfl, htl, hbx⟩; obtain ⟨ax, cx0, hvx, -⟩ := htl.tls.shape; obtain ⟨n1, hn1⟩ : ∃ n, L.length = n := ⟨_, rfl⟩; rw [hn1] at hvx; subst hvx; clear hn1
                   have cx : CM w wx o ov x s wv B #[.int .u8 sr.a, .int .u8 sr.b, .int .u8 sr.c, .int .u8 sr.d, .int .u8 sr.e, .int .u8 sr.f, .int .u8 ds.a, .int .u8 ds.b, .int .u8 ds.c, .int .u8 ds.d, .int .u8 ds.e, .int .u8 ds.f, .int .u8 a, .int .u8 b, .int .u8 c, .string (bs f), v] := by with_reducible exact cd.later hbx
                   have gx : GB 132 wx t #[.int .u8 tr.lv, .int .u32 tr.nm, .int .u8 tr.tl, .int .u8 tr.fr.a, .int .u8 tr.fr.b, .int .u8 tr.fr.c, .int .u8 tr.fr.d, .int .u8 tr.fr.e, .int .u8 tr.fr.f, .int .u8 tr.tt.a, .int .u8 tr.tt.b, .int .u8 tr.tt.c, .int .u8 tr.tt.d, .int .u8 tr.tt.e, .int .u8 tr.tt.f] := by with_reducible exact gd.later hbx
                   have zy := PB.zero 103 wx
                   have q0 := zy.c0; have q1 := zy.c1; have q2 := zy.c2; have q3 := zy.c3; have q4 := zy.c4; have f0 := zy.fr 0; have f1 := zy.fr 1; have f2 := zy.fr 2; have f3 := zy.fr 3; have f4 := zy.fr 4)
                | (go_at_call 128; (with_reducible refine (PR.out _).mono ?_); rintro en wx ⟨v', rfl, htl, hbx⟩; obtain ⟨ax, cx0, hvx, -⟩ := htl.tls.shape; obtain ⟨n1, hn1⟩ : ∃ n, L.length = n := ⟨_, rfl⟩; rw [hn1] at hvx; subst hvx; clear hn1
                   have cx : CM w wx o ov x s wv B #[.int .u8 sr.a, .int .u8 sr.b, .int .u8 sr.c, .int .u8 sr.d, .int .u8 sr.e, .int .u8 sr.f, .int .u8 ds.a, .int .u8 ds.b, .int .u8 ds.c, .int .u8 ds.d, .int .u8 ds.e, .int .u8 ds.f, .int .u8 a, .int .u8 b, .int .u8 c, .string (bs f), v] := by with_reducible exact (cal _).later hbx
                   have gx : GB 132 wx t #[.int .u8 tr.lv, .int .u32 tr.nm, .int .u8 tr.tl, .int .u8 tr.fr.a, .int .u8 tr.fr.b, .int .u8 tr.fr.c, .int .u8 tr.fr.d, .int .u8 tr.fr.e, .int .u8 tr.fr.f, .int .u8 tr.tt.a, .int .u8 tr.tt.b, .int .u8 tr.tt.c, .int .u8 tr.tt.d, .int .u8 tr.tt.e, .int .u8 tr.tt.f] := by with_reducible exact (gal _).later hbx
                   have zy : PB 103 wx wc.heap.size 0 0 0 [] (.slice none 0 0) := by with_reducible exact pzd.later hbx
                   have q0 := zy.c0; have q1 := zy.c1; have q2 := zy.c2; have q3 := zy.c3; have q4 := zy.c4; have f0 := zy.fr 0; have f1 := zy.fr 1; have f2 := zy.fr 2; have f3 := zy.fr 3; have f4 := zy.fr 4))
            all_goals
              go_wp2
              go_meet
              refine ⟨_, .slice ax n1 cx0, by with_reducible rfl, Lib.hid ⟨?ca, ?cb, ?cc, ?ce⟩⟩
              case ca => first | with_reducible exact PB.sets5G zy | exact PB.new _ _ _ _ _ _ _
              case cc => first | with_reducible exact cx.five C4.out hle _ _ _ _ _ | with_reducible exact cx.alloc _
              case ce => first | with_reducible exact gx.five hnt _ _ _ _ _ | with_reducible exact gx.later ((Below.refl _ _).alloc (Nat.le_refl _) _)
              case cb =>
                first
                  | with_reducible exact htl.tls.later ((Below.refl _ _).alloc (Nat.le_refl _) _)
                  | exact htl.tls.fr' (D := fun k => k = wc.heap.size) Fr.five (fun g hg e => by
                      have h1 := (World.ownsRow.lt htl g hg).1
                      rw [World.size_drew, World.size_alloc] at h1
                      have h2 : g = wc.heap.size := e
                      omega)
          case rest =>
            obtain ⟨bx, v', rfl, HC⟩ := hcut
            have C5 := Lib.hid HC.out.2.2.1
            have q0 := HC.out.1.c0
            have q1 := HC.out.1.c1
            have q2 := HC.out.1.c2
            have q3 := HC.out.1.c3
            have q4 := HC.out.1.c4
            have z0 : wc.cell? ⟨t, 3, none⟩ = some (.int .u8 tr.fr.a) := HC.out.2.2.2.c 3 _ rfl
            have z1 : wc.cell? ⟨t, 4, none⟩ = some (.int .u8 tr.fr.b) := HC.out.2.2.2.c 4 _ rfl
            have z2 : wc.cell? ⟨t, 5, none⟩ = some (.int .u8 tr.fr.c) := HC.out.2.2.2.c 5 _ rfl
            have z3 : wc.cell? ⟨t, 6, none⟩ = some (.int .u8 tr.fr.d) := HC.out.2.2.2.c 6 _ rfl
            have z4 : wc.cell? ⟨t, 7, none⟩ = some (.int .u8 tr.fr.e) := HC.out.2.2.2.c 7 _ rfl
            have z5 : wc.cell? ⟨t, 8, none⟩ = some (.int .u8 tr.fr.f) := HC.out.2.2.2.c 8 _ rfl
            have SN := Lib.hid (sent_any tr.fr v' p1 p2 p3 P L wc HC.out.2.1 (by have := HPQ.out.pl; omega) (fun y hy => by have := HPQ.out.ps y hy; unfold maxLen; omega) (by have := HPQ.out.pf; omega) HPQ.out.pm HPQ.out.pa HPQ.out.pb HPQ.out.pc)
            clear HC C4 G4 PR
            go_wp2_with fail
            with_reducible refine SN.out.mono ?_
            rintro en w9 ⟨u, rfl, hu, hb9⟩
            have C6 := Lib.hid (C5.out.later hb9)
            have HU : Hid (Ow 7 snC 55 w9 w.heap.size u (sentR tr.fr p1 p2 p3 P L)) := Lib.hid (Ow.mono hu C5.out.fr.size)
            clear hb9 C5 hu SN q0 q1 q2 q3 q4 z0 z1 z2 z3 z4 z5
            go_wp2
            go_ret2
            exact ⟨u, by first | (rw [HZ.out]; done) | (rw [HZ.out]; rfl), by rw [HZ.out]; exact HU.out, C6.out.mm, C6.out.fr⟩
end Go.Proofs.YtlkdfofpnmpidaaGreat
