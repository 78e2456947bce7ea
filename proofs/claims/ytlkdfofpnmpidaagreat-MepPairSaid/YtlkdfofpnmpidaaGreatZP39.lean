/- ZP39: the texts Y8 as one. -/
import Derived.Test.YtlkdfofpnmpidaaGreatZP34
import Derived.Test.YtlkdfofpnmpidaaGreatZP38
import Derived.Maps.AppendAt
import Derived.Deep.RegionLaw
/- mep: a trace's reply that is found. -/
set_option linter.unusedVariables false
set_option linter.unusedSimpArgs false
namespace Go.Proofs.YtlkdfofpnmpidaaGreat
open Go.RowKit

def fndM (o : Ow20) (s : Ms) (ds : Mc) (a b c : Int) (f : List UInt8) (l : List Th) : Ms × Bool :=
  if ds = o.mc then
    (if (tkRp a b c f l).2 = 0 ∧ s.tr ≠ 0 ∧ (tkRp a b c f l).1.nm = s.tr ∧ s.way.length < 32 then { s with way := s.way ++ [(tkRp a b c f l).1] } else s, decide ((tkRp a b c f l).2 = 0))
  else (s, true)
theorem rqC_one (r : Rp) : ∀ u ∈ rqC r, u.oneCell' = true := by
  intro u hu
  unfold rqC at hu
  simp only [List.mem_cons, List.not_mem_nil, or_false] at hu
  rcases hu with rfl | rfl | rfl | rfl | rfl | rfl | rfl | rfl | rfl | rfl | rfl | rfl | rfl | rfl | rfl | rfl | rfl <;> rfl
theorem info_rq : (Tryz.prog.info? 81).map (fun i => (i.zero, i.size, i.bytes)) = some (some (.agg #[.int .u8 0, .int .u32 0, .int .u8 0, .bool false, .bool false, .int .u8 0, .int .u8 0, .int .u8 0, .int .u8 0, .int .u8 0, .int .u8 0, .int .u8 0, .int .u8 0, .int .u8 0, .int .u8 0, .int .u8 0, .int .u8 0]), 17, 24) := by kernel_rfl
/-- A reply more lies in the row. -/
theorem MM.app {W w3 : World} {o : Ow20} {ov : Value} {x : Mp} {s : Ms} {wv v1 : Value} {l' : List Rp} (h : MM W o ov x s wv) (hf : Fr (fun k => wv.ownBlock = some k) W w3) (ho : Ow 17 rqC 81 w3 0 v1 l') (hat : v1.ownBlock = wv.ownBlock ∨ v1.ownBlock = some W.heap.size) :
    MM (w3.setCell ⟨x.p, 22, none⟩ v1) o ov x { s with way := l' } v1 := by
  have hs : Fr (fun k => k = x.p) w3 (w3.setCell ⟨x.p, 22, none⟩ v1) := Fr.set (D := fun k => k = x.p) rfl 22 v1
  have hg : ∀ g, v1.ownBlock = some g → g ≠ x.p ∧ g ≠ x.q ∧ g ≠ x.m ∧ g ≠ x.r := fun g hg => by
    rcases hat with e | e
    · exact h.wp g (by rw [← e]; exact hg)
    · have e2 : g = W.heap.size := by rw [e] at hg; injection hg with hg; exact hg.symm
      have h1 := h.gb.lt
      have h2 := h.mc.lt
      have h3 := h.mc.om.lt
      have h4 := GB.lt h.al
      omega
  refine ⟨?_, (h.mc.fr' hf (fun e => (h.wp _ e).2.1 rfl) (fun e => (h.wp _ e).2.2.1 rfl)).fr' hs (fun e => h.pq e.symm) (fun e => h.pm e.symm), GB.fr' (GB.fr' h.al hf (fun e => (h.wp _ e).2.2.2 rfl)) hs (fun e => h.pr e.symm), Ow.fr ho hs (fun g hg' => (hg g hg').1), h.pq, h.pm, h.pr, h.qr, h.mr, hg⟩
  exact (h.gb.fr' hf (fun e => (h.wp _ e).1 rfl)).set 22 v1
section
variable {K : Act → World → Prop} {Q : Exit → Act → World → Prop} {ops : Array Oper} {o : Oper} {a : Act} {w : World}
theorem step_append_rq {E : Prop} (hgd : o.guard = Option.none) (s x : Operand) (ho : o.op = .call { callee := .builtin .append, args := #[s, x], argTypes := #[67, 67] })
    (v : Value) (l : List Rp) (hs : a.eval s = v) (hown : Ow 17 rqC 81 w 0 v l) (g c : Nat) (hx : a.eval x = .slice (some ⟨g, 0, Option.none⟩) 1 c) (r : Rp) (hg : GB 81 w g #[.int .u8 r.lv, .int .u32 r.nm, .int .u8 r.tl, .bool r.st, .bool r.en, .int .u8 r.mi.a, .int .u8 r.mi.b, .int .u8 r.mi.c, .int .u8 r.mi.d, .int .u8 r.mi.e, .int .u8 r.mi.f, .int .u8 r.mo.a, .int .u8 r.mo.b, .int .u8 r.mo.c, .int .u8 r.mo.d, .int .u8 r.mo.e, .int .u8 r.mo.f]) (hsz : l.length ≤ 1000)
    (h : ∀ v' w', Ow 17 rqC 81 w' 0 v' (l ++ [r]) → w.grownBy w' v.ownBlock → (v'.ownBlock = v.ownBlock ∨ v'.ownBlock = some w.heap.size) → K (a.put o.dst v') w') :
    if Region.wanted o (yielded ops a.tmps) = true then Oper.wp Tryz.prog o a w K Q else E := by
  rw [if_pos (by simp [Region.wanted, hgd])]
  obtain ⟨i, hi, hzz⟩ := Option.map_eq_some_iff.1 info_rq
  simp only [Prod.mk.injEq] at hzz
  obtain ⟨hz, hsz1, hby⟩ := hzz
  obtain ⟨v', w', hr, h2, h3, h4, h5⟩ := run_append_own_at (P := Tryz.prog) w 0 67 o.type 81 i _ 17 24 Tryz.underlying67 hi hz hsz1 hby rfl (by decide) v l.length (l.flatMap rqC) hown ⟨g, 0, Option.none⟩ 1 c (rqC r) rfl
    (fun j u hj => by rw [Go.WideShapes.add_plain, Nat.zero_add]; exact hg.c j u (by simpa [rqC] using hj)) (rqC_one r) (by unfold maxLen; omega) (by omega) (Nat.zero_le _)
  unfold Oper.wp execOp
  simp only [ho, resolve, invoke, builtin, Sem.run_bind, Sem.run_pure, Result.andThen_ok, List.map_toArray, List.map_cons, List.map_nil, hs, hx, hr]
  refine h v' w' ?_ h3 h5
  unfold Ow
  rw [List.length_append, List.flatMap_append]
  simpa using h2
end
set_option maxRecDepth 100000 in
set_option maxHeartbeats 8000000 in
theorem mfound_any (o : Ow20) (ov : Value) (x : Mp) (s : Ms) (wv : Value) (sr ds : Mc) (a b c : Int) (f : List UInt8) (v : Value) (l : List Th) (w : World) (h : MM w o ov x s wv)
    (hp : PdB a b c f l) (hv : Tls w v l) (hwl : s.way.length ≤ 32) : Calls Tryz.prog 99 #[.pointer (some ⟨x.p, 0, none⟩), .agg #[.int .u8 sr.a, .int .u8 sr.b, .int .u8 sr.c, .int .u8 sr.d, .int .u8 sr.e, .int .u8 sr.f, .int .u8 ds.a, .int .u8 ds.b, .int .u8 ds.c, .int .u8 ds.d, .int .u8 ds.e, .int .u8 ds.f, .int .u8 a, .int .u8 b, .int .u8 c, .string (bs f), v]] w fun en w' =>
    en = .returned (.tuple #[.slice none 0 0, .bool (fndM o s ds a b c f l).2]) ∧ ∃ wv', MM w' o ov x (fndM o s ds a b c f l).1 wv' ∧ Fr (x.D wv) w w' ∧ ∀ g, wv'.ownBlock = some g → wv.ownBlock = some g ∨ w.heap.size ≤ g := by
  have HP := Lib.hid hp
  have HV := Lib.hid hv
  have H0 := Lib.hid h
  obtain ⟨⟨r, e⟩, ht⟩ : ∃ z, tkRp a b c f l = z := ⟨_, rfl⟩
  obtain ⟨AR, hAR⟩ : ∃ A : Array Value, A = #[.int .u8 r.lv, .int .u32 r.nm, .int .u8 r.tl, .bool r.st, .bool r.en, .int .u8 r.mi.a, .int .u8 r.mi.b, .int .u8 r.mi.c, .int .u8 r.mi.d, .int .u8 r.mi.e, .int .u8 r.mi.f, .int .u8 r.mo.a, .int .u8 r.mo.b, .int .u8 r.mo.c, .int .u8 r.mo.d, .int .u8 r.mo.e, .int .u8 r.mo.f] := ⟨_, rfl⟩
  have HAR := Lib.hid hAR
  have SAR := Lib.hid (show AR.size = 17 by rw [hAR]; rfl)
  have OAR := Lib.hid (show AR.all (·.oneCell') = true by rw [hAR]; simp [Value.oneCell'])
  have IAR := Lib.hid (show (Tryz.prog.info? 81).map (·.size) = some AR.size by rw [SAR.out]; kernel_rfl)
  have TK : Hid (∀ W, Tls W v l → Calls Tryz.prog 129 #[.agg #[.int .u8 a, .int .u8 b, .int .u8 c, .string (bs f), v]] W fun en w' => en = .returned (.tuple #[.agg AR, .int .i64 e]) ∧ Below W.heap.size W w') := Lib.hid fun W hW => by
    have h := lttakeR_any v l a b c f W HP.out.pf HP.out.pc hW HP.out.pl (fun y hy => by have := HP.out.ps y hy; omega)
    rw [ht] at h; rw [HAR.out]; exact h
  obtain ⟨D, hD⟩ : ∃ D, decide (ds = o.mc) = D := ⟨_, rfl⟩
  obtain ⟨R, hR⟩ : ∃ R, fndM o s ds a b c f l = R := ⟨_, rfl⟩
  have HR : Hid (R = if D = true then (if e = 0 ∧ s.tr ≠ 0 ∧ r.nm = s.tr ∧ s.way.length < 32 then { s with way := s.way ++ [r] } else s, decide (e = 0)) else (s, true)) := Lib.hid (by
    rw [← hR]; unfold fndM; rw [ht, ← hD]; simp only [decide_eq_true_eq])
  have hne : ∀ W : World, (binOp .neq 25 (.agg #[.int .u8 ds.a, .int .u8 ds.b, .int .u8 ds.c, .int .u8 ds.d, .int .u8 ds.e, .int .u8 ds.f]) (.agg #[.int .u8 o.mc.a, .int .u8 o.mc.b, .int .u8 o.mc.c, .int .u8 o.mc.d, .int .u8 o.mc.e, .int .u8 o.mc.f])).run Tryz.prog W = .ok (.bool (!D)) W := fun W => by rw [← hD]; exact neq_macG ds o.mc W
  rw [hR]
  obtain ⟨wa, wc0, hwv, -⟩ := (h.wy.rw rqC_len).shape
  obtain ⟨wn, hwn⟩ : ∃ n, s.way.length = n := ⟨_, rfl⟩
  rw [hwn] at hwv
  subst hwv
  have HWN := Lib.hid (And.intro hwn (show wn ≤ 32 by omega))
  have C0 := Lib.hid (CM.box h #[.int .u8 sr.a, .int .u8 sr.b, .int .u8 sr.c, .int .u8 sr.d, .int .u8 sr.e, .int .u8 sr.f, .int .u8 ds.a, .int .u8 ds.b, .int .u8 ds.c, .int .u8 ds.d, .int .u8 ds.e, .int .u8 ds.f, .int .u8 a, .int .u8 b, .int .u8 c, .string (bs f), v])
  clear hR ht h hp hv hD hAR hwn hwl
  go_enter Tryz.func99, Tryz.ntmps99
  go_upto_region 1 with fail
  have hb0 : Below w.heap.size w (w.alloc (.cells #[.int .u8 sr.a, .int .u8 sr.b, .int .u8 sr.c, .int .u8 sr.d, .int .u8 sr.e, .int .u8 sr.f, .int .u8 ds.a, .int .u8 ds.b, .int .u8 ds.c, .int .u8 ds.d, .int .u8 ds.e, .int .u8 ds.f, .int .u8 a, .int .u8 b, .int .u8 c, .string (bs f), v] 142)) := (Below.refl _ _).alloc (Nat.le_refl _) _
  obtain ⟨w0, hw0⟩ : ∃ z, w.alloc (.cells #[.int .u8 sr.a, .int .u8 sr.b, .int .u8 sr.c, .int .u8 sr.d, .int .u8 sr.e, .int .u8 sr.f, .int .u8 ds.a, .int .u8 ds.b, .int .u8 ds.c, .int .u8 ds.d, .int .u8 ds.e, .int .u8 ds.f, .int .u8 a, .int .u8 b, .int .u8 c, .string (bs f), v] 142) = z := ⟨_, rfl⟩
  obtain ⟨B, hBB⟩ : ∃ z, w.heap.size = z := ⟨_, rfl⟩
  have HB := Lib.hid hBB
  rw [hw0] at C0 hb0 ⊢
  rw [hBB] at C0 ⊢
  have T0 := Lib.hid (HV.out.later hb0)
  clear hw0 hBB hb0 HV
  go_cut [15] (fun s15 wx => s15 = .bool (!D) ∧ Hid (CM w wx o ov x s (.slice wa wn wc0) B #[.int .u8 sr.a, .int .u8 sr.b, .int .u8 sr.c, .int .u8 sr.d, .int .u8 sr.e, .int .u8 sr.f, .int .u8 ds.a, .int .u8 ds.b, .int .u8 ds.c, .int .u8 ds.d, .int .u8 ds.e, .int .u8 ds.f, .int .u8 a, .int .u8 b, .int .u8 c, .string (bs f), v] ∧ Below w0.heap.size w0 wx))
  case first =>
    have LX : ∀ kk : Later w0, CM w kk.out o ov x s (.slice wa wn wc0) B #[.int .u8 sr.a, .int .u8 sr.b, .int .u8 sr.c, .int .u8 sr.d, .int .u8 sr.e, .int .u8 sr.f, .int .u8 ds.a, .int .u8 ds.b, .int .u8 ds.c, .int .u8 ds.d, .int .u8 ds.e, .int .u8 ds.f, .int .u8 a, .int .u8 b, .int .u8 c, .string (bs f), v] := fun kk => C0.out.later kk.h
    have m0 : ∀ kk : Later w0, kk.out.cell? ⟨x.p, 5, none⟩ = some (.int .u8 o.mc.a) := fun kk => (LX kk).mac.1
    have m1 : ∀ kk : Later w0, kk.out.cell? ⟨x.p, 6, none⟩ = some (.int .u8 o.mc.b) := fun kk => (LX kk).mac.2.1
    have m2 : ∀ kk : Later w0, kk.out.cell? ⟨x.p, 7, none⟩ = some (.int .u8 o.mc.c) := fun kk => (LX kk).mac.2.2.1
    have m3 : ∀ kk : Later w0, kk.out.cell? ⟨x.p, 8, none⟩ = some (.int .u8 o.mc.d) := fun kk => (LX kk).mac.2.2.2.1
    have m4 : ∀ kk : Later w0, kk.out.cell? ⟨x.p, 9, none⟩ = some (.int .u8 o.mc.e) := fun kk => (LX kk).mac.2.2.2.2.1
    have m5 : ∀ kk : Later w0, kk.out.cell? ⟨x.p, 10, none⟩ = some (.int .u8 o.mc.f) := fun kk => (LX kk).mac.2.2.2.2.2
    have d0 : ∀ kk : Later w0, kk.out.cell? ⟨B, 6, none⟩ = some (.int .u8 ds.a) := fun kk => (LX kk).dst.1
    have d1 : ∀ kk : Later w0, kk.out.cell? ⟨B, 7, none⟩ = some (.int .u8 ds.b) := fun kk => (LX kk).dst.2.1
    have d2 : ∀ kk : Later w0, kk.out.cell? ⟨B, 8, none⟩ = some (.int .u8 ds.c) := fun kk => (LX kk).dst.2.2.1
    have d3 : ∀ kk : Later w0, kk.out.cell? ⟨B, 9, none⟩ = some (.int .u8 ds.d) := fun kk => (LX kk).dst.2.2.2.1
    have d4 : ∀ kk : Later w0, kk.out.cell? ⟨B, 10, none⟩ = some (.int .u8 ds.e) := fun kk => (LX kk).dst.2.2.2.2.1
    have d5 : ∀ kk : Later w0, kk.out.cell? ⟨B, 11, none⟩ = some (.int .u8 ds.f) := fun kk => (LX kk).dst.2.2.2.2.2
    have LH := Lib.hid LX
    clear LX
    refine wp_region_later (by kernel_rfl) (by kernel_rfl) ?_
    repeat (go_big_quiet_step (fail))
    refine wpQuiet_nil ?_
    rintro _ ⟨kk, rfl⟩
    go_wp2_with fail
    go_meet
    exact ⟨rfl, Lib.hid ⟨LH.out kk, kk.h⟩⟩
  case rest =>
    obtain ⟨rfl, HC⟩ := hcut
    have C1 := Lib.hid HC.out.1
    have T1 := Lib.hid (T0.out.later HC.out.2)
    clear HC C0 T0 hne
    cases D with
    | false =>
      have HZ := Lib.hid (show R = (s, true) by rw [HR.out]; rfl)
      clear HR
      go_wp2
      go_ret2
      exact ⟨by first | (rw [HZ.out]; done) | (rw [HZ.out]; rfl), .slice wa wn wc0, by rw [HZ.out]; exact C1.out.mm, C1.out.fr, fun g hg => .inl hg⟩
    | true =>
      have HR2 := Lib.hid (show R = (if e = 0 ∧ s.tr ≠ 0 ∧ r.nm = s.tr ∧ s.way.length < 32 then { s with way := s.way ++ [r] } else s, decide (e = 0)) by rw [HR.out]; rfl)
      clear HR
      have p0 := C1.out.pdu.1
      have p1 := C1.out.pdu.2.1
      have p2 := C1.out.pdu.2.2.1
      have p3 := C1.out.pdu.2.2.2.1
      have p4 := C1.out.pdu.2.2.2.2
      go_wp2_with fail
      with_reducible refine (TK.out _ T1.out).mono ?_
      rintro en w1 ⟨rfl, hb1⟩
      have C2 := Lib.hid (C1.out.later hb1)
      clear hb1 C1 T1 p0 p1 p2 p3 p4 TK
      have gz := GB.new 81 w1 #[.int .u8 0, .int .u32 0, .int .u8 0, .bool false, .bool false, .int .u8 0, .int .u8 0, .int .u8 0, .int .u8 0, .int .u8 0, .int .u8 0, .int .u8 0, .int .u8 0, .int .u8 0, .int .u8 0, .int .u8 0, .int .u8 0]
      have TH := Lib.hid (gz.there (n := AR.size) (Nat.le_of_eq SAR.out))
      go_upto_region 4 with ((with_reducible refine wpList_store_mid rfl 81 (.tmp 6) (.tmp 20) rfl w1.heap.size 0 AR ?hx ?hy TH.out IAR.out OAR.out ?_); (case hx => rfl); (case hy => rfl))
      have g3 := gz.store (A := AR) SAR.out.symm OAR.out
      have hbz : Below w1.heap.size w1 ((w1.alloc (.cells #[.int .u8 0, .int .u32 0, .int .u8 0, .bool false, .bool false, .int .u8 0, .int .u8 0, .int .u8 0, .int .u8 0, .int .u8 0, .int .u8 0, .int .u8 0, .int .u8 0, .int .u8 0, .int .u8 0, .int .u8 0, .int .u8 0] 81)).setCells w1.heap.size 0 AR.toList) := below_cellsG (Nat.le_refl _) _ _ _ ((Below.refl _ _).alloc (Nat.le_refl _) _)
      have C3 := Lib.hid (C2.out.later hbz)
      obtain ⟨t, htt⟩ : ∃ k, w1.heap.size = k := ⟨_, rfl⟩
      have HT := Lib.hid (CM.notD H0.out (k := t) (by rw [← htt]; exact C2.out.fr.size))
      obtain ⟨w2, hw2⟩ : ∃ k, (w1.alloc (.cells #[.int .u8 0, .int .u32 0, .int .u8 0, .bool false, .bool false, .int .u8 0, .int .u8 0, .int .u8 0, .int .u8 0, .int .u8 0, .int .u8 0, .int .u8 0, .int .u8 0, .int .u8 0, .int .u8 0, .int .u8 0, .int .u8 0] 81)).setCells w1.heap.size 0 AR.toList = k := ⟨_, rfl⟩
      rw [htt] at hw2
      rw [htt, hw2] at g3 C3 ⊢
      rw [HAR.out] at g3
      have G3 := Lib.hid g3
      clear gz g3 hbz hw2 htt TH C2
      obtain ⟨E, hE⟩ : ∃ E, decide (e = 0) = E := ⟨_, rfl⟩
      have e1 : (e == 0) = E := by rw [← hE]; by_cases h : e = 0 <;> simp [h]
      obtain ⟨LP, hLP⟩ : ∃ z, s.tr = z := ⟨_, rfl⟩
      obtain ⟨nm, hnm⟩ : ∃ z, r.nm = z := ⟨_, rfl⟩
      obtain ⟨V, hV⟩ : ∃ V, (decide (e = 0) && (!decide (LP = 0) && (decide (nm = LP) && decide (wn < 32)))) = V := ⟨_, rfl⟩
      have HVV := Lib.hid hV
      go_cut [47] (fun s47 wx => s47 = .bool V ∧ Hid (CM w wx o ov x s (.slice wa wn wc0) B #[.int .u8 sr.a, .int .u8 sr.b, .int .u8 sr.c, .int .u8 sr.d, .int .u8 sr.e, .int .u8 sr.f, .int .u8 ds.a, .int .u8 ds.b, .int .u8 ds.c, .int .u8 ds.d, .int .u8 ds.e, .int .u8 ds.f, .int .u8 a, .int .u8 b, .int .u8 c, .string (bs f), v] ∧ GB 81 wx t #[.int .u8 r.lv, .int .u32 r.nm, .int .u8 r.tl, .bool r.st, .bool r.en, .int .u8 r.mi.a, .int .u8 r.mi.b, .int .u8 r.mi.c, .int .u8 r.mi.d, .int .u8 r.mi.e, .int .u8 r.mi.f, .int .u8 r.mo.a, .int .u8 r.mo.b, .int .u8 r.mo.c, .int .u8 r.mo.d, .int .u8 r.mo.e, .int .u8 r.mo.f]))
      case first =>
        have c21 : ∀ kk : Later w2, kk.out.cell? ⟨x.p, 21, none⟩ = some (.int .u32 LP) := fun kk => by rw [← hLP]; exact (C3.out.later kk.h).mm.ctr
        have c22 : ∀ kk : Later w2, kk.out.cell? ⟨x.p, 22, none⟩ = some (.slice wa wn wc0) := fun kk => (C3.out.later kk.h).mm.cway
        have cn : ∀ kk : Later w2, kk.out.cell? ⟨t, 1, none⟩ = some (.int .u32 nm) := fun kk => by rw [← hnm]; exact (G3.out.later kk.h).c 1 _ rfl
        have LH := Lib.hid (fun kk : Later w2 => And.intro (C3.out.later kk.h) (G3.out.later kk.h))
        clear hLP hnm
        by_cases h1 : e = 0
        · have e0 : (e == 0) = true := by rw [h1]; rfl
          by_cases h2 : LP = 0
          · have e2 : (LP != 0) = false := by rw [h2]; rfl
            have HZ := Lib.hid (show V = false by rw [← HVV.out, decide_eq_true h2]; simp)
            clear h1 h2 hV hE e1
            refine wp_region_later (by kernel_rfl) (by kernel_rfl) ?_
            repeat (go_big_quiet_step (fail))
            refine wpQuiet_nil ?_
            rintro _ ⟨kk, rfl⟩
            go_wp2_with fail
            go_meet
            exact ⟨by rw [HZ.out], Lib.hid (LH.out kk)⟩
          · have e2 : (LP != 0) = true := by rw [bne_iff_ne]; exact h2
            by_cases h3 : nm = LP
            · have e3 : (nm == LP) = true := by rw [h3]; simp
              obtain ⟨N, hN⟩ : ∃ N, decide (wn < 32) = N := ⟨_, rfl⟩
              have e4 : decide ((wn : Int) < 32) = N := by rw [← hN]; by_cases h : wn < 32 <;> simp [h] <;> omega
              have HZ := Lib.hid (show V = N by rw [← HVV.out, decide_eq_true h1, decide_eq_false h2, decide_eq_true h3, ← hN]; rfl)
              clear h1 h2 h3 hV hE e1 hN
              refine wp_region_later (by kernel_rfl) (by kernel_rfl) ?_
              repeat (go_big_quiet_step (fail))
              refine wpQuiet_nil ?_
              rintro _ ⟨kk, rfl⟩
              go_wp2_with fail
              go_meet
              exact ⟨by rw [HZ.out], Lib.hid (LH.out kk)⟩
            · have e3 : (nm == LP) = false := by rw [beq_eq_false_iff_ne]; exact h3
              have HZ := Lib.hid (show V = false by rw [← HVV.out, decide_eq_false h3]; simp)
              clear h1 h2 h3 hV hE e1
              refine wp_region_later (by kernel_rfl) (by kernel_rfl) ?_
              repeat (go_big_quiet_step (fail))
              refine wpQuiet_nil ?_
              rintro _ ⟨kk, rfl⟩
              go_wp2_with fail
              go_meet
              exact ⟨by rw [HZ.out], Lib.hid (LH.out kk)⟩
        · have e0 : (e == 0) = false := by rw [beq_eq_false_iff_ne]; exact h1
          have HZ := Lib.hid (show V = false by rw [← HVV.out, decide_eq_false h1]; simp)
          clear h1 hV hE e1
          refine wp_region_later (by kernel_rfl) (by kernel_rfl) ?_
          repeat (go_big_quiet_step (fail))
          refine wpQuiet_nil ?_
          rintro _ ⟨kk, rfl⟩
          go_wp2_with fail
          go_meet
          exact ⟨by rw [HZ.out], Lib.hid (LH.out kk)⟩
      case rest =>
        obtain ⟨rfl, HC⟩ := hcut
        have C4 := Lib.hid HC.out.1
        have G4 := Lib.hid HC.out.2
        have HRV : Hid (R = (if V = true then { s with way := s.way ++ [r] } else s, E)) := Lib.hid (by
          rw [HR2.out, ← HVV.out, ← hE, ← hLP, ← hnm, HWN.out.1]
          congr 1
          by_cases h1 : e = 0 <;> by_cases h2 : s.tr = 0 <;> by_cases h3 : r.nm = s.tr <;> by_cases h4 : wn < 32 <;> simp [h1, h2, h3, h4])
        clear HC C3 G3 HR2 hLP hV HVV hE hnm
        cases V with
        | false =>
          have HZ := Lib.hid (show R = (s, E) by rw [HRV.out]; rfl)
          clear HRV
          go_wp2
          go_ret2
          exact ⟨by first | (rw [HZ.out]; done) | (rw [HZ.out]; rfl), .slice wa wn wc0, by rw [HZ.out]; exact C4.out.mm, C4.out.fr, fun g hg => .inl hg⟩
        | true =>
          have HZ := Lib.hid (show R = ({ s with way := s.way ++ [r] }, E) by rw [HRV.out]; rfl)
          clear HRV
          go_upto_region 5 with fail
          go_cut [] (fun wx => Hid (∃ v1, MM wx o ov x { s with way := s.way ++ [r] } v1 ∧ Fr (x.D (.slice wa wn wc0)) w wx ∧ ∀ g, v1.ownBlock = some g → (Value.slice wa wn wc0).ownBlock = some g ∨ w.heap.size ≤ g))
          case first =>
            have md : MM (wc.alloc (.cells #[.int .u8 r.lv, .int .u32 r.nm, .int .u8 r.tl, .bool r.st, .bool r.en, .int .u8 r.mi.a, .int .u8 r.mi.b, .int .u8 r.mi.c, .int .u8 r.mi.d, .int .u8 r.mi.e, .int .u8 r.mi.f, .int .u8 r.mo.a, .int .u8 r.mo.b, .int .u8 r.mo.c, .int .u8 r.mo.d, .int .u8 r.mo.e, .int .u8 r.mo.f] 81)).drew o ov x s (.slice wa wn wc0) := (C4.out.mm.alloc _).drew
            have gZ : GB 81 (wc.alloc (.cells #[.int .u8 r.lv, .int .u32 r.nm, .int .u8 r.tl, .bool r.st, .bool r.en, .int .u8 r.mi.a, .int .u8 r.mi.b, .int .u8 r.mi.c, .int .u8 r.mi.d, .int .u8 r.mi.e, .int .u8 r.mi.f, .int .u8 r.mo.a, .int .u8 r.mo.b, .int .u8 r.mo.c, .int .u8 r.mo.d, .int .u8 r.mo.e, .int .u8 r.mo.f] 81)).drew wc.heap.size #[.int .u8 r.lv, .int .u32 r.nm, .int .u8 r.tl, .bool r.st, .bool r.en, .int .u8 r.mi.a, .int .u8 r.mi.b, .int .u8 r.mi.c, .int .u8 r.mi.d, .int .u8 r.mi.e, .int .u8 r.mi.f, .int .u8 r.mo.a, .int .u8 r.mo.b, .int .u8 r.mo.c, .int .u8 r.mo.d, .int .u8 r.mo.e, .int .u8 r.mo.f] := GB.new _ _ _
            have fd : Fr (x.D (.slice wa wn wc0)) w (wc.alloc (.cells #[.int .u8 r.lv, .int .u32 r.nm, .int .u8 r.tl, .bool r.st, .bool r.en, .int .u8 r.mi.a, .int .u8 r.mi.b, .int .u8 r.mi.c, .int .u8 r.mi.d, .int .u8 r.mi.e, .int .u8 r.mi.f, .int .u8 r.mo.a, .int .u8 r.mo.b, .int .u8 r.mo.c, .int .u8 r.mo.d, .int .u8 r.mo.e, .int .u8 r.mo.f] 81)).drew := C4.out.fr.trans (.of_below ((Below.refl wc.heap.size wc).alloc (Nat.le_refl _) _).drew)
            have gd : GB 81 wc.drew t #[.int .u8 r.lv, .int .u32 r.nm, .int .u8 r.tl, .bool r.st, .bool r.en, .int .u8 r.mi.a, .int .u8 r.mi.b, .int .u8 r.mi.c, .int .u8 r.mi.d, .int .u8 r.mi.e, .int .u8 r.mi.f, .int .u8 r.mo.a, .int .u8 r.mo.b, .int .u8 r.mo.c, .int .u8 r.mo.d, .int .u8 r.mo.e, .int .u8 r.mo.f] := G4.out.drew
            have c22 : wc.drew.cell? ⟨x.p, 22, none⟩ = some (.slice wa wn wc0) := C4.out.mm.drew.cway
            have c22' : (wc.alloc (.cells #[.int .u8 r.lv, .int .u32 r.nm, .int .u8 r.tl, .bool r.st, .bool r.en, .int .u8 r.mi.a, .int .u8 r.mi.b, .int .u8 r.mi.c, .int .u8 r.mi.d, .int .u8 r.mi.e, .int .u8 r.mi.f, .int .u8 r.mo.a, .int .u8 r.mo.b, .int .u8 r.mo.c, .int .u8 r.mo.d, .int .u8 r.mo.e, .int .u8 r.mo.f] 81)).drew.cell? ⟨x.p, 22, none⟩ = some (.slice wa wn wc0) := md.cway
            have k0 : wc.drew.cell? ⟨t, 0, none⟩ = some (.int .u8 r.lv) := gd.c 0 _ rfl
            have k1 : wc.drew.cell? ⟨t, 1, none⟩ = some (.int .u32 r.nm) := gd.c 1 _ rfl
            have k2 : wc.drew.cell? ⟨t, 2, none⟩ = some (.int .u8 r.tl) := gd.c 2 _ rfl
            have k3 : wc.drew.cell? ⟨t, 3, none⟩ = some (.bool r.st) := gd.c 3 _ rfl
            have k4 : wc.drew.cell? ⟨t, 4, none⟩ = some (.bool r.en) := gd.c 4 _ rfl
            have k5 : wc.drew.cell? ⟨t, 5, none⟩ = some (.int .u8 r.mi.a) := gd.c 5 _ rfl
            have k6 : wc.drew.cell? ⟨t, 6, none⟩ = some (.int .u8 r.mi.b) := gd.c 6 _ rfl
            have k7 : wc.drew.cell? ⟨t, 7, none⟩ = some (.int .u8 r.mi.c) := gd.c 7 _ rfl
            have k8 : wc.drew.cell? ⟨t, 8, none⟩ = some (.int .u8 r.mi.d) := gd.c 8 _ rfl
            have k9 : wc.drew.cell? ⟨t, 9, none⟩ = some (.int .u8 r.mi.e) := gd.c 9 _ rfl
            have k10 : wc.drew.cell? ⟨t, 10, none⟩ = some (.int .u8 r.mi.f) := gd.c 10 _ rfl
            have k11 : wc.drew.cell? ⟨t, 11, none⟩ = some (.int .u8 r.mo.a) := gd.c 11 _ rfl
            have k12 : wc.drew.cell? ⟨t, 12, none⟩ = some (.int .u8 r.mo.b) := gd.c 12 _ rfl
            have k13 : wc.drew.cell? ⟨t, 13, none⟩ = some (.int .u8 r.mo.c) := gd.c 13 _ rfl
            have k14 : wc.drew.cell? ⟨t, 14, none⟩ = some (.int .u8 r.mo.d) := gd.c 14 _ rfl
            have k15 : wc.drew.cell? ⟨t, 15, none⟩ = some (.int .u8 r.mo.e) := gd.c 15 _ rfl
            have k16 : wc.drew.cell? ⟨t, 16, none⟩ = some (.int .u8 r.mo.f) := gd.c 16 _ rfl
            have MD := Lib.hid (And.intro md (And.intro gZ fd))
            clear md gZ fd gd
            go_region_law (first
              | (refine step_append_rq rfl (.tmp 52) (.tmp 54) rfl (.slice wa wn wc0) s.way (by rfl) (by exact MD.out.1.wy) wc.heap.size 1 (by rfl) r (by exact MD.out.2.1) (by have := HWN.out; omega) ?_; intro v1 w3 hown hg hat; obtain ⟨va, vc, hv1, -⟩ := (hown.rw rqC_len).shape; obtain ⟨vn, hvn⟩ : ∃ n, (s.way ++ [r]).length = n := ⟨_, rfl⟩; rw [hvn] at hv1; subst hv1; have HF := Lib.hid (Fr.of_grown (D := fun k => (Value.slice wa wn wc0).ownBlock = some k) hg (fun _ h => h)); have HW3 := Lib.hid (And.intro hown hat); have g3 := MD.out.1.gb.fr' HF.out (fun e => (MD.out.1.wp _ e).1 rfl); have c3 := g3.c 22 _ rfl; have f3 := g3.fr 22; clear g3 hown hg hat hvn))
            all_goals
              go_wp2
              go_meet
              exact Lib.hid ⟨.slice va vn vc, MD.out.1.app HF.out HW3.out.1 HW3.out.2, (MD.out.2.2.trans (HF.out.mono (fun k _ hk => .inr (.inr (.inr (.inr hk)))))).trans (.set (.inl rfl) _ _), fun g hg => by
                rcases HW3.out.2 with e | e
                · exact .inl (by rw [← e]; exact hg)
                · rw [e] at hg; injection hg with hg; exact .inr (by have := MD.out.2.2.size; omega)⟩
          case rest =>
            obtain ⟨v1, hm, hf, hb⟩ := hcut.out
            have HM := Lib.hid (And.intro hm (And.intro hf hb))
            clear hcut hm hf hb C4 G4
            go_wp2
            go_ret2
            exact ⟨by first | (rw [HZ.out]; done) | (rw [HZ.out]; rfl), v1, by rw [HZ.out]; exact HM.out.1, HM.out.2.1, HM.out.2.2⟩
end Go.Proofs.YtlkdfofpnmpidaaGreat
