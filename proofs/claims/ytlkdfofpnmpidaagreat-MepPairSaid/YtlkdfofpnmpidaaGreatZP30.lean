/- ZP30: the texts E1, E3, E4 as one. -/
import Derived.Test.YtlkdfofpnmpidaaGreatZP29
import Derived.Test.YtlkdfofpnmpidaaGreatZP28
import Derived.Deep.RegionHeld3
import Derived.Maps.OwnOps
/- lbm: Put. -/
set_option linter.unusedVariables false
namespace Go.Proofs.YtlkdfofpnmpidaaGreat
open Go.RowKit

/-- A loop's things. -/
def thL (dt : List UInt8) : List Th := if dt = [] then [] else [(3, dt)]
/-- A loop's message: its numbers, its fixed part, its things, the error. -/
def putL (lv : Int) (rp : Bool) (nm : Int) (dt : List UInt8) : Int × Int × List UInt8 × List Th × Int :=
  if 7 < lv then (0, 0, [], [], 2) else if 64 < dt.length then (0, 0, [], [], 5) else (lv, if rp = true then 2 else 3, be 4 nm, thL dt, 0)
/-- Put's state. -/
structure LT (w W : World) (xlv : Int) (xrp : Bool) (xnm : Int) (xdt : List UInt8) : Prop where
  lb : LB 125 W w.heap.size xlv xrp xnm xdt
  pz : PB 103 W (w.heap.size + 1) 0 0 0 [] (.slice none 0 0)
  bel : Below w.heap.size w W
section
variable {w W W' : World} {xlv : Int} {xrp : Bool} {xnm : Int} {xdt : List UInt8}
theorem LT.later (h : LT w W xlv xrp xnm xdt) (hb : Below W.heap.size W W') : LT w W' xlv xrp xnm xdt := ⟨h.lb.later hb, h.pz.later hb, h.bel.trans (hb.mono h.bel.size)⟩
theorem LT.alloc (h : LT w W xlv xrp xnm xdt) (o : Obj) : LT w (W.alloc o) xlv xrp xnm xdt := h.later ((Below.refl _ _).alloc (Nat.le_refl _) o)
theorem LT.drew (h : LT w W xlv xrp xnm xdt) : LT w W.drew xlv xrp xnm xdt := h.later (Below.refl _ _).drew
theorem LT.sets (h : LT w W xlv xrp xnm xdt) {q : Nat} (hq : w.heap.size + 1 < q) (v0 v1 v2 v3 v4 : Value) : LT w (((((W.setCell ⟨q, 0, none⟩ v0).setCell ⟨q, 1, none⟩ v1).setCell ⟨q, 2, none⟩ v2).setCell ⟨q, 3, none⟩ v3).setCell ⟨q, 4, none⟩ v4) xlv xrp xnm xdt := by
  have o : ∀ (W : World) (o : Nat) (v : Value), LT w W xlv xrp xnm xdt → LT w (W.setCell ⟨q, o, none⟩ v) xlv xrp xnm xdt := fun W o v h =>
    ⟨by unfold LB; rw [Below.heap_setCell _ _ _ _ (by intro e; simp at e; omega)]; exact h.lb, by unfold PB; rw [Below.heap_setCell _ _ _ _ (by intro e; simp at e; omega)]; exact h.pz, below_set h.bel (by omega) _⟩
  exact o _ _ _ (o _ _ _ (o _ _ _ (o _ _ _ (o _ _ _ h))))
theorem PB.sets5 {T : TypeId} {W : World} {q : Nat} {a b c a' b' c' : Int} {f f' : List UInt8} {v v' : Value} (h : PB T W q a b c f v) :
    PB T (((((W.setCell ⟨q, 0, none⟩ (.int .u8 a')).setCell ⟨q, 1, none⟩ (.int .u8 b')).setCell ⟨q, 2, none⟩ (.int .u8 c')).setCell ⟨q, 3, none⟩ (.string (bs f'))).setCell ⟨q, 4, none⟩ v') q a' b' c' f' v' := by
  unfold PB at *
  simp [World.setCell, Array.getElem?_modify, h]
theorem LT.set (h : LT w W xlv xrp xnm xdt) {q o : Nat} (hq : w.heap.size + 1 < q) (v : Value) : LT w (W.setCell ⟨q, o, none⟩ v) xlv xrp xnm xdt :=
  ⟨by unfold LB; rw [Below.heap_setCell _ _ _ _ (by intro e; simp at e; omega)]; exact h.lb, by unfold PB; rw [Below.heap_setCell _ _ _ _ (by intro e; simp at e; omega)]; exact h.pz, below_set h.bel (by omega) _⟩
theorem PB.set1 {T : TypeId} {W : World} {q : Nat} {a b c : Int} {f : List UInt8} {v : Value} (h : PB T W q a b c f v) (d : Int) : PB T (W.setCell ⟨q, 1, none⟩ (.int .u8 d)) q a d c f v := by
  unfold PB at *; simp [World.setCell, Array.getElem?_modify, h]
theorem PB.setv4 {T : TypeId} {W : World} {q : Nat} {a b c : Int} {f : List UInt8} {v : Value} (h : PB T W q a b c f v) (d : Value) : PB T (W.setCell ⟨q, 4, none⟩ d) q a b c f d := by
  unfold PB at *; simp [World.setCell, Array.getElem?_modify, h]
theorem LT.lt (h : LT w W xlv xrp xnm xdt) : w.heap.size + 1 < W.heap.size := h.pz.lt
theorem LT.two (h : LT w W xlv xrp xnm xdt) : W.cell? ⟨w.heap.size, 0, none⟩ = some (.int .u8 xlv) ∧ W.cell? ⟨w.heap.size, 2, none⟩ = some (.int .u32 xnm) := ⟨h.lb.c0, h.lb.c2⟩
end
set_option maxRecDepth 100000 in
set_option maxHeartbeats 8000000 in
theorem lbput_any (xlv : Int) (xrp : Bool) (xnm : Int) (xdt : List UInt8) (w : World) (hm : xdt.length ≤ 1000) (hnm : 0 ≤ xnm ∧ xnm < 4294967296) : Calls Tryz.prog 47 #[.agg #[.int .u8 xlv, .bool xrp, .int .u32 xnm, .string (bs xdt)]] w fun en w' =>
    ∃ v', en = .returned (.tuple #[.agg #[.int .u8 (putL xlv xrp xnm xdt).1, .int .u8 (putL xlv xrp xnm xdt).2.1, .int .u8 0, .string (bs (putL xlv xrp xnm xdt).2.2.1), v'], .int .i64 (putL xlv xrp xnm xdt).2.2.2.2]) ∧ TlT w' w.heap.size v' (putL xlv xrp xnm xdt).2.2.2.1 ∧ Below w.heap.size w w' := by
  obtain ⟨R, hR⟩ : ∃ R, putL xlv xrp xnm xdt = R := ⟨_, rfl⟩
  rw [hR]
  have HR := Lib.hid hR
  have HNM := Lib.hid hnm
  have hsd := bs_size xdt
  clear hR hnm
  go_enter Tryz.func47, Tryz.ntmps47
  go_upto_region 1 with fail
  have cb0 := (LB.new 125 w xlv xrp xnm xdt).later ((Below.refl _ _).alloc (Nat.le_refl _) (.cells #[.int .u8 0, .int .u8 0, .int .u8 0, .string { data := #[] }, .slice none 0 0] 103))
  have pz : PB 103 ((w.alloc (.cells #[.int .u8 xlv, .bool xrp, .int .u32 xnm, .string (bs xdt)] 125)).alloc (.cells #[.int .u8 0, .int .u8 0, .int .u8 0, .string { data := #[] }, .slice none 0 0] 103)) (w.heap.size + 1) 0 0 0 [] (.slice none 0 0) := by
    have := PB.new 103 (w.alloc (.cells #[.int .u8 xlv, .bool xrp, .int .u32 xnm, .string (bs xdt)] 125)) 0 0 0 [] (.slice none 0 0)
    rw [show (w.alloc (.cells #[.int .u8 xlv, .bool xrp, .int .u32 xnm, .string (bs xdt)] 125)).heap.size = w.heap.size + 1 by simp] at this
    exact this
  have hb0 : Below w.heap.size w ((w.alloc (.cells #[.int .u8 xlv, .bool xrp, .int .u32 xnm, .string (bs xdt)] 125)).alloc (.cells #[.int .u8 0, .int .u8 0, .int .u8 0, .string { data := #[] }, .slice none 0 0] 103)) := ((Below.refl _ _).alloc (Nat.le_refl _) _).alloc (by simp) _
  obtain ⟨w0, hw0⟩ : ∃ k, (w.alloc (.cells #[.int .u8 xlv, .bool xrp, .int .u32 xnm, .string (bs xdt)] 125)).alloc (.cells #[.int .u8 0, .int .u8 0, .int .u8 0, .string { data := #[] }, .slice none 0 0] 103) = k := ⟨_, rfl⟩
  rw [hw0] at cb0 pz hb0 ⊢
  have c0 := cb0.c0
  have c3 := cb0.c3
  have z0 := pz.c0
  have z1 := pz.c1
  have z2 := pz.c2
  have z3 := pz.c3
  have z4 := pz.c4
  have y0 := pz.fr 0
  have y1 := pz.fr 1
  have y2 := pz.fr 2
  have y3 := pz.fr 3
  have y4 := pz.fr 4
  have LT0 := Lib.hid (LT.mk cb0 pz hb0)
  clear hw0 cb0 pz hb0
  by_cases h7 : 7 < xlv
  · have d7 : decide ((7 : Int) < xlv) = true := decide_eq_true h7
    have hRR : R = (0, 0, [], [], 2) := by rw [← HR.out]; unfold putL; rw [if_pos h7]
    have HRR := Lib.hid hRR
    clear hRR h7
    go_wp2_with fail
    refine bodyPost_ret (v := .tuple #[.agg #[.int .u8 0, .int .u8 0, .int .u8 0, .string (bs []), .slice none 0 0], .int .i64 2]) (by simp [results, Tryz.results47, go_sem, z0, z1, z2, z3, z4]; rfl) rfl ⟨_, by rw [HRR.out], by rw [HRR.out]; exact TlT.none _ _, below_set (below_set (below_set (below_set (below_set LT0.out.bel (by omega) _) (by omega) _) (by omega) _) (by omega) _) (by omega) _⟩
  have d7 : decide ((7 : Int) < xlv) = false := decide_eq_false h7
  by_cases h64 : 64 < xdt.length
  · have d64 : decide ((64 : Int) < (xdt.length : Int)) = true := decide_eq_true (by omega)
    have hRR : R = (0, 0, [], [], 5) := by rw [← HR.out]; unfold putL; rw [if_neg h7, if_pos h64]
    have HRR := Lib.hid hRR
    clear hRR h7
    go_wp2_with fail
    refine bodyPost_ret (v := .tuple #[.agg #[.int .u8 0, .int .u8 0, .int .u8 0, .string (bs []), .slice none 0 0], .int .i64 5]) (by simp [results, Tryz.results47, go_sem, z0, z1, z2, z3, z4]; rfl) rfl ⟨_, by rw [HRR.out], by rw [HRR.out]; exact TlT.none _ _, below_set (below_set (below_set (below_set (below_set LT0.out.bel (by omega) _) (by omega) _) (by omega) _) (by omega) _) (by omega) _⟩
  have d64 : decide ((64 : Int) < (xdt.length : Int)) = false := decide_eq_false (by omega)
  have hRR : R = (xlv, if xrp = true then 2 else 3, be 4 xnm, thL xdt, 0) := by rw [← HR.out]; unfold putL; rw [if_neg h7, if_neg h64]
  have HRR := Lib.hid hRR
  clear hRR h7 h64 z0 z1 z2 z3 z4 y0 y1 y2 y3 y4
  go_upto_region 5 with fail
  obtain ⟨X, hX⟩ : ∃ X, be 4 xnm = X := ⟨_, rfl⟩
  have A1 : Hid (∀ W, Calls Tryz.prog 79 #[.slice none 0 0, .int .u32 xnm] W fun e w' => ∃ v', e = .returned v' ∧ Bys w' W.heap.size v' X ∧ Below W.heap.size W w') := fun W => by
    rw [← hX]; exact put_uint32 W.heap.size _ [] xnm W (Nat.le_refl _) (Bys.none _ _) HNM.out.1 HNM.out.2 (by decide)
  have HX := Lib.hid hX
  clear hX
  go_cut [4] (fun s4 wx => ∃ q : Nat, s4 = .pointer (some ⟨q, 0, none⟩) ∧ Hid (PB 103 wx q xlv 3 0 X (.slice none 0 0)) ∧ Hid (w.heap.size + 1 < q) ∧ Hid (LT w wx xlv xrp xnm xdt))
  case first =>
    have LTd := Lib.hid LT0.out.drew
    have a0 := LTd.out.lb.c0
    have a2 := LTd.out.lb.c2
    have b0 := (LTd.out.alloc (.cells #[.int .u8 0, .int .u8 0, .int .u8 0, .string { data := #[] }, .slice none 0 0] 103)).lb.c0
    have b2 := (LTd.out.alloc (.cells #[.int .u8 0, .int .u8 0, .int .u8 0, .string { data := #[] }, .slice none 0 0] 103)).lb.c2
    have e0 := (LT0.out.alloc (.cells #[.int .u8 0, .int .u8 0, .int .u8 0, .string { data := #[] }, .slice none 0 0] 103)).drew.lb.c0
    have e2 := (LT0.out.alloc (.cells #[.int .u8 0, .int .u8 0, .int .u8 0, .string { data := #[] }, .slice none 0 0] 103)).drew.lb.c2
    clear c0 c3
    go_region_law
      (first
        | (go_simp; go_at_call 79; (with_reducible refine (A1.out _).mono ?_); rintro en wx ⟨vx, rfl, hox, hbx⟩; (first
            | (have LTx := Lib.hid (LTd.out.later hbx))
            | (have LTx := Lib.hid ((LT0.out.alloc _).drew.later hbx); have NPq := Lib.hid ((PB.new 103 w0 0 0 0 [] (.slice none 0 0)).later (Below.trans (Below.refl _ _).drew hbx)); have HQq := Lib.hid LT0.out.lt; have r0 := NPq.out.fr 0; have r1 := NPq.out.fr 1; have r2 := NPq.out.fr 2; have r3 := NPq.out.fr 3; have r4 := NPq.out.fr 4; have k0 := NPq.out.c0; have k1 := NPq.out.c1; have k2 := NPq.out.c2; have k3 := NPq.out.c3; have k4 := NPq.out.c4)
            | (have LTx := Lib.hid ((LTd.out.alloc _).later hbx); have NPq := Lib.hid ((PB.new 103 w0.drew 0 0 0 [] (.slice none 0 0)).later hbx); have HQq := Lib.hid LTd.out.lt; have r0 := NPq.out.fr 0; have r1 := NPq.out.fr 1; have r2 := NPq.out.fr 2; have r3 := NPq.out.fr 3; have r4 := NPq.out.fr 4; have k0 := NPq.out.c0; have k1 := NPq.out.c1; have k2 := NPq.out.c2; have k3 := NPq.out.c3; have k4 := NPq.out.c4)); have f0 := LTx.out.lb.c0; have f2 := LTx.out.lb.c2; have g0 := (LTx.out.alloc (.cells #[.int .u8 0, .int .u8 0, .int .u8 0, .string { data := #[] }, .slice none 0 0] 103)).lb.c0; have g2 := (LTx.out.alloc (.cells #[.int .u8 0, .int .u8 0, .int .u8 0, .string { data := #[] }, .slice none 0 0] 103)).lb.c2; have hcv : (convert 39 9 vx).run Tryz.prog wx = .ok (.string (bs X)) wx := run_string_bys hox; have hcw : (convert 39 9 vx).run Tryz.prog (wx.alloc (.cells #[.int .u8 0, .int .u8 0, .int .u8 0, .string { data := #[] }, .slice none 0 0] 103)) = .ok (.string (bs X)) (wx.alloc (.cells #[.int .u8 0, .int .u8 0, .int .u8 0, .string { data := #[] }, .slice none 0 0] 103)) := run_string_bys (hox.later ((Below.refl _ _).alloc (Nat.le_refl _) _))))
    all_goals go_wp2_with fail
    all_goals go_meet
    all_goals first
      | exact ⟨_, rfl, Lib.hid NPq.out.sets5, Lib.hid HQq.out, Lib.hid (LTx.out.sets HQq.out _ _ _ _ _)⟩
      | exact ⟨_, rfl, Lib.hid (PB.new _ _ _ _ _ _ _), Lib.hid LTx.out.lt, Lib.hid (LTx.out.alloc _)⟩
  case rest =>
    clear c0 c3 LT0 A1
    obtain ⟨q, rfl, PQ1, HQ, LT1⟩ := hcut
    obtain ⟨J, hJ⟩ : ∃ J : Int, (if xrp = true then (2 : Int) else 3) = J := ⟨_, rfl⟩
    have c1 := LT1.out.lb.c1
    have k1 := PQ1.out.c1
    have r1 := PQ1.out.fr 1
    have hR2 := HRR.out
    rw [hJ, HX.out] at hR2
    have HR2 := Lib.hid hR2
    have HJ := Lib.hid hJ
    clear hJ hR2 HRR
    go_upto_if 24 with fail
    go_cut [4] (fun s4 wx => s4 = .pointer (some ⟨q, 0, none⟩) ∧ Hid (PB 103 wx q xlv J 0 X (.slice none 0 0)) ∧ Hid (LT w wx xlv xrp xnm xdt))
    case first =>
      cases xrp with
      | true =>
        have hj : J = 2 := HJ.out.symm
        go_wp2_with fail
        go_meet
        exact ⟨rfl, Lib.hid (by rw [hj]; exact PQ1.out.set1 2), Lib.hid (LT1.out.set HQ.out _)⟩
      | false =>
        have hj : J = 3 := HJ.out.symm
        go_wp2_with fail
        go_meet
        exact ⟨rfl, by rw [hj]; exact PQ1, LT1⟩
    clear c1 k1 r1 PQ1 LT1
    obtain ⟨rfl, PQ2, LT2⟩ := hcut
    have c3 := LT2.out.lb.c3
    have k0 := PQ2.out.c0
    have k1 := PQ2.out.c1
    have k2 := PQ2.out.c2
    have k3 := PQ2.out.c3
    have k4 := PQ2.out.c4
    have r4 := PQ2.out.fr 4
    have z0 := LT2.out.pz.c0
    have z1 := LT2.out.pz.c1
    have z2 := LT2.out.pz.c2
    have z3 := LT2.out.pz.c3
    have z4 := LT2.out.pz.c4
    have y0 := LT2.out.pz.fr 0
    have y1 := LT2.out.pz.fr 1
    have y2 := LT2.out.pz.fr 2
    have y3 := LT2.out.pz.fr 3
    have y4 := LT2.out.pz.fr 4
    by_cases hd : xdt = []
    · have hE : (bs xdt).toList.isEmpty = true := by rw [empty_eq]; exact decide_eq_true hd
      have hE2 : (bs xdt).toList = [] := by rw [bs_tl]; exact hd
      have HD := Lib.hid hd
      clear hd
      go_wp2_with fail
      refine bodyPost_ret (v := .tuple #[.agg #[.int .u8 xlv, .int .u8 J, .int .u8 0, .string (bs X), .slice none 0 0], .int .i64 0]) (by simp [results, Tryz.results47, go_sem, z0, z1, z2, z3, z4]) rfl ⟨_, by rw [HR2.out], by rw [HR2.out]; unfold thL; rw [if_pos HD.out]; exact TlT.none _ _, below_set (below_set (below_set (below_set (below_set LT2.out.bel (by omega) _) (by omega) _) (by omega) _) (by omega) _) (by omega) _⟩
    · have hE : (bs xdt).toList.isEmpty = false := by rw [empty_eq]; exact decide_eq_false hd
      have hE2 : ((bs xdt).toList == []) = false := by rw [bs_tl, beq_eq_false_iff_ne]; exact hd
      have hE3 : ¬ (bs xdt).toList = [] := by rw [bs_tl]; exact hd
      have HD := Lib.hid hd
      clear hd
      have m4 := (PQ2.out.later ((Below.refl _ _).alloc (Nat.le_refl _) (.cells #[.int .u8 3, .string (bs xdt)] 182))).c4
      have f4 := (PQ2.out.later ((Below.refl _ _).alloc (Nat.le_refl _) (.cells #[.int .u8 3, .string (bs xdt)] 182))).fr 4
      clear z0 z1 z2 z3 z4 y0 y1 y2 y3 y4 k0 k1 k2 k3
      go_upto_region 10 with fail
      clear m4 f4
      obtain ⟨B, hB⟩ : ∃ B, wc.heap.size = B := ⟨_, rfl⟩
      have tl0 : TlT (wc.alloc (.cells #[.int .u8 3, .string (bs xdt)] 182)) wc.heap.size (.slice (some ⟨wc.heap.size, 0, none⟩) 1 1) [(3, xdt)] := TlT.lit wc wc.heap.size (3, xdt) (Nat.le_refl _)
      have tl := tl0.set (o := 4) PQ2.out.lt (.slice (some ⟨wc.heap.size, 0, none⟩) 1 1)
      have pq := (PQ2.out.later ((Below.refl _ _).alloc (Nat.le_refl _) (.cells #[.int .u8 3, .string (bs xdt)] 182))).setv4 (.slice (some ⟨wc.heap.size, 0, none⟩) 1 1)
      have lt := (LT2.out.alloc (.cells #[.int .u8 3, .string (bs xdt)] 182)).set (o := 4) HQ.out (.slice (some ⟨wc.heap.size, 0, none⟩) 1 1)
      have hlt := LT2.out.lt
      obtain ⟨w5, hw5⟩ : ∃ k, (wc.alloc (.cells #[.int .u8 3, .string (bs xdt)] 182)).setCell ⟨q, 4, none⟩ (.slice (some ⟨wc.heap.size, 0, none⟩) 1 1) = k := ⟨_, rfl⟩
      rw [hw5] at tl pq lt ⊢
      rw [hB] at tl pq hlt ⊢
      have k0 := pq.c0
      have k1 := pq.c1
      have k2 := pq.c2
      have k3 := pq.c3
      have k4 := pq.c4
      have z0 := lt.pz.c0
      have z1 := lt.pz.c1
      have z2 := lt.pz.c2
      have z3 := lt.pz.c3
      have z4 := lt.pz.c4
      have y0 := lt.pz.fr 0
      have y1 := lt.pz.fr 1
      have y2 := lt.pz.fr 2
      have y3 := lt.pz.fr 3
      have y4 := lt.pz.fr 4
      have TL := Lib.hid tl
      have LT5 := Lib.hid lt
      have HLT := Lib.hid hlt
      clear tl0 tl pq lt hlt hw5 hB c3 r4
      go_wp2_with fail
      refine bodyPost_ret (v := .tuple #[.agg #[.int .u8 xlv, .int .u8 J, .int .u8 0, .string (bs X), .slice (some ⟨B, 0, none⟩) 1 1], .int .i64 0]) (by simp [results, Tryz.results47, go_sem, z0, z1, z2, z3, z4]) rfl ⟨_, by rw [HR2.out], by rw [HR2.out]; unfold thL; rw [if_neg HD.out]; exact (((((TL.out.set (by have := HLT.out; omega) _).set (by have := HLT.out; omega) _).set (by have := HLT.out; omega) _).set (by have := HLT.out; omega) _).set (by have := HLT.out; omega) _).mono (by have := HLT.out; omega), below_set (below_set (below_set (below_set (below_set LT5.out.bel (by omega) _) (by omega) _) (by omega) _) (by omega) _) (by omega) _⟩
end Go.Proofs.YtlkdfofpnmpidaaGreat

/- lbm: replies. -/
set_option linter.unusedVariables false
namespace Go.Proofs.YtlkdfofpnmpidaaGreat
open Go.RowKit
open Go.Maps (Keyed int_keyed keyOf_int_mk)

/-- What 'replies' reads as. -/
def rpD : DataW Unit := ((DataW.map []).put (.int .u8 3) (.lit (.bool false))).put (.int .u8 2) (.lit (.bool true))
/-- The block of 'replies'. -/
def RMap (W : World) (b : Nat) : Prop := W.ownsMap Tryz.prog 5 (plainElem (H := Unit) Tryz.prog 4) b 2 rpD
theorem u8_keyed : Keyed Tryz.prog 5 := int_keyed Tryz.underlying5
set_option maxRecDepth 100000 in
set_option maxHeartbeats 4000000 in
theorem replies_any (w : World) : Calls Tryz.prog 141 #[] w fun en w' => ∃ b : Nat, en = .returned (.map (some b)) ∧ RMap w' b ∧ Below w.heap.size w w' := by
  have hm0 := World.ownsMap_made w Tryz.prog 5 (plainElem (H := Unit) Tryz.prog 4)
  obtain ⟨w1, run1, hm1, hg1⟩ := hm0.update u8_keyed Tryz.underlying245 (by decide) (key := .int .u8 3) (val := .bool false) (kl := .int .u8 3) (d := .lit (.bool false)) (ps := []) (keyOf_int_mk Tryz.underlying5 (by decide)) (plainElem_bool Tryz.underlying4 false)
  obtain ⟨w2, run2, hm2, hg2⟩ := hm1.update u8_keyed Tryz.underlying245 (by decide) (key := .int .u8 2) (val := .bool true) (kl := .int .u8 2) (d := .lit (.bool true)) (ps := []) (keyOf_int_mk Tryz.underlying5 (by decide)) (plainElem_bool Tryz.underlying4 true)
  have hb0 : Below w.heap.size w (w.alloc (.map #[] 0)) := (Below.refl _ _).alloc (Nat.le_refl _) _
  have hb1 := hb0.grown hg1 hb0.size (fun k hk => by injection hk with hk; omega)
  have hb2 := hb1.grown hg2 hb1.size (fun k hk => by injection hk with hk; omega)
  have HM := Lib.hid hm2
  have HB := Lib.hid hb2
  have run0 : (Instr.makeMap 245 none).run Tryz.prog w = .ok (.map (some w.heap.size)) (w.alloc (.map #[] 0)) := rfl
  clear hm0 hm1 hm2 hg1 hg2 hb0 hb1 hb2
  go_enter Tryz.func141, Tryz.ntmps141
  go_wp2
  go_ret
  exact ⟨_, rfl, HM.out, HB.out⟩
end Go.Proofs.YtlkdfofpnmpidaaGreat

/- lbm: the look-up in replies. -/
set_option linter.unusedVariables false
namespace Go.Proofs.YtlkdfofpnmpidaaGreat
open Go.RowKit
open Go.Maps (Keyed int_keyed keyOf_int_mk)

theorem rpD_at (b : Int) (z : DataW Unit) : rpD.atKey (.int .u8 b) z = if b = 2 then .lit (.bool true) else if b = 3 then .lit (.bool false) else z := by
  have e : rpD = .map [(.int .u8 2, .lit (.bool true)), (.int .u8 3, .lit (.bool false))] := by rfl
  rw [e]
  by_cases h2 : b = 2
  · subst h2; rfl
  · by_cases h3 : b = 3
    · subst h3; rfl
    · simp [DataW.atKey, Lit.sameKey, h2, h3, Ne.symm h2, Ne.symm h3, eq_comm]
set_option maxRecDepth 100000 in
theorem bool_inv {v : Value} {y : DataW Unit × List MemPlace} (h : plainElem (H := Unit) Tryz.prog 4 v = some y) : ∃ x, v = .bool x ∧ y.1 = .lit (.bool x) := by
  unfold plainElem at h
  rw [Tryz.underlying4] at h
  cases v
  case bool x => injection h with h; exact ⟨x, rfl, by rw [← h]⟩
  all_goals simp at h
set_option maxRecDepth 100000 in
theorem rmap_look {W : World} {q : Nat} (h : RMap W q) (b : Int) (h0 : 0 ≤ b ∧ b < 256) :
    (Instr.lookup 245 (.map (some q)) (.int .u8 b) true).run Tryz.prog W = .ok (.tuple #[.bool (decide (b = 2)), .bool (decide (b = 2 ∨ b = 3))]) W := by
  obtain ⟨es, clock, hb, F, hs, hD⟩ := h
  have hw : (Lit.int .u8 b).wf = true := by simp [Lit.wf, IntKind.min, IntKind.max, IntKind.bits, IntKind.signed]; omega
  have hz : (zeroValue 4).run Tryz.prog W = .ok (.bool false) W := by kernel_rfl
  rcases Maps.fit_look true u8_keyed Tryz.underlying245 hz hb F (keyOf_int_mk Tryz.underlying5 hw) with ⟨hrun, _, hat⟩ | ⟨e0, y, _, _, hrun, hRv, hat, _⟩
  · rw [← hD] at hat
    have a := hat (.lit (.bool false))
    have c := hat (.lit (.bool true))
    rw [rpD_at] at a c
    have n2 : b ≠ 2 := by intro e; rw [if_pos e] at a; injection a with a; injection a with a; cases a
    have n3 : b ≠ 3 := by intro e; rw [if_neg n2, if_pos e] at c; injection c with c; injection c with c; cases c
    rw [hrun, decide_eq_false n2, decide_eq_false (by omega)]; rfl
  · rw [← hD] at hat
    have a := hat (.lit (.bool false))
    have c := hat (.lit (.bool true))
    rw [rpD_at] at a c
    obtain ⟨x, hx, hy⟩ := bool_inv hRv
    rw [hy] at a c
    rw [hrun, hx]
    by_cases n2 : b = 2
    · rw [if_pos n2] at a; injection a with a; injection a with a
      rw [← a, decide_eq_true n2, decide_eq_true (Or.inl n2)]; rfl
    · rw [if_neg n2] at a c
      by_cases n3 : b = 3
      · rw [if_pos n3] at a; injection a with a; injection a with a
        rw [← a, decide_eq_false n2, decide_eq_true (Or.inr n3)]; rfl
      · rw [if_neg n3] at a c
        injection a with a; injection a with a; injection c with c; injection c with c
        rw [← a] at c; cases c
end Go.Proofs.YtlkdfofpnmpidaaGreat
