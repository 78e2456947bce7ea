/- bpdu: the walk of BpduEach. -/
import Derived.Test.YtecoomkpkdapdaaDoorJ2
import Derived.Test.YtecoomkpkdapdaaDoorH7
import Derived.Lib.ConvBytes
import Derived.Laws.BitsAllLaws
set_option linter.unusedVariables false
namespace Go.Proofs.YtecoomkpkdapdaaDoor
open Go.RowKit

/-- A string's bytes as cells, in a block of its own. -/
structure CvW (W W' : World) (l : List UInt8) (cap : Nat) (C : Array Value) : Prop where
  run : (convert 9 43 (.string (bs l))).run Tryd.prog W = .ok (.slice (some ⟨W.heap.size, 0, none⟩) l.length cap) W'
  h : W'.heap[W.heap.size]? = some (.cells C 5 (C.size, C.size + 1))
  bel : Below W.heap.size W W'
  at_ : ∀ j (hj : j < l.length), C[j]? = some (byteV l[j])
theorem cv_of (W : World) (l : List UInt8) : ∃ W' cap C, CvW W W' l cap C := by
  refine ⟨Lib.bytesWorld W 5 (bs l), grownCap W (bs l).size 0 5, Lib.bytesCells W 5 (bs l), ?_, Lib.bytesWorld_at_new W _ _, ⟨by simp [Lib.bytesWorld, World.freeze, World.alloc, World.drew, -World.alloc_eq, -World.drew_eq], by simp [Lib.bytesWorld, World.freeze, World.alloc, World.drew, -World.alloc_eq, -World.drew_eq], by simp [Lib.bytesWorld, World.freeze, World.alloc, World.drew, -World.alloc_eq, -World.drew_eq], by rw [Lib.bytesWorld_size]; omega, fun j hj => Lib.bytesWorld_at_old W _ _ j hj⟩, ?_⟩
  · have h := Lib.run_convert_string_bytes (P := Tryd.prog) W 9 43 5 (bs l) Tryd.underlying9 Tryd.underlying43 Tryd.underlying5
    rw [h, bs_size]
  · intro j hj
    unfold Lib.bytesCells
    rw [Array.getElem?_append_left (by simp [bs]; exact hj)]
    simp [bs, byteV, hj]
/-- A byte changed. -/
theorem byte_xor (x : UInt8) (n : Int) (hn : 0 ≤ n ∧ n < 256) (h0 : n ≠ 0) : ∃ y : UInt8, y ≠ x ∧ bits .xor .u8 (x.toNat : Int) n = (y.toNat : Int) := by
  have e := u8_xor (x.toNat : Int) n (by omega) (by have := x.toNat_lt; omega) hn.1 hn.2
  obtain ⟨m, rfl⟩ : ∃ m : Nat, n = m := ⟨n.toNat, by omega⟩
  refine ⟨x ^^^ UInt8.ofNat m, ?_, ?_⟩
  · intro h
    have h2 : UInt8.ofNat m = 0 := by
      have : x ^^^ (x ^^^ UInt8.ofNat m) = x ^^^ x := by rw [h]
      simpa [← UInt8.xor_assoc] using this
    have h3 := congrArg UInt8.toNat h2
    simp at h3; omega
  · rw [e]
    have e2 : (UInt8.ofNat m).toNat = m := by simp; omega
    rw [UInt8.toNat_xor, e2]
    simp
structure J3S (w W : World) (p q : Nat) (A A2 : Array Value) : Prop where
  g1 : GB 33 W p A
  g2 : GB 33 W q A2
  bel : Below w.heap.size w W
theorem J3S.later {w W W' : World} {p q : Nat} {A A2 : Array Value} (h : J3S w W p q A A2) (hb : Below W.heap.size W W') : J3S w W' p q A A2 := ⟨h.g1.later hb, h.g2.later hb, h.bel.trans (hb.mono h.bel.size)⟩
theorem J3S.drew {w W : World} {p q : Nat} {A A2 : Array Value} (h : J3S w W p q A A2) : J3S w W.drew p q A A2 := h.later (Below.refl _ _).drew
theorem J3S.sat {w W : World} {p q : Nat} {A A2 : Array Value} (h : J3S w W p q A A2) : W.rangeAt p 0 A.toList ∧ W.rangeAt q 0 A2.toList := ⟨h.g1.range, h.g2.range⟩
set_option maxRecDepth 100000 in
set_option maxHeartbeats 8000000 in
theorem BpduEach_walk (b : Bp) (at_ by_ : Int) (w : World) (hb : b.Ok) (ha : (Lit.int .u8 at_).wf) (hy : (Lit.int .u8 by_).wf) : Calls Tryd.prog 6 #[.agg #[.int .u64 b.rt, .int .u32 b.co, .int .u64 b.br, .int .u8 b.po, .int .u8 b.ho, .int .u64 b.ve, .int .u8 b.ro, .bool b.pr, .bool b.ag, .bool b.tp, .int .u64 b.ec], .int .u8 at_, .int .u8 by_] w fun en w' => en = .returned (.bool true) ∧ Below w.heap.size w w' := by
  have ha := bounds_u8 ha
  have hy := bounds_u8 hy
  have WK := Lib.hid wakes05_any
  obtain ⟨A, hA⟩ : ∃ A : Array Value, A = #[.int .u64 b.rt, .int .u32 b.co, .int .u64 b.br, .int .u8 b.po, .int .u8 b.ho, .int .u64 b.ve, .int .u8 b.ro, .bool b.pr, .bool b.ag, .bool b.tp, .int .u64 b.ec] := ⟨_, rfl⟩
  obtain ⟨X, e, hP⟩ : ∃ X e, putB b = (X, e) := ⟨_, _, rfl⟩
  have P1 : Hid (∀ w, Calls Tryd.prog 7 #[.agg A] w fun en w' => en = .returned (.tuple #[.string (bs X), .int .i64 e]) ∧ Below w.heap.size w w') := Lib.hid fun w => by
    have h := bput_any b w hb
    rw [hP] at h; rw [hA]; exact h
  have HPM : Hid ((mayB b = true ∧ X = byB b ∧ e = 0) ∨ (X = [] ∧ e = 2)) := Lib.hid (by
    unfold putB at hP
    cases hM : mayB b
    · right; rw [hM] at hP; simp only [Bool.false_eq_true, if_false, Prod.mk.injEq] at hP; exact ⟨hP.1.symm, hP.2.symm⟩
    · left; rw [hM] at hP; simp only [if_true, Prod.mk.injEq] at hP; exact ⟨rfl, hP.1.symm, hP.2.symm⟩)
  have hs : A.size = 11 := by rw [hA]; rfl
  have HIL : Hid ((Tryd.prog.info? 33).map (·.size) = some A.toList.length) := Lib.hid (by rw [hA]; kernel_rfl)
  have HAb := Lib.hid hA
  have HS := Lib.hid hs
  have HB := Lib.hid hb
  have HAT := Lib.hid ha
  rw [← hA]
  clear hA hP hb hs ha
  go_enter Tryd.func6, Tryd.ntmps6
  go_upto_region 1 with fail
  have g0 := GB.new 33 w A
  have hb0 : Below w.heap.size w (w.alloc (.cells A 33)) := (Below.refl _ _).alloc (Nat.le_refl _) _
  obtain ⟨w0, hw0⟩ : ∃ k, w.alloc (.cells A 33) = k := ⟨_, rfl⟩
  rw [hw0] at g0 hb0 ⊢
  obtain ⟨p, hp⟩ : ∃ k, w.heap.size = k := ⟨_, rfl⟩
  rw [hp] at g0 ⊢
  have G0 := Lib.hid g0
  have HB0 := Lib.hid hb0
  clear hw0 g0 hb0
  go_wp2_with ((with_reducible refine wpList_load_mid rfl 33 (.tmp 3) rfl p 0 ?hx A.toList _ G0.out.range Tryd.underlying33 ?hu HIL.out ?_); (case hx => rfl); (case hu => rfl))
  with_reducible refine (P1.out _).mono ?_
  rintro en w1 ⟨rfl, hb1⟩
  have G1 := Lib.hid (G0.out.later hb1)
  have HB1 := Lib.hid (HB0.out.trans (hb1.mono HB0.out.size))
  clear hb1 G0 HB0 P1
  rcases HPM.out with ⟨hm, hx, he⟩ | ⟨hx, he⟩
  · subst hx he
    have hsz : (bs (byB b)).size = 42 := by rw [bs_size, byB_len]
    by_cases h0 : by_ = 0
    · subst h0
      go_wp2_with fail
      with_reducible refine (WK.out _).mono ?_
      rintro en w2 ⟨rfl, hb2⟩
      go_wp2
      go_ret
      exact ⟨rfl, HB1.out.trans (hb2.mono HB1.out.size)⟩
    · obtain ⟨w2, cap, C, hc⟩ := cv_of w1 (byB b)
      have hcv := hc.run
      have hl42 := byB_len b
      obtain ⟨i, hi, hmod⟩ : ∃ i : Nat, i < 42 ∧ (wrap64 at_).tmod 42 = (i : Int) := by
        have := HAT.out
        have e : wrap64 at_ = at_ := by unfold wrap64; omega
        rw [e, Int.tmod_eq_emod_of_nonneg this.1]
        exact ⟨(at_ % 42).toNat, by omega, by omega⟩
      have hi0 : (0 : Int) ≤ (i : Int) := by omega
      have hi1 : (i : Int) < 42 := by omega
      obtain ⟨x, hx⟩ : ∃ x, (byB b)[i]'(by omega) = x := ⟨_, rfl⟩
      have hcell : w2.cell? ⟨w1.heap.size, i, none⟩ = some (.int .u8 (x.toNat : Int)) := by
        have := hc.at_ i (by omega)
        rw [hx] at this
        simp [World.cell?, hc.h, this, byteV]
      have hfr : w2.frozen? ⟨w1.heap.size, i, none⟩ = false := by
        have h2 := hc.at_ i (by omega)
        have h3 := (Array.getElem?_eq_some_iff.1 h2).1
        simp [World.frozen?, hc.h]; omega
      obtain ⟨y, hyx, hy2⟩ := byte_xor x by_ (by omega) h0
      go_upto_region 6 with fail
      obtain ⟨l2, hl2⟩ : ∃ l2, (byB b).set i y = l2 := ⟨_, rfl⟩
      have hlen2 : l2.length = 42 := by rw [← hl2, List.length_set]; exact hl42
      have hne2 : l2 ≠ byB b := by
        intro h
        have e1 : l2[i]? = some y := by rw [← hl2]; simp [hl42, hi]
        rw [h, List.getElem?_eq_getElem (by omega), hx] at e1
        exact hyx (Option.some.inj e1).symm
      have hsrc : Src (w2.setCell ⟨w1.heap.size, i, none⟩ (.int .u8 (y.toNat : Int))) (.slice (some ⟨w1.heap.size, 0, none⟩) 42 cap) l2 := by
        refine .inr ⟨_, cap, by rw [hlen2], fun j hj => ?_⟩
        have h2 : (⟨w1.heap.size, 0, none⟩ : Addr).add j = ⟨w1.heap.size, j, none⟩ := by cases j <;> simp [Addr.add]
        rw [h2]
        have h3 := hc.at_ j (by omega)
        have h5 : some l2[j] = if i = j then some y else (byB b)[j]? := by
          rw [← List.getElem?_eq_getElem hj]
          have h6 : ((byB b).set i y)[j]? = if i = j then some y else (byB b)[j]? := by
            rw [List.getElem?_set]
            by_cases hij : i = j
            · rw [if_pos hij, if_pos hij, if_pos (by omega)]
            · rw [if_neg hij, if_neg hij]
          rw [hl2] at h6; exact h6
        by_cases hij : i = j
        · subst hij
          rw [if_pos rfl] at h5
          have h4 : C[i]? = some (byteV (byB b)[i]) := h3
          rw [Option.some.inj h5]
          have hC := (Array.getElem?_eq_some_iff.1 h4).1
          simp [World.cell?, World.setCell, Array.getElem?_modify, hc.h, hC, byteV]
        · have h6 : (byB b)[j]? = some ((byB b)[j]'(by omega)) := List.getElem?_eq_getElem (by omega)
          rw [if_neg hij, h6] at h5
          rw [Option.some.inj h5]
          simp [World.cell?, World.setCell, Array.getElem?_modify, hc.h, h3, hij]
      have hb3 : Below w1.heap.size w1 (w2.setCell ⟨w1.heap.size, i, none⟩ (.int .u8 (y.toNat : Int))) := below_set hc.bel (Nat.le_refl _) _
      obtain ⟨w3, hw3⟩ : ∃ k, w2.setCell ⟨w1.heap.size, i, none⟩ (.int .u8 (y.toNat : Int)) = k := ⟨_, rfl⟩
      rw [hw3] at hsrc hb3 ⊢
      have hcv2 := run_string_src hsrc
      have G3 := Lib.hid (G1.out.later hb3)
      have HB3 := Lib.hid (HB1.out.trans (hb3.mono HB1.out.size))
      have HO := Lib.hid (tkB_other b l2 hlen2 hne2)
      obtain ⟨b2, e2, hT⟩ : ∃ b2 e2, tkB l2 = (b2, e2) := ⟨_, _, rfl⟩
      obtain ⟨A2, hA2⟩ : ∃ A : Array Value, A = #[.int .u64 b2.rt, .int .u32 b2.co, .int .u64 b2.br, .int .u8 b2.po, .int .u8 b2.ho, .int .u64 b2.ve, .int .u8 b2.ro, .bool b2.pr, .bool b2.ag, .bool b2.tp, .int .u64 b2.ec] := ⟨_, rfl⟩
      have T1 : Hid (∀ w, Calls Tryd.prog 12 #[.string (bs l2)] w fun en w' => en = .returned (.tuple #[.agg A2, .int .i64 e2]) ∧ Below w.heap.size w w') := Lib.hid fun w => by
        have h := btake_any l2 w (by omega)
        rw [hT] at h; rw [hA2]; exact h
      have hs2 : A2.size = 11 := by rw [hA2]; rfl
      have o2 : A2.all (·.oneCell') = true := by rw [hA2]; simp [Value.oneCell']
      have HI2 : Hid ((Tryd.prog.info? 33).map (·.size) = some A2.size) := Lib.hid (by rw [hs2]; kernel_rfl)
      have HJL : Hid ((Tryd.prog.info? 33).map (·.size) = some A2.toList.length) := Lib.hid (by rw [Array.length_toList]; exact HI2.out)
      have OC2 := Lib.hid o2
      have HS2 := Lib.hid hs2
      have HNE : e2 = 0 → Hid (∀ w : World, (binOp .neq 33 (.agg A2) (.agg A)).run Tryd.prog w = .ok (.bool true) w) := fun h => Lib.hid fun w => by
        rw [hA2, HAb.out, run_neq_bp]
        have : beqB b2 b = false := by
          cases h3 : beqB b2 b
          · rfl
          · exact absurd (by rw [hT, h, (beqB_iff b2 b).1 h3]) HO.out
        rw [this]; rfl
      have hg := eqGuard_bp
      clear hT hA2 hs2 o2 hcell hfr hcv hw3 hb3 G1 HB1 hc HPM hx hi hmod hi0 hi1 hsz
      go_wp2_with fail
      with_reducible refine (T1.out _).mono ?_
      rintro en w4 ⟨rfl, hb4⟩
      have G4 := Lib.hid (G3.out.later hb4)
      have HB4 := Lib.hid (HB3.out.trans (hb4.mono HB3.out.size))
      clear hb4 T1 G3 HB3 hcv2 hsrc
      have gz := GB.new 33 w4 #[.int .u64 0, .int .u32 0, .int .u64 0, .int .u8 0, .int .u8 0, .int .u64 0, .int .u8 0, .bool false, .bool false, .bool false, .int .u64 0]
      have TH := Lib.hid (gz.there (n := A2.size) (Nat.le_of_eq HS2.out))
      go_upto_region 7 with ((with_reducible refine wpList_store_mid rfl 33 (.tmp 10) (.tmp 55) rfl w4.heap.size 0 A2 ?hx ?hy TH.out HI2.out OC2.out ?_); (case hx => rfl); (case hy => rfl))
      have g2 := gz.store (A := A2) HS2.out.symm OC2.out
      have hbz : Below w4.heap.size w4 ((w4.alloc (.cells #[.int .u64 0, .int .u32 0, .int .u64 0, .int .u8 0, .int .u8 0, .int .u64 0, .int .u8 0, .bool false, .bool false, .bool false, .int .u64 0] 33)).setCells w4.heap.size 0 A2.toList) := below_cellsG (Nat.le_refl _) _ _ _ ((Below.refl _ _).alloc (Nat.le_refl _) _)
      have T0 : J3S w ((w4.alloc (.cells #[.int .u64 0, .int .u32 0, .int .u64 0, .int .u8 0, .int .u8 0, .int .u64 0, .int .u8 0, .bool false, .bool false, .bool false, .int .u64 0] 33)).setCells w4.heap.size 0 A2.toList) p w4.heap.size A A2 := ⟨G4.out.later hbz, g2, HB4.out.trans (hbz.mono HB4.out.size)⟩
      obtain ⟨q, hq⟩ : ∃ k, w4.heap.size = k := ⟨_, rfl⟩
      obtain ⟨w5, hw5⟩ : ∃ k, (w4.alloc (.cells #[.int .u64 0, .int .u32 0, .int .u64 0, .int .u8 0, .int .u8 0, .int .u64 0, .int .u8 0, .bool false, .bool false, .bool false, .int .u64 0] 33)).setCells w4.heap.size 0 A2.toList = k := ⟨_, rfl⟩
      rw [hq] at hw5
      rw [hq, hw5] at T0
      rw [hq, hw5]
      have T := Lib.hid T0
      clear gz TH hw5 hq g2 hbz G4 HB4 T0
      by_cases he : e2 = 0
      · have neA := (HNE he).out
        subst he
        clear HNE
        go_wp2_with (first | ((with_reducible refine wpList_load_gH ?hw 33 (.tmp 10) rfl q 0 ?hx A2.toList _ T.out.g2.range Tryd.underlying33 ?hu HJL.out ?_); (case hw => rfl); (case hx => rfl); (case hu => rfl)) | ((with_reducible refine wpList_load_gH ?hw 33 (.tmp 3) rfl p 0 ?hx A.toList _ T.out.g1.range Tryd.underlying33 ?hu HIL.out ?_); (case hw => rfl); (case hx => rfl); (case hu => rfl)))
        with_reducible refine (WK.out _).mono ?_
        rintro en w6 ⟨rfl, hb6⟩
        go_wp2
        go_ret
        exact ⟨rfl, T.out.bel.trans (hb6.mono T.out.bel.size)⟩
      · have hbe : (e2 == 0) = false := by simpa using he
        clear HNE
        go_wp2_with fail
        with_reducible refine (WK.out _).mono ?_
        rintro en w6 ⟨rfl, hb6⟩
        go_wp2
        go_ret
        exact ⟨rfl, T.out.bel.trans (hb6.mono T.out.bel.size)⟩
  · subst hx he
    have hsz : (bs []).size = 0 := rfl
    go_wp2_with fail
    with_reducible refine (WK.out _).mono ?_
    rintro en w2 ⟨rfl, hb2⟩
    go_wp2
    go_ret
    exact ⟨rfl, HB1.out.trans (hb2.mono HB1.out.size)⟩
end Go.Proofs.YtecoomkpkdapdaaDoor
