/- ZP24: the texts S8 as one. -/
import Derived.Test.YtlkdfofpnmpidaaGreatZP23
import Derived.Test.YtlkdfofpnmpidaaGreatZP20
import Derived.BigQuiet
/- remote: Hear. -/
set_option linter.unusedVariables false
set_option linter.unusedSimpArgs false
namespace Go.Proofs.YtlkdfofpnmpidaaGreat
open Go.RowKit

theorem below_drewN (w : World) (n : Nat) : Below w.heap.size w (w.drewN n) := ⟨rfl, rfl, rfl, Nat.le_refl _, fun _ _ => rfl⟩
theorem Below.of_drewN {w w' : World} {n : Nat} (h : Below w.heap.size (w.drewN n) w') : Below w.heap.size w w' := (below_drewN w n).trans h
/-- Is a check refused? -/
def refC (a : Ow8) (xlv xiv xme : Int) (xm : List UInt8) : Bool := !mayC xlv xiv xme xm || decide (a.lv < xlv)
/-- The machine behind a check that is heard: the others, the two defects. -/
def hearC (a : Ow8) (V : List Vn) (bd cr : Int) (xlv : Int) (xrd : Bool) (xiv xme : Int) (xm : List UInt8) : List Vn × Int × Int :=
  if refC a xlv xiv xme xm = true then (V, bd, cr)
  else if xlv < a.lv ∨ xm ≠ a.md then (V, bd, max cr (lastC xiv))
  else if (vFind V xme).isSome = false ∨ xiv ≠ a.iv then (V, max bd (lastC xiv), cr)
  else (vPut V (xme, lastC xiv, if xrd = true then 1 else 0), bd, cr)
/-- What is kept: the machine, the check's box. -/
structure HK (w W : World) (q m : Nat) (a : Ow8) (V : List Vn) (bd cr : Int) (xlv : Int) (xrd : Bool) (xiv xsq xme : Int) (xm : List UInt8) : Prop where
  mc : MC W q a m V bd cr
  cb : CB 107 W w.heap.size xlv xrd xiv xsq xme xm
  bel : Below w.heap.size w W
section
variable {w W W' : World} {q m : Nat} {a : Ow8} {V : List Vn} {bd cr : Int} {xlv : Int} {xrd : Bool} {xiv xsq xme : Int} {xm : List UInt8}
theorem HK.later (h : HK w W q m a V bd cr xlv xrd xiv xsq xme xm) (hb : Below W.heap.size W W') : HK w W' q m a V bd cr xlv xrd xiv xsq xme xm := ⟨h.mc.later hb, h.cb.later hb, h.bel.trans (hb.mono h.bel.size)⟩
theorem MC.drew (h : MC W q a m V bd cr) : MC W.drew q a m V bd cr := h.later (Below.refl _ _).drew
theorem HK.drew (h : HK w W q m a V bd cr xlv xrd xiv xsq xme xm) : HK w W.drew q m a V bd cr xlv xrd xiv xsq xme xm := h.later (Below.refl _ _).drew
theorem HK.alloc (h : HK w W q m a V bd cr xlv xrd xiv xsq xme xm) (o : Obj) : HK w (W.alloc o) q m a V bd cr xlv xrd xiv xsq xme xm := h.later ((Below.refl _ _).alloc (Nat.le_refl _) o)
end
set_option maxRecDepth 100000 in
set_option maxHeartbeats 8000000 in
theorem hear_any (q m : Nat) (a : Ow8) (V : List Vn) (bd cr : Int) (xlv : Int) (xrd : Bool) (xiv xsq xme : Int) (xm : List UInt8) (w : World) (hs : MC w q a m V bd cr) (hB : Bnd V bd cr) (hm : xm.length ≤ 1000) (hsq : 0 ≤ xsq ∧ xsq < 4294967296) (hme : 0 ≤ xme ∧ xme < 65536) :
    Calls Tryz.prog 124 #[.pointer (some ⟨q, 0, none⟩), .agg #[.int .u8 xlv, .bool xrd, .int .u8 xiv, .int .u32 xsq, .int .u16 xme, .string (bs xm)]] w fun en w' => en = .returned (.tuple #[]) ∧ MC w' q a m (hearC a V bd cr xlv xrd xiv xme xm).1 (hearC a V bd cr xlv xrd xiv xme xm).2.1 (hearC a V bd cr xlv xrd xiv xme xm).2.2 ∧ Two q m w w' := by
  obtain ⟨R, hR⟩ : ∃ R, hearC a V bd cr xlv xrd xiv xme xm = R := ⟨_, rfl⟩
  rw [hR]
  obtain ⟨G, hG⟩ : ∃ G, refC a xlv xiv xme xm = G := ⟨_, rfl⟩
  obtain ⟨K, hK⟩ : ∃ K, mayC xlv xiv xme xm = K := ⟨_, rfl⟩
  have MY : Hid (∀ w, Calls Tryz.prog 72 #[.agg #[.int .u8 xlv, .bool xrd, .int .u8 xiv, .int .u32 xsq, .int .u16 xme, .string (bs xm)]] w fun en w' => en = .returned (.bool K) ∧ Below w.heap.size w w') := Lib.hid fun w => by rw [← hK]; exact rmay_any xlv xrd xiv xsq xme xm w hm hsq hme
  have HR := Lib.hid hR
  have HG : Hid (G = (!K || decide (a.lv < xlv))) := Lib.hid (by rw [← hG, ← hK]; rfl)
  have HGR := Lib.hid hG
  have HB := Lib.hid hB
  have HX := Lib.hid (And.intro hm (And.intro hsq hme))
  clear hR hG hK hm hsq hme hB
  go_enter Tryz.func124, Tryz.ntmps124
  go_upto_region 1 with fail
  have h0 : HK w (w.alloc (.cells #[.int .u8 xlv, .bool xrd, .int .u8 xiv, .int .u32 xsq, .int .u16 xme, .string (bs xm)] 107)) q m a V bd cr xlv xrd xiv xsq xme xm := ⟨hs.later ((Below.refl _ _).alloc (Nat.le_refl _) _), CB.new _ _ .., (Below.refl _ _).alloc (Nat.le_refl _) _⟩
  obtain ⟨w0, hw0⟩ : ∃ k, w.alloc (.cells #[.int .u8 xlv, .bool xrd, .int .u8 xiv, .int .u32 xsq, .int .u16 xme, .string (bs xm)] 107) = k := ⟨_, rfl⟩
  rw [hw0] at h0 ⊢
  have S := Lib.hid h0
  clear hw0 h0 hs
  go_cut [23] (fun s23 wx => s23 = .bool G ∧ Hid (HK w wx q m a V bd cr xlv xrd xiv xsq xme xm))
  case first =>
    have MB : ∀ kk : Later w0, Calls Tryz.prog 72 #[.agg #[.int .u8 xlv, .bool xrd, .int .u8 xiv, .int .u32 xsq, .int .u16 xme, .string (bs xm)]] kk.out fun e w' => e = .returned (.bool K) ∧ Below kk.out.heap.size kk.out w' := fun kk => MY.out _
    have c0 : ∀ kk : Later w0, kk.out.cell? ⟨w.heap.size, 0, none⟩ = some (.int .u8 xlv) := fun kk => (S.out.later kk.h).cb.c0
    have c1 : ∀ kk : Later w0, kk.out.cell? ⟨w.heap.size, 1, none⟩ = some (.bool xrd) := fun kk => (S.out.later kk.h).cb.c1
    have c2 : ∀ kk : Later w0, kk.out.cell? ⟨w.heap.size, 2, none⟩ = some (.int .u8 xiv) := fun kk => (S.out.later kk.h).cb.c2
    have c3 : ∀ kk : Later w0, kk.out.cell? ⟨w.heap.size, 3, none⟩ = some (.int .u32 xsq) := fun kk => (S.out.later kk.h).cb.c3
    have c4 : ∀ kk : Later w0, kk.out.cell? ⟨w.heap.size, 4, none⟩ = some (.int .u16 xme) := fun kk => (S.out.later kk.h).cb.c4
    have c5 : ∀ kk : Later w0, kk.out.cell? ⟨w.heap.size, 5, none⟩ = some (.string (bs xm)) := fun kk => (S.out.later kk.h).cb.c5
    have d0 : ∀ kk : Later w0, kk.out.cell? ⟨q, 0, none⟩ = some (.int .u8 a.lv) := fun kk => (S.out.later kk.h).mc.c0
    cases K
    · have HG2 : Hid (G = true) := HG
      refine wp_region_later (by kernel_rfl) (by kernel_rfl) ?_
      repeat (go_big_quiet_step (first | (go_at_call 72; exact Calls.later (MB _))))
      refine wpQuiet_nil ?_
      rintro _ ⟨kk, rfl⟩
      go_wp2_with fail
      go_meet
      exact ⟨by rw [HG2.out], Lib.hid (S.out.later kk.h)⟩
    · have HG2 : Hid (G = decide (a.lv < xlv)) := HG
      refine wp_region_later (by kernel_rfl) (by kernel_rfl) ?_
      repeat (go_big_quiet_step (first | (go_at_call 72; exact Calls.later (MB _))))
      refine wpQuiet_nil ?_
      rintro _ ⟨kk, rfl⟩
      go_wp2_with fail
      go_meet
      exact ⟨by rw [HG2.out], Lib.hid (S.out.later kk.h)⟩
  case rest =>
    obtain ⟨rfl, HS⟩ := hcut
    cases G
    rotate_left
    · have HR2 : Hid (R = (V, bd, cr)) := Lib.hid (by rw [← HR.out]; unfold hearC; rw [if_pos HGR.out])
      clear HR HGR HG MY S HX
      go_wp2
      refine bodyPost_ret (v := .tuple #[]) (results_none rfl _ _ _) rfl ?_
      exact ⟨rfl, by rw [HR2.out]; exact HS.out.mc, Two.of_below HS.out.bel⟩
    · have hg := HG.out
      have hK : K = true := by
        cases K
        · simp at hg
        · rfl
      have hlv : ¬ a.lv < xlv := by rw [hK] at hg; simpa using hg.symm
      have HR2 := Lib.hid (by have h := HR.out; unfold hearC at h; rw [if_neg (by rw [HGR.out]; decide)] at h; exact h)
      obtain ⟨N, hN⟩ : ∃ N, lastC xiv = N := ⟨_, rfl⟩
      rw [hN] at HR2
      have LA := Lib.hid (fun w => lasts_any xiv w)
      rw [hN] at LA
      have HN : Hid (0 ≤ N ∧ N ≤ 1000) := Lib.hid (by rw [← hN]; unfold lastC; repeat' split; all_goals omega)
      obtain ⟨F1, hF1⟩ : ∃ F, (vFind V xme).isSome = F := ⟨_, rfl⟩
      obtain ⟨y1, hy1⟩ : ∃ y, (vGet V xme).1 = y := ⟨_, rfl⟩
      obtain ⟨y2, hy2⟩ : ∃ y, (vGet V xme).2 = y := ⟨_, rfl⟩
      rw [hF1] at HR2
      have LK : Hid (∀ W, HK w W q m a V bd cr xlv xrd xiv xsq xme xm → (Instr.lookup 162 (.map (some m)) (.int .u16 xme) true).run Tryz.prog W = .ok (.tuple #[.agg #[.int .i64 y1, .bool (decide (y2 = 1))], .bool F1]) W) := Lib.hid fun W h => by
        have l := h.mc.om.look xme HX.out.2.2
        rw [hF1, hy1, hy2] at l; exact l
      have HF1 := Lib.hid hF1
      clear hg hK hN hF1 hy1 hy2 HR HGR HG MY S
      have c2 := HS.out.cb.c2
      go_upto_region 3 with (go_at_call 25; with_reducible refine (LA.out _).mono ?_; rintro en wz ⟨rfl, rfl⟩)
      clear c2 LA
      go_cut [5, 6] (fun s5 s6 wx => (∃ b, s5 = .pointer (some ⟨b, 0, none⟩)) ∧ s6 = .bool F1 ∧ Hid (HK w wx q m a V bd cr xlv xrd xiv xsq xme xm))
      case first =>
        have ST : ∀ W, HK w W q m a V bd cr xlv xrd xiv xsq xme xm → (W.cell? ⟨q, 4, none⟩ = some (.map (some m)) ∧ W.cell? ⟨w.heap.size, 4, none⟩ = some (.int .u16 xme) ∧ (Instr.lookup 162 (.map (some m)) (.int .u16 xme) true).run Tryz.prog W = .ok (.tuple #[.agg #[.int .i64 y1, .bool (decide (y2 = 1))], .bool F1]) W) := fun W h => ⟨h.mc.c4, h.cb.c4, LK.out W h⟩
        refine wp_region_held_drew (S := fun W => W.cell? ⟨q, 4, none⟩ = some (.map (some m)) ∧ W.cell? ⟨w.heap.size, 4, none⟩ = some (.int .u16 xme) ∧ (Instr.lookup 162 (.map (some m)) (.int .u16 xme) true).run Tryz.prog W = .ok (.tuple #[.agg #[.int .i64 y1, .bool (decide (y2 = 1))], .bool F1]) W) (by kernel_rfl) (ST _ HS.out.drew) (fun hHeld => ?_)
        refine wpAnyH_take (i := 0) (v := ?_) rfl (by kernel_rfl) (by kernel_rfl) (by kernel_rfl) (fun _ _ _ h => h) (Or.inl ⟨by rfl, ?hy0⟩) (by assumption) ?_
        case hy0 => (intro w hSw; (try dsimp only at hSw); go_simp; try with_reducible rfl)
        try simp only [Act.put, List.setIfInBounds_toArray, List.set_cons_zero, List.set_cons_succ, List.getElem_toArray, List.getElem_cons_zero]
        refine wpAnyH_take (i := 1) (v := ?_) rfl (by kernel_rfl) (by kernel_rfl) (by kernel_rfl) (fun _ _ _ h => h) (Or.inl ⟨by rfl, ?hy1⟩) (by assumption) ?_
        case hy1 => (intro w hSw; (try dsimp only at hSw); go_simp; try with_reducible rfl)
        try simp only [Act.put, List.setIfInBounds_toArray, List.set_cons_zero, List.set_cons_succ, List.getElem_toArray, List.getElem_cons_zero]
        refine wpAnyH_take (i := 2) (v := ?_) rfl (by kernel_rfl) (by kernel_rfl) (by kernel_rfl) (fun _ _ _ h => h) (Or.inl ⟨by rfl, ?hy2⟩) (by assumption) ?_
        case hy2 => (intro w hSw; (try dsimp only at hSw); go_simp; try with_reducible rfl)
        try simp only [Act.put, List.setIfInBounds_toArray, List.set_cons_zero, List.set_cons_succ, List.getElem_toArray, List.getElem_cons_zero]
        refine wpAnyH_take (i := 3) (v := ?_) rfl (by kernel_rfl) (by kernel_rfl) (by kernel_rfl) (fun _ _ _ h => h) (Or.inl ⟨by rfl, ?hy3⟩) (by assumption) ?_
        case hy3 => (intro w hSw; (try dsimp only at hSw); go_simp; try with_reducible rfl)
        try simp only [Act.put, List.setIfInBounds_toArray, List.set_cons_zero, List.set_cons_succ, List.getElem_toArray, List.getElem_cons_zero]
        refine wpAnyH_take (i := 4) (v := ?_) rfl (by kernel_rfl) (by kernel_rfl) (by kernel_rfl) (fun _ _ _ h => h) (Or.inl ⟨by rfl, ?hy4⟩) (by assumption) ?_
        case hy4 => (intro w hSw; (try dsimp only at hSw); go_simp; try with_reducible rfl)
        try simp only [Act.put, List.setIfInBounds_toArray, List.set_cons_zero, List.set_cons_succ, List.getElem_toArray, List.getElem_cons_zero]
        refine wpAnyH_take (i := 5) (v := ?_) rfl (by kernel_rfl) (by kernel_rfl) (by kernel_rfl) (fun _ _ _ h => h) (Or.inl ⟨by rfl, ?hy5⟩) (by assumption) ?_
        case hy5 => (intro w hSw; (try dsimp only at hSw); go_simp; try with_reducible rfl)
        try simp only [Act.put, List.setIfInBounds_toArray, List.set_cons_zero, List.set_cons_succ, List.getElem_toArray, List.getElem_cons_zero]
        refine wpAnyH_take (i := 6) (v := ?_) rfl (by kernel_rfl) (by kernel_rfl) (by kernel_rfl) (fun _ _ _ h => h) (Or.inl ⟨by rfl, ?hy6⟩) (by assumption) ?_
        case hy6 => (intro w hSw; (try dsimp only at hSw); go_simp; try with_reducible rfl)
        try simp only [Act.put, List.setIfInBounds_toArray, List.set_cons_zero, List.set_cons_succ, List.getElem_toArray, List.getElem_cons_zero]
        refine wpAnyH_take (i := 7) (v := ?_) rfl (by kernel_rfl) (by kernel_rfl) (by kernel_rfl) (fun _ _ _ h => h) (Or.inl ⟨by rfl, ?hy7⟩) (by assumption) ?_
        case hy7 => (intro w hSw; (try dsimp only at hSw); go_simp; try with_reducible rfl)
        try simp only [Act.put, List.setIfInBounds_toArray, List.set_cons_zero, List.set_cons_succ, List.getElem_toArray, List.getElem_cons_zero]
        refine wpAnyH_take (i := 8) (v := ?_) rfl (by kernel_rfl) (by kernel_rfl) (by kernel_rfl) (fun _ _ _ h => h) (Or.inl ⟨by rfl, ?hy8⟩) (by assumption) ?_
        case hy8 => (intro w hSw; (try dsimp only at hSw); go_simp; try with_reducible rfl)
        try simp only [Act.put, List.setIfInBounds_toArray, List.set_cons_zero, List.set_cons_succ, List.getElem_toArray, List.getElem_cons_zero]
        refine wpAnyH_take (i := 9) (v := ?_) rfl (by kernel_rfl) (by kernel_rfl) (by kernel_rfl) (fun _ _ _ h => h) (Or.inl ⟨by rfl, ?hy9⟩) (by assumption) ?_
        case hy9 => (intro w hSw; (try dsimp only at hSw); go_simp; try with_reducible rfl)
        try simp only [Act.put, List.setIfInBounds_toArray, List.set_cons_zero, List.set_cons_succ, List.getElem_toArray, List.getElem_cons_zero]
        refine wpAnyH_ready (rs := [10]) (by kernel_rfl) (by simp) (AllReadyH.cons rfl (fun K hK => ?main) AllReadyH.nil)
        case main =>
          go_simp
          have hb1 : Below wz.heap.size wz (wz.alloc (.cells #[.int .i64 0, .bool false] 166)).drew := ((Below.refl _ _).alloc (Nat.le_refl _) _).drew
          have hth : GB 166 (wz.alloc (.cells #[.int .i64 0, .bool false] 166)).drew wz.heap.size #[.int .i64 0, .bool false] := heap_alloc_new _ _
          have HT := Lib.hid (hth.there (n := 2) (Nat.le_refl _))
          have HS3 := Lib.hid (HS.out.later (below_cellsG (t := wz.heap.size) (Nat.le_refl _) [Value.int .i64 y1, .bool (decide (y2 = 1))] 0 _ hb1))
          have HS2 := Lib.hid (HS.out.later hb1)
          clear hb1 hth
          refine hK.out _ _ (ST _ HS2.out) (fun hHeld => ?_)
          clear hK K
          try simp only [Act.put, List.setIfInBounds_toArray, List.set_cons_zero, List.set_cons_succ, List.getElem_toArray, List.getElem_cons_zero]
          refine wpAnyH_ready (rs := [11]) (by kernel_rfl) (by simp) (AllReadyH.cons rfl (fun K hK => ?_) AllReadyH.nil)
          rw [if_pos (by rfl)]
          refine wp_store_mid 166 (.tmp 5) (.tmp 35) rfl wz.heap.size 0 #[.int .i64 y1, .bool (decide (y2 = 1))] rfl rfl HT.out (by kernel_rfl) (by simp [Value.oneCell']) ?_
          refine hK.out _ _ (ST _ HS3.out) (fun hHeld => ?_)
          clear hK K
          try simp only [Act.put, List.setIfInBounds_toArray, List.set_cons_zero, List.set_cons_succ, List.getElem_toArray, List.getElem_cons_zero]
          refine wpAnyH_take (i := 12) (v := ?_) rfl (by kernel_rfl) (by kernel_rfl) (by kernel_rfl) (fun _ _ _ h => h) (Or.inl ⟨by rfl, ?hy12⟩) (by assumption) ?_
          case hy12 => (intro w hSw; (try dsimp only at hSw); go_simp; try with_reducible rfl)
          try simp only [Act.put, List.setIfInBounds_toArray, List.set_cons_zero, List.set_cons_succ, List.getElem_toArray, List.getElem_cons_zero]
          refine wpAnyH_done (by kernel_rfl) ?_ _
          go_wp2_with fail
          go_meet
          exact ⟨⟨_, rfl⟩, rfl, HS3⟩
      case rest =>
        obtain ⟨⟨bx, rfl⟩, rfl, HS2⟩ := hcut
        clear HS LK
        have c0 := HS2.out.cb.c0
        have c1 := HS2.out.cb.c1
        have c2 := HS2.out.cb.c2
        have c4 := HS2.out.cb.c4
        have c5 := HS2.out.cb.c5
        have d0 := HS2.out.mc.c0
        have d2 := HS2.out.mc.c2
        have d3 := HS2.out.mc.c3
        have d4 := HS2.out.mc.c4
        have d5 := HS2.out.mc.c5
        have d6 := HS2.out.mc.c6
        have f5 := HS2.out.mc.fr 5
        have f6 := HS2.out.mc.fr 6
        have FIN : Hid (∀ nq : Nat, (∀ X, R = (V, bd, X) → MC ((wc.drewN nq).setCell ⟨q, 6, none⟩ (.int .i64 X)) q a m R.1 R.2.1 R.2.2 ∧ Two q m w ((wc.drewN nq).setCell ⟨q, 6, none⟩ (.int .i64 X))) ∧ (∀ X, R = (V, X, cr) → MC ((wc.drewN nq).setCell ⟨q, 5, none⟩ (.int .i64 X)) q a m R.1 R.2.1 R.2.2 ∧ Two q m w ((wc.drewN nq).setCell ⟨q, 5, none⟩ (.int .i64 X)))) := Lib.hid fun nq => by
          have hb : Below w.heap.size w (wc.drewN nq) := HS2.out.bel.trans ((below_drewN wc nq).mono HS2.out.bel.size)
          have hm : MC (wc.drewN nq) q a m V bd cr := HS2.out.mc.later (below_drewN wc nq)
          exact ⟨fun X hX => by rw [hX]; exact ⟨hm.s6 X, (Two.of_below hb).trans (Two.of_left (Only.set q _ 6 _))⟩, fun X hX => by rw [hX]; exact ⟨hm.s5 X, (Two.of_below hb).trans (Two.of_left (Only.set q _ 5 _))⟩⟩
        by_cases h1 : xlv < a.lv
        · have t1 : decide (xlv < a.lv) = true := decide_eq_true h1
          have HR3 : Hid (R = (V, bd, max cr N)) := Lib.hid (by rw [← HR2.out, if_pos (.inl h1)])
          clear h1 HR2
          go_upto_region 5 with fail
          go_quiet (fail)
          go_wp2_with fail
          all_goals
            go_end0
            exact ⟨rfl, (FIN.out _).1 _ (by rw [HR3.out]; congr 2; omega)⟩
        · have t1 : decide (xlv < a.lv) = false := decide_eq_false h1
          by_cases h2 : xm = a.md
          rotate_left
          · have t2 : ((bs xm).toList == (bs a.md).toList) = false := by rw [bs_tl, bs_tl, beq_eq_false_iff_ne]; exact h2
            have HR3 : Hid (R = (V, bd, max cr N)) := Lib.hid (by rw [← HR2.out, if_pos (.inr h2)])
            clear h1 HR2 h2
            go_upto_region 5 with fail
            go_quiet (fail)
            go_wp2_with fail
            all_goals
              go_end0
              exact ⟨rfl, (FIN.out _).1 _ (by rw [HR3.out]; congr 2; omega)⟩
          · have t2 : ((bs xm).toList == (bs a.md).toList) = true := by rw [h2]; simp
            have HR3 := Lib.hid (by have h := HR2.out; rw [if_neg (by rintro (h | h); exact h1 h; exact h h2)] at h; exact h)
            clear h1 HR2 h2
            go_upto_region 5 with fail
            go_quiet (fail)
            cases F1
            · have HR4 : Hid (R = (V, max bd N, cr)) := Lib.hid (by rw [← HR3.out, if_pos (.inl rfl)])
              clear HR3
              go_upto_region 7 with fail
              go_quiet (fail)
              go_wp2_with fail
              all_goals
                go_end0
                exact ⟨rfl, (FIN.out _).2 _ (by rw [HR4.out]; congr 2; omega)⟩
            · by_cases h3 : xiv = a.iv
              rotate_left
              · have t3 : (xiv == a.iv) = false := by rw [beq_eq_false_iff_ne]; exact h3
                have t4 : (xiv != a.iv) = true := by rw [bne_iff_ne]; exact h3
                have HR4 : Hid (R = (V, max bd N, cr)) := Lib.hid (by rw [← HR3.out, if_pos (.inr h3)])
                clear HR3 h3
                go_upto_region 7 with fail
                go_quiet (fail)
                go_wp2_with fail
                all_goals
                  go_end0
                  exact ⟨rfl, (FIN.out _).2 _ (by rw [HR4.out]; congr 2; omega)⟩
              · have t4 : (xiv != a.iv) = false := by rw [h3]; simp
                have HR4 : Hid (R = (vPut V (xme, N, if xrd = true then 1 else 0), bd, cr)) := Lib.hid (by rw [← HR3.out, if_neg (by rintro (h | h); cases h; exact h h3)])
                clear HR3 h3
                go_upto_region 7 with fail
                go_quiet (fail)
                go_upto_region 4 with fail
                rename_i nq0
                have h4 := Lib.hid (HS2.out.later ((below_drewN wc nq0).trans (below_drewN (wc.drewN nq0) nq)))
                obtain ⟨w4, hw4⟩ : ∃ z, (wc.drewN nq0).drewN nq = z := ⟨_, rfl⟩
                rw [hw4] at h4 ⊢
                clear c0 c1 c2 c4 c5 d0 d2 d3 d4 d5 d6 f5 f6 hw4 HS2 FIN
                have c1 := h4.out.cb.c1
                have c4 := h4.out.cb.c4
                have d4 := h4.out.mc.c4
                obtain ⟨w6, hrun, om6, hg6⟩ := h4.out.mc.drew.om.update (by have := h4.out.mc.vl; omega) xme N xrd HX.out.2.2
                have hlen : (vPut V (xme, N, if xrd = true then 1 else 0)).length = V.length := by
                  rw [vPut_map h4.out.mc.ri ((vFind_mem V xme).1 HF1.out), List.length_map]
                have FN : Hid (MC w6 q a m R.1 R.2.1 R.2.2 ∧ Two q m w w6) := Lib.hid (by
                  rw [HR4.out]
                  have M := h4.out.mc.drew
                  exact ⟨⟨(hg6.block q M.lt (by intro e; injection e with e; exact M.ne e)).trans M.b, om6, M.ne, by rw [hlen]; exact M.vl, M.ri.put _⟩, (Two.of_below h4.out.drew.bel).trans (Two.of_right hg6)⟩)
                clear om6 hg6 hlen h4
                go_region
                go_wp2_with fail
                go_end0
                exact ⟨rfl, FN.out⟩
end Go.Proofs.YtlkdfofpnmpidaaGreat
