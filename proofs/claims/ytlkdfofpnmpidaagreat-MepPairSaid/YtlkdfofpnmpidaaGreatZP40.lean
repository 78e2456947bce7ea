/- ZP40: the texts G13 as one. -/
import Derived.Test.YtlkdfofpnmpidaaGreatZP37
/- ltm: Take. -/
set_option linter.unusedVariables false
set_option linter.unusedSimpArgs false
namespace Go.Proofs.YtlkdfofpnmpidaaGreat
open Go.RowKit

/-- The steps. -/
def qt1 (f : List UInt8) := rdText f 0 4
def qt2 (f : List UInt8) := rdText (qt1 f).2.1 (qt1 f).2.2 1
def qt3 (f : List UInt8) := rdText (qt2 f).2.1 (qt2 f).2.2 6
def qt4 (f : List UInt8) := rdText (qt3 f).2.1 (qt3 f).2.2 6
def qtE (f : List UInt8) : Int := (rdEnd (qt4 f).2.1 (qt4 f).2.2).2
def tr0 : Tr := ⟨0, 0, 0, mc0, mc0⟩
/-- A message's trace, and the error. -/
def tkTr (a b : Int) (f : List UInt8) : Tr × Int :=
  if b = 5 ∧ qtE f = 0 then (⟨a, numOf (qt1 f).1, numOf (qt2 f).1, mcOf (qt3 f).1, mcOf (qt4 f).1⟩, 0) else (tr0, 4)
/-- The state: the reader, the message's block, the result's block. -/
structure QT (w W : World) (x : Nat) (l : List UInt8) (e a b c : Int) (f : List UInt8) (v : Value) : Prop where
  rd : Rd W x l e
  pb : PB 103 W w.heap.size a b c f v
  pz : GB 132 W (w.heap.size + 1) #[.int .u8 0, .int .u32 0, .int .u8 0, .int .u8 0, .int .u8 0, .int .u8 0, .int .u8 0, .int .u8 0, .int .u8 0, .int .u8 0, .int .u8 0, .int .u8 0, .int .u8 0, .int .u8 0, .int .u8 0]
  bel : Below w.heap.size w W
  hx : w.heap.size + 1 < x
section
variable {w W W' : World} {x : Nat} {l l' f : List UInt8} {e e' a b c : Int} {v : Value}
theorem QT.next (h : QT w W x l e a b c f v) (hr : Rd W' x l' e') (ho : Only x W W') : QT w W' x l' e' a b c f v :=
  ⟨hr, h.pb.only ho (by have := h.hx; omega), h.pz.only ho (by have := h.hx; omega), h.bel.trans (ho.below (by have := h.hx; omega) h.bel.size), h.hx⟩
theorem QT.later (h : QT w W x l e a b c f v) (hb : Below W.heap.size W W') : QT w W' x l e a b c f v :=
  ⟨h.rd.later hb, h.pb.later hb, h.pz.later hb, h.bel.trans (hb.mono h.bel.size), h.hx⟩
theorem QT.alloc (h : QT w W x l e a b c f v) (o : Obj) : QT w (W.alloc o) x l e a b c f v := h.later ((Below.refl _ _).alloc (Nat.le_refl _) o)
theorem QT.drew (h : QT w W x l e a b c f v) : QT w W.drew x l e a b c f v := h.later (Below.refl _ _).drew
theorem QT.set (h : QT w W x l e a b c f v) {q o : Nat} (hq : x < q) (u : Value) : QT w (W.setCell ⟨q, o, none⟩ u) x l e a b c f v :=
  ⟨h.rd.setOther (by omega) _, h.pb.other (by have := h.hx; omega) _, h.pz.other (by have := h.hx; omega) _, below_set h.bel (by have := h.hx; omega) _, h.hx⟩
theorem QT.one (h : QT w W x l e a b c f v) : W.cell? ⟨w.heap.size, 0, none⟩ = some (.int .u8 a) := h.pb.c0
end
theorem QT.cells {w : World} {x : Nat} {l f : List UInt8} {e a b c : Int} {v : Value} {q : Nat} (hq : x < q) : ∀ (vs : List Value) (o : Nat) (W : World), QT w W x l e a b c f v → QT w (W.setCells q o vs) x l e a b c f v
  | [], _, _, h => h
  | u :: r, o, W, h => QT.cells hq r (o + 1) _ (h.set hq u)
/-- The new trace's block. -/
def NT (W : World) (x q : Nat) : Prop := GB 132 W q #[.int .u8 0, .int .u32 0, .int .u8 0, .int .u8 0, .int .u8 0, .int .u8 0, .int .u8 0, .int .u8 0, .int .u8 0, .int .u8 0, .int .u8 0, .int .u8 0, .int .u8 0, .int .u8 0, .int .u8 0] ∧ x < q
theorem NT.new (W : World) {x : Nat} (h : x < W.heap.size) : NT (W.alloc (.cells #[.int .u8 0, .int .u32 0, .int .u8 0, .int .u8 0, .int .u8 0, .int .u8 0, .int .u8 0, .int .u8 0, .int .u8 0, .int .u8 0, .int .u8 0, .int .u8 0, .int .u8 0, .int .u8 0, .int .u8 0] 132)) x W.heap.size := ⟨GB.new _ _ _, h⟩
theorem NT.only {W W' : World} {x q : Nat} (h : NT W x q) (ho : Only x W W') : NT W' x q := ⟨h.1.only ho (by have := h.2; omega), h.2⟩
theorem NT.drew {W : World} {x q : Nat} (h : NT W x q) : NT W.drew x q := ⟨h.1.drew, h.2⟩
set_option maxRecDepth 100000 in
set_option maxHeartbeats 16000000 in
theorem lttake_any (v : Value) (a b c : Int) (f : List UInt8) (w : World) (hf : f.length ≤ 1000) : Calls Tryz.prog 127 #[.agg #[.int .u8 a, .int .u8 b, .int .u8 c, .string (bs f), v]] w fun en w' =>
    en = .returned (.tuple #[.agg #[.int .u8 (tkTr a b f).1.lv, .int .u32 (tkTr a b f).1.nm, .int .u8 (tkTr a b f).1.tl, .int .u8 (tkTr a b f).1.fr.a, .int .u8 (tkTr a b f).1.fr.b, .int .u8 (tkTr a b f).1.fr.c, .int .u8 (tkTr a b f).1.fr.d, .int .u8 (tkTr a b f).1.fr.e, .int .u8 (tkTr a b f).1.fr.f, .int .u8 (tkTr a b f).1.tt.a, .int .u8 (tkTr a b f).1.tt.b, .int .u8 (tkTr a b f).1.tt.c, .int .u8 (tkTr a b f).1.tt.d, .int .u8 (tkTr a b f).1.tt.e, .int .u8 (tkTr a b f).1.tt.f], .int .i64 (tkTr a b f).2]) ∧ Below w.heap.size w w' := by
  obtain ⟨R, hR⟩ : ∃ R, tkTr a b f = R := ⟨_, rfl⟩
  rw [hR]
  obtain ⟨nm, l1, e1, h1⟩ : ∃ y l e, numOf (qt1 f).1 = y ∧ (qt1 f).2.1 = l ∧ (qt1 f).2.2 = e := ⟨_, _, _, rfl, rfl, rfl⟩
  obtain ⟨tl, l2, e2, h2⟩ : ∃ y l e, numOf (qt2 f).1 = y ∧ (qt2 f).2.1 = l ∧ (qt2 f).2.2 = e := ⟨_, _, _, rfl, rfl, rfl⟩
  obtain ⟨m3, l3, e3, h3⟩ : ∃ y l e, mcOf (qt3 f).1 = y ∧ (qt3 f).2.1 = l ∧ (qt3 f).2.2 = e := ⟨_, _, _, rfl, rfl, rfl⟩
  obtain ⟨m4, l4, e4, h4⟩ : ∃ y l e, mcOf (qt4 f).1 = y ∧ (qt4 f).2.1 = l ∧ (qt4 f).2.2 = e := ⟨_, _, _, rfl, rfl, rfl⟩
  obtain ⟨l5, E, h5⟩ : ∃ l e, (rdEnd l4 e4).1 = l ∧ (rdEnd l4 e4).2 = e := ⟨_, _, rfl, rfl⟩
  have q2 : rdText l1 e1 1 = qt2 f := by unfold qt2; rw [h1.2.1, h1.2.2]
  have q3 : rdText l2 e2 6 = qt3 f := by unfold qt3; rw [h2.2.1, h2.2.2]
  have q4 : rdText l3 e3 6 = qt4 f := by unfold qt4; rw [h3.2.1, h3.2.2]
  have hE : qtE f = E := by unfold qtE; rw [h4.2.1, h4.2.2, h5.2]
  have n1 : l1.length ≤ f.length := by have := rd_le f 0 4; rw [show rdText f 0 4 = qt1 f from rfl, h1.2.1] at this; exact this
  have n2 : l2.length ≤ l1.length := by have := rd_le l1 e1 1; rw [q2, h2.2.1] at this; exact this
  have n3 : l3.length ≤ l2.length := by have := rd_le l2 e2 6; rw [q3, h3.2.1] at this; exact this
  have n4 : l4.length ≤ l3.length := by have := rd_le l3 e3 6; rw [q4, h4.2.1] at this; exact this
  have U1 : Hid (∀ w p, Rd w p f 0 → Calls Tryz.prog 139 #[.pointer (some ⟨p, 0, none⟩)] w fun en w' => en = .returned (.int .u32 nm) ∧ Rd w' p l1 e1 ∧ Only p w w') := fun w p hr => by
    have h := U32_any p f 0 w hr (by omega)
    rw [show rdText f 0 4 = qt1 f from rfl, h1.1, h1.2.1, h1.2.2] at h; exact h
  have U2 : Hid (∀ w p, Rd w p l1 e1 → Calls Tryz.prog 90 #[.pointer (some ⟨p, 0, none⟩)] w fun en w' => en = .returned (.int .u8 tl) ∧ Rd w' p l2 e2 ∧ Only p w w') := fun w p hr => by
    have h := U8_any p l1 e1 w hr (by omega)
    rw [q2, h2.1, h2.2.1, h2.2.2] at h; exact h
  have U3 : Hid (∀ w p, Rd w p l2 e2 → Calls Tryz.prog 143 #[.pointer (some ⟨p, 0, none⟩)] w fun en w' => en = .returned (.agg #[.int .u8 m3.a, .int .u8 m3.b, .int .u8 m3.c, .int .u8 m3.d, .int .u8 m3.e, .int .u8 m3.f]) ∧ Rd w' p l3 e3 ∧ Only p w w') := fun w p hr => by
    have h := addressM_any p l2 e2 w hr (by omega)
    rw [q3, h3.1, h3.2.1, h3.2.2] at h; exact h
  have U4 : Hid (∀ w p, Rd w p l3 e3 → Calls Tryz.prog 143 #[.pointer (some ⟨p, 0, none⟩)] w fun en w' => en = .returned (.agg #[.int .u8 m4.a, .int .u8 m4.b, .int .u8 m4.c, .int .u8 m4.d, .int .u8 m4.e, .int .u8 m4.f]) ∧ Rd w' p l4 e4 ∧ Only p w w') := fun w p hr => by
    have h := addressM_any p l3 e3 w hr (by omega)
    rw [q4, h4.1, h4.2.1, h4.2.2] at h; exact h
  have U5 : Hid (∀ w p, Rd w p l4 e4 → Calls Tryz.prog 140 #[.pointer (some ⟨p, 0, none⟩)] w fun en w' => en = .returned (.int .i64 E) ∧ Rd w' p l5 E ∧ Only p w w') := fun w p hr => by
    have h := end_any p l4 e4 w hr (by omega)
    rw [h5.1, h5.2] at h; exact h
  have HRR := Lib.hid (show R = if b = 5 ∧ E = 0 then (⟨a, nm, tl, m3, m4⟩, 0) else (tr0, 4) by
    rw [← hR]; unfold tkTr; rw [h1.1, h2.1, h3.1, h4.1, hE])
  clear hR h1 h2 h3 h4 h5 q2 q3 q4 hE n1 n2 n3 n4 hf
  go_enter Tryz.func127, Tryz.ntmps127
  go_upto_region 1 with fail
  have pb0 := (PB.new 103 w a b c f v).later ((Below.refl _ _).alloc (Nat.le_refl _) (.cells #[.int .u8 0, .int .u32 0, .int .u8 0, .int .u8 0, .int .u8 0, .int .u8 0, .int .u8 0, .int .u8 0, .int .u8 0, .int .u8 0, .int .u8 0, .int .u8 0, .int .u8 0, .int .u8 0, .int .u8 0] 132))
  have pz : GB 132 ((w.alloc (.cells #[.int .u8 a, .int .u8 b, .int .u8 c, .string (bs f), v] 103)).alloc (.cells #[.int .u8 0, .int .u32 0, .int .u8 0, .int .u8 0, .int .u8 0, .int .u8 0, .int .u8 0, .int .u8 0, .int .u8 0, .int .u8 0, .int .u8 0, .int .u8 0, .int .u8 0, .int .u8 0, .int .u8 0] 132)) (w.heap.size + 1) #[.int .u8 0, .int .u32 0, .int .u8 0, .int .u8 0, .int .u8 0, .int .u8 0, .int .u8 0, .int .u8 0, .int .u8 0, .int .u8 0, .int .u8 0, .int .u8 0, .int .u8 0, .int .u8 0, .int .u8 0] := by
    have := GB.new 132 (w.alloc (.cells #[.int .u8 a, .int .u8 b, .int .u8 c, .string (bs f), v] 103)) #[.int .u8 0, .int .u32 0, .int .u8 0, .int .u8 0, .int .u8 0, .int .u8 0, .int .u8 0, .int .u8 0, .int .u8 0, .int .u8 0, .int .u8 0, .int .u8 0, .int .u8 0, .int .u8 0, .int .u8 0]
    rw [show (w.alloc (.cells #[.int .u8 a, .int .u8 b, .int .u8 c, .string (bs f), v] 103)).heap.size = w.heap.size + 1 by simp] at this
    exact this
  have hb0 : Below w.heap.size w ((w.alloc (.cells #[.int .u8 a, .int .u8 b, .int .u8 c, .string (bs f), v] 103)).alloc (.cells #[.int .u8 0, .int .u32 0, .int .u8 0, .int .u8 0, .int .u8 0, .int .u8 0, .int .u8 0, .int .u8 0, .int .u8 0, .int .u8 0, .int .u8 0, .int .u8 0, .int .u8 0, .int .u8 0, .int .u8 0] 132)) := ((Below.refl _ _).alloc (Nat.le_refl _) _).alloc (by simp) _
  obtain ⟨w0, hw0⟩ : ∃ k, (w.alloc (.cells #[.int .u8 a, .int .u8 b, .int .u8 c, .string (bs f), v] 103)).alloc (.cells #[.int .u8 0, .int .u32 0, .int .u8 0, .int .u8 0, .int .u8 0, .int .u8 0, .int .u8 0, .int .u8 0, .int .u8 0, .int .u8 0, .int .u8 0, .int .u8 0, .int .u8 0, .int .u8 0, .int .u8 0] 132) = k := ⟨_, rfl⟩
  rw [hw0] at pb0 pz hb0 ⊢
  have c3 := pb0.c3
  have PB0 := Lib.hid pb0
  have PZ0 := Lib.hid pz
  have HB0 := Lib.hid hb0
  clear hw0 pb0 pz hb0
  go_wp2_with fail
  with_reducible refine (of_any f w0).mono ?_
  rintro en' w1 ⟨rfl, hr1, hb1, hlt⟩
  have RN0 : Hid (QT w w1 w0.heap.size f 0 a b c f v) := Lib.hid ⟨hr1, PB0.out.later hb1, PZ0.out.later hb1, HB0.out.trans (hb1.mono HB0.out.size), PZ0.out.lt⟩
  obtain ⟨x, hx⟩ : ∃ x, w0.heap.size = x := ⟨_, rfl⟩
  rw [hx] at RN0 ⊢
  clear hr1 hb1 hlt c3 PB0 PZ0 HB0 hx
  go_upto_region 2 with fail
  obtain ⟨FA, hFA⟩ : ∃ A : Array Value, A = #[.int .u8 a, .int .u32 nm, .int .u8 tl, .int .u8 m3.a, .int .u8 m3.b, .int .u8 m3.c, .int .u8 m3.d, .int .u8 m3.e, .int .u8 m3.f, .int .u8 m4.a, .int .u8 m4.b, .int .u8 m4.c, .int .u8 m4.d, .int .u8 m4.e, .int .u8 m4.f] := ⟨_, rfl⟩
  have HSZ : Hid (FA.size = 15) := Lib.hid (by rw [hFA]; rfl)
  have HIF : Hid ((Tryz.prog.info? 132).map (·.size) = some FA.size) := Lib.hid (by rw [HSZ.out]; kernel_rfl)
  have HIL : Hid ((Tryz.prog.info? 132).map (·.size) = some FA.toList.length) := Lib.hid (by rw [Array.length_toList]; exact HIF.out)
  have O1F : Hid (FA.all (·.oneCell') = true) := Lib.hid (by rw [hFA]; simp [Value.oneCell'])
  have HFA := Lib.hid hFA
  clear hFA
  go_cut [5] (fun s5 wx => ∃ q : Nat, s5 = .pointer (some ⟨q, 0, none⟩) ∧ Hid (QT w wx x l4 e4 a b c f v) ∧ Hid (GB 132 wx q FA) ∧ Hid (x < q))
  case first =>
    have RN := Lib.hid RN0.out.drew
    refine wp_region_held_drew (S := fun W => W.cell? ⟨w.heap.size, 0, none⟩ = some (.int .u8 a)) (by kernel_rfl) RN.out.one (fun hHeld => ?_)
    refine wpAnyH_take (i := 0) (v := ?_) rfl (by kernel_rfl) (by kernel_rfl) (by kernel_rfl) (fun _ _ _ h => h) (Or.inl ⟨by rfl, ?hy0⟩) (by assumption) ?_
    case hy0 => (intro w hSw; (try dsimp only at hSw); go_simp; try with_reducible rfl)
    try simp only [Act.put, List.setIfInBounds_toArray, List.set_cons_zero, List.set_cons_succ, List.getElem_toArray, List.getElem_cons_zero, List.getElem_cons_succ]
    refine wpAnyH_take (i := 1) (v := ?_) rfl (by kernel_rfl) (by kernel_rfl) (by kernel_rfl) (fun _ _ _ h => h) (Or.inl ⟨by rfl, ?hy1⟩) (by assumption) ?_
    case hy1 => (intro w hSw; (try dsimp only at hSw); go_simp; try with_reducible rfl)
    try simp only [Act.put, List.setIfInBounds_toArray, List.set_cons_zero, List.set_cons_succ, List.getElem_toArray, List.getElem_cons_zero, List.getElem_cons_succ]
    refine wpAnyH_take (i := 2) (v := ?_) rfl (by kernel_rfl) (by kernel_rfl) (by kernel_rfl) (fun _ _ _ h => h) (Or.inl ⟨by rfl, ?hy2⟩) (by assumption) ?_
    case hy2 => (intro w hSw; (try dsimp only at hSw); go_simp; try with_reducible rfl)
    try simp only [Act.put, List.setIfInBounds_toArray, List.set_cons_zero, List.set_cons_succ, List.getElem_toArray, List.getElem_cons_zero, List.getElem_cons_succ]
    refine wpAnyH_take (i := 4) (v := ?_) rfl (by kernel_rfl) (by kernel_rfl) (by kernel_rfl) (fun _ _ _ h => h) (Or.inl ⟨by rfl, ?hy4⟩) (by assumption) ?_
    case hy4 => (intro w hSw; (try dsimp only at hSw); go_simp; try with_reducible rfl)
    try simp only [Act.put, List.setIfInBounds_toArray, List.set_cons_zero, List.set_cons_succ, List.getElem_toArray, List.getElem_cons_zero, List.getElem_cons_succ]
    refine wpAnyH_take (i := 6) (v := ?_) rfl (by kernel_rfl) (by kernel_rfl) (by kernel_rfl) (fun _ _ _ h => h) (Or.inl ⟨by rfl, ?hy6⟩) (by assumption) ?_
    case hy6 => (intro w hSw; (try dsimp only at hSw); go_simp; try with_reducible rfl)
    try simp only [Act.put, List.setIfInBounds_toArray, List.set_cons_zero, List.set_cons_succ, List.getElem_toArray, List.getElem_cons_zero, List.getElem_cons_succ]
    refine wpAnyH_take (i := 8) (v := ?_) rfl (by kernel_rfl) (by kernel_rfl) (by kernel_rfl) (fun _ _ _ h => h) (Or.inl ⟨by rfl, ?hy8⟩) (by assumption) ?_
    case hy8 => (intro w hSw; (try dsimp only at hSw); go_simp; try with_reducible rfl)
    try simp only [Act.put, List.setIfInBounds_toArray, List.set_cons_zero, List.set_cons_succ, List.getElem_toArray, List.getElem_cons_zero, List.getElem_cons_succ]
    refine wpAnyH_ready (rs := [3, 11]) (by kernel_rfl) (by simp) (AllReadyH.cons rfl (fun K hK => ?main3) (AllReadyH.cons rfl (fun K hK => ?side3) AllReadyH.nil))
    case side3 =>
      (go_simp; have NQ := Lib.hid ((NT.new w1 RN0.out.rd.lt).drew); have RN := Lib.hid ((RN0.out.alloc (.cells #[.int .u8 0, .int .u32 0, .int .u8 0, .int .u8 0, .int .u8 0, .int .u8 0, .int .u8 0, .int .u8 0, .int .u8 0, .int .u8 0, .int .u8 0, .int .u8 0, .int .u8 0, .int .u8 0, .int .u8 0] 132)).drew); refine hK.out _ _ RN.out.one (fun hHeld => ?_); clear hK K; try simp only [Act.put, List.setIfInBounds_toArray, List.set_cons_zero, List.set_cons_succ, List.getElem_toArray, List.getElem_cons_zero, List.getElem_cons_succ])
      refine wpAnyH_ready (rs := [3]) (by kernel_rfl) (by simp) (AllReadyH.cons rfl (fun K hK => ?_) AllReadyH.nil)
      (go_simp; go_at_call 139; (with_reducible refine (U1.out _ _ RN.out.rd).mono ?_); rintro en' wx3 ⟨rfl, rd_, ho_⟩; have NQ := Lib.hid (NQ.out.only ho_); have RN := Lib.hid (RN.out.next rd_ ho_); clear rd_ ho_; refine hK.out _ _ RN.out.one (fun hHeld => ?_); clear hK K; try simp only [Act.put, List.setIfInBounds_toArray, List.set_cons_zero, List.set_cons_succ, List.getElem_toArray, List.getElem_cons_zero, List.getElem_cons_succ])
      refine wpAnyH_ready (rs := [5]) (by kernel_rfl) (by simp) (AllReadyH.cons rfl (fun K hK => ?_) AllReadyH.nil)
      (go_simp; go_at_call 90; (with_reducible refine (U2.out _ _ RN.out.rd).mono ?_); rintro en' wx5 ⟨rfl, rd_, ho_⟩; have NQ := Lib.hid (NQ.out.only ho_); have RN := Lib.hid (RN.out.next rd_ ho_); clear rd_ ho_; refine hK.out _ _ RN.out.one (fun hHeld => ?_); clear hK K; try simp only [Act.put, List.setIfInBounds_toArray, List.set_cons_zero, List.set_cons_succ, List.getElem_toArray, List.getElem_cons_zero, List.getElem_cons_succ])
      refine wpAnyH_ready (rs := [7]) (by kernel_rfl) (by simp) (AllReadyH.cons rfl (fun K hK => ?_) AllReadyH.nil)
      (go_simp; go_at_call 143; (with_reducible refine (U3.out _ _ RN.out.rd).mono ?_); rintro en' wx7 ⟨rfl, rd_, ho_⟩; have NQ := Lib.hid (NQ.out.only ho_); have RN := Lib.hid (RN.out.next rd_ ho_); clear rd_ ho_; refine hK.out _ _ RN.out.one (fun hHeld => ?_); clear hK K; try simp only [Act.put, List.setIfInBounds_toArray, List.set_cons_zero, List.set_cons_succ, List.getElem_toArray, List.getElem_cons_zero, List.getElem_cons_succ])
      refine wpAnyH_ready (rs := [9]) (by kernel_rfl) (by simp) (AllReadyH.cons rfl (fun K hK => ?_) AllReadyH.nil)
      (go_simp; go_at_call 143; (with_reducible refine (U4.out _ _ RN.out.rd).mono ?_); rintro en' wx9 ⟨rfl, rd_, ho_⟩; have NQ := Lib.hid (NQ.out.only ho_); have RN := Lib.hid (RN.out.next rd_ ho_); clear rd_ ho_; refine hK.out _ _ RN.out.one (fun hHeld => ?_); clear hK K; try simp only [Act.put, List.setIfInBounds_toArray, List.set_cons_zero, List.set_cons_succ, List.getElem_toArray, List.getElem_cons_zero, List.getElem_cons_succ])
      refine wpAnyH_take (i := 10) (v := ?_) rfl (by kernel_rfl) (by kernel_rfl) (by kernel_rfl) (fun _ _ _ h => h) (Or.inl ⟨by rfl, ?hy10⟩) (by assumption) ?_
      case hy10 => (intro w hSw; (try dsimp only at hSw); go_simp; try with_reducible rfl)
      try simp only [Act.put, List.setIfInBounds_toArray, List.set_cons_zero, List.set_cons_succ, List.getElem_toArray, List.getElem_cons_zero, List.getElem_cons_succ]
      refine wpAnyH_ready (rs := [12]) (by kernel_rfl) (by simp) (AllReadyH.cons rfl (fun K hK => ?_) AllReadyH.nil)
      (rw [if_pos (by rfl)]; refine wp_store_mid 132 (.tmp 5) (.tmp 19) rfl _ 0 FA rfl (by rw [HFA.out]; rfl) (NQ.out.1.there (Nat.le_of_eq HSZ.out)) HIF.out O1F.out ?_; refine hK.out _ _ ((QT.cells NQ.out.2 _ _ _ RN.out).one) (fun hHeld => ?_); clear hK K; try simp only [Act.put, List.setIfInBounds_toArray])
      refine wpAnyH_done (by kernel_rfl) ?_ _
      go_wp2_with fail
      go_meet
      exact ⟨_, rfl, Lib.hid (QT.cells NQ.out.2 _ _ _ RN.out), Lib.hid (GB.store NQ.out.1 HSZ.out.symm O1F.out), Lib.hid NQ.out.2⟩
    (go_simp; go_at_call 139; (with_reducible refine (U1.out _ _ RN.out.rd).mono ?_); rintro en' wx3 ⟨rfl, rd_, ho_⟩; have RN := Lib.hid (RN.out.next rd_ ho_); clear rd_ ho_; refine hK.out _ _ RN.out.one (fun hHeld => ?_); clear hK K; try simp only [Act.put, List.setIfInBounds_toArray, List.set_cons_zero, List.set_cons_succ, List.getElem_toArray, List.getElem_cons_zero, List.getElem_cons_succ])
    refine wpAnyH_ready (rs := [5, 11]) (by kernel_rfl) (by simp) (AllReadyH.cons rfl (fun K hK => ?main5) (AllReadyH.cons rfl (fun K hK => ?side5) AllReadyH.nil))
    case side5 =>
      (go_simp; have NQ := Lib.hid (NT.new wx3 RN.out.rd.lt); have RN := Lib.hid (RN.out.alloc (.cells #[.int .u8 0, .int .u32 0, .int .u8 0, .int .u8 0, .int .u8 0, .int .u8 0, .int .u8 0, .int .u8 0, .int .u8 0, .int .u8 0, .int .u8 0, .int .u8 0, .int .u8 0, .int .u8 0, .int .u8 0] 132)); refine hK.out _ _ RN.out.one (fun hHeld => ?_); clear hK K; try simp only [Act.put, List.setIfInBounds_toArray, List.set_cons_zero, List.set_cons_succ, List.getElem_toArray, List.getElem_cons_zero, List.getElem_cons_succ])
      refine wpAnyH_ready (rs := [5]) (by kernel_rfl) (by simp) (AllReadyH.cons rfl (fun K hK => ?_) AllReadyH.nil)
      (go_simp; go_at_call 90; (with_reducible refine (U2.out _ _ RN.out.rd).mono ?_); rintro en' wx5 ⟨rfl, rd_, ho_⟩; have NQ := Lib.hid (NQ.out.only ho_); have RN := Lib.hid (RN.out.next rd_ ho_); clear rd_ ho_; refine hK.out _ _ RN.out.one (fun hHeld => ?_); clear hK K; try simp only [Act.put, List.setIfInBounds_toArray, List.set_cons_zero, List.set_cons_succ, List.getElem_toArray, List.getElem_cons_zero, List.getElem_cons_succ])
      refine wpAnyH_ready (rs := [7]) (by kernel_rfl) (by simp) (AllReadyH.cons rfl (fun K hK => ?_) AllReadyH.nil)
      (go_simp; go_at_call 143; (with_reducible refine (U3.out _ _ RN.out.rd).mono ?_); rintro en' wx7 ⟨rfl, rd_, ho_⟩; have NQ := Lib.hid (NQ.out.only ho_); have RN := Lib.hid (RN.out.next rd_ ho_); clear rd_ ho_; refine hK.out _ _ RN.out.one (fun hHeld => ?_); clear hK K; try simp only [Act.put, List.setIfInBounds_toArray, List.set_cons_zero, List.set_cons_succ, List.getElem_toArray, List.getElem_cons_zero, List.getElem_cons_succ])
      refine wpAnyH_ready (rs := [9]) (by kernel_rfl) (by simp) (AllReadyH.cons rfl (fun K hK => ?_) AllReadyH.nil)
      (go_simp; go_at_call 143; (with_reducible refine (U4.out _ _ RN.out.rd).mono ?_); rintro en' wx9 ⟨rfl, rd_, ho_⟩; have NQ := Lib.hid (NQ.out.only ho_); have RN := Lib.hid (RN.out.next rd_ ho_); clear rd_ ho_; refine hK.out _ _ RN.out.one (fun hHeld => ?_); clear hK K; try simp only [Act.put, List.setIfInBounds_toArray, List.set_cons_zero, List.set_cons_succ, List.getElem_toArray, List.getElem_cons_zero, List.getElem_cons_succ])
      refine wpAnyH_take (i := 10) (v := ?_) rfl (by kernel_rfl) (by kernel_rfl) (by kernel_rfl) (fun _ _ _ h => h) (Or.inl ⟨by rfl, ?hy10⟩) (by assumption) ?_
      case hy10 => (intro w hSw; (try dsimp only at hSw); go_simp; try with_reducible rfl)
      try simp only [Act.put, List.setIfInBounds_toArray, List.set_cons_zero, List.set_cons_succ, List.getElem_toArray, List.getElem_cons_zero, List.getElem_cons_succ]
      refine wpAnyH_ready (rs := [12]) (by kernel_rfl) (by simp) (AllReadyH.cons rfl (fun K hK => ?_) AllReadyH.nil)
      (rw [if_pos (by rfl)]; refine wp_store_mid 132 (.tmp 5) (.tmp 19) rfl _ 0 FA rfl (by rw [HFA.out]; rfl) (NQ.out.1.there (Nat.le_of_eq HSZ.out)) HIF.out O1F.out ?_; refine hK.out _ _ ((QT.cells NQ.out.2 _ _ _ RN.out).one) (fun hHeld => ?_); clear hK K; try simp only [Act.put, List.setIfInBounds_toArray])
      refine wpAnyH_done (by kernel_rfl) ?_ _
      go_wp2_with fail
      go_meet
      exact ⟨_, rfl, Lib.hid (QT.cells NQ.out.2 _ _ _ RN.out), Lib.hid (GB.store NQ.out.1 HSZ.out.symm O1F.out), Lib.hid NQ.out.2⟩
    (go_simp; go_at_call 90; (with_reducible refine (U2.out _ _ RN.out.rd).mono ?_); rintro en' wx5 ⟨rfl, rd_, ho_⟩; have RN := Lib.hid (RN.out.next rd_ ho_); clear rd_ ho_; refine hK.out _ _ RN.out.one (fun hHeld => ?_); clear hK K; try simp only [Act.put, List.setIfInBounds_toArray, List.set_cons_zero, List.set_cons_succ, List.getElem_toArray, List.getElem_cons_zero, List.getElem_cons_succ])
    refine wpAnyH_ready (rs := [7, 11]) (by kernel_rfl) (by simp) (AllReadyH.cons rfl (fun K hK => ?main7) (AllReadyH.cons rfl (fun K hK => ?side7) AllReadyH.nil))
    case side7 =>
      (go_simp; have NQ := Lib.hid (NT.new wx5 RN.out.rd.lt); have RN := Lib.hid (RN.out.alloc (.cells #[.int .u8 0, .int .u32 0, .int .u8 0, .int .u8 0, .int .u8 0, .int .u8 0, .int .u8 0, .int .u8 0, .int .u8 0, .int .u8 0, .int .u8 0, .int .u8 0, .int .u8 0, .int .u8 0, .int .u8 0] 132)); refine hK.out _ _ RN.out.one (fun hHeld => ?_); clear hK K; try simp only [Act.put, List.setIfInBounds_toArray, List.set_cons_zero, List.set_cons_succ, List.getElem_toArray, List.getElem_cons_zero, List.getElem_cons_succ])
      refine wpAnyH_ready (rs := [7]) (by kernel_rfl) (by simp) (AllReadyH.cons rfl (fun K hK => ?_) AllReadyH.nil)
      (go_simp; go_at_call 143; (with_reducible refine (U3.out _ _ RN.out.rd).mono ?_); rintro en' wx7 ⟨rfl, rd_, ho_⟩; have NQ := Lib.hid (NQ.out.only ho_); have RN := Lib.hid (RN.out.next rd_ ho_); clear rd_ ho_; refine hK.out _ _ RN.out.one (fun hHeld => ?_); clear hK K; try simp only [Act.put, List.setIfInBounds_toArray, List.set_cons_zero, List.set_cons_succ, List.getElem_toArray, List.getElem_cons_zero, List.getElem_cons_succ])
      refine wpAnyH_ready (rs := [9]) (by kernel_rfl) (by simp) (AllReadyH.cons rfl (fun K hK => ?_) AllReadyH.nil)
      (go_simp; go_at_call 143; (with_reducible refine (U4.out _ _ RN.out.rd).mono ?_); rintro en' wx9 ⟨rfl, rd_, ho_⟩; have NQ := Lib.hid (NQ.out.only ho_); have RN := Lib.hid (RN.out.next rd_ ho_); clear rd_ ho_; refine hK.out _ _ RN.out.one (fun hHeld => ?_); clear hK K; try simp only [Act.put, List.setIfInBounds_toArray, List.set_cons_zero, List.set_cons_succ, List.getElem_toArray, List.getElem_cons_zero, List.getElem_cons_succ])
      refine wpAnyH_take (i := 10) (v := ?_) rfl (by kernel_rfl) (by kernel_rfl) (by kernel_rfl) (fun _ _ _ h => h) (Or.inl ⟨by rfl, ?hy10⟩) (by assumption) ?_
      case hy10 => (intro w hSw; (try dsimp only at hSw); go_simp; try with_reducible rfl)
      try simp only [Act.put, List.setIfInBounds_toArray, List.set_cons_zero, List.set_cons_succ, List.getElem_toArray, List.getElem_cons_zero, List.getElem_cons_succ]
      refine wpAnyH_ready (rs := [12]) (by kernel_rfl) (by simp) (AllReadyH.cons rfl (fun K hK => ?_) AllReadyH.nil)
      (rw [if_pos (by rfl)]; refine wp_store_mid 132 (.tmp 5) (.tmp 19) rfl _ 0 FA rfl (by rw [HFA.out]; rfl) (NQ.out.1.there (Nat.le_of_eq HSZ.out)) HIF.out O1F.out ?_; refine hK.out _ _ ((QT.cells NQ.out.2 _ _ _ RN.out).one) (fun hHeld => ?_); clear hK K; try simp only [Act.put, List.setIfInBounds_toArray])
      refine wpAnyH_done (by kernel_rfl) ?_ _
      go_wp2_with fail
      go_meet
      exact ⟨_, rfl, Lib.hid (QT.cells NQ.out.2 _ _ _ RN.out), Lib.hid (GB.store NQ.out.1 HSZ.out.symm O1F.out), Lib.hid NQ.out.2⟩
    (go_simp; go_at_call 143; (with_reducible refine (U3.out _ _ RN.out.rd).mono ?_); rintro en' wx7 ⟨rfl, rd_, ho_⟩; have RN := Lib.hid (RN.out.next rd_ ho_); clear rd_ ho_; refine hK.out _ _ RN.out.one (fun hHeld => ?_); clear hK K; try simp only [Act.put, List.setIfInBounds_toArray, List.set_cons_zero, List.set_cons_succ, List.getElem_toArray, List.getElem_cons_zero, List.getElem_cons_succ])
    refine wpAnyH_ready (rs := [9, 11]) (by kernel_rfl) (by simp) (AllReadyH.cons rfl (fun K hK => ?main9) (AllReadyH.cons rfl (fun K hK => ?side9) AllReadyH.nil))
    case side9 =>
      (go_simp; have NQ := Lib.hid (NT.new wx7 RN.out.rd.lt); have RN := Lib.hid (RN.out.alloc (.cells #[.int .u8 0, .int .u32 0, .int .u8 0, .int .u8 0, .int .u8 0, .int .u8 0, .int .u8 0, .int .u8 0, .int .u8 0, .int .u8 0, .int .u8 0, .int .u8 0, .int .u8 0, .int .u8 0, .int .u8 0] 132)); refine hK.out _ _ RN.out.one (fun hHeld => ?_); clear hK K; try simp only [Act.put, List.setIfInBounds_toArray, List.set_cons_zero, List.set_cons_succ, List.getElem_toArray, List.getElem_cons_zero, List.getElem_cons_succ])
      refine wpAnyH_ready (rs := [9]) (by kernel_rfl) (by simp) (AllReadyH.cons rfl (fun K hK => ?_) AllReadyH.nil)
      (go_simp; go_at_call 143; (with_reducible refine (U4.out _ _ RN.out.rd).mono ?_); rintro en' wx9 ⟨rfl, rd_, ho_⟩; have NQ := Lib.hid (NQ.out.only ho_); have RN := Lib.hid (RN.out.next rd_ ho_); clear rd_ ho_; refine hK.out _ _ RN.out.one (fun hHeld => ?_); clear hK K; try simp only [Act.put, List.setIfInBounds_toArray, List.set_cons_zero, List.set_cons_succ, List.getElem_toArray, List.getElem_cons_zero, List.getElem_cons_succ])
      refine wpAnyH_take (i := 10) (v := ?_) rfl (by kernel_rfl) (by kernel_rfl) (by kernel_rfl) (fun _ _ _ h => h) (Or.inl ⟨by rfl, ?hy10⟩) (by assumption) ?_
      case hy10 => (intro w hSw; (try dsimp only at hSw); go_simp; try with_reducible rfl)
      try simp only [Act.put, List.setIfInBounds_toArray, List.set_cons_zero, List.set_cons_succ, List.getElem_toArray, List.getElem_cons_zero, List.getElem_cons_succ]
      refine wpAnyH_ready (rs := [12]) (by kernel_rfl) (by simp) (AllReadyH.cons rfl (fun K hK => ?_) AllReadyH.nil)
      (rw [if_pos (by rfl)]; refine wp_store_mid 132 (.tmp 5) (.tmp 19) rfl _ 0 FA rfl (by rw [HFA.out]; rfl) (NQ.out.1.there (Nat.le_of_eq HSZ.out)) HIF.out O1F.out ?_; refine hK.out _ _ ((QT.cells NQ.out.2 _ _ _ RN.out).one) (fun hHeld => ?_); clear hK K; try simp only [Act.put, List.setIfInBounds_toArray])
      refine wpAnyH_done (by kernel_rfl) ?_ _
      go_wp2_with fail
      go_meet
      exact ⟨_, rfl, Lib.hid (QT.cells NQ.out.2 _ _ _ RN.out), Lib.hid (GB.store NQ.out.1 HSZ.out.symm O1F.out), Lib.hid NQ.out.2⟩
    (go_simp; go_at_call 143; (with_reducible refine (U4.out _ _ RN.out.rd).mono ?_); rintro en' wx9 ⟨rfl, rd_, ho_⟩; have RN := Lib.hid (RN.out.next rd_ ho_); clear rd_ ho_; refine hK.out _ _ RN.out.one (fun hHeld => ?_); clear hK K; try simp only [Act.put, List.setIfInBounds_toArray, List.set_cons_zero, List.set_cons_succ, List.getElem_toArray, List.getElem_cons_zero, List.getElem_cons_succ])
    refine wpAnyH_take (i := 10) (v := ?_) rfl (by kernel_rfl) (by kernel_rfl) (by kernel_rfl) (fun _ _ _ h => h) (Or.inl ⟨by rfl, ?hy10⟩) (by assumption) ?_
    case hy10 => (intro w hSw; (try dsimp only at hSw); go_simp; try with_reducible rfl)
    try simp only [Act.put, List.setIfInBounds_toArray, List.set_cons_zero, List.set_cons_succ, List.getElem_toArray, List.getElem_cons_zero, List.getElem_cons_succ]
    refine wpAnyH_ready (rs := [11]) (by kernel_rfl) (by simp) (AllReadyH.cons rfl (fun K hK => ?_) AllReadyH.nil)
    (go_simp; have NQ := Lib.hid (NT.new wx9 RN.out.rd.lt); have RN := Lib.hid (RN.out.alloc (.cells #[.int .u8 0, .int .u32 0, .int .u8 0, .int .u8 0, .int .u8 0, .int .u8 0, .int .u8 0, .int .u8 0, .int .u8 0, .int .u8 0, .int .u8 0, .int .u8 0, .int .u8 0, .int .u8 0, .int .u8 0] 132)); refine hK.out _ _ RN.out.one (fun hHeld => ?_); clear hK K; try simp only [Act.put, List.setIfInBounds_toArray, List.set_cons_zero, List.set_cons_succ, List.getElem_toArray, List.getElem_cons_zero, List.getElem_cons_succ])
    refine wpAnyH_ready (rs := [12]) (by kernel_rfl) (by simp) (AllReadyH.cons rfl (fun K hK => ?_) AllReadyH.nil)
    (rw [if_pos (by rfl)]; refine wp_store_mid 132 (.tmp 5) (.tmp 19) rfl _ 0 FA rfl (by rw [HFA.out]; rfl) (NQ.out.1.there (Nat.le_of_eq HSZ.out)) HIF.out O1F.out ?_; refine hK.out _ _ ((QT.cells NQ.out.2 _ _ _ RN.out).one) (fun hHeld => ?_); clear hK K; try simp only [Act.put, List.setIfInBounds_toArray])
    refine wpAnyH_done (by kernel_rfl) ?_ _
    go_wp2_with fail
    go_meet
    exact ⟨_, rfl, Lib.hid (QT.cells NQ.out.2 _ _ _ RN.out), Lib.hid (GB.store NQ.out.1 HSZ.out.symm O1F.out), Lib.hid NQ.out.2⟩
  case rest =>
    obtain ⟨q, rfl, QN, GN, HXQ⟩ := hcut
    clear RN0 U1 U2 U3 U4
    have c1 := QN.out.pb.c1
    by_cases hb5 : b = 5
    rotate_left
    · have d5 : (b != 5) = true := by rw [bne_iff_ne]; exact hb5
      have HR0 : Hid (R = (tr0, 4)) := Lib.hid (by rw [HRR.out, if_neg (fun h => hb5 h.1)])
      clear hb5
      obtain ⟨A, hA⟩ : ∃ A : Array Value, A = #[.int .u8 0, .int .u32 0, .int .u8 0, .int .u8 0, .int .u8 0, .int .u8 0, .int .u8 0, .int .u8 0, .int .u8 0, .int .u8 0, .int .u8 0, .int .u8 0, .int .u8 0, .int .u8 0, .int .u8 0] := ⟨_, rfl⟩
      have hs : A.size = 15 := by rw [hA]; rfl
      have TH := Lib.hid (QN.out.pz.there (n := A.size) (by rw [hs]; exact Nat.le_refl _))
      have o1 : A.all (·.oneCell') = true := by rw [hA]; simp [Value.oneCell']
      have G1 := Lib.hid (QN.out.pz.store (A := A) (by rw [hs]; rfl) o1)
      have HI : Hid ((Tryz.prog.info? 132).map (·.size) = some A.size) := Lib.hid (by rw [hs]; kernel_rfl)
      have O1 := Lib.hid o1
      have HA := Lib.hid hA
      clear hA hs o1
      go_wp2_with ((with_reducible refine wpList_store_mid rfl 132 (.tmp 2) (.tmp 28) rfl (w.heap.size + 1) 0 A ?hx ?hy TH.out HI.out O1.out ?_); (case hx => rfl); (case hy => (rw [HA.out]; rfl)))
      exact bodyPost_ret (v := .tuple #[.agg A, .int .i64 4]) (res_two (p := 2) (u := 3) (d := _) rfl rfl Tryz.underlying132 _ _ (w.heap.size + 1) _ rfl G1.out HI.out) rfl ⟨by rw [HA.out, HR0.out]; rfl, below_cellsG (by omega) _ _ _ QN.out.bel⟩
    have d5 : (b != 5) = false := by rw [hb5]; rfl
    have HB5 := Lib.hid hb5
    clear hb5
    go_wp2_with fail
    with_reducible refine (U5.out _ _ QN.out.rd).mono ?_
    rintro en' w6 ⟨rfl, hr6, ho6⟩
    have QM := Lib.hid (QN.out.next hr6 ho6)
    have GM := Lib.hid (GN.out.only ho6 (by have := HXQ.out; omega))
    clear hr6 ho6 c1 QN GN
    by_cases hE0 : E = 0
    rotate_left
    · have dE : (E != 0) = true := by rw [bne_iff_ne]; exact hE0
      have HR0 : Hid (R = (tr0, 4)) := Lib.hid (by rw [HRR.out, if_neg (fun h => hE0 h.2)])
      clear hE0
      obtain ⟨A, hA⟩ : ∃ A : Array Value, A = #[.int .u8 0, .int .u32 0, .int .u8 0, .int .u8 0, .int .u8 0, .int .u8 0, .int .u8 0, .int .u8 0, .int .u8 0, .int .u8 0, .int .u8 0, .int .u8 0, .int .u8 0, .int .u8 0, .int .u8 0] := ⟨_, rfl⟩
      have hs : A.size = 15 := by rw [hA]; rfl
      have TH := Lib.hid (QM.out.pz.there (n := A.size) (by rw [hs]; exact Nat.le_refl _))
      have o1 : A.all (·.oneCell') = true := by rw [hA]; simp [Value.oneCell']
      have G1 := Lib.hid (QM.out.pz.store (A := A) (by rw [hs]; rfl) o1)
      have HI : Hid ((Tryz.prog.info? 132).map (·.size) = some A.size) := Lib.hid (by rw [hs]; kernel_rfl)
      have O1 := Lib.hid o1
      have HA := Lib.hid hA
      clear hA hs o1
      go_wp2_with ((with_reducible refine wpList_store_mid rfl 132 (.tmp 2) (.tmp 28) rfl (w.heap.size + 1) 0 A ?hx ?hy TH.out HI.out O1.out ?_); (case hx => rfl); (case hy => (rw [HA.out]; rfl)))
      exact bodyPost_ret (v := .tuple #[.agg A, .int .i64 4]) (res_two (p := 2) (u := 3) (d := _) rfl rfl Tryz.underlying132 _ _ (w.heap.size + 1) _ rfl G1.out HI.out) rfl ⟨by rw [HA.out, HR0.out]; rfl, below_cellsG (by omega) _ _ _ QM.out.bel⟩
    have dE : (E != 0) = false := by rw [hE0]; rfl
    have HR0 : Hid (R = (⟨a, nm, tl, m3, m4⟩, 0)) := Lib.hid (by rw [HRR.out, if_pos ⟨HB5.out, hE0⟩])
    have TH := Lib.hid (QM.out.pz.there (n := FA.size) (by rw [HSZ.out]; exact Nat.le_refl _))
    have G1 := Lib.hid (QM.out.pz.store (A := FA) (by rw [HSZ.out]; rfl) O1F.out)
    have HG := Lib.hid GM.out.range
    clear hE0
    go_wp2_with (first | ((with_reducible refine wpList_load_mid rfl 132 (.tmp 5) rfl q 0 ?hx FA.toList _ HG.out Tryz.underlying132 ?hu HIL.out ?_); (case hx => rfl); (case hu => rfl)) | ((with_reducible refine wpList_store_mid rfl 132 (.tmp 2) (.tmp 29) rfl (w.heap.size + 1) 0 FA ?hx ?hy TH.out HIF.out O1F.out ?_); (case hx => rfl); (case hy => rfl)))
    exact bodyPost_ret (v := .tuple #[.agg FA, .int .i64 0]) (res_two (p := 2) (u := 3) (d := _) rfl rfl Tryz.underlying132 _ _ (w.heap.size + 1) _ rfl G1.out HIF.out) rfl ⟨by rw [HFA.out, HR0.out], below_cellsG (by omega) _ _ _ QM.out.bel⟩
end Go.Proofs.YtlkdfofpnmpidaaGreat
