/- lbm: Take. -/
import Derived.Test.YtcbbocdmmehphaaE4
import Derived.Test.YtcbbocdmmehphaaD2
import Derived.Test.YtcbbocdmmehphaaT3
set_option linter.unusedVariables false
namespace Go.Proofs.Ytcbbocdmmehphaa
open Go.RowKit

/-- Take's steps. -/
def lm1 (f : List UInt8) := rdText f 0 4
def lmE (f : List UInt8) : Int := (rdEnd (lm1 f).2.1 (lm1 f).2.2).2
/-- A message's loop, and the error. -/
def tkL (a b : Int) (f : List UInt8) (l : List Th) : Int × Bool × Int × List UInt8 × Int :=
  if (b = 2 ∨ b = 3) ∧ lmE f = 0 then (a, decide (b = 2), numOf (lm1 f).1, (findT l 3).1, 0) else (0, false, 0, [], 4)
/-- Take's state: the message's block, the result's block, the things. -/
structure KT (w W : World) (a b c : Int) (f : List UInt8) (v : Value) : Prop where
  pb : PB 32 W w.heap.size a b c f v
  pz : LB 54 W (w.heap.size + 1) 0 false 0 []
  bel : Below w.heap.size w W
theorem LB.only {T : TypeId} {W W' : World} {q : Nat} {xlv : Int} {xrp : Bool} {xnm : Int} {xdt : List UInt8} {p : Nat} (h : LB T W q xlv xrp xnm xdt) (ho : Only p W W') (hne : q ≠ p) : LB T W' q xlv xrp xnm xdt := by
  unfold LB; rw [ho.block q h.lt (by intro e; injection e with e; exact hne e)]; exact h
section
variable {w W W' : World} {a b c : Int} {f : List UInt8} {v : Value}
theorem KT.later (h : KT w W a b c f v) (hb : Below W.heap.size W W') : KT w W' a b c f v := ⟨h.pb.later hb, h.pz.later hb, h.bel.trans (hb.mono h.bel.size)⟩
theorem KT.drew (h : KT w W a b c f v) : KT w W.drew a b c f v := h.later (Below.refl _ _).drew
theorem KT.lt (h : KT w W a b c f v) : w.heap.size + 1 < W.heap.size := h.pz.lt
theorem KT.only {p : Nat} (h : KT w W a b c f v) (ho : Only p W W') (hp : w.heap.size + 1 < p) : KT w W' a b c f v := by
  have hs := h.lt
  exact ⟨h.pb.only ho (by omega), h.pz.only ho (by omega), h.bel.trans (ho.below (by omega) (by omega))⟩
end
set_option maxRecDepth 100000 in
set_option maxHeartbeats 8000000 in
theorem lbtake_any (v : Value) (l : List Th) (a b c : Int) (f : List UInt8) (w : World) (hf : f.length ≤ 1000) (hb : 0 ≤ b ∧ b < 256) (hv : Tls w v l) (hl : l.length ≤ 1000) : Calls Try.prog 30 #[.agg #[.int .u8 a, .int .u8 b, .int .u8 c, .string (bs f), v]] w fun en w' =>
    en = .returned (.tuple #[.agg #[.int .u8 (tkL a b f l).1, .bool (tkL a b f l).2.1, .int .u32 (tkL a b f l).2.2.1, .string (bs (tkL a b f l).2.2.2.1)], .int .i64 (tkL a b f l).2.2.2.2]) ∧ Below w.heap.size w w' := by
  obtain ⟨vx, vk, hvv, -⟩ := hv.shape
  obtain ⟨vn, hvn⟩ : ∃ n, l.length = n := ⟨_, rfl⟩
  rw [hvn] at hvv
  subst hvv
  obtain ⟨R, hR⟩ : ∃ R, tkL a b f l = R := ⟨_, rfl⟩
  rw [hR]
  obtain ⟨nm, l1, e1, h1⟩ : ∃ y l e, numOf (lm1 f).1 = y ∧ (lm1 f).2.1 = l ∧ (lm1 f).2.2 = e := ⟨_, _, _, rfl, rfl, rfl⟩
  have n1 : l1.length ≤ f.length := by have := rd_le f 0 4; rw [show rdText f 0 4 = lm1 f from rfl, h1.2.1] at this; exact this
  obtain ⟨l5, E, h5⟩ : ∃ l e, (rdEnd l1 e1).1 = l ∧ (rdEnd l1 e1).2 = e := ⟨_, _, rfl, rfl⟩
  have hE : lmE f = E := by unfold lmE; rw [h1.2.1, h1.2.2, h5.2]
  obtain ⟨dt, hdt⟩ : ∃ y, (findT l 3).1 = y := ⟨_, rfl⟩
  obtain ⟨dk, hdk⟩ : ∃ y, (findT l 3).2 = y := ⟨_, rfl⟩
  have U1 : Hid (∀ w p, Rd w p f 0 → Calls Try.prog 54 #[.pointer (some ⟨p, 0, none⟩)] w fun en w' => en = .returned (.int .u32 nm) ∧ Rd w' p l1 e1 ∧ Only p w w') := fun w p hr => by
    have h := U32_any p f 0 w hr (by omega)
    rw [show rdText f 0 4 = lm1 f from rfl, h1.1, h1.2.1, h1.2.2] at h; exact h
  have U5 : Hid (∀ w p, Rd w p l1 e1 → Calls Try.prog 61 #[.pointer (some ⟨p, 0, none⟩)] w fun en w' => en = .returned (.int .i64 E) ∧ Rd w' p l5 E ∧ Only p w w') := fun w p hr => by
    have h := end_any p l1 e1 w hr (by omega)
    rw [h5.1, h5.2] at h; exact h
  have F1 : Hid (∀ w, Tls w (.slice vx vn vk) l → Calls Try.prog 74 #[.slice vx vn vk, .int .u8 3] w fun en w' => en = .returned (.tuple #[.string (bs dt), .bool dk]) ∧ Below w.heap.size w w') := fun w hv => by
    have h := find_any (.slice vx vn vk) l 3 w hv (by omega)
    rw [hdt, hdk] at h; exact h
  have hRR : R = if (b = 2 ∨ b = 3) ∧ E = 0 then (a, decide (b = 2), nm, dt, 0) else (0, false, 0, [], 4) := by
    rw [← hR]; unfold tkL; rw [hE, h1.1, hdt]
  have HRR := Lib.hid hRR
  have HB := Lib.hid hb
  obtain ⟨Q, hQ⟩ : ∃ y, decide (b = 2) = y := ⟨_, rfl⟩
  obtain ⟨I, hI⟩ : ∃ y, decide (b = 2 ∨ b = 3) = y := ⟨_, rfl⟩
  have LK1 : Hid (∀ W q, RMap W q → (Instr.lookup 133 (.map (some q)) (.int .u8 b) true).run Try.prog W = .ok (.tuple #[.bool Q, .bool I]) W) := fun W q h => by
    rw [← hQ, ← hI]; exact rmap_look h b hb
  have HQ := Lib.hid hQ
  have HI := Lib.hid hI
  clear hQ hI
  clear hRR hR h1 n1 h5 hE hdt hdk hf hb hl hvn
  go_enter Try.func30, Try.ntmps30
  go_upto_region 1 with fail
  have pb0 := (PB.new 32 w a b c f (.slice vx vn vk)).later ((Below.refl _ _).alloc (Nat.le_refl _) (.cells #[.int .u8 0, .bool false, .int .u32 0, .string { data := #[] }] 54))
  have pz : LB 54 ((w.alloc (.cells #[.int .u8 a, .int .u8 b, .int .u8 c, .string (bs f), .slice vx vn vk] 32)).alloc (.cells #[.int .u8 0, .bool false, .int .u32 0, .string { data := #[] }] 54)) (w.heap.size + 1) 0 false 0 [] := by
    have := LB.new 54 (w.alloc (.cells #[.int .u8 a, .int .u8 b, .int .u8 c, .string (bs f), .slice vx vn vk] 32)) 0 false 0 []
    rw [show (w.alloc (.cells #[.int .u8 a, .int .u8 b, .int .u8 c, .string (bs f), .slice vx vn vk] 32)).heap.size = w.heap.size + 1 by simp] at this
    exact this
  have hb0 : Below w.heap.size w ((w.alloc (.cells #[.int .u8 a, .int .u8 b, .int .u8 c, .string (bs f), .slice vx vn vk] 32)).alloc (.cells #[.int .u8 0, .bool false, .int .u32 0, .string { data := #[] }] 54)) := ((Below.refl _ _).alloc (Nat.le_refl _) _).alloc (by simp) _
  obtain ⟨w0, hw0⟩ : ∃ k, (w.alloc (.cells #[.int .u8 a, .int .u8 b, .int .u8 c, .string (bs f), .slice vx vn vk] 32)).alloc (.cells #[.int .u8 0, .bool false, .int .u32 0, .string { data := #[] }] 54) = k := ⟨_, rfl⟩
  have HV := Lib.hid hv
  rw [hw0] at pb0 pz hb0 ⊢
  have KT0 := Lib.hid (KT.mk pb0 pz hb0)
  clear hw0 pb0 pz hb0 hv
  go_cut [4, 5] (fun s4 s5 wx => s4 = .bool Q ∧ s5 = .bool I ∧ Hid (KT w wx a b c f (.slice vx vn vk)))
  case first =>
    have KTd := Lib.hid KT0.out.drew
    have f1 := KTd.out.pb.c1
    go_region_law
      (first
        | (go_simp; go_at_call 73; (with_reducible refine (replies_any _).mono ?_); rintro en wx ⟨qm, rfl, hmx, hbx⟩; have KTx := Lib.hid (KTd.out.later hbx); have f1x := KTx.out.pb.c1; have hlk := LK1.out _ _ hmx))
    all_goals go_wp2_with fail
    all_goals go_meet
    all_goals exact ⟨rfl, rfl, KTx⟩
  case rest =>
    obtain ⟨rfl, rfl, KT1⟩ := hcut
    clear KT0
    have c3 := KT1.out.pb.c3
    go_wp2_with fail
    with_reducible refine (of_any f wc).mono ?_
    rintro en w1 ⟨rfl, hr1, hb1, hlt⟩
    have KT2 := Lib.hid (KT1.out.later hb1)
    have HP := Lib.hid KT1.out.lt
    obtain ⟨p, hp⟩ : ∃ p, wc.heap.size = p := ⟨_, rfl⟩
    rw [hp] at hr1 HP ⊢
    clear hb1 hlt c3 KT1 hp
    go_wp2_with fail
    with_reducible refine (U1.out _ _ hr1).mono ?_
    rintro en w2 ⟨rfl, hr2, ho2⟩
    have KT3 := Lib.hid (KT2.out.only ho2 HP.out)
    clear hr1 ho2 KT2
    have z0 := KT3.out.pz.c0
    have z1 := KT3.out.pz.c1
    have z2 := KT3.out.pz.c2
    have z3 := KT3.out.pz.c3
    have y0 := KT3.out.pz.fr 0
    have y1 := KT3.out.pz.fr 1
    have y2 := KT3.out.pz.fr 2
    have y3 := KT3.out.pz.fr 3
    cases I with
    | false =>
      have hR2 : R = (0, false, 0, [], 4) := by rw [HRR.out, if_neg (fun h => of_decide_eq_false HI.out h.1)]
      have HR2 := Lib.hid hR2
      clear hR2
      go_wp2_with fail
      refine bodyPost_ret (v := .tuple #[.agg #[.int .u8 0, .bool false, .int .u32 0, .string (bs [])], .int .i64 4]) (by simp [results, Try.results30, go_sem, z0, z1, z2, z3]; rfl) rfl ⟨by rw [HR2.out], below_set (below_set (below_set (below_set KT3.out.bel (by omega) _) (by omega) _) (by omega) _) (by omega) _⟩
    | true =>
      clear z0 z1 z2 z3 y0 y1 y2 y3
      go_wp2_with fail
      with_reducible refine (U5.out _ _ hr2).mono ?_
      rintro en w3 ⟨rfl, hr3, ho3⟩
      have KT4 := Lib.hid (KT3.out.only ho3 HP.out)
      clear hr2 hr3 ho3 KT3
      have z0 := KT4.out.pz.c0
      have z1 := KT4.out.pz.c1
      have z2 := KT4.out.pz.c2
      have z3 := KT4.out.pz.c3
      have y0 := KT4.out.pz.fr 0
      have y1 := KT4.out.pz.fr 1
      have y2 := KT4.out.pz.fr 2
      have y3 := KT4.out.pz.fr 3
      by_cases hE : E = 0
      · have dE : (E != 0) = false := by rw [hE]; rfl
        have hR2 : R = (a, Q, nm, dt, 0) := by rw [HRR.out, if_pos ⟨of_decide_eq_true HI.out, hE⟩, HQ.out]
        have HR2 := Lib.hid hR2
        clear hR2 hE z0 z1 z2 z3 y0 y1 y2 y3
        have c4 := KT4.out.pb.c4
        go_wp2_with fail
        with_reducible refine (F1.out _ (HV.out.later KT4.out.bel)).mono ?_
        rintro en w4 ⟨rfl, hb4⟩
        have KT5 := Lib.hid (KT4.out.later hb4)
        clear hb4 c4 KT4
        have c0 := KT5.out.pb.c0
        have z0 := KT5.out.pz.c0
        have z1 := KT5.out.pz.c1
        have z2 := KT5.out.pz.c2
        have z3 := KT5.out.pz.c3
        have y0 := KT5.out.pz.fr 0
        have y1 := KT5.out.pz.fr 1
        have y2 := KT5.out.pz.fr 2
        have y3 := KT5.out.pz.fr 3
        go_wp2_with fail
        refine bodyPost_ret (v := .tuple #[.agg #[.int .u8 a, .bool Q, .int .u32 nm, .string (bs dt)], .int .i64 0]) (by simp [results, Try.results30, go_sem, z0, z1, z2, z3]) rfl ⟨by rw [HR2.out], below_set (below_set (below_set (below_set KT5.out.bel (by omega) _) (by omega) _) (by omega) _) (by omega) _⟩
      · have dE : (E != 0) = true := by rw [bne_iff_ne]; exact hE
        have hR2 : R = (0, false, 0, [], 4) := by rw [HRR.out, if_neg (fun h => hE h.2)]
        have HR2 := Lib.hid hR2
        clear hR2 hE
        go_wp2_with fail
        refine bodyPost_ret (v := .tuple #[.agg #[.int .u8 0, .bool false, .int .u32 0, .string (bs [])], .int .i64 4]) (by simp [results, Try.results30, go_sem, z0, z1, z2, z3]; rfl) rfl ⟨by rw [HR2.out], below_set (below_set (below_set (below_set KT4.out.bel (by omega) _) (by omega) _) (by omega) _) (by omega) _⟩
end Go.Proofs.Ytcbbocdmmehphaa
