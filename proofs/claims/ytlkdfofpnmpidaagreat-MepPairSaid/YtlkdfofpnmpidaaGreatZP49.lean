/- ZP49: the texts SD as one. -/
import Derived.Test.YtlkdfofpnmpidaaGreatZP48
/- SD: the texts S19, S20, S21 as one. -/
/- ref18: Rdi; law18: same. -/
set_option linter.unusedVariables false
set_option linter.unusedSimpArgs false
namespace Go.Proofs.YtlkdfofpnmpidaaGreat
open Go.RowKit

/-- Does another one tell of a defect, as it was heard last? -/
def hitC (a : Ow8) (ks : List Int) (me : Int) (h : Hd) : Bool := (kindC a ks h.c == 1) && (h.c.me == me)
def rdiC (a : Ow8) (ks : List Int) (l : List Hd) (me : Int) : Bool := match l.reverse.find? (hitC a ks me) with
  | some h => h.c.rd
  | none => false
theorem rdiC_snoc (a : Ow8) (ks : List Int) (l : List Hd) (me : Int) (h : Hd) : rdiC a ks (l ++ [h]) me = if hitC a ks me h = true then h.c.rd else rdiC a ks l me := by
  unfold rdiC
  rw [List.reverse_append, List.reverse_singleton, List.singleton_append, List.find?_cons]
  cases hitC a ks me h <;> rfl
set_option maxRecDepth 100000 in
set_option maxHeartbeats 16000000 in
theorem rdi_any (a : Ow8) (sv lv : Value) (ks : List Int) (l : List Hd) (me : Int) (w : World) (hK : Rw 1 u1 w sv ks) (hkl : ks.length ≤ 1000) (hL : Rw 7 hdC w lv l) (hl : l.length ≤ 1000) (hok : ∀ h ∈ l, h.Ok) :
    Calls Tryz.prog 105 #[.agg (ow8A a), sv, lv, .int .u16 me] w fun en w' => en = .returned (.bool (rdiC a ks l me)) ∧ Below w.heap.size w w' := by
  obtain ⟨la, lc, rfl, hsh⟩ := hL.shape
  have HSH := Lib.hid hsh
  have HK := Lib.hid hK
  have HOK := Lib.hid hok
  have HKL := Lib.hid hkl
  obtain ⟨R, hR⟩ : ∃ R, rdiC a ks l me = R := ⟨_, rfl⟩
  have HR := Lib.hid hR
  obtain ⟨L, hLL⟩ : ∃ L, l.length = L := ⟨_, rfl⟩
  have HL := Lib.hid hLL
  have hL1 : L ≤ 1000 := by omega
  rw [hLL, hR]
  clear hK hL hsh hR hkl hok hl hLL
  unfold ow8A
  go_enter Tryz.func105, Tryz.ntmps105
  go_upto_region 1 with fail
  have g0 : GB 97 (w.alloc (.cells #[.int .u8 a.lv, .int .u16 a.mp, .int .u8 a.iv, .string (bs a.md)] 97)) w.heap.size (ow8A a) := heap_alloc_new _ _
  have b0 : Below w.heap.size w (w.alloc (.cells #[.int .u8 a.lv, .int .u16 a.mp, .int .u8 a.iv, .string (bs a.md)] 97)) := (Below.refl _ _).alloc (Nat.le_refl _) _
  obtain ⟨w0, hw0⟩ : ∃ k, w.alloc (.cells #[.int .u8 a.lv, .int .u16 a.mp, .int .u8 a.iv, .string (bs a.md)] 97) = k := ⟨_, rfl⟩
  rw [hw0] at g0 b0 ⊢
  have B0 := Lib.hid b0
  have G0 := Lib.hid g0
  clear hw0 g0 b0
  go_wp2_with fail
  go_loopw [9] (fun i wr => ∃ j : Nat, j ≤ L ∧ i = .int .i64 ((j : Int) - 1) ∧ Hid (R = rdiC a ks (l.take j) me) ∧ Hid (Below w0.heap.size w0 wr)) (fun i _ => (intOf i + 1).toNat)
  case atStart => exact ⟨L, Nat.le_refl _, by go_num, Lib.hid (by rw [List.take_of_length_le (by rw [HL.out]; exact Nat.le_refl _)]; exact HR.out.symm), Lib.hid (Below.refl _ _)⟩
  case round =>
    obtain ⟨j, hj, rfl, HJ, HBW⟩ := hrel
    rcases j with _ | j
    · rw [show (((0 : Nat) : Int) - 1) = -1 from rfl]
      have HZ : Hid (R = false) := Lib.hid (by rw [HJ.out]; rfl)
      go_wp2
      go_ret
      exact ⟨by rw [HZ.out]; rfl, B0.out.trans (HBW.out.mono B0.out.size)⟩
    rw [show (((j + 1 : Nat) : Int) - 1) = (j : Int) by omega]
    have hjb : (j : Int) < 1001 := by omega
    have hlt : j < L := by omega
    obtain ⟨b, off, rfl, hcc⟩ := HSH.out.resolve_left (by intro h; have := HL.out; rw [h] at this; simp at this; omega)
    have hjl : j < l.length := by rw [HL.out]; exact hlt
    obtain ⟨x, hx⟩ : ∃ x, l[j] = x := ⟨_, rfl⟩
    have hxo : x.Ok := by rw [← hx]; exact HOK.out _ (List.getElem_mem _)
    have HXO := Lib.hid hxo
    have cellx : Hid (∀ i v, i < 7 → (hdC x)[i]? = some v → ∀ W, Below w0.heap.size w0 W → W.cell? ⟨b, off + j * 7 + i, none⟩ = some v) := Lib.hid fun i v hi hv W hW => by
      have h1 : w.cell? ⟨b, off + j * 7 + i, none⟩ = some v := by rw [hcc j hjl i hi, hx]; exact hv
      exact ((B0.out.trans (hW.mono B0.out.size)).cell (World.block_lt_of_cell? w _ h1)).trans h1
    have HJ2 : Hid (R = if hitC a ks me x = true then x.c.rd else rdiC a ks (l.take j) me) := Lib.hid (by
      have e : l.take (j + 1) = l.take j ++ [x] := by rw [List.take_add_one, List.getElem?_eq_getElem hjl, hx]; rfl
      rw [HJ.out, e, rdiC_snoc])
    have LX : Hid (∀ (kk : Later wr), Below w0.heap.size w0 kk.out) := Lib.hid fun kk => HBW.out.trans (kk.h.mono HBW.out.size)
    clear hcc hjl hx HJ hxo hj
    obtain ⟨SK, hSK⟩ : ∃ z, hitC a ks me x = z := ⟨_, rfl⟩
    have HSK := Lib.hid hSK
    rw [hSK] at HJ2
    clear hSK
    go_upto_region 4 with fail
    go_cut [35] (fun s35 wx => s35 = .bool SK ∧ Hid (Below w0.heap.size w0 wx))
    case first =>
      obtain ⟨KD, hKD⟩ : ∃ z, kindC a ks x.c = z := ⟨_, rfl⟩
      have MB : ∀ kk : Later wr, Calls Tryz.prog 131 #[.agg #[.int .u8 a.lv, .int .u16 a.mp, .int .u8 a.iv, .string (bs a.md)], sv, .agg #[.int .u8 x.c.lv, .bool x.c.rd, .int .u8 x.c.iv, .int .u32 x.c.sq, .int .u16 x.c.me, .string (bs x.c.md)]] kk.out fun e w' => e = .returned (.int .i64 KD) ∧ Below kk.out.heap.size kk.out w' := fun kk => by
        rw [← hKD]
        exact kindR_any a x.c HXO.out.m sv ks kk.out (HK.out.later u1_len (B0.out.trans ((LX.out kk).mono B0.out.size))) HKL.out
      have k0 : ∀ kk : Later wr, kk.out.cell? ⟨w.heap.size, 0, none⟩ = some (.int .u8 a.lv) := fun kk => (G0.out.later (LX.out kk)).c 0 _ rfl
      have k1 : ∀ kk : Later wr, kk.out.cell? ⟨w.heap.size, 1, none⟩ = some (.int .u16 a.mp) := fun kk => (G0.out.later (LX.out kk)).c 1 _ rfl
      have k2 : ∀ kk : Later wr, kk.out.cell? ⟨w.heap.size, 2, none⟩ = some (.int .u8 a.iv) := fun kk => (G0.out.later (LX.out kk)).c 2 _ rfl
      have k3 : ∀ kk : Later wr, kk.out.cell? ⟨w.heap.size, 3, none⟩ = some (.string (bs a.md)) := fun kk => (G0.out.later (LX.out kk)).c 3 _ rfl
      have x1 : ∀ kk : Later wr, kk.out.cell? ⟨b, off + j * 7 + 1, none⟩ = some (.int .u8 x.c.lv) := fun kk => cellx.out 1 _ (by decide) rfl _ (LX.out kk)
      have x2 : ∀ kk : Later wr, kk.out.cell? ⟨b, off + j * 7 + 2, none⟩ = some (.bool x.c.rd) := fun kk => cellx.out 2 _ (by decide) rfl _ (LX.out kk)
      have x3 : ∀ kk : Later wr, kk.out.cell? ⟨b, off + j * 7 + 3, none⟩ = some (.int .u8 x.c.iv) := fun kk => cellx.out 3 _ (by decide) rfl _ (LX.out kk)
      have x4 : ∀ kk : Later wr, kk.out.cell? ⟨b, off + j * 7 + 4, none⟩ = some (.int .u32 x.c.sq) := fun kk => cellx.out 4 _ (by decide) rfl _ (LX.out kk)
      have x5 : ∀ kk : Later wr, kk.out.cell? ⟨b, off + j * 7 + 5, none⟩ = some (.int .u16 x.c.me) := fun kk => cellx.out 5 _ (by decide) rfl _ (LX.out kk)
      have x6 : ∀ kk : Later wr, kk.out.cell? ⟨b, off + j * 7 + 6, none⟩ = some (.string (bs x.c.md)) := fun kk => cellx.out 6 _ (by decide) rfl _ (LX.out kk)
      have hS : SK = ((KD == 1) && (x.c.me == me)) := by rw [← HSK.out, ← hKD]; rfl
      clear hKD
      obtain ⟨E1, hE1⟩ : ∃ z, (KD == 1) = z := ⟨_, rfl⟩
      obtain ⟨E3, hE3⟩ : ∃ z, (x.c.me == me) = z := ⟨_, rfl⟩
      rw [hE1, hE3] at hS
      have HS := Lib.hid hS
      clear hS
      cases E1
      all_goals
        refine wp_region_later (by kernel_rfl) (by kernel_rfl) ?_
        repeat (go_big_quiet_step (first | (go_at_call 131; exact Calls.later (MB _))))
        refine wpQuiet_nil ?_
        rintro _ ⟨kk, rfl⟩
        go_wp2_with fail
        go_meet
        exact ⟨by rw [HS.out]; rfl, Lib.hid (LX.out kk)⟩
    case rest =>
      obtain ⟨rfl, HB5⟩ := hcut
      cases SK
      · have HJ3 : Hid (R = rdiC a ks (l.take j) me) := Lib.hid (by rw [HJ2.out]; rfl)
        go_wp2
        exact ⟨⟨j, by omega, by go_num, HJ3, HB5⟩, by simp [intOf]⟩
      · have HZ : Hid (R = x.c.rd) := Lib.hid (by rw [HJ2.out]; rfl)
        have x2 : wc.cell? ⟨b, off + j * 7 + 2, none⟩ = some (.bool x.c.rd) := cellx.out 2 _ (by decide) rfl _ HB5.out
        go_wp2
        go_ret
        exact ⟨by rw [HZ.out]; rfl, B0.out.trans (HB5.out.mono B0.out.size)⟩
theorem Us.ru {w : World} {B : Nat} {v : Value} {l : List Int} (h : Us w B v l) : Rw 1 u1 w v l := by
  rcases h.shape with ⟨rfl, rfl⟩ | ⟨g, cap, t, rfl, hB, hr, _⟩
  · exact .inl ⟨rfl, rfl⟩
  · refine .inr ⟨⟨g, 0, none⟩, cap, rfl, .inr ⟨g, 0, rfl, fun j hj i hi => ?_⟩⟩
    obtain ⟨a, c, h1, h2⟩ := h.cells
    rcases h2 with h2 | ⟨g', e, h3⟩
    · rw [h2] at hj; simp at hj
    · injection h1 with e1 e2 e3
      rw [← e1] at e
      injection e with e; injection e with e
      subst e
      have hi0 : i = 0 := by omega
      subst hi0
      have := h3 j hj
      simp only [Nat.zero_add, Nat.mul_one, Nat.add_zero]
      rw [this]; rfl
end Go.Proofs.YtlkdfofpnmpidaaGreat

/- law18: rising. -/
set_option linter.unusedVariables false
set_option linter.unusedSimpArgs false
namespace Go.Proofs.YtlkdfofpnmpidaaGreat
open Go.RowKit

def eqN (n : Nat) (x : Int) : Bool := x == (n : Int)
/-- Numbers, each as often as it is there. -/
def riseN (ks : List Int) : Nat → List Int
  | 0 => []
  | n + 1 => riseN ks n ++ ks.filter (eqN n)
theorem riseN_len (ks : List Int) : ∀ n, (riseN ks n).length ≤ n * ks.length
  | 0 => Nat.zero_le _
  | n + 1 => by
    have := riseN_len ks n
    have := List.length_filter_le (eqN n) ks
    unfold riseN
    rw [List.length_append, Nat.succ_mul]; omega
end Go.Proofs.YtlkdfofpnmpidaaGreat

/- law18: the machine and the document agree: the plain law. -/
set_option linter.unusedVariables false
set_option linter.unusedSimpArgs false
namespace Go.Proofs.YtlkdfofpnmpidaaGreat

theorem mostC_snoc (a : Ow8) (ks : List Int) (l : List Hd) (kd me now : Int) (h : Hd) : mostC a ks (l ++ [h]) kd me now = stepC a ks kd me now (mostC a ks l kd me now) h := by
  unfold mostC; rw [List.foldl_append]; rfl
theorem stepC_pos {a : Ow8} {ks : List Int} {kd me now m : Int} {h : Hd} (hm : 0 ≤ m) : 0 ≤ stepC a ks kd me now m h := by
  unfold stepC; split
  · exact hm
  · split <;> omega
theorem fold_pos (a : Ow8) (ks : List Int) (kd me now : Int) : ∀ (l : List Hd) (m : Int), 0 ≤ m → 0 ≤ l.foldl (stepC a ks kd me now) m
  | [], m, h => h
  | x :: r, m, h => fold_pos a ks kd me now r _ (stepC_pos h)
theorem mostC_pos (a : Ow8) (ks : List Int) (l : List Hd) (kd me now : Int) : 0 ≤ mostC a ks l kd me now := fold_pos a ks kd me now l 0 (Int.le_refl _)
theorem leftC_pos (a : Ow8) (ks : List Int) (l : List Hd) (kd me now : Int) : 0 ≤ leftC a ks l kd me now := by
  have := mostC_pos a ks l kd me now
  unfold leftC; split <;> omega
theorem stepC_tick {a : Ow8} {ks : List Int} {kd me now m : Int} {h : Hd} (hm : 0 ≤ m) : stepC a ks kd me (now + 1) (dn1 m) h = dn1 (stepC a ks kd me now m h) := by
  unfold stepC
  cases skipC a ks kd me h
  · simp only [Bool.false_eq_true, if_false]
    unfold dn1
    (repeat' split) <;> omega
  · rfl
theorem fold_tick (a : Ow8) (ks : List Int) (kd me now : Int) : ∀ (l : List Hd) (m : Int), 0 ≤ m → l.foldl (stepC a ks kd me (now + 1)) (dn1 m) = dn1 (l.foldl (stepC a ks kd me now) m)
  | [], m, h => rfl
  | x :: r, m, h => by
    rw [List.foldl_cons, List.foldl_cons, stepC_tick h]
    exact fold_tick a ks kd me now r _ (stepC_pos h)
theorem leftC_tick (a : Ow8) (ks : List Int) (l : List Hd) (kd me now : Int) : leftC a ks l kd me (now + 1) = dn1 (leftC a ks l kd me now) := by
  have h1 : mostC a ks l kd me (now + 1) = dn1 (mostC a ks l kd me now) := fold_tick a ks kd me now l 0 (Int.le_refl _)
  have h2 := mostC_pos a ks l kd me now
  unfold leftC
  rw [h1]
  by_cases hk : kd = 1
  · simp only [hk, true_and]
    rw [hk] at h2
    unfold dn1
    (repeat' split) <;> omega
  · rw [if_neg (fun h => hk h.1), if_neg (fun h => hk h.1)]
/-- No check lasts longer than a check of the point's own. -/
theorem fold_le (a : Ow8) (ks : List Int) (me now : Int) : ∀ (l : List Hd) (m : Int), (∀ h ∈ l, h.at' ≤ now) → m ≤ lastC a.iv → l.foldl (stepC a ks 1 me now) m ≤ lastC a.iv
  | [], m, _, h => h
  | x :: r, m, hl, h => by
    rw [List.foldl_cons]
    refine fold_le a ks me now r _ (fun y hy => hl y (List.mem_cons_of_mem _ hy)) ?_
    have hx := hl x (List.mem_cons_self ..)
    unfold stepC
    cases hs : skipC a ks 1 me x
    · have hk : kindC a ks x.c = 1 := by
        unfold skipC at hs
        rw [Bool.or_eq_false_iff] at hs
        have := hs.1
        simpa using this
      have hiv : x.c.iv = a.iv := by
        unfold kindC at hk
        split at hk
        · exact absurd hk (by decide)
        · split at hk
          · exact absurd hk (by decide)
          · split at hk
            · rename_i h3; exact h3.2
            · exact absurd hk (by decide)
      simp only [Bool.false_eq_true, if_false, hiv]
      split <;> omega
    · exact h
/-- The machine tells what the document says. -/
structure Inv (a : Ow8) (all : List Int) (V : List Vn) (bd cr : Int) (l : List Hd) (now : Int) : Prop where
  hbd : bd = leftC a all l 2 0 now
  hcr : cr = leftC a all l 3 0 now
  v : ∀ x ∈ V, x.2.1 = leftC a all l 1 x.1 now ∧ x.2.2 = if rdiC a all l x.1 = true then 1 else 0
  ks : V.map (·.1) = all
  at' : ∀ h ∈ l, h.at' ≤ now
  hnow : 0 ≤ now
  bnd : Bnd V bd cr
theorem Inv.tick {a : Ow8} {all : List Int} {V : List Vn} {bd cr now : Int} {l : List Hd} (h : Inv a all V bd cr l now) : Inv a all (tickV V) (dn1 bd) (dn1 cr) l (now + 1) := by
  refine ⟨by rw [h.hbd, leftC_tick], by rw [h.hcr, leftC_tick], ?_, by rw [tickV_keys]; exact h.ks, fun x hx => by have := h.at' x hx; omega, by have := h.hnow; omega, ?_, ?_, dn1_bnd h.bnd.b, dn1_bnd h.bnd.c⟩
  · intro x hx
    obtain ⟨y, hy, rfl⟩ := List.mem_map.1 hx
    refine ⟨?_, (h.v y hy).2⟩
    show dn1 y.2.1 = _
    rw [(h.v y hy).1, leftC_tick]
  · intro x hx
    obtain ⟨y, hy, rfl⟩ := List.mem_map.1 hx
    exact dn1_bnd (h.bnd.v y hy)
  · intro x hx
    obtain ⟨y, hy, rfl⟩ := List.mem_map.1 hx
    exact h.bnd.k y hy
theorem leftC_skip {a : Ow8} {ks : List Int} {l : List Hd} {kd me now : Int} {h : Hd} (hs : skipC a ks kd me h = true) : leftC a ks (l ++ [h]) kd me now = leftC a ks l kd me now := by
  have e : mostC a ks (l ++ [h]) kd me now = mostC a ks l kd me now := by rw [mostC_snoc]; unfold stepC; rw [if_pos hs]
  unfold leftC; rw [e]
theorem leftC_max {a : Ow8} {ks : List Int} {l : List Hd} {kd me now : Int} {c : Ck} (hk : kd ≠ 1) (hs : kindC a ks c = kd) : leftC a ks (l ++ [⟨now, c⟩]) kd me now = max (leftC a ks l kd me now) (lastC c.iv) := by
  have e : mostC a ks (l ++ [⟨now, c⟩]) kd me now = max (mostC a ks l kd me now) (lastC c.iv) := by
    rw [mostC_snoc]; unfold stepC
    have : skipC a ks kd me ⟨now, c⟩ = false := by unfold skipC; simp [hs, hk]
    rw [this]
    simp only [Bool.false_eq_true, if_false]
    split <;> omega
  unfold leftC
  rw [if_neg (fun h => hk h.1), if_neg (fun h => hk h.1), e]
theorem kind_hear {a : Ow8} {all : List Int} {V : List Vn} {bd cr : Int} (hk : V.map (·.1) = all) (c : Ck) :
    (kindC a all c = 0 ∧ hearC a V bd cr c.lv c.rd c.iv c.me c.md = (V, bd, cr)) ∨ (kindC a all c = 3 ∧ hearC a V bd cr c.lv c.rd c.iv c.me c.md = (V, bd, max cr (lastC c.iv))) ∨
    (kindC a all c = 2 ∧ hearC a V bd cr c.lv c.rd c.iv c.me c.md = (V, max bd (lastC c.iv), cr)) ∨ (kindC a all c = 1 ∧ c.me ∈ all ∧ c.iv = a.iv ∧ hearC a V bd cr c.lv c.rd c.iv c.me c.md = (vPut V (c.me, lastC c.iv, if c.rd = true then 1 else 0), bd, cr)) := by
  unfold kindC hearC
  by_cases h1 : refC a c.lv c.iv c.me c.md = true
  · rw [if_pos h1, if_pos h1]; exact .inl ⟨rfl, rfl⟩
  · rw [if_neg h1, if_neg h1]
    by_cases h2 : c.lv < a.lv ∨ c.md ≠ a.md
    · rw [if_pos h2, if_pos h2]; exact .inr (.inl ⟨rfl, rfl⟩)
    · rw [if_neg h2, if_neg h2]
      have hm : (vFind V c.me).isSome = true ↔ c.me ∈ all := by rw [vFind_mem, hk]
      by_cases h3 : c.me ∈ all ∧ c.iv = a.iv
      · have hf : ¬ ((vFind V c.me).isSome = false ∨ c.iv ≠ a.iv) := by
          rintro (h | h)
          · rw [hm.2 h3.1] at h; cases h
          · exact h h3.2
        rw [if_pos h3, if_neg hf]
        exact .inr (.inr (.inr ⟨rfl, h3.1, h3.2, rfl⟩))
      · have hf : (vFind V c.me).isSome = false ∨ c.iv ≠ a.iv := by
          by_cases h4 : c.iv = a.iv
          · left
            cases h5 : (vFind V c.me).isSome
            · rfl
            · exact absurd ⟨hm.1 h5, h4⟩ h3
          · exact .inr h4
        rw [if_neg h3, if_pos hf]
        exact .inr (.inr (.inl ⟨rfl, rfl⟩))
theorem Inv.hear {a : Ow8} {all : List Int} {V : List Vn} {bd cr now : Int} {l : List Hd} (hr : Rising V) (h : Inv a all V bd cr l now) (c : Ck) (hme : 0 ≤ c.me ∧ c.me < 65536) :
    Inv a all (hearC a V bd cr c.lv c.rd c.iv c.me c.md).1 (hearC a V bd cr c.lv c.rd c.iv c.me c.md).2.1 (hearC a V bd cr c.lv c.rd c.iv c.me c.md).2.2 (l ++ [⟨now, c⟩]) now := by
  have hat : ∀ x ∈ l ++ [(⟨now, c⟩ : Hd)], x.at' ≤ now := by
    intro x hx
    rcases List.mem_append.1 hx with hx | hx
    · exact h.at' x hx
    · rw [List.mem_singleton.1 hx]; exact Int.le_refl _
  have hlb := lastC_b c.iv
  have B := h.bnd
  have nohit : ∀ k, kindC a all c ≠ 1 → hitC a all k ⟨now, c⟩ = false := fun k hk => by unfold hitC; simp [hk]
  have sk : ∀ kd me, kindC a all c ≠ kd → skipC a all kd me ⟨now, c⟩ = true := fun kd me hk => by unfold skipC; simp [hk]
  have same : kindC a all c ≠ 1 → ∀ x ∈ V, x.2.1 = leftC a all (l ++ [⟨now, c⟩]) 1 x.1 now ∧ x.2.2 = if rdiC a all (l ++ [⟨now, c⟩]) x.1 = true then 1 else 0 := fun hk x hx => by
    rw [leftC_skip (sk 1 x.1 hk), rdiC_snoc, nohit x.1 hk]
    exact h.v x hx
  rcases kind_hear (a := a) (bd := bd) (cr := cr) h.ks c with ⟨hk, e⟩ | ⟨hk, e⟩ | ⟨hk, e⟩ | ⟨hk, hm, hiv, e⟩
  · rw [e]
    exact ⟨by rw [leftC_skip (sk 2 0 (by rw [hk]; decide))]; exact h.hbd, by rw [leftC_skip (sk 3 0 (by rw [hk]; decide))]; exact h.hcr, same (by rw [hk]; decide), h.ks, hat, h.hnow, B⟩
  · rw [e]
    exact ⟨by rw [leftC_skip (sk 2 0 (by rw [hk]; decide))]; exact h.hbd, by rw [leftC_max (by decide) hk, ← h.hcr], same (by rw [hk]; decide), h.ks, hat, h.hnow, B.v, B.k, B.b, by have := B.c; show 0 ≤ max cr (lastC c.iv) ∧ max cr (lastC c.iv) ≤ 1000; omega⟩
  · rw [e]
    exact ⟨by rw [leftC_max (by decide) hk, ← h.hbd], by rw [leftC_skip (sk 3 0 (by rw [hk]; decide))]; exact h.hcr, same (by rw [hk]; decide), h.ks, hat, h.hnow, B.v, B.k, by have := B.b; show 0 ≤ max bd (lastC c.iv) ∧ max bd (lastC c.iv) ≤ 1000; omega, B.c⟩
  · have hm2 : c.me ∈ V.map (·.1) := by rw [h.ks]; exact hm
    have ep := vPut_map (k := c.me) (a := lastC c.iv) (b := if c.rd = true then 1 else 0) hr hm2
    rw [e, ep]
    have hmem : ∀ x ∈ V.map (fun x => if x.1 = c.me then (c.me, lastC c.iv, if c.rd = true then (1 : Int) else 0) else x), (x = (c.me, lastC c.iv, if c.rd = true then 1 else 0)) ∨ (x ∈ V ∧ x.1 ≠ c.me) := by
      intro x hx
      obtain ⟨y, hy, rfl⟩ := List.mem_map.1 hx
      by_cases hyc : y.1 = c.me
      · rw [if_pos hyc]; exact .inl rfl
      · rw [if_neg hyc]; exact .inr ⟨hy, hyc⟩
    refine ⟨by rw [leftC_skip (sk 2 0 (by rw [hk]; decide))]; exact h.hbd, by rw [leftC_skip (sk 3 0 (by rw [hk]; decide))]; exact h.hcr, ?_, ?_, hat, h.hnow, ?_, ?_, B.b, B.c⟩
    · intro x hx
      rcases hmem x hx with rfl | ⟨hx, hne⟩
      · constructor
        · show lastC c.iv = leftC a all (l ++ [⟨now, c⟩]) 1 c.me now
          have h1 : mostC a all l 1 c.me now ≤ lastC a.iv := fold_le a all c.me now l 0 h.at' (by have := lastC_b a.iv; omega)
          have h0 := h.hnow
          have e1 : mostC a all (l ++ [⟨now, c⟩]) 1 c.me now = lastC a.iv := by
            rw [mostC_snoc]; unfold stepC
            have : skipC a all 1 c.me ⟨now, c⟩ = false := by unfold skipC; simp [hk]
            rw [this]
            simp only [Bool.false_eq_true, if_false, hiv]
            split <;> omega
          unfold leftC
          rw [e1, if_neg (by omega), hiv]
        · show (if c.rd = true then (1 : Int) else 0) = _
          rw [rdiC_snoc]
          have : hitC a all c.me ⟨now, c⟩ = true := by unfold hitC; simp [hk]
          rw [this, if_pos rfl]
      · have hs : skipC a all 1 x.1 ⟨now, c⟩ = true := by unfold skipC; rw [show (c.me != x.1) = true from by rw [bne_iff_ne]; exact fun e => hne e.symm]; simp
        have hh : hitC a all x.1 ⟨now, c⟩ = false := by unfold hitC; rw [show (c.me == x.1) = false from by rw [beq_eq_false_iff_ne]; exact fun e => hne e.symm]; simp
        rw [leftC_skip hs, rdiC_snoc, hh]
        exact h.v x hx
    · rw [← h.ks, List.map_map]
      refine List.map_congr_left fun x hx => ?_
      simp only [Function.comp]
      by_cases hxc : x.1 = c.me
      · rw [if_pos hxc]; exact hxc.symm
      · rw [if_neg hxc]
    · intro x hx
      rcases hmem x hx with rfl | ⟨hx, _⟩
      · show 0 ≤ lastC c.iv ∧ lastC c.iv ≤ 1000; omega
      · exact B.v x hx
    · intro x hx
      rcases hmem x hx with rfl | ⟨hx, _⟩
      · exact hme
      · exact B.k x hx
/-- What is lost, what tells of a defect: as the document says. -/
def lostR (a : Ow8) (all : List Int) (l : List Hd) (now : Int) : List Int := all.filter fun k => leftC a all l 1 k now == 0
def rdisR (a : Ow8) (all : List Int) (l : List Hd) (now : Int) : List Int := all.filter fun k => !(leftC a all l 1 k now == 0) && rdiC a all l k
theorem Inv.lost {a : Ow8} {all : List Int} {V : List Vn} {bd cr now : Int} {l : List Hd} (h : Inv a all V bd cr l now) : thoseV isL V = lostR a all l now := by
  unfold thoseV lostR
  rw [← h.ks, List.filter_map, h.ks]
  congr 1
  refine List.filter_congr fun x hx => ?_
  unfold isL
  simp only [Function.comp, (h.v x hx).1]
  rfl
theorem Inv.rdis {a : Ow8} {all : List Int} {V : List Vn} {bd cr now : Int} {l : List Hd} (h : Inv a all V bd cr l now) : thoseV isR V = rdisR a all l now := by
  unfold thoseV rdisR
  rw [← h.ks, List.filter_map, h.ks]
  congr 1
  refine List.filter_congr fun x hx => ?_
  unfold isR
  have h1 := (h.v x hx).1
  have h2 := (h.v x hx).2
  have h3 := leftC_pos a all l 1 x.1 now
  simp only [Function.comp]
  rw [h2, h1]
  cases rdiC a all l x.1
  · simp
  · simp
    by_cases h0 : leftC a all l 1 x.1 now = 0
    · rw [h0]; rfl
    · rw [decide_eq_true (by omega), show (leftC a all l 1 x.1 now == 0) = false from by rw [beq_eq_false_iff_ne]; exact h0]; rfl
end Go.Proofs.YtlkdfofpnmpidaaGreat
