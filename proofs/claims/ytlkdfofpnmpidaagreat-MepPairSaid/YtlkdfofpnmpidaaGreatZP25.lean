/- ZP25: the texts SB as one. -/
import Derived.Test.YtlkdfofpnmpidaaGreatZP24
import Derived.Test.YtlkdfofpnmpidaaGreatZP18
/- SB: the texts S9, S10, S11 as one. -/
/- remote: New's check; law18: of, check. -/
set_option linter.unusedVariables false
namespace Go.Proofs.YtlkdfofpnmpidaaGreat
open Go.RowKit

/-- An own point's cells. -/
def ow8A (a : Ow8) : Array Value := #[.int .u8 a.lv, .int .u16 a.mp, .int .u8 a.iv, .string (bs a.md)]
set_option maxRecDepth 100000 in
set_option maxHeartbeats 4000000 in
theorem new1_any (a : Ow8) (k : Int) (bx : Nat) (T : TypeId) (w : World) (h : GB T w bx (ow8A a)) : Calls Tryz.prog 71 #[.int .u16 k, .pointer (some ⟨bx, 0, none⟩)] w fun en w' => en = .returned (.agg #[.int .u8 a.lv, .bool false, .int .u8 a.iv, .int .u32 0, .int .u16 k, .string (bs a.md)]) ∧ Below w.heap.size w w' := by
  have c0 : w.cell? ⟨bx, 0, none⟩ = some (.int .u8 a.lv) := h.c 0 _ rfl
  have c2 : w.cell? ⟨bx, 2, none⟩ = some (.int .u8 a.iv) := h.c 2 _ rfl
  have c3 : w.cell? ⟨bx, 3, none⟩ = some (.string (bs a.md)) := h.c 3 _ rfl
  have hlt := h.lt
  clear h
  go_enter Tryz.func71, Tryz.ntmps71
  go_wp2
  refine bodyPost_ret (v := .agg #[.int .u8 a.lv, .bool false, .int .u8 a.iv, .int .u32 0, .int .u16 k, .string (bs a.md)]) (res_one rfl rfl Tryz.underlying107 _ _ w.heap.size _ rfl (heap_alloc_new w _) (by kernel_rfl)) rfl ⟨rfl, (Below.refl _ _).alloc (Nat.le_refl _) _⟩
end Go.Proofs.YtlkdfofpnmpidaaGreat

/- remote: New. -/
set_option linter.unusedVariables false
set_option linter.unusedSimpArgs false
namespace Go.Proofs.YtlkdfofpnmpidaaGreat
open Go.RowKit

/-- A number as a row's cells. -/
def u1 (k : Int) : List Value := [.int .u16 k]
theorem u1_len (k : Int) : (u1 k).length = 1 := rfl
/-- The others, one after another. -/
def newGo (a : Ow8) : List Int → List Vn → Option (List Vn)
  | [], V => some V
  | k :: r, V => if ((vFind V k).isSome || (k == a.mp || !mayC a.lv a.iv k a.md)) = true then none else newGo a r (vPut V (k, lastC a.iv, 0))
/-- The machine's others, if it may be. -/
def newV (a : Ow8) (ks : List Int) : Option (List Vn) :=
  if mayC a.lv a.iv a.mp a.md = false ∨ 8 < ks.length then none else newGo a ks []
/-- What is kept. -/
structure NS (w W : World) (q m : Nat) (a : Ow8) (V : List Vn) : Prop where
  mc : MC W q a m V 0 0
  bx : GB 89 W w.heap.size (ow8A a)
  bel : Below w.heap.size w W
  lq : w.heap.size < q
  lm : w.heap.size < m
theorem NS.later {w W W' : World} {q m : Nat} {a : Ow8} {V : List Vn} (h : NS w W q m a V) (hb : Below W.heap.size W W') : NS w W' q m a V := ⟨h.mc.later hb, h.bx.later hb, h.bel.trans (hb.mono h.bel.size), h.lq, h.lm⟩
set_option maxRecDepth 100000 in
set_option maxHeartbeats 8000000 in
theorem new18_any (a : Ow8) (ha : a.Ok) (sv : Value) (ks : List Int) (hkb : ∀ x ∈ ks, 0 ≤ x ∧ x < 65536) (w : World) (hR : Rw 1 u1 w sv ks) (hkl : ks.length ≤ 1000) : Calls Tryz.prog 27 #[.agg (ow8A a), sv] w fun en w' =>
    (newV a ks = none ∧ en = .returned (.tuple #[.pointer none, .int .i64 2]) ∧ Below w.heap.size w w') ∨
    ∃ V q m, newV a ks = some V ∧ en = .returned (.tuple #[.pointer (some ⟨q, 0, none⟩), .int .i64 0]) ∧ NS w w' q m a V := by
  obtain ⟨sa, sc, rfl, hsh⟩ := hR.shape
  have HR := Lib.hid hR
  have HSH := Lib.hid hsh
  obtain ⟨K, hK⟩ : ∃ K, mayC a.lv a.iv a.mp a.md = K := ⟨_, rfl⟩
  have MY : Hid (∀ k w, (0 ≤ k ∧ k < 65536) → Calls Tryz.prog 72 #[.agg #[.int .u8 a.lv, .bool false, .int .u8 a.iv, .int .u32 0, .int .u16 k, .string (bs a.md)]] w fun en w' => en = .returned (.bool (mayC a.lv a.iv k a.md)) ∧ Below w.heap.size w w') := Lib.hid fun k w hk => rmay_any a.lv false a.iv 0 k a.md w ha.md (by omega) hk
  have N1 : Hid (∀ k W, GB 89 W w.heap.size (ow8A a) → Calls Tryz.prog 71 #[.int .u16 k, .pointer (some ⟨w.heap.size, 0, none⟩)] W fun en w' => en = .returned (.agg #[.int .u8 a.lv, .bool false, .int .u8 a.iv, .int .u32 0, .int .u16 k, .string (bs a.md)]) ∧ Below W.heap.size W w') := Lib.hid fun k W h => new1_any a k w.heap.size _ W h
  obtain ⟨L, hL⟩ : ∃ L, ks.length = L := ⟨_, rfl⟩
  have HNV : Hid (newV a ks = if K = false ∨ 8 < L then none else newGo a ks []) := Lib.hid (by rw [← hK, ← hL]; rfl)
  have HK := Lib.hid hK
  have HL := Lib.hid hL
  have HA := Lib.hid ha
  have HKB := Lib.hid hkb
  have hL1 : L ≤ 1000 := by omega
  have M0 := Lib.hid (fun w => MY.out a.mp w ha.mp)
  rw [hK] at M0
  rw [hL]
  clear hR hsh hK hL ha hkb hkl
  unfold ow8A
  go_enter Tryz.func27, Tryz.ntmps27
  go_upto_region 2 with fail
  have g0 : GB 89 (w.alloc (.cells #[.int .u8 a.lv, .int .u16 a.mp, .int .u8 a.iv, .string (bs a.md)] 89)) w.heap.size (ow8A a) := heap_alloc_new _ _
  have b0 : Below w.heap.size w (w.alloc (.cells #[.int .u8 a.lv, .int .u16 a.mp, .int .u8 a.iv, .string (bs a.md)] 89)) := (Below.refl _ _).alloc (Nat.le_refl _) _
  obtain ⟨w0, hw0⟩ : ∃ k, w.alloc (.cells #[.int .u8 a.lv, .int .u16 a.mp, .int .u8 a.iv, .string (bs a.md)] 89) = k := ⟨_, rfl⟩
  rw [hw0] at g0 b0 ⊢
  have G0 := Lib.hid g0
  have B0 := Lib.hid b0
  have c1 : w0.cell? ⟨w.heap.size, 1, none⟩ = some (.int .u16 a.mp) := g0.c 1 _ rfl
  clear hw0 g0 b0
  have hd : (K = false ∨ K = true ∧ decide ((8 : Int) < (L : Int)) = true) ∨ (K = true ∧ decide ((8 : Int) < (L : Int)) = false) := by
    cases K
    · exact .inl (.inl rfl)
    · cases h : decide ((8 : Int) < (L : Int))
      · exact .inr ⟨rfl, rfl⟩
      · exact .inl (.inr ⟨rfl, rfl⟩)
  rcases hd with hd | ⟨hK, dL⟩
  · have HN0 : Hid (newV a ks = none) := Lib.hid (by
      rw [HNV.out, if_pos]
      rcases hd with h | ⟨_, h⟩
      · exact .inl h
      · exact .inr (by have := of_decide_eq_true h; omega))
    clear HNV HK
    rcases hd with rfl | ⟨rfl, dL⟩
    all_goals
      go_wp2_with (first
        | (go_at_call 71; with_reducible refine (N1.out _ _ G0.out).mono ?_; rintro en w1 ⟨rfl, hb1⟩; have B1 := Lib.hid (B0.out.trans (hb1.mono B0.out.size)); clear hb1)
        | (go_at_call 72; with_reducible refine (M0.out _).mono ?_; rintro en w2 ⟨rfl, hb2⟩; have B2 := Lib.hid (B1.out.trans (hb2.mono B1.out.size)); clear hb2))
      exact bodyPost_ret (v := .tuple #[.pointer none, .int .i64 2]) (by simp [results, Tryz.results27, go_sem]) rfl (.inl ⟨HN0.out, rfl, B2.out⟩)
  · subst hK
    have HN0 : Hid (newV a ks = newGo a ks [] ∧ L ≤ 8) := Lib.hid ⟨by rw [HNV.out, if_neg]; rintro (h | h); cases h; have := of_decide_eq_false dL; omega, by have := of_decide_eq_false dL; omega⟩
    clear HNV HK
    go_upto_region 4 with (first
      | (go_at_call 71; with_reducible refine (N1.out _ _ G0.out).mono ?_; rintro en w1 ⟨rfl, hb1⟩; have B1 := Lib.hid (B0.out.trans (hb1.mono B0.out.size)); have G1 := Lib.hid (G0.out.later hb1); clear hb1)
      | (go_at_call 72; with_reducible refine (M0.out _).mono ?_; rintro en w2 ⟨rfl, hb2⟩; have B2 := Lib.hid (B1.out.trans (hb2.mono B1.out.size)); have G2 := Lib.hid (G1.out.later hb2); clear hb2))
    clear c1 B0 B1 G0 G1 M0
    have c0 : w2.cell? ⟨w.heap.size, 0, none⟩ = some (.int .u8 a.lv) := G2.out.c 0 _ rfl
    have c1 : w2.cell? ⟨w.heap.size, 1, none⟩ = some (.int .u16 a.mp) := G2.out.c 1 _ rfl
    have c2 : w2.cell? ⟨w.heap.size, 2, none⟩ = some (.int .u8 a.iv) := G2.out.c 2 _ rfl
    have c3 : w2.cell? ⟨w.heap.size, 3, none⟩ = some (.string (bs a.md)) := G2.out.c 3 _ rfl
    have run0 : (Instr.makeMap 162 none).run Tryz.prog w2 = .ok (.map (some w2.heap.size)) (w2.alloc (.map #[] 0)) := rfl
    go_upto_region 5 with fail
    have n0 : NS w ((w2.alloc (.map #[] 0)).alloc (.cells (mcA a w2.heap.size 0 0) 164)) (w2.heap.size + 1) w2.heap.size a [] := by
      have hb : Below w2.heap.size w2 ((w2.alloc (.map #[] 0)).alloc (.cells (mcA a w2.heap.size 0 0) 164)) := ((Below.refl _ _).alloc (Nat.le_refl _) _).alloc (by simp) _
      have hq : ((w2.alloc (.map #[] 0)).alloc (.cells (mcA a w2.heap.size 0 0) 164)).heap[w2.heap.size + 1]? = some (.cells (mcA a w2.heap.size 0 0) 164 (0, 0)) := by
        have g := GB.new 164 (w2.alloc (.map #[] 0)) (mcA a w2.heap.size 0 0)
        rw [World.size_alloc] at g; exact g
      exact ⟨⟨hq, (OM.made w2).later ((Below.refl _ _).alloc (Nat.le_refl _) _), by omega, by simp, by simp [Rising]⟩, G2.out.later hb, B2.out.trans (hb.mono B2.out.size), by have := G2.out.lt; omega, G2.out.lt⟩
    unfold mcA at n0
    obtain ⟨w3, hw3⟩ : ∃ k, (w2.alloc (.map #[] 0)).alloc (.cells #[.int .u8 a.lv, .int .u16 a.mp, .int .u8 a.iv, .string (bs a.md), .map (some w2.heap.size), .int .i64 0, .int .i64 0] 164) = k := ⟨_, rfl⟩
    rw [hw3] at n0 ⊢
    obtain ⟨q, hq⟩ : ∃ k, w2.heap.size + 1 = k := ⟨_, rfl⟩
    obtain ⟨m, hm⟩ : ∃ k, w2.heap.size = k := ⟨_, rfl⟩
    rw [hq, hm] at n0
    rw [hq]
    have N0 := Lib.hid n0
    clear hw3 n0 run0 c0 c1 c2 c3 hq hm G2 B2
    go_wp2_with fail
    have HS := Lib.hid (HR.out.later u1_len N0.out.bel)
    go_loopw [4, 5, 9, 10, 11, 30] (fun s4 s5 _ _ _ i wr => s4 = .pointer none ∧ s5 = .int .i64 0 ∧ ∃ (j : Nat) (V : List Vn), j ≤ L ∧ i = .int .i64 j ∧ Hid (V.length ≤ j) ∧ Hid (newGo a ks [] = newGo a (ks.drop j) V) ∧ Hid (NS w wr q m a V))
    (fun _ _ _ _ _ i _ => L - (intOf i).toNat)
    case atStart => exact ⟨rfl, rfl, 0, [], Nat.zero_le _, rfl, Lib.hid (Nat.le_refl _), Lib.hid (by rw [List.drop_zero]), N0⟩
    case round =>
      obtain ⟨rfl, rfl, j, V, hj, rfl, HVJ, HG, NW⟩ := hrel
      have hjb : (j : Int) < 1001 := by omega
      by_cases hlt : j < L
      rotate_left
      · obtain rfl : j = L := by omega
        have dk : decide ((j : Int) < (j : Int)) = false := decide_eq_false (by omega)
        have HZ : Hid (newV a ks = some V) := Lib.hid (by rw [HN0.out.1, HG.out, List.drop_of_length_le (by rw [HL.out]; exact Nat.le_refl _)]; rfl)
        clear hj hlt HN0
        go_wp2
        exact bodyPost_ret (v := .tuple #[.pointer (some ⟨q, 0, none⟩), .int .i64 0]) (by simp [results, Tryz.results27, go_sem]) rfl (.inr ⟨V, q, m, HZ.out, rfl, NW.out⟩)
      · have dk : decide ((j : Int) < (L : Int)) = true := decide_eq_true (by omega)
        have HV : Hid (V.length + 1 ≤ 8) := Lib.hid (by have := HVJ.out; have := HN0.out.2; omega)
        obtain ⟨b, off, rfl, hcc⟩ := HSH.out.resolve_left (by intro h; have := HL.out; rw [h] at this; simp at this; omega)
        have hjk : j < ks.length := by rw [HL.out]; exact hlt
        obtain ⟨x, hx⟩ : ∃ x, ks[j] = x := ⟨_, rfl⟩
        have hxc : w.cell? ⟨b, off + j, none⟩ = some (.int .u16 x) := by
          have := hcc j hjk 0 (by decide)
          simp only [Nat.mul_one, Nat.add_zero] at this
          rw [this, ← hx]; rfl
        have ck : wr.cell? ⟨b, off + j, none⟩ = some (.int .u16 x) := (NW.out.bel.cell (World.block_lt_of_cell? w _ hxc)).trans hxc
        have hxb := HKB.out x (by rw [← hx]; exact List.getElem_mem _)
        have HXB := Lib.hid hxb
        have HG2 : Hid (newGo a ks [] = if ((vFind V x).isSome || (x == a.mp || !mayC a.lv a.iv x a.md)) = true then none else newGo a (ks.drop (j + 1)) (vPut V (x, lastC a.iv, 0))) := Lib.hid (by
          rw [HG.out, List.drop_eq_getElem_cons hjk, hx]; rfl)
        obtain ⟨F1, hF1⟩ : ∃ F, (vFind V x).isSome = F := ⟨_, rfl⟩
        obtain ⟨y1, hy1⟩ : ∃ y, (vGet V x).1 = y := ⟨_, rfl⟩
        obtain ⟨y2, hy2⟩ : ∃ y, (vGet V x).2 = y := ⟨_, rfl⟩
        have lk := NW.out.mc.om.look x hxb
        rw [hF1, hy1, hy2] at lk
        have HF1 := Lib.hid hF1
        rw [hF1] at HG2
        obtain ⟨E1, hE1⟩ : ∃ E, (x == a.mp) = E := ⟨_, rfl⟩
        obtain ⟨K, hK⟩ : ∃ K, mayC a.lv a.iv x a.md = K := ⟨_, rfl⟩
        have MX := Lib.hid (fun w => MY.out x w hxb)
        rw [hK] at MX HG2
        rw [hE1] at HG2
        have HE1 := Lib.hid hE1
        have c4 := NW.out.mc.c4
        clear hK hF1 hy1 hy2 hcc hxb hx hjk hxc hE1 HG hj
        go_upto_region 9 with fail
        have b4 : Below wr.heap.size wr (wr.alloc (.cells #[.int .i64 y1, .bool (decide (y2 = 1))] 166)) := (Below.refl _ _).alloc (Nat.le_refl _) _
        have N4 := Lib.hid (NW.out.later b4)
        obtain ⟨w4, hw4⟩ : ∃ k, wr.alloc (.cells #[.int .i64 y1, .bool (decide (y2 = 1))] 166) = k := ⟨_, rfl⟩
        rw [hw4] at N4 ⊢
        have d1 : w4.cell? ⟨w.heap.size, 1, none⟩ = some (.int .u16 a.mp) := N4.out.bx.c 1 _ rfl
        clear b4 hw4 ck lk c4 NW
        by_cases hbad : (F1 || (E1 || !K)) = true
        · have HZ : Hid (newV a ks = none) := Lib.hid (by rw [HN0.out.1, HG2.out, if_pos hbad])
          have hc : F1 = true ∨ (F1 = false ∧ E1 = true) ∨ (F1 = false ∧ E1 = false ∧ K = false) := by
            cases F1 <;> cases E1 <;> cases K <;> simp_all
          clear hbad HG2 HN0
          rcases hc with rfl | ⟨rfl, rfl⟩ | ⟨rfl, rfl, rfl⟩
          · go_wp2_with fail
            exact bodyPost_ret (v := .tuple #[.pointer none, .int .i64 2]) (by simp [results, Tryz.results27, go_sem]) rfl (.inl ⟨HZ.out, rfl, N4.out.bel⟩)
          · have e1 := HE1.out
            go_wp2_with fail
            exact bodyPost_ret (v := .tuple #[.pointer none, .int .i64 2]) (by simp [results, Tryz.results27, go_sem]) rfl (.inl ⟨HZ.out, rfl, N4.out.bel⟩)
          · have e1 := HE1.out
            go_wp2_with (first
              | (go_at_call 71; with_reducible refine (N1.out _ _ N4.out.bx).mono ?_; rintro en w5 ⟨rfl, hb5⟩; have N5 := Lib.hid (N4.out.later hb5); clear hb5)
              | (go_at_call 72; with_reducible refine (MX.out _).mono ?_; rintro en w6 ⟨rfl, hb6⟩; have N6 := Lib.hid (N5.out.later hb6); clear hb6))
            exact bodyPost_ret (v := .tuple #[.pointer none, .int .i64 2]) (by simp [results, Tryz.results27, go_sem]) rfl (.inl ⟨HZ.out, rfl, N6.out.bel⟩)
        · have HZ : Hid (newGo a ks [] = newGo a (ks.drop (j + 1)) (vPut V (x, lastC a.iv, 0))) := Lib.hid (by rw [HG2.out, if_neg hbad])
          have hF : F1 = false := by cases F1 <;> simp_all
          have hE : E1 = false := by cases E1 <;> simp_all
          have hK : K = true := by cases K <;> simp_all
          subst hF hE hK
          have e1 := HE1.out
          clear hbad HG2
          go_upto_region 11 with (first
              | (go_at_call 71; with_reducible refine (N1.out _ _ N4.out.bx).mono ?_; rintro en w5 ⟨rfl, hb5⟩; have N5 := Lib.hid (N4.out.later hb5); clear hb5)
              | (go_at_call 72; with_reducible refine (MX.out _).mono ?_; rintro en w6 ⟨rfl, hb6⟩; have N6 := Lib.hid (N5.out.later hb6); clear hb6))
          clear d1 N4 N5
          have c4 := N6.out.mc.c4
          have c2 : w6.cell? ⟨w.heap.size, 2, none⟩ = some (.int .u8 a.iv) := N6.out.bx.c 2 _ rfl
          obtain ⟨N, hN⟩ : ∃ N, lastC a.iv = N := ⟨_, rfl⟩
          have LA := Lib.hid (fun w => lasts_any a.iv w)
          rw [hN] at HZ LA
          obtain ⟨w7, hrun, om7, hg7⟩ := N6.out.mc.drew.om.update (by have := N6.out.mc.vl; omega) x N false HXB.out
          have NF : Hid (NS w w7 q m a (vPut V (x, N, 0))) := Lib.hid (by
            have M := N6.out.mc.drew
            have hne := M.ne
            have hlq := N6.out.lq
            have hlm := N6.out.lm
            have hbx := N6.out.bx.lt
            have hlen : (vPut V (x, N, 0)).length ≤ 8 := by have := HV.out; have := vPut_len V (x, N, 0); omega
            refine ⟨⟨(hg7.block q M.lt (by intro e; injection e with e; exact M.ne e)).trans M.b, om7, M.ne, hlen, M.ri.put _⟩, ?_, ?_, hlq, hlm⟩
            · exact (hg7.block _ hbx (by intro e; injection e with e; omega)).trans N6.out.bx
            · exact N6.out.bel.trans (Only.below (p := m) (Only.undrew hg7) (Nat.le_of_lt hlm) N6.out.bel.size))
          clear om7 hg7 hN N6 HE1 e1
          go_region_with (go_at_call 25; with_reducible refine (LA.out _).mono ?_; rintro e w' ⟨rfl, rfl⟩)
          all_goals go_wp2
          all_goals exact ⟨⟨rfl, rfl, j + 1, _, by omega, by go_num, Lib.hid (by have := HVJ.out; have := vPut_len V (x, N, 0); omega), HZ, NF⟩, by simp [intOf]; omega⟩
end Go.Proofs.YtlkdfofpnmpidaaGreat

/- law18: maid, the known machine. -/
set_option linter.unusedVariables false
set_option linter.unusedSimpArgs false
namespace Go.Proofs.YtlkdfofpnmpidaaGreat
open Go.RowKit

/-- The association's bytes. -/
def mdM : List UInt8 := (mPut [] [97]).1
theorem mdM_put : mPut [] [97] = (mdM, 0) := rfl
theorem mdM_len : mdM.length = 48 := rfl
theorem mdM_take : takeR mdM = ([], [97], 0) := takeR_of mdM_put
theorem mayM {lv iv me : Int} (h1 : lv < 8) (h2 : iv = 4 ∨ iv = 5) (h3 : 1 ≤ me ∧ me ≤ 8191) : mayC lv iv me mdM = true := by
  unfold mayC
  rw [mdM_take, decide_eq_true h1, decide_eq_true ((tick_pos iv).2 h2), decide_eq_true h3.1, decide_eq_true h3.2]; rfl
/-- What is kept: the machine behind this law's own start. -/
structure WQ (w W : World) (q m : Nat) (a : Ow8) (V : List Vn) (bd cr : Int) : Prop where
  mc : MC W q a m V bd cr
  bel : Below w.heap.size w W
  lq : w.heap.size ≤ q
  lm : w.heap.size ≤ m
theorem WQ.later {w W W' : World} {q m : Nat} {a : Ow8} {V : List Vn} {bd cr : Int} (h : WQ w W q m a V bd cr) (hb : Below W.heap.size W W') : WQ w W' q m a V bd cr := ⟨h.mc.later hb, h.bel.trans (hb.mono h.bel.size), h.lq, h.lm⟩
theorem WQ.two {w W W' : World} {q m : Nat} {a : Ow8} {V V' : List Vn} {bd cr bd' cr' : Int} (h : WQ w W q m a V bd cr) (hm : MC W' q a m V' bd' cr') (ht : Two q m W W') : WQ w W' q m a V' bd' cr' := ⟨hm, h.bel.trans (ht.below h.lq h.lm h.bel.size), h.lq, h.lm⟩
theorem cell_two {q m g : Nat} {w w' : World} (h : Two q m w w') (hl : g < w.heap.size) (h1 : g ≠ q) (h2 : g ≠ m) : w'.cell? ⟨g, 0, none⟩ = w.cell? ⟨g, 0, none⟩ := by simp [World.cell?, h.block g hl h1 h2]
def owK : Ow8 := ⟨3, 1, 4, mdM⟩
theorem owK_ok : owK.Ok := ⟨by decide, by decide, by decide, by show mdM.length ≤ 1000; rw [mdM_len]; decide⟩
theorem newV_K : newV owK [2] = some [(2, 4, 0)] := by
  unfold newV
  rw [show mayC owK.lv owK.iv owK.mp owK.md = true from mayM (by decide) (.inl rfl) (by decide)]
  rw [if_neg (by decide)]
  unfold newGo
  rw [show mayC owK.lv owK.iv 2 owK.md = true from mayM (by decide) (.inl rfl) (by decide)]
  rfl
theorem bnd_one {k a b bd cr : Int} (h1 : 0 ≤ a ∧ a ≤ 1000) (h2 : 0 ≤ k ∧ k < 65536) (h3 : 0 ≤ bd ∧ bd ≤ 1000) (h4 : 0 ≤ cr ∧ cr ≤ 1000) : Bnd [(k, a, b)] bd cr :=
  ⟨by intro x hx; rw [List.mem_singleton.1 hx]; exact h1, by intro x hx; rw [List.mem_singleton.1 hx]; exact h2, h3, h4⟩
end Go.Proofs.YtlkdfofpnmpidaaGreat
