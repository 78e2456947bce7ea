/- law18: tells. -/
import Derived.Test.YtecoomkpkdapdaaSD
import Derived.Maps.AppendAt
set_option linter.unusedVariables false
set_option linter.unusedSimpArgs false
namespace Go.Proofs.Ytecoomkpkdapdaa
open Go.RowKit

abbrev OwU (w : World) (B : Nat) (v : Value) (l : List Int) : Prop := Ow 1 (fun x : Int => [encU x]) 22 w B v l
theorem OwU.ru {w : World} {B : Nat} {v : Value} {l : List Int} (h : OwU w B v l) : Rw 1 u1 w v l := Ow.rw oU_len h
def lostX (a : Ow8) (all : List Int) (l : List Hd) (now : Int) (t : List Int) : List Int := t.filter fun k => leftC a all l 1 k now == 0
def rdisX (a : Ow8) (all : List Int) (l : List Hd) (now : Int) (t : List Int) : List Int := t.filter fun k => !(leftC a all l 1 k now == 0) && rdiC a all l k
/-- 'append(v, y)', at a row of numbers: which block it turns, where the new row lies. -/
theorem wpList_append_u {w : World} {ops : Array Oper} {rest : List Oper} {o : Oper} {a : Act} {Q : Exit → Act → World → Prop} (hgd : o.guard = none) (s x : Operand)
    (ho : o.op = .call { callee := .builtin .append, args := #[s, x], argTypes := #[46, 46] }) (B : Nat) (v : Value) (l : List Int) (hs : a.eval s = v) (hown : OwU w B v l)
    (g c : Nat) (hx : a.eval x = .slice (some ⟨g, 0, none⟩) 1 c) (y : Int) (hy : w.cell? ⟨g, 0, none⟩ = some (.int .u16 y)) (hsz : l.length ≤ 1000000) (hB : B ≤ w.heap.size)
    (h : ∀ v' w', OwU w' B v' (l ++ [y]) → w.grownBy w' v.ownBlock → (v'.ownBlock = v.ownBlock ∨ v'.ownBlock = some w.heap.size) → wpList Try.prog ops Q rest (a.put o.dst v') w') : wpList Try.prog ops Q (o :: rest) a w := by
  obtain ⟨i, hi, hz0, hz1, hz2⟩ := info_parts info_u16
  refine wpList_append_own_at w hgd s x 46 ho B 22 i (.int .u16 0) 1 2 Try.underlying46 hi hz0 hz1 hz2 rfl (by decide) v l.length (l.flatMap fun x : Int => [encU x]) hs hown ⟨g, 0, none⟩ 1 c [encU y] hx rfl
    (fun j u hj => ?_) (fun u hu => by rw [List.mem_singleton.1 hu]; rfl) (by unfold maxLen; omega) (by omega) hB (fun v' w' h1 h2 _ h4 => h v' w' ?_ h2 h4)
  · rcases j with _ | j
    · simp at hj
      subst hj
      exact hy
    · simp at hj
  · unfold OwU Ow
    rw [List.length_append, List.flatMap_append]; exact h1
def Apart (v1 v2 : Value) : Prop := v1.ownBlock = none ∨ v2.ownBlock = none ∨ v1.ownBlock ≠ v2.ownBlock
theorem Apart.symm {v1 v2 : Value} (h : Apart v1 v2) : Apart v2 v1 := by
  rcases h with h | h | h
  · exact .inr (.inl h)
  · exact .inl h
  · exact .inr (.inr fun e => h e.symm)
theorem Apart.new {w : World} {B : Nat} {v1 v2 v' : Value} {l : List Int} (h : Apart v1 v2) (h2 : OwU w B v2 l) (hv : v'.ownBlock = v1.ownBlock ∨ v'.ownBlock = some w.heap.size) : Apart v' v2 := by
  rcases hv with e | e
  · unfold Apart; rw [e]; exact h
  · refine .inr (.inr fun e2 => ?_)
    rw [e] at e2
    have := (World.ownsRow.lt h2 _ e2.symm).2
    omega
theorem OwU.apart {w w' : World} {B : Nat} {v1 v2 : Value} {l : List Int} (h : OwU w B v2 l) (ha : Apart v1 v2) (hg : w.grownBy w' v1.ownBlock) : OwU w' B v2 l := by
  refine World.ownsRow.kept h hg ?_
  rcases ha with h1 | h1 | h1
  · rw [h1]
    cases v2.ownBlock
    · exact .inl rfl
    · exact .inr (by simp)
  · exact .inl h1
  · exact .inr fun e => h1 e.symm
theorem OwU.below {w w' : World} {B : Nat} {v : Value} {l : List Int} (h : OwU w B v l) (hg : w.grownBy w' v.ownBlock) (hB : B ≤ w.heap.size) : Below B w w' :=
  (Below.refl _ _).grown hg hB (fun k hk => (World.ownsRow.lt h k hk).1)
/-- What is kept. -/
structure TL (w W : World) (B q m : Nat) (a : Ow8) (all : List Int) (V : List Vn) (bd cr : Int) (sv lv : Value) (l : List Hd) : Prop where
  mc : MC W q a m V bd cr
  gb : GB 56 W B (ow8A a)
  rk : Rw 1 u1 W sv all
  rl : Rw 7 hdC W lv l
  bel : Below B w W
theorem TL.later {w W W' : World} {B q m : Nat} {a : Ow8} {all : List Int} {V : List Vn} {bd cr : Int} {sv lv : Value} {l : List Hd} (h : TL w W B q m a all V bd cr sv lv l) (hB : B ≤ W.heap.size) (hb : Below W.heap.size W W') : TL w W' B q m a all V bd cr sv lv l :=
  ⟨h.mc.later hb, h.gb.later hb, h.rk.later u1_len hb, h.rl.later hdC_len hb, h.bel.trans (hb.mono hB)⟩
set_option maxRecDepth 100000 in
set_option maxHeartbeats 16000000 in
theorem tells_any (q m : Nat) (a : Ow8) (all : List Int) (V : List Vn) (bd cr : Int) (sv lv : Value) (l : List Hd) (now : Int) (w : World) (hs : MC w q a m V bd cr) (hI : Inv a all V bd cr l now) (hK : Rw 1 u1 w sv all) (hL : Rw 7 hdC w lv l) (hl : l.length ≤ 1000) (hok : ∀ h ∈ l, h.Ok) (hn : now ≤ 1000) :
    Calls Try.prog 33 #[.pointer (some ⟨q, 0, none⟩), .agg (ow8A a), sv, lv, .int .i64 now] w fun en w' => en = .returned (.bool true) ∧ Below w.heap.size w w' := by
  have hall : all.length ≤ 8 := by rw [← hI.ks, List.length_map]; exact hs.vl
  have HI := Lib.hid hI
  have HOK := Lib.hid hok
  have HLL := Lib.hid hl
  have HNB := Lib.hid (And.intro hI.hnow hn)
  have HALL := Lib.hid hall
  obtain ⟨sa, sc, rfl, hsh⟩ := hK.shape
  have HSH := Lib.hid hsh
  obtain ⟨L, hLe⟩ : ∃ L, all.length = L := ⟨_, rfl⟩
  have HL := Lib.hid hLe
  have hL8 : L ≤ 8 := by omega
  rw [hLe]
  obtain ⟨B, hB⟩ : ∃ B, w.heap.size = B := ⟨_, rfl⟩
  have HB := Lib.hid hB
  rw [hB]
  have LF : Hid (∀ (kd me : Int) W, TL w W B q m a all V bd cr (.slice sa all.length sc) lv l → Calls Try.prog 74 #[.agg (ow8A a), .slice sa all.length sc, lv, .int .i64 kd, .int .u16 me, .int .i64 now] W fun en w' => en = .returned (.int .i64 (leftC a all l kd me now)) ∧ Below W.heap.size W w') := Lib.hid fun kd me W h =>
    left18_any a _ lv all l kd me now W h.rk (by omega) h.rl hl hok ⟨hI.hnow, hn⟩
  have RD : Hid (∀ (me : Int) W, TL w W B q m a all V bd cr (.slice sa all.length sc) lv l → Calls Try.prog 75 #[.agg (ow8A a), .slice sa all.length sc, lv, .int .u16 me] W fun en w' => en = .returned (.bool (rdiC a all l me)) ∧ Below W.heap.size W w') := Lib.hid fun me W h =>
    rdi_any a _ lv all l me W h.rk (by omega) h.rl hl hok
  rw [hLe] at LF RD
  have hs0 := hs
  have hK0 := hK
  have hL0 := hL
  have TLM : Hid (∀ W, Below B w W → GB 56 W B (ow8A a) → TL w W B q m a all V bd cr (.slice sa L sc) lv l) := Lib.hid fun W hb hg => by
    have hb' : Below w.heap.size w W := by rw [hB]; exact hb
    exact ⟨hs0.later hb', hg, by rw [← hLe]; exact hK0.later u1_len hb', hL0.later hdC_len hb', hb⟩
  clear hs hI hok hl hall hn hLe hsh
  unfold ow8A at LF RD ⊢
  go_enter Try.func33, Try.ntmps33
  go_upto_region 1 with fail
  have T0 : TL w (w.alloc (.cells #[.int .u8 a.lv, .int .u16 a.mp, .int .u8 a.iv, .string (bs a.md)] 56)) B q m a all V bd cr (.slice sa all.length sc) lv l := by
    have hb : Below w.heap.size w (w.alloc (.cells #[.int .u8 a.lv, .int .u16 a.mp, .int .u8 a.iv, .string (bs a.md)] 56)) := (Below.refl _ _).alloc (Nat.le_refl _) _
    exact ⟨hs0.later hb, by rw [← hB]; exact heap_alloc_new _ _, hK0.later u1_len hb, hL0.later hdC_len hb, by rw [← hB]; exact hb⟩
  have hsz : B + 1 ≤ (w.alloc (.cells #[.int .u8 a.lv, .int .u16 a.mp, .int .u8 a.iv, .string (bs a.md)] 56)).heap.size := by simp; omega
  obtain ⟨w0, hw0⟩ : ∃ k, w.alloc (.cells #[.int .u8 a.lv, .int .u16 a.mp, .int .u8 a.iv, .string (bs a.md)] 56) = k := ⟨_, rfl⟩
  rw [hw0] at T0 hsz ⊢
  rw [HL.out] at T0
  have HT := Lib.hid T0
  have HSZ := Lib.hid hsz
  clear T0 hw0 hs0 hK hK0 hL0 hL hB hsz
  go_wp2_with fail
  go_loopw [11, 12, 13] (fun v1 v2 i wr => ∃ j : Nat, j ≤ L ∧ i = .int .i64 j ∧ Hid (OwU wr (B + 1) v1 (lostX a all l now (all.take j))) ∧ Hid (OwU wr (B + 1) v2 (rdisX a all l now (all.take j))) ∧ Hid (Apart v1 v2) ∧ Hid (TL w wr B q m a all V bd cr (.slice sa L sc) lv l) ∧ Hid (B + 1 ≤ wr.heap.size)) (fun _ _ i _ => L - (intOf i).toNat)
  case atStart => exact ⟨0, Nat.zero_le _, rfl, Lib.hid (Ow.none _ _), Lib.hid (Ow.none _ _), Lib.hid (.inl rfl), HT, HSZ⟩
  case round =>
    obtain ⟨j, hj, rfl, HO1, HO2, HAP, HT1, HZ1⟩ := hrel
    have hjb : (j : Int) < 1001 := by omega
    by_cases hlt : j < L
    rotate_left
    · obtain rfl : j = L := by omega
      have dk : decide ((j : Int) < (j : Int)) = false := decide_eq_false (by omega)
      have etk : all.take j = all := List.take_of_length_le (by rw [HL.out]; exact Nat.le_refl _)
      rw [etk] at HO1 HO2
      obtain ⟨a1, c1, rfl, _⟩ := (OwU.ru HO1.out).shape
      obtain ⟨a2, c2, rfl, _⟩ := (OwU.ru HO2.out).shape
      have HR1 := Lib.hid (OwU.ru HO1.out)
      have HR2 := Lib.hid (OwU.ru HO2.out)
      have LB : Hid (∀ W, TL w W B q m a all V bd cr (.slice sa j sc) lv l → Calls Try.prog 74 #[.agg #[.int .u8 a.lv, .int .u16 a.mp, .int .u8 a.iv, .string (bs a.md)], .slice sa j sc, lv, .int .i64 2, .int .u16 0, .int .i64 now] W fun en w' => en = .returned (.int .i64 bd) ∧ Below W.heap.size W w') := Lib.hid fun W h => by
        have := LF.out 2 0 W h
        rw [← HI.out.hbd] at this; exact this
      have LC : Hid (∀ W, TL w W B q m a all V bd cr (.slice sa j sc) lv l → Calls Try.prog 74 #[.agg #[.int .u8 a.lv, .int .u16 a.mp, .int .u8 a.iv, .string (bs a.md)], .slice sa j sc, lv, .int .i64 3, .int .u16 0, .int .i64 now] W fun en w' => en = .returned (.int .i64 cr) ∧ Below W.heap.size W w') := Lib.hid fun W h => by
        have := LF.out 3 0 W h
        rw [← HI.out.hcr] at this; exact this
      obtain ⟨LL, hLL⟩ : ∃ z, lostX a all l now all = z := ⟨_, rfl⟩
      obtain ⟨RR, hRR⟩ : ∃ z, rdisX a all l now all = z := ⟨_, rfl⟩
      rw [hLL] at HR1 ⊢
      rw [hRR] at HR2 ⊢
      have HLV : Hid (thoseV isL V = LL ∧ thoseV isR V = RR) := Lib.hid ⟨by rw [HI.out.lost, ← hLL]; rfl, by rw [HI.out.rdis, ← hRR]; rfl⟩
      have HLE : Hid (LL.length ≤ 1000 ∧ RR.length ≤ 1000) := Lib.hid (by
        have := HALL.out
        have h1 := List.length_filter_le (fun k => leftC a all l 1 k now == 0) all
        have h2 := List.length_filter_le (fun k => !(leftC a all l 1 k now == 0) && rdiC a all l k) all
        rw [← hLL, ← hRR]; unfold lostX rdisX; omega)
      obtain ⟨NL, hNL⟩ : ∃ z, LL.length = z := ⟨_, rfl⟩
      obtain ⟨NR, hNR⟩ : ∃ z, RR.length = z := ⟨_, rfl⟩
      rw [hNL] at HR1 ⊢
      rw [hNR] at HR2 ⊢
      have HNL := Lib.hid (And.intro hNL hNR)
      clear hlt hj etk hLL hRR hNL hNR HO1 HO2 HAP LF RD TLM
      have k0 : wr.cell? ⟨B, 0, none⟩ = some (.int .u8 a.lv) := HT1.out.gb.c 0 _ rfl
      have k1 : wr.cell? ⟨B, 1, none⟩ = some (.int .u16 a.mp) := HT1.out.gb.c 1 _ rfl
      have k2 : wr.cell? ⟨B, 2, none⟩ = some (.int .u8 a.iv) := HT1.out.gb.c 2 _ rfl
      have k3 : wr.cell? ⟨B, 3, none⟩ = some (.string (bs a.md)) := HT1.out.gb.c 3 _ rfl
      go_wp2_with fail
      with_reducible refine (LB.out _ HT1.out).mono ?_
      rintro en w1 ⟨rfl, hb1⟩
      have HT2 := Lib.hid (HT1.out.later (by have := HZ1.out; omega) hb1)
      have HR12 := Lib.hid (HR1.out.later u1_len hb1)
      have HR22 := Lib.hid (HR2.out.later u1_len hb1)
      have HZ2 := Lib.hid (Nat.le_trans HZ1.out hb1.size)
      clear hb1 HT1 HR1 HR2 HZ1 k0 k1 k2 k3 LB
      have k0 : w1.cell? ⟨B, 0, none⟩ = some (.int .u8 a.lv) := HT2.out.gb.c 0 _ rfl
      have k1 : w1.cell? ⟨B, 1, none⟩ = some (.int .u16 a.mp) := HT2.out.gb.c 1 _ rfl
      have k2 : w1.cell? ⟨B, 2, none⟩ = some (.int .u8 a.iv) := HT2.out.gb.c 2 _ rfl
      have k3 : w1.cell? ⟨B, 3, none⟩ = some (.string (bs a.md)) := HT2.out.gb.c 3 _ rfl
      go_wp2_with fail
      with_reducible refine (LC.out _ HT2.out).mono ?_
      rintro en w2 ⟨rfl, hb1⟩
      have HT3 := Lib.hid (HT2.out.later (by have := HZ2.out; omega) hb1)
      have HR13 := Lib.hid (HR12.out.later u1_len hb1)
      have HR23 := Lib.hid (HR22.out.later u1_len hb1)
      have HZ3 := Lib.hid (Nat.le_trans HZ2.out hb1.size)
      clear hb1 HT2 HR12 HR22 HZ2 k0 k1 k2 k3 LC
      go_upto_region 11 with fail
      obtain ⟨D3, hD3⟩ : ∃ z, decide (0 < bd) = z := ⟨_, rfl⟩
      have HD3 := Lib.hid hD3
      rw [hD3]
      clear hD3
      obtain ⟨D4, hD4⟩ : ∃ z, decide (0 < cr) = z := ⟨_, rfl⟩
      have HD4 := Lib.hid hD4
      rw [hD4]
      clear hD4
      obtain ⟨W1, hW1⟩ : ∃ z : Int, (if 0 < NR then 1 else 0) = z := ⟨_, rfl⟩
      have HW1 := Lib.hid hW1
      clear hW1
      go_upto_if 69 with fail
      go_cut [16] (fun s16 wx => s16 = .int .u8 W1 ∧ wx = w2)
      case first =>
        by_cases h : 0 < NR
        · have d : decide ((0 : Int) < (NR : Int)) = true := decide_eq_true (by omega)
          go_wp2_with fail
          go_meet
          exact ⟨by rw [← HW1.out, if_pos h], by trivial⟩
        · have d : decide ((0 : Int) < (NR : Int)) = false := decide_eq_false (by omega)
          go_wp2_with fail
          go_meet
          exact ⟨by rw [← HW1.out, if_neg h], by trivial⟩
      case rest =>
      obtain ⟨rfl, hw⟩ := hcut
      rw [hw]
      clear hw
      obtain ⟨W2, hW2⟩ : ∃ z : Int, (if 0 < NL then 2 else W1) = z := ⟨_, rfl⟩
      have HW2 := Lib.hid hW2
      clear hW2
      go_upto_if 72 with fail
      go_cut [16] (fun s16 wx => s16 = .int .u8 W2 ∧ wx = w2)
      case first =>
        by_cases h : 0 < NL
        · have d : decide ((0 : Int) < (NL : Int)) = true := decide_eq_true (by omega)
          go_wp2_with fail
          go_meet
          exact ⟨by rw [← HW2.out, if_pos h], by trivial⟩
        · have d : decide ((0 : Int) < (NL : Int)) = false := decide_eq_false (by omega)
          go_wp2_with fail
          go_meet
          exact ⟨by rw [← HW2.out, if_neg h], by trivial⟩
      case rest =>
      obtain ⟨rfl, hw⟩ := hcut
      rw [hw]
      clear hw
      obtain ⟨W3, hW3⟩ : ∃ z : Int, (if 0 < bd then 3 else W2) = z := ⟨_, rfl⟩
      have HW3 := Lib.hid hW3
      clear hW3
      go_upto_if 73 with fail
      go_cut [16] (fun s16 wx => s16 = .int .u8 W3 ∧ wx = w2)
      case first =>
        cases D3
        · go_wp2_with fail
          go_meet
          exact ⟨by rw [← HW3.out, if_neg (of_decide_eq_false HD3.out)], by trivial⟩
        · go_wp2_with fail
          go_meet
          exact ⟨by rw [← HW3.out, if_pos (of_decide_eq_true HD3.out)], by trivial⟩
      case rest =>
      obtain ⟨rfl, hw⟩ := hcut
      rw [hw]
      clear hw
      obtain ⟨W4, hW4⟩ : ∃ z : Int, (if 0 < cr then 4 else W3) = z := ⟨_, rfl⟩
      have HW4 := Lib.hid hW4
      clear hW4
      go_upto_if 74 with fail
      go_cut [16] (fun s16 wx => s16 = .int .u8 W4 ∧ wx = w2)
      case first =>
        cases D4
        · go_wp2_with fail
          go_meet
          exact ⟨by rw [← HW4.out, if_neg (of_decide_eq_false HD4.out)], by trivial⟩
        · go_wp2_with fail
          go_meet
          exact ⟨by rw [← HW4.out, if_pos (of_decide_eq_true HD4.out)], by trivial⟩
      case rest =>
      obtain ⟨rfl, hw⟩ := hcut
      rw [hw]
      clear hw
      have HWV : Hid (worstV V bd cr = W4) := Lib.hid (by
        unfold worstV
        rw [HLV.out.1, HLV.out.2, HNL.out.1, HNL.out.2, ← HW4.out, ← HW3.out, ← HW2.out, ← HW1.out])
      clear HW1 HW2 HW3 HW4 HI HOK HLL HNB
      go_wp2_with fail
      with_reducible refine (mL_any q m a V bd cr _ HT3.out.mc).mono ?_
      rintro en x1 ⟨v1, rfl, hu1, hb1⟩
      rw [HLV.out.1] at hu1
      have HU1 := Lib.hid (Us.ru hu1)
      have HT4 := Lib.hid (HT3.out.later (by have := HZ3.out; omega) hb1)
      have HR14 := Lib.hid (HR13.out.later u1_len hb1)
      have HR24 := Lib.hid (HR23.out.later u1_len hb1)
      have HZ4 := Lib.hid (Nat.le_trans HZ3.out hb1.size)
      clear hb1 hu1 HT3 HR13 HR23 HZ3
      go_wp2_with fail
      with_reducible refine (same18_any _ _ LL LL _ HU1.out HR14.out HLE.out.1 rfl).mono ?_
      rintro en x2 ⟨rfl, hb1⟩
      have HT5 := Lib.hid (HT4.out.later (by have := HZ4.out; omega) hb1)
      have HR25 := Lib.hid (HR24.out.later u1_len hb1)
      have HZ5 := Lib.hid (Nat.le_trans HZ4.out hb1.size)
      clear hb1 HT4 HR14 HR24 HZ4 HU1
      go_wp2_with fail
      with_reducible refine (mR_any q m a V bd cr _ HT5.out.mc).mono ?_
      rintro en x3 ⟨v2, rfl, hu1, hb1⟩
      rw [HLV.out.2] at hu1
      have HU2 := Lib.hid (Us.ru hu1)
      have HT6 := Lib.hid (HT5.out.later (by have := HZ5.out; omega) hb1)
      have HR26 := Lib.hid (HR25.out.later u1_len hb1)
      have HZ6 := Lib.hid (Nat.le_trans HZ5.out hb1.size)
      clear hb1 hu1 HT5 HR25 HZ5
      go_wp2_with fail
      with_reducible refine (same18_any _ _ RR RR _ HU2.out HR26.out HLE.out.2 rfl).mono ?_
      rintro en x4 ⟨rfl, hb1⟩
      have HT7 := Lib.hid (HT6.out.later (by have := HZ6.out; omega) hb1)
      have HZ7 := Lib.hid (Nat.le_trans HZ6.out hb1.size)
      clear hb1 HT6 HR26 HZ6 HU2
      go_wp2_with fail
      with_reducible refine (defects_any q m a V bd cr _ HT7.out.mc).mono ?_
      rintro en x5 ⟨rfl, hb1⟩
      rw [HWV.out]
      have HT8 := Lib.hid (HT7.out.later (by have := HZ7.out; omega) hb1)
      have HZ8 := Lib.hid (Nat.le_trans HZ7.out hb1.size)
      clear hb1 HT7 HZ7
      have hd2 : decide (2 ≤ W4) = decide (1 < W4) := by
        by_cases h : 2 ≤ W4
        · rw [decide_eq_true h, decide_eq_true (by omega)]
        · rw [decide_eq_false h, decide_eq_false (by omega)]
      rw [hd2]
      obtain ⟨DD, hDD⟩ : ∃ z, decide (1 < W4) = z := ⟨_, rfl⟩
      rw [hDD]
      clear hd2
      cases DD
      all_goals
        go_wp2_with fail
        with_reducible refine (worst_any q m a V bd cr _ HT8.out.mc).mono ?_
        rintro en x6 ⟨rfl, hb1⟩
        rw [HWV.out]
        have hww : (W4 == W4) = true := by simp
        have HF := Lib.hid (HT8.out.bel.trans (hb1.mono (by have := HZ8.out; omega)))
        clear hb1
        go_wp2
        go_ret
        exact ⟨rfl, HF.out⟩
    have dk : decide ((j : Int) < (L : Int)) = true := decide_eq_true (by omega)
    obtain ⟨b, off, rfl, hcc⟩ := HSH.out.resolve_left (by intro h; have := HL.out; rw [h] at this; simp at this; omega)
    have hjl : j < all.length := by rw [HL.out]; exact hlt
    obtain ⟨x, hx⟩ : ∃ x, all[j] = x := ⟨_, rfl⟩
    have hxc : w.cell? ⟨b, off + j, none⟩ = some (.int .u16 x) := by
      have := hcc j hjl 0 (by decide)
      simp only [Nat.mul_one, Nat.add_zero] at this
      rw [this, ← hx]; rfl
    have CX : Hid (∀ W, Below B w W → W.cell? ⟨b, off + j, none⟩ = some (.int .u16 x)) := Lib.hid fun W hW => ((by rw [← HB.out] at hW; exact hW : Below w.heap.size w W).cell (World.block_lt_of_cell? w _ hxc)).trans hxc
    have HTE : Hid (all.take (j + 1) = all.take j ++ [x]) := Lib.hid (by rw [List.take_add_one, List.getElem?_eq_getElem hjl, hx]; rfl)
    clear hcc hx hxc hjl
    obtain ⟨Z, hZ⟩ : ∃ z, leftC a all l 1 x now = z := ⟨_, rfl⟩
    obtain ⟨E, hE⟩ : ∃ z, (Z == 0) = z := ⟨_, rfl⟩
    have HE := Lib.hid (show (leftC a all l 1 x now == 0) = E by rw [hZ]; exact hE)
    have LX : Hid (∀ (kk : Later wr), TL w kk.out B q m a all V bd cr (.slice (some ⟨b, off, none⟩) L sc) lv l) := Lib.hid fun kk => HT1.out.later (by have := HZ1.out; omega) kk.h
    go_upto_region 5 with fail
    go_cut [32] (fun s32 wx => s32 = .bool E ∧ Hid (Below wr.heap.size wr wx))
    case first =>
      have MB : ∀ kk : Later wr, Calls Try.prog 74 #[.agg #[.int .u8 a.lv, .int .u16 a.mp, .int .u8 a.iv, .string (bs a.md)], .slice (some ⟨b, off, none⟩) L sc, lv, .int .i64 1, .int .u16 x, .int .i64 now] kk.out fun e w' => e = .returned (.int .i64 Z) ∧ Below kk.out.heap.size kk.out w' := fun kk => by
        rw [← hZ]; exact LF.out 1 x kk.out (LX.out kk)
      have k0 : ∀ kk : Later wr, kk.out.cell? ⟨B, 0, none⟩ = some (.int .u8 a.lv) := fun kk => (LX.out kk).gb.c 0 _ rfl
      have k1 : ∀ kk : Later wr, kk.out.cell? ⟨B, 1, none⟩ = some (.int .u16 a.mp) := fun kk => (LX.out kk).gb.c 1 _ rfl
      have k2 : ∀ kk : Later wr, kk.out.cell? ⟨B, 2, none⟩ = some (.int .u8 a.iv) := fun kk => (LX.out kk).gb.c 2 _ rfl
      have k3 : ∀ kk : Later wr, kk.out.cell? ⟨B, 3, none⟩ = some (.string (bs a.md)) := fun kk => (LX.out kk).gb.c 3 _ rfl
      have cx : ∀ kk : Later wr, kk.out.cell? ⟨b, off + j, none⟩ = some (.int .u16 x) := fun kk => CX.out _ (LX.out kk).bel
      refine wp_region_later (by kernel_rfl) (by kernel_rfl) ?_
      repeat (go_big_quiet_step (first | (go_at_call 74; exact Calls.later (MB _))))
      refine wpQuiet_nil ?_
      rintro _ ⟨kk, rfl⟩
      go_wp2_with fail
      go_meet
      exact ⟨rfl, Lib.hid kk.h⟩
    case rest =>
      obtain ⟨rfl, HB5⟩ := hcut
      have HT5 := Lib.hid (HT1.out.later (by have := HZ1.out; omega) HB5.out)
      have HO15 := Lib.hid (Ow.later HO1.out HB5.out)
      have HO25 := Lib.hid (Ow.later HO2.out HB5.out)
      have HZ5 := Lib.hid (Nat.le_trans HZ1.out HB5.out.size)
      clear HO1 HO2 HT1 HZ1 HB5 LX hE hZ
      have cx := CX.out _ HT5.out.bel
      have HLN : Hid ((lostX a all l now (all.take j)).length ≤ 1000 ∧ (rdisX a all l now (all.take j)).length ≤ 1000) := Lib.hid (by
        have h3 : (all.take j).length ≤ 8 := by have := HALL.out; simp; omega
        have h1 := List.length_filter_le (fun k => leftC a all l 1 k now == 0) (all.take j)
        have h2 := List.length_filter_le (fun k => !(leftC a all l 1 k now == 0) && rdiC a all l k) (all.take j)
        unfold lostX rdisX
        omega)
      cases E with
      | true =>
        have HA1 : Hid (lostX a all l now (all.take (j + 1)) = lostX a all l now (all.take j) ++ [x] ∧ rdisX a all l now (all.take (j + 1)) = rdisX a all l now (all.take j)) := Lib.hid (by
          unfold lostX rdisX
          rw [HTE.out, List.filter_append, List.filter_append]
          simp [HE.out])
        go_wp2_with (at_builtin; refine wpList_append_u rfl (.tmp 33) (.tmp 38) rfl (B + 1) _ (lostX a all l now (all.take j)) rfl (Ow.later HO15.out ((Below.refl _ _).alloc (Nat.le_refl _) _)) wc.heap.size 1 rfl x (by simp only [World.cell?, heap_alloc_new]; rfl) (by have := HLN.out.1; omega) (by have := HZ5.out; simp; omega) ?_; intro v1 w4 hown1 hg1 hat1; have HO1 := Lib.hid hown1; have HG4 := Lib.hid hg1; have HA4 := Lib.hid hat1; clear hown1 hg1 hat1)
        have hal := (Below.refl wc.heap.size wc).alloc (Nat.le_refl _) (.cells #[.int .u16 x] 22)
        have HB4 : Hid (Below (B + 1) wc w4) := Lib.hid ((hal.mono HZ5.out).trans (OwU.below (Ow.later HO15.out hal) HG4.out (by have := HZ5.out; simp; omega)))
        exact ⟨⟨j + 1, by omega, by go_num, Lib.hid (by rw [HA1.out.1]; exact HO1.out), Lib.hid (by rw [HA1.out.2]; exact OwU.apart (Ow.later HO25.out hal) HAP.out HG4.out), Lib.hid (Apart.new HAP.out (Ow.later HO25.out hal) HA4.out), Lib.hid (TLM.out w4 (HT5.out.bel.trans (HB4.out.mono (by omega))) (HT5.out.gb.below (by omega) HB4.out)), Lib.hid (by have := HB4.out.size; have := HZ5.out; omega)⟩, by simp [intOf]; omega⟩
      | false =>
        obtain ⟨D, hD⟩ : ∃ z, rdiC a all l x = z := ⟨_, rfl⟩
        have HD := Lib.hid hD
        have LX : Hid (∀ (kk : Later wc), TL w kk.out B q m a all V bd cr (.slice (some ⟨b, off, none⟩) L sc) lv l) := Lib.hid fun kk => HT5.out.later (by have := HZ5.out; omega) kk.h
        clear cx
        go_upto_region 7 with fail
        go_cut [47] (fun s47 wx => s47 = .bool D ∧ Hid (Below wc.heap.size wc wx))
        case first =>
          have MB : ∀ kk : Later wc, Calls Try.prog 75 #[.agg #[.int .u8 a.lv, .int .u16 a.mp, .int .u8 a.iv, .string (bs a.md)], .slice (some ⟨b, off, none⟩) L sc, lv, .int .u16 x] kk.out fun e w' => e = .returned (.bool D) ∧ Below kk.out.heap.size kk.out w' := fun kk => by
            rw [← hD]; exact RD.out x kk.out (LX.out kk)
          have k0 : ∀ kk : Later wc, kk.out.cell? ⟨B, 0, none⟩ = some (.int .u8 a.lv) := fun kk => (LX.out kk).gb.c 0 _ rfl
          have k1 : ∀ kk : Later wc, kk.out.cell? ⟨B, 1, none⟩ = some (.int .u16 a.mp) := fun kk => (LX.out kk).gb.c 1 _ rfl
          have k2 : ∀ kk : Later wc, kk.out.cell? ⟨B, 2, none⟩ = some (.int .u8 a.iv) := fun kk => (LX.out kk).gb.c 2 _ rfl
          have k3 : ∀ kk : Later wc, kk.out.cell? ⟨B, 3, none⟩ = some (.string (bs a.md)) := fun kk => (LX.out kk).gb.c 3 _ rfl
          have cx : ∀ kk : Later wc, kk.out.cell? ⟨b, off + j, none⟩ = some (.int .u16 x) := fun kk => CX.out _ (LX.out kk).bel
          refine wp_region_later (by kernel_rfl) (by kernel_rfl) ?_
          repeat (go_big_quiet_step (first | (go_at_call 75; exact Calls.later (MB _))))
          refine wpQuiet_nil ?_
          rintro _ ⟨kk, rfl⟩
          go_wp2_with fail
          go_meet
          exact ⟨rfl, Lib.hid kk.h⟩
        case rest =>
          obtain ⟨rfl, HB7⟩ := hcut
          have HT7 := Lib.hid (HT5.out.later (by have := HZ5.out; omega) HB7.out)
          have HO17 := Lib.hid (Ow.later HO15.out HB7.out)
          have HO27 := Lib.hid (Ow.later HO25.out HB7.out)
          have HZ7 := Lib.hid (Nat.le_trans HZ5.out HB7.out.size)
          clear HO15 HO25 HT5 HZ5 HB7 LX hD
          have cx := CX.out _ HT7.out.bel
          cases D with
          | true =>
            have HA1 : Hid (lostX a all l now (all.take (j + 1)) = lostX a all l now (all.take j) ∧ rdisX a all l now (all.take (j + 1)) = rdisX a all l now (all.take j) ++ [x]) := Lib.hid (by
              unfold lostX rdisX
              rw [HTE.out, List.filter_append, List.filter_append]
              simp [HE.out, HD.out])
            go_wp2_with (at_builtin; refine wpList_append_u rfl (.tmp 48) (.tmp 53) rfl (B + 1) _ (rdisX a all l now (all.take j)) rfl (Ow.later HO27.out ((Below.refl _ _).alloc (Nat.le_refl _) _)) wc.heap.size 1 rfl x (by simp only [World.cell?, heap_alloc_new]; rfl) (by have := HLN.out.2; omega) (by have := HZ7.out; simp; omega) ?_; intro v1 w4 hown1 hg1 hat1; have HO1 := Lib.hid hown1; have HG4 := Lib.hid hg1; have HA4 := Lib.hid hat1; clear hown1 hg1 hat1)
            have hal := (Below.refl wc.heap.size wc).alloc (Nat.le_refl _) (.cells #[.int .u16 x] 22)
            have HB4 : Hid (Below (B + 1) wc w4) := Lib.hid ((hal.mono HZ7.out).trans (OwU.below (Ow.later HO27.out hal) HG4.out (by have := HZ7.out; simp; omega)))
            exact ⟨⟨j + 1, by omega, by go_num, Lib.hid (by rw [HA1.out.1]; exact OwU.apart (Ow.later HO17.out hal) HAP.out.symm HG4.out), Lib.hid (by rw [HA1.out.2]; exact HO1.out), Lib.hid (Apart.new HAP.out.symm (Ow.later HO17.out hal) HA4.out).symm, Lib.hid (TLM.out w4 (HT7.out.bel.trans (HB4.out.mono (by omega))) (HT7.out.gb.below (by omega) HB4.out)), Lib.hid (by have := HB4.out.size; have := HZ7.out; omega)⟩, by simp [intOf]; omega⟩
          | false =>
            have HA1 : Hid (lostX a all l now (all.take (j + 1)) = lostX a all l now (all.take j) ∧ rdisX a all l now (all.take (j + 1)) = rdisX a all l now (all.take j)) := Lib.hid (by
              unfold lostX rdisX
              rw [HTE.out, List.filter_append, List.filter_append]
              simp [HE.out, HD.out])
            go_wp2
            exact ⟨⟨j + 1, by omega, by go_num, Lib.hid (by rw [HA1.out.1]; exact HO17.out), Lib.hid (by rw [HA1.out.2]; exact HO27.out), HAP, HT7, HZ7⟩, by simp [intOf]; omega⟩
end Go.Proofs.Ytecoomkpkdapdaa
