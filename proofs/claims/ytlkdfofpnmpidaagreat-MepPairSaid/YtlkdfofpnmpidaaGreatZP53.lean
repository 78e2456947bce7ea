/- ZP53: the texts T12, D3, PA0, PA1, PA2 as one. -/
import Derived.Test.YtlkdfofpnmpidaaGreatZP15
import Derived.Test.YtlkdfofpnmpidaaGreatZP28
import Derived.Test.YtlkdfofpnmpidaaGreatZP09
import Derived.Deep.RegionHeld3
import Derived.Test.YtlkdfofpnmpidaaGreatZP40
import Derived.Test.YtlkdfofpnmpidaaGreatZP37
import Derived.Test.YtlkdfofpnmpidaaGreatZP31
import Derived.Test.YtlkdfofpnmpidaaGreatZP50
import Derived.Test.YtlkdfofpnmpidaaGreatZP46
import Derived.Test.YtlkdfofpnmpidaaGreatZP44
/- tlv: there and back: plain. -/
set_option linter.unusedVariables false
namespace Go.Proofs.YtlkdfofpnmpidaaGreat
open Go.RowKit

theorem be2_eq (n : Nat) (h : n < 65536) : be 2 (n : Int) = [UInt8.ofNat (n / 256), UInt8.ofNat (n % 256)] := by
  have e0 : ((n : Int) / 2 ^ (8 * (2 - 1 - 0)) % 256).toNat = n / 256 := by
    rw [show (2 : Int) ^ (8 * (2 - 1 - 0)) = 256 from rfl]; omega
  have e1 : ((n : Int) / 2 ^ (8 * (2 - 1 - 1)) % 256).toNat = n % 256 := by
    rw [show (2 : Int) ^ (8 * (2 - 1 - 1)) = 1 from rfl]; omega
  simp only [be, beB, List.range_succ, List.range_zero, List.nil_append, List.map_cons, List.map_nil, List.cons_append, e0, e1]
theorem ok_parts {x : Th} (h : okT x = 0) : x.1 ≠ 0 ∧ x.2.length ≤ 1480 := by
  unfold okT at h
  split at h
  · omega
  · split at h
    · omega
    · rename_i h1 h2; exact ⟨h1, by omega⟩
theorem takeT_thB {x : Th} (h : okT x = 0) (s : List UInt8) : takeT (thB x ++ s) = if (takeT s).2.2 = 0 then (x :: (takeT s).1, (takeT s).2) else ([], [], 3) := by
  obtain ⟨h1, h2⟩ := ok_parts h
  have e : thB x ++ s = x.1 :: UInt8.ofNat (x.2.length / 256) :: UInt8.ofNat (x.2.length % 256) :: (x.2 ++ s) := by
    unfold thB; rw [be2_eq _ (by omega)]; simp
  rw [e, takeT_cons x.1 0 x.2 s _ _ h1 (by simp; omega)]
theorem putT_take : ∀ (l : List Th) (r : List UInt8), (∀ x ∈ l, okT x = 0) → takeT (l.flatMap thB ++ 0 :: r) = (l, r, 0)
  | [], r, _ => takeT_zero r
  | x :: l, r, h => by
    have ih := putT_take l r (fun y hy => h y (List.mem_cons_of_mem _ hy))
    rw [List.flatMap_cons, List.append_assoc, takeT_thB (h x (List.mem_cons_self ..)), ih, if_pos rfl]
theorem putT_cut : ∀ (l : List Th), (∀ x ∈ l, okT x = 0) → takeT (l.flatMap thB) = ([], [], 3)
  | [], _ => takeT_nil
  | x :: l, h => by
    have ih := putT_cut l (fun y hy => h y (List.mem_cons_of_mem _ hy))
    rw [List.flatMap_cons, takeT_thB (h x (List.mem_cons_self ..)), ih, if_neg (by decide)]
theorem takeT_inv (s : List UInt8) (h : (takeT s).2.2 = 0) : (∃ r, s = 0 :: r) ∨ ∃ c a b t1 t2, c ≠ 0 ∧ s = c :: a :: b :: (t1 ++ t2) ∧ a.toNat * 256 + b.toNat = t1.length ∧ (takeT t2).2.2 = 0 := by
  match s with
  | [] => rw [takeT_nil] at h; simp at h
  | c :: r =>
    by_cases hc : c = 0
    · exact .inl ⟨r, by rw [hc]⟩
    · by_cases h2 : r.length < 2
      · rw [takeT_short1 c r hc h2] at h; simp at h
      · obtain ⟨a, b, t, rfl⟩ : ∃ a b t, r = a :: b :: t := by
          match r, h2 with
          | [], h => simp at h
          | [_], h => simp at h
          | a :: b :: t, _ => exact ⟨a, b, t, rfl⟩
        by_cases h3 : t.length < a.toNat * 256 + b.toNat
        · rw [takeT_short2 c a b t hc h3] at h; simp at h
        · obtain ⟨t1, t2, rfl, h4⟩ : ∃ t1 t2, t = t1 ++ t2 ∧ t1.length = a.toNat * 256 + b.toNat := ⟨t.take (a.toNat * 256 + b.toNat), t.drop (a.toNat * 256 + b.toNat), (List.take_append_drop _ t).symm, by simp; omega⟩
          rw [takeT_cons c 0 t1 t2 a b hc h4.symm] at h
          refine .inr ⟨c, a, b, t1, t2, hc, rfl, h4.symm, ?_⟩
          by_cases h5 : (takeT t2).2.2 = 0
          · exact h5
          · rw [if_neg h5] at h; simp at h
theorem take_put : ∀ (n : Nat) (s : List UInt8), s.length ≤ n → s.length ≤ 1480 → (takeT s).2.2 = 0 → (∀ x ∈ (takeT s).1, okT x = 0) ∧ (takeT s).1.flatMap thB ++ 0 :: (takeT s).2.1 = s := by
  intro n
  induction n with
  | zero =>
    intro s hn _ h
    have : s = [] := List.eq_nil_of_length_eq_zero (by omega)
    subst this; rw [takeT_nil] at h; simp at h
  | succ n ih =>
    intro s hn hl h
    rcases takeT_inv s h with ⟨r, rfl⟩ | ⟨c, a, b, t1, t2, hc, rfl, hab, h2⟩
    · rw [takeT_zero]; exact ⟨by simp, rfl⟩
    · obtain ⟨i1, i2⟩ := ih t2 (by simp at hn; omega) (by simp at hl; omega) h2
      rw [takeT_cons c 0 t1 t2 a b hc hab, if_pos h2]
      have hok : okT (c, t1) = 0 := by
        unfold okT; rw [if_neg hc, if_neg (by simp at hl ⊢; omega)]
      refine ⟨fun x hx => ?_, ?_⟩
      · rcases List.mem_cons.1 hx with rfl | hx
        · exact hok
        · exact i1 x hx
      · have e1 : t1.length / 256 = a.toNat := by have := a.toNat_lt; have := b.toNat_lt; omega
        have e2 : t1.length % 256 = b.toNat := by have := a.toNat_lt; have := b.toNat_lt; omega
        have e : thB (c, t1) = c :: a :: b :: t1 := by
          unfold thB
          simp only
          rw [be2_eq _ (by have := a.toNat_lt; have := b.toNat_lt; omega), e1, e2]; simp
        simp only [List.flatMap_cons, List.append_assoc]
        rw [i2, e]; rfl
end Go.Proofs.YtlkdfofpnmpidaaGreat

/- ccm: there and back, plain; the reference's Put. -/
set_option linter.unusedVariables false
namespace Go.Proofs.YtlkdfofpnmpidaaGreat
open Go.RowKit

set_option maxRecDepth 100000 in
set_option maxHeartbeats 1000000 in
theorem num_far (k : Nat) : ∀ (n : Int) (w : World), 0 ≤ n → n < 18446744073709551616 → k ≤ 100 →
    Calls Tryz.prog 84 #[.int .u64 n, .int .i64 k] w fun e w' => e = .returned (.string (bs (numR k n))) ∧ Below w.heap.size w w' := by
  induction k with
  | zero =>
    intro n w h0 h1 _
    go_enter Tryz.func84, Tryz.ntmps84
    go_wp2_with fail
    go_ret
    exact ⟨rfl, Below.refl _ _⟩
  | succ k ih =>
    intro n w h0 h1 hk
    have IH := Lib.hid ih
    clear ih
    have hk0 : (((k : Int) + 1) == 0) = false := by simp; omega
    have hcast : ((k + 1 : Nat) : Int) = (k : Int) + 1 := by omega
    rw [hcast]
    clear hcast
    have e1 : IntKind.u64.wrap (n.tdiv 256) = n / 256 := by rw [Int.tdiv_eq_ediv_of_nonneg h0]; exact IntWalk.u64_in _ (by omega)
    have e2 : IntKind.i64.wrap (k : Int) = (k : Int) := IntWalk.i64_in _ (by omega)
    have e3 : IntKind.u8.wrap (n.tmod 256) = n % 256 := by rw [Int.tmod_eq_emod_of_nonneg h0]; exact IntWalk.u8_in _ (by omega)
    have e4 : 0 ≤ n % 256 ∧ n % 256 < 256 := by omega
    have b1 : 0 ≤ n / 256 ∧ n / 256 < 18446744073709551616 ∧ k ≤ 100 := by omega
    have B1 := Lib.hid b1
    have hcv := run_string_one (n % 256) e4.1 e4.2
    have hadd := run_add_bs (numR k (n / 256)) [UInt8.ofNat (n % 256).toNat] (by simp [numR_len]; omega)
    have H4 := Lib.hid e4
    clear b1 e4 h0 h1 hk
    go_enter Tryz.func84, Tryz.ntmps84
    go_wp2_with fail
    go_region_with (go_at_call 84; with_reducible refine (IH.out (n / 256) _ B1.out.1 B1.out.2.1 B1.out.2.2).mono ?_; rintro e w' ⟨rfl, hb⟩; have hc := bcell hb)
    all_goals go_wp2
    all_goals go_ret
    all_goals refine ⟨rfl, ?_⟩
    all_goals first
      | exact ((Below.refl w.heap.size w).drew.trans hb).alloc (by have := hb.size; simpa using this) _
      | exact (((Below.refl w.heap.size w).alloc (Nat.le_refl _) _).drew.trans (hb.mono (by simp)))

theorem PB.set2 {T : TypeId} {W : World} {q : Nat} {a b c : Int} {f : List UInt8} {v : Value} (h : PB T W q a b c f v) (d : Int) : PB T (W.setCell ⟨q, 2, none⟩ (.int .u8 d)) q a b d f v := by
  unfold PB at *; simp [World.setCell, Array.getElem?_modify, h]
theorem numR_zero : ∀ k, numR k 0 = List.replicate k 0
  | 0 => rfl
  | k + 1 => by
    rw [numR, show (0 : Int) / 256 = 0 from rfl, numR_zero k, List.replicate_succ']
    rfl
theorem mayC_len {lv iv me : Int} {m : List UInt8} (h : mayC lv iv me m = true) : lv < 8 ∧ (iv = 4 ∨ iv = 5) ∧ 1 ≤ me ∧ me ≤ 8191 ∧ (takeR m).2.2 = 0 ∧ m.length = 48 := by
  unfold mayC at h
  simp only [Bool.and_eq_true, decide_eq_true_eq] at h
  obtain ⟨h1, h2, h3, h4, h5⟩ := h
  refine ⟨h1, (tick_pos iv).1 h2, h3, h4, h5, ?_⟩
  rcases takeR_cases m with ⟨d, o, k1, k2⟩ | ⟨k1, k2⟩
  · exact mPut_len k1
  · rw [k2] at h5; exact absurd h5 (by decide)
/-- What is put is taken. -/
theorem cput_take {lv : Int} {rd : Bool} {iv sq me : Int} {m : List UInt8} (h : mayC lv iv me m = true) (hsq : 0 ≤ sq ∧ sq < 4294967296) : tkC lv 1 (iv + (if rd = true then 128 else 0)) (fxC sq me m) = (lv, rd, iv, sq, me, m, 0) := by
  obtain ⟨h1, h2, h3, h4, h5, h6⟩ := mayC_len h
  have q1 : cr1 (fxC sq me m) = (be 4 sq, be 2 me ++ (m ++ List.replicate 16 0), 0) := by
    unfold cr1 fxC
    rw [List.append_assoc, List.append_assoc]
    exact rdText_app (be 4 sq) _ 4 (be_length 4 sq) (by decide)
  have q2 : cr2 (fxC sq me m) = (be 2 me, m ++ List.replicate 16 0, 0) := by
    unfold cr2; rw [q1]; exact rdText_app (be 2 me) _ 2 (be_length 2 me) (by decide)
  have q3 : cr3 (fxC sq me m) = (m, List.replicate 16 0, 0) := by
    unfold cr3; rw [q2]; exact rdText_app m _ 48 h6 (by decide)
  have q4 : cr4 (fxC sq me m) = (List.replicate 16 0, [], 0) := by
    unfold cr4; rw [q3]
    have := rdText_app (List.replicate 16 (0 : UInt8)) [] 16 (by simp) (by decide)
    rw [List.append_nil] at this; exact this
  have qE : crE (fxC sq me m) = 0 := by unfold crE; rw [q4]; rfl
  have n1 : numOf (be 4 sq) = sq := by rw [numOf_be]; exact Int.emod_eq_of_lt hsq.1 (by have := hsq.2; omega)
  have n2 : numOf (be 2 me) = me := by rw [numOf_be]; exact Int.emod_eq_of_lt (by omega) (by omega)
  have e8 : (iv + (if rd = true then 128 else 0)) % 8 = iv := by cases rd <;> rcases h2 with rfl | rfl <;> rfl
  have eg : decide (127 < iv + (if rd = true then 128 else 0)) = rd := by cases rd <;> rcases h2 with rfl | rfl <;> rfl
  unfold tkC
  rw [q1, q2, q3, qE, e8, eg, n1, n2, if_pos ⟨rfl, rfl, h⟩]
set_option maxRecDepth 100000 in
set_option maxHeartbeats 8000000 in
theorem refPut13_any (xlv : Int) (xrd : Bool) (xiv xsq xme : Int) (xm : List UInt8) (w : World) (hm : xm.length ≤ 1000) (hsq : 0 ≤ xsq ∧ xsq < 4294967296) (hme : 0 ≤ xme ∧ xme < 65536) : Calls Tryz.prog 43 #[.agg #[.int .u8 xlv, .bool xrd, .int .u8 xiv, .int .u32 xsq, .int .u16 xme, .string (bs xm)]] w fun en w' =>
    en = .returned (.tuple #[.agg #[.int .u8 (putC xlv xrd xiv xsq xme xm).1, .int .u8 (putC xlv xrd xiv xsq xme xm).2.1, .int .u8 (putC xlv xrd xiv xsq xme xm).2.2.1, .string (bs (putC xlv xrd xiv xsq xme xm).2.2.2.1), .slice none 0 0], .int .i64 (putC xlv xrd xiv xsq xme xm).2.2.2.2]) ∧ Below w.heap.size w w' := by
  obtain ⟨R, hR⟩ : ∃ R, putC xlv xrd xiv xsq xme xm = R := ⟨_, rfl⟩
  rw [hR]
  obtain ⟨K, hK⟩ : ∃ K, mayC xlv xiv xme xm = K := ⟨_, rfl⟩
  have M1 : Hid (∀ w, Calls Tryz.prog 74 #[.agg #[.int .u8 xlv, .bool xrd, .int .u8 xiv, .int .u32 xsq, .int .u16 xme, .string (bs xm)]] w fun en w' => en = .returned (.bool K) ∧ Below w.heap.size w w') := by
    rw [← hK]; exact fun w => refMay13_any xlv xrd xiv xsq xme xm w hm
  have HR := Lib.hid hR
  have HK := Lib.hid hK
  have HM := Lib.hid hm
  have N1 : Hid (∀ w, Calls Tryz.prog 84 #[.int .u64 xsq, .int .i64 4] w fun e w' => e = .returned (.string (bs (be 4 xsq))) ∧ Below w.heap.size w w') := fun w => num_be 4 xsq w (by omega) (by omega) (by omega)
  have N2 : Hid (∀ w, Calls Tryz.prog 84 #[.int .u64 xme, .int .i64 2] w fun e w' => e = .returned (.string (bs (be 2 xme))) ∧ Below w.heap.size w w') := fun w => num_be 2 xme w (by omega) (by omega) (by omega)
  have N3 : Hid (∀ w, Calls Tryz.prog 84 #[.int .u64 0, .int .i64 16] w fun e w' => e = .returned (.string (bs (List.replicate 16 0))) ∧ Below w.heap.size w w') := fun w => by
    rw [← numR_zero 16]; exact num_far 16 0 w (by omega) (by omega) (by omega)
  have wq : IntKind.u64.wrap xsq = xsq := IntWalk.u64_in _ (by omega)
  have wm : IntKind.u64.wrap xme = xme := IntWalk.u64_in _ (by omega)
  clear hR hK hm hsq hme
  go_enter Tryz.func43, Tryz.ntmps43
  go_upto_region 1 with fail
  have cb0 := (CB.new 118 w xlv xrd xiv xsq xme xm).later ((Below.refl _ _).alloc (Nat.le_refl _) (.cells #[.int .u8 0, .int .u8 0, .int .u8 0, .string { data := #[] }, .slice none 0 0] 115))
  have pz : PB 115 ((w.alloc (.cells #[.int .u8 xlv, .bool xrd, .int .u8 xiv, .int .u32 xsq, .int .u16 xme, .string (bs xm)] 118)).alloc (.cells #[.int .u8 0, .int .u8 0, .int .u8 0, .string { data := #[] }, .slice none 0 0] 115)) (w.heap.size + 1) 0 0 0 [] (.slice none 0 0) := by
    have := PB.new 115 (w.alloc (.cells #[.int .u8 xlv, .bool xrd, .int .u8 xiv, .int .u32 xsq, .int .u16 xme, .string (bs xm)] 118)) 0 0 0 [] (.slice none 0 0)
    rw [show (w.alloc (.cells #[.int .u8 xlv, .bool xrd, .int .u8 xiv, .int .u32 xsq, .int .u16 xme, .string (bs xm)] 118)).heap.size = w.heap.size + 1 by simp] at this
    exact this
  have hb0 : Below w.heap.size w ((w.alloc (.cells #[.int .u8 xlv, .bool xrd, .int .u8 xiv, .int .u32 xsq, .int .u16 xme, .string (bs xm)] 118)).alloc (.cells #[.int .u8 0, .int .u8 0, .int .u8 0, .string { data := #[] }, .slice none 0 0] 115)) := ((Below.refl _ _).alloc (Nat.le_refl _) _).alloc (by simp) _
  obtain ⟨w0, hw0⟩ : ∃ k, (w.alloc (.cells #[.int .u8 xlv, .bool xrd, .int .u8 xiv, .int .u32 xsq, .int .u16 xme, .string (bs xm)] 118)).alloc (.cells #[.int .u8 0, .int .u8 0, .int .u8 0, .string { data := #[] }, .slice none 0 0] 115) = k := ⟨_, rfl⟩
  rw [hw0] at cb0 pz hb0 ⊢
  have c0 := cb0.c0
  have c1 := cb0.c1
  have c2 := cb0.c2
  have c3 := cb0.c3
  have c4 := cb0.c4
  have c5 := cb0.c5
  have CB0 := Lib.hid cb0
  have PZ0 := Lib.hid pz
  have HB0 := Lib.hid hb0
  clear hw0 cb0 pz hb0
  go_wp2_with fail
  with_reducible refine (M1.out _).mono ?_
  rintro en w1 ⟨rfl, hb1⟩
  have CB1 := Lib.hid (CB0.out.later hb1)
  have PZ1 := Lib.hid (PZ0.out.later hb1)
  have HB1 := Lib.hid (HB0.out.trans (hb1.mono HB0.out.size))
  clear hb1 CB0 PZ0 HB0 c0 c1 c2 c3 c4 c5 M1
  cases K with
  | false =>
    have hRR : R = (0, 0, 0, [], 2) := by rw [← HR.out]; unfold putC; rw [HK.out]; rfl
    have HRR := Lib.hid hRR
    clear hRR
    have z0 := PZ1.out.c0
    have z1 := PZ1.out.c1
    have z2 := PZ1.out.c2
    have z3 := PZ1.out.c3
    have z4 := PZ1.out.c4
    have y0 := PZ1.out.fr 0
    have y1 := PZ1.out.fr 1
    have y2 := PZ1.out.fr 2
    have y3 := PZ1.out.fr 3
    have y4 := PZ1.out.fr 4
    go_wp2_with fail
    refine bodyPost_ret (v := .tuple #[.agg #[.int .u8 0, .int .u8 0, .int .u8 0, .string (bs []), .slice none 0 0], .int .i64 2]) (by simp [results, Tryz.results43, go_sem, z0, z1, z2, z3, z4]; rfl) rfl ⟨by rw [HRR.out], below_set (below_set (below_set (below_set (below_set HB1.out (by omega) _) (by omega) _) (by omega) _) (by omega) _) (by omega) _⟩
  | true =>
  obtain ⟨C, hC⟩ : ∃ C : Int, xiv + (if xrd = true then 128 else 0) = C := ⟨_, rfl⟩
  have hRR : R = (xlv, 1, C, fxC xsq xme xm, 0) := by rw [← HR.out, ← hC]; unfold putC; rw [HK.out, if_pos rfl]
  have HRR := Lib.hid hRR
  have hiv := mayC_iv HK.out
  have c0 := CB1.out.c0
  have c1 := CB1.out.c1
  have c2 := CB1.out.c2
  clear hRR
  go_upto_region 4 with fail
  have pq := PB.new 115 w1 xlv 1 xiv [] (.slice none 0 0)
  have aa := (Below.refl w1.heap.size w1).alloc (Nat.le_refl _) (.cells #[.int .u8 xlv, .int .u8 1, .int .u8 xiv, .string { data := #[] }, .slice none 0 0] 115)
  have hq0 : w.heap.size + 1 < w1.heap.size := PZ1.out.lt
  obtain ⟨q, hq⟩ : ∃ k, w1.heap.size = k := ⟨_, rfl⟩
  obtain ⟨w2, hw2⟩ : ∃ k, w1.alloc (.cells #[.int .u8 xlv, .int .u8 1, .int .u8 xiv, .string { data := #[] }, .slice none 0 0] 115) = k := ⟨_, rfl⟩
  have pq2 : PB 115 w2 w1.heap.size xlv 1 xiv [] (.slice none 0 0) := by rw [← hw2]; exact pq
  rw [hw2] at aa ⊢
  have CB2 := Lib.hid (CB1.out.later aa)
  have PZ2 := Lib.hid (PZ1.out.later aa)
  have HB2 := Lib.hid (HB1.out.trans (aa.mono HB1.out.size))
  rw [hq] at pq2 hq0 ⊢
  have PQ2 := Lib.hid pq2
  have HQ0 := Lib.hid hq0
  clear hw2 pq pq2 aa hq hq0 CB1 PZ1 HB1 c0 c1 c2
  have c1 := CB2.out.c1
  have q2 := PQ2.out.c2
  have g2 := PQ2.out.fr 2
  go_upto_if 15 with fail
  go_cut [] (fun wx => Hid (PB 115 wx q xlv 1 C [] (.slice none 0 0)) ∧ Hid (CB 118 wx w.heap.size xlv xrd xiv xsq xme xm) ∧ Hid (PB 115 wx (w.heap.size + 1) 0 0 0 [] (.slice none 0 0)) ∧ Hid (Below w.heap.size w wx))
  case first =>
    cases xrd with
    | true =>
      rcases hiv with rfl | rfl
      all_goals
        go_wp2_with fail
        go_meet
        refine ⟨Lib.hid ?_, Lib.hid ?_, Lib.hid (PZ2.out.other (by have := HQ0.out; omega) _), Lib.hid (below_set HB2.out (by have := HQ0.out; omega) _)⟩
        · rw [← hC]; exact PQ2.out.set2 _
        · exact CB2.out.other (by have := HQ0.out; omega) _
    | false =>
      rcases hiv with rfl | rfl
      all_goals
        go_wp2_with fail
        go_meet
        refine ⟨?_, CB2, PZ2, HB2⟩
        rw [← hC]; exact PQ2
  case rest =>
  obtain ⟨PQ3, CB3, PZ3, HB3⟩ := hcut
  clear c1 q2 g2 PQ2 CB2 PZ2 HB2 hC hiv
  go_upto_region 6 with fail
  have cbd : CB 118 wc.drew w.heap.size xlv xrd xiv xsq xme xm := CB3.out
  have pqd : PB 115 wc.drew q xlv 1 C [] (.slice none 0 0) := PQ3.out
  have hlm := HM.out
  have a1 := run_add_bs (be 4 xsq) (be 2 xme) (by simp [be_length])
  have a2 := run_add_bs (be 4 xsq ++ be 2 xme) xm (by simp [be_length]; omega)
  have a3 := run_add_bs (be 4 xsq ++ be 2 xme ++ xm) (List.replicate 16 0) (by simp [be_length]; omega)
  obtain ⟨B4, hB4⟩ : ∃ X, be 4 xsq = X := ⟨_, rfl⟩
  obtain ⟨B2, hB2⟩ : ∃ X, be 2 xme = X := ⟨_, rfl⟩
  obtain ⟨Z16, hZ16⟩ : ∃ X : List UInt8, List.replicate 16 0 = X := ⟨_, rfl⟩
  have hR2 := HRR.out
  unfold fxC at hR2
  rw [hB4] at a1 a2 a3 N1 hR2
  rw [hB2] at a1 a2 a3 N2 hR2
  rw [hZ16] at a3 N3 hR2
  obtain ⟨X1, hX1⟩ : ∃ X, B4 ++ B2 = X := ⟨_, rfl⟩
  rw [hX1] at a1 a2 a3 hR2
  obtain ⟨X2, hX2⟩ : ∃ X, X1 ++ xm = X := ⟨_, rfl⟩
  rw [hX2] at a2 a3 hR2
  obtain ⟨X3, hX3⟩ : ∃ X, X2 ++ Z16 = X := ⟨_, rfl⟩
  rw [hX3] at a3 hR2
  have HR2 := Lib.hid hR2
  clear hB4 hB2 hZ16 hR2 HRR hX1 hX2 hX3
  go_region_held3 (fun W => W.cell? ⟨w.heap.size, 3, none⟩ = some (.int .u32 xsq) ∧ W.cell? ⟨w.heap.size, 4, none⟩ = some (.int .u16 xme) ∧ W.cell? ⟨w.heap.size, 5, none⟩ = some (.string (bs xm)))
    (first | (with_reducible exact ⟨cbd.c3, cbd.c4, cbd.c5⟩) | (with_reducible exact ⟨cbx.c3, cbx.c4, cbx.c5⟩) | (with_reducible exact ⟨cby.c3, cby.c4, cby.c5⟩) | (with_reducible exact ⟨cbz.c3, cbz.c4, cbz.c5⟩) | (with_reducible exact ⟨cbs.c3, cbs.c4, cbs.c5⟩))
    (first
      | (go_at_call 84; (with_reducible refine (N1.out _).mono ?_); rintro en wx ⟨rfl, hbx⟩; have cbx := cbd.later hbx; have pqx := pqd.later hbx)
      | (go_at_call 84; (with_reducible refine (N2.out _).mono ?_); rintro en wy ⟨rfl, hby⟩; have cby := cbx.later hby; have pqy := pqx.later hby)
      | (go_at_call 84; (with_reducible refine (N3.out _).mono ?_); rintro en wz ⟨rfl, hbz⟩; have cbz := cby.later hbz; have pqz := pqy.later hbz; have g3 := pqz.c3; have g3f := pqz.fr 3; have cbs := cbz.other (o := 3) (show q ≠ w.heap.size by have := HQ0.out; omega) (.string (bs X3))))
  have hb3 : Below w.heap.size w wc.drew := HB3.out.drew
  have hb4 := hb3.trans (hbx.mono hb3.size)
  have hb5 := hb4.trans (hby.mono hb4.size)
  have hb6 := hb5.trans (hbz.mono hb5.size)
  have pzz := (((PZ3.out.later (Below.refl _ _).drew).later hbx).later hby).later hbz
  have PQs := pqz.set3 X3
  have PZs := pzz.other (t := q) (o := 3) (by have := HQ0.out; omega) (.string (bs X3))
  have hb7 : Below w.heap.size w (wz.setCell ⟨q, 3, none⟩ (.string (bs X3))) := below_set hb6 (by have := HQ0.out; omega) _
  obtain ⟨ws, hws⟩ : ∃ k, wz.setCell ⟨q, 3, none⟩ (.string (bs X3)) = k := ⟨_, rfl⟩
  rw [hws] at PQs PZs hb7 ⊢
  have HB7 := Lib.hid hb7
  have k0 := PQs.c0
  have k1 := PQs.c1
  have k2 := PQs.c2
  have k3 := PQs.c3
  have k4 := PQs.c4
  have z0 := PZs.c0
  have z1 := PZs.c1
  have z2 := PZs.c2
  have z3 := PZs.c3
  have z4 := PZs.c4
  have y0 := PZs.fr 0
  have y1 := PZs.fr 1
  have y2 := PZs.fr 2
  have y3 := PZs.fr 3
  have y4 := PZs.fr 4
  clear hws hb3 hb4 hb5 hb6 hb7 hbx hby hbz pzz PQs PZs g3 g3f cbs cbx cby cbz pqx pqy pqz cbd pqd PQ3 CB3 PZ3 HB3
  go_wp2_with fail
  refine bodyPost_ret (v := .tuple #[.agg #[.int .u8 xlv, .int .u8 1, .int .u8 C, .string (bs X3), .slice none 0 0], .int .i64 0]) (by simp [results, Tryz.results43, go_sem, z0, z1, z2, z3, z4]) rfl ⟨by rw [HR2.out], below_set (below_set (below_set (below_set (below_set HB7.out (by omega) _) (by omega) _) (by omega) _) (by omega) _) (by omega) _⟩
end Go.Proofs.YtlkdfofpnmpidaaGreat

/- MepPair: what is put is taken, plain (loopbacks, traces, replies). -/
set_option linter.unusedVariables false
namespace Go.Proofs.YtlkdfofpnmpidaaGreat
open Go.RowKit

theorem lm_len4 (f : List UInt8) (h : f.length = 4) : lm1 f = (f, [], 0) := by
  unfold lm1 rdText; rw [if_neg (by omega), if_neg (by omega)]; simp [h]
  exact List.take_of_length_le (by omega)
theorem lmE_len4 (f : List UInt8) (h : f.length = 4) : lmE f = 0 := by
  unfold lmE; rw [lm_len4 f h]; rfl
theorem find_thL (dt : List UInt8) : (findT (thL dt) 3).1 = dt := by
  unfold thL
  by_cases h : dt = []
  · rw [if_pos h, h]; rfl
  · rw [if_neg h]; rfl
theorem tkL_put (a b nm : Int) (dt : List UInt8) (hb : b = 2 ∨ b = 3) (hn : 0 ≤ nm ∧ nm < 4294967296) : tkL a b (be 4 nm) (thL dt) = (a, decide (b = 2), nm, dt, 0) := by
  have h4 := be_length 4 nm
  have hnm : numOf (be 4 nm) = nm := by rw [numOf_be]; exact Int.emod_eq_of_lt hn.1 (by have := hn.2; omega)
  unfold tkL
  rw [if_pos ⟨hb, lmE_len4 _ h4⟩, lm_len4 _ h4, find_thL, hnm]
theorem putP_takesG {a b c : Int} {f : List UInt8} {l : List Th} (ha : 0 ≤ a ∧ a ≤ 7) (hb : 0 ≤ b ∧ b < 256) (hc : 0 ≤ c ∧ c < 256) (hf : f.length ≤ 255) (hok : ∀ x ∈ l, okT x = 0) :
    ∃ A, putP a b c f l = (A, 0) ∧ A.length = 4 + f.length + (l.flatMap thB).length + 1 ∧ ∀ r, tkP (A ++ r) = (a, b, c, f, l, 0) := by
  have hp := putT_all l hok
  refine ⟨hdP a b c f ++ f ++ (l.flatMap thB ++ [0]), ?_, ?_, fun r => ?_⟩
  · unfold putP
    rw [if_neg (by omega), if_neg (by omega), hp]
    rfl
  · simp only [hdP, List.length_append, List.length_cons, List.length_nil]; omega
  · have e1 : (byt (a * 32)).toNat = (a * 32).toNat := by have := byt_nat (a * 32) (by omega); omega
    have e2 : ((byt b).toNat : Int) = b := byt_nat b hb
    have e3 : ((byt c).toNat : Int) = c := byt_nat c hc
    have e4 : (byt (f.length : Int)).toNat = f.length := by have := byt_nat (f.length : Int) (by omega); omega
    have hm : ((byt (a * 32)).toNat : Int) % 32 = 0 := by have := byt_nat (a * 32) (by omega); omega
    have hd : ((byt (a * 32)).toNat : Int) / 32 = a := by have := byt_nat (a * 32) (by omega); omega
    have eA : hdP a b c f ++ f ++ (l.flatMap thB ++ [0]) ++ r = byt (a * 32) :: byt b :: byt c :: byt (f.length : Int) :: ((f ++ (l.flatMap thB ++ [0])) ++ r) := by simp [hdP]
    rw [eA, tkP_cons, if_neg (by omega), e4, if_neg (by simp), hd, e2, e3]
    have d1 : ((f ++ (l.flatMap thB ++ [0])) ++ r).drop f.length = l.flatMap thB ++ 0 :: r := by simp
    have d2 : ((f ++ (l.flatMap thB ++ [0])) ++ r).take f.length = f := by simp
    rw [d1, d2, putT_take l r hok]; rfl
theorem mcOf_by (m : Mc) (h : m.Ok) : mcOf m.by = m :=
  Mc.ext' (byt_nat _ h.a) (byt_nat _ h.b) (byt_nat _ h.c) (byt_nat _ h.d) (byt_nat _ h.e) (byt_nat _ h.f)
theorem numOf_be4 (n : Int) (h : 0 ≤ n ∧ n < 4294967296) : numOf (be 4 n) = n := by
  rw [numOf_be]; exact Int.emod_eq_of_lt h.1 (by have := h.2; omega)
theorem numOf_byt (n : Int) (h : 0 ≤ n ∧ n < 256) : numOf [byt n] = n := by rw [numOf_one]; exact byt_nat n h
theorem tkTr_put (t : Tr) (ht : t.Ok) : tkTr t.lv 5 (byTr t) = (t, 0) := by
  have e1 : qt1 (byTr t) = (be 4 t.nm, [byt t.tl] ++ (t.fr.by ++ t.tt.by), 0) := by
    unfold qt1 byTr
    rw [List.append_assoc, List.append_assoc]
    exact rdText_app _ _ 4 (be_length 4 t.nm) (by decide)
  have e2 : qt2 (byTr t) = ([byt t.tl], t.fr.by ++ t.tt.by, 0) := by
    unfold qt2; rw [e1]; exact rdText_app _ _ 1 rfl (by decide)
  have e3 : qt3 (byTr t) = (t.fr.by, t.tt.by, 0) := by
    unfold qt3; rw [e2]; exact rdText_app _ _ 6 rfl (by decide)
  have e4 : qt4 (byTr t) = (t.tt.by, [], 0) := by
    unfold qt4; rw [e3]
    have := rdText_app t.tt.by [] 6 rfl (by decide)
    rw [List.append_nil] at this; exact this
  have eE : qtE (byTr t) = 0 := by unfold qtE; rw [e4]; rfl
  unfold tkTr
  rw [if_pos ⟨rfl, eE⟩, e1, e2, e3, e4, numOf_be4 _ ht.nm, numOf_byt _ ht.tl, mcOf_by _ ht.fr, mcOf_by _ ht.tt]
theorem find_prtL (mi mo : Mc) : findT (prtL 5 mi ++ prtL 6 mo) 5 = (if mi = mc0 then ([], false) else (1 :: mi.by, true)) ∧ findT (prtL 5 mi ++ prtL 6 mo) 6 = (if mo = mc0 then ([], false) else (1 :: mo.by, true)) := by
  unfold prtL
  by_cases h1 : mi = mc0 <;> by_cases h2 : mo = mc0 <;> simp [h1, h2, findT]
theorem prtT_of (l : List Th) (k : UInt8) (m : Mc) (hm : m.Ok) (h : findT l k = (if m = mc0 then ([], false) else (1 :: m.by, true))) : prtT l k = (m, true) := by
  unfold prtT
  rw [h]
  by_cases h0 : m = mc0
  · rw [if_pos h0, if_neg (by decide), h0]
  · rw [if_neg h0]
    have e1 : pt1 (1 :: m.by) = ([1], m.by, 0) := rdText_app [1] m.by 1 rfl (by decide)
    have e2 : pt2 (1 :: m.by) = (m.by, [], 0) := by
      unfold pt2; rw [e1]
      have := rdText_app m.by [] 6 rfl (by decide)
      rw [List.append_nil] at this; exact this
    have eE : ptE (1 :: m.by) = 0 := by unfold ptE; rw [e2]; rfl
    have eG : ptG (1 :: m.by) = true := by
      unfold ptG
      rw [e1, e2, eE, mcOf_by m hm, decide_eq_false h0]; rfl
    show (if true = true then (mcOf (pt2 (1 :: m.by)).1, ptG (1 :: m.by)) else (mc0, true)) = (m, true)
    rw [if_pos rfl, e2, eG, mcOf_by m hm]
theorem tkRp_put (r : Rp) (hr : r.Ok) : tkRp r.lv 4 (flR r) (fxR r) (prtL 5 r.mi ++ prtL 6 r.mo) = (r, 0) := by
  obtain ⟨k, hk⟩ : ∃ k : UInt8, (if r.en = true then (1 : UInt8) else 2) = k := ⟨_, rfl⟩
  have hkk : (k.toNat : Int) = if r.en = true then 1 else 2 := by rw [← hk]; split <;> rfl
  have e0 : fxR r = be 4 r.nm ++ ([byt r.tl] ++ [k]) := by unfold fxR; rw [hk]; rfl
  have e1 : tr1 (fxR r) = (be 4 r.nm, [byt r.tl] ++ [k], 0) := by
    unfold tr1; rw [e0]
    exact rdText_app _ _ 4 (be_length 4 r.nm) (by decide)
  have e2 : tr2 (fxR r) = ([byt r.tl], [k], 0) := by
    unfold tr2; rw [e1]; exact rdText_app _ _ 1 rfl (by decide)
  have e3 : tr3 (fxR r) = ([k], [], 0) := by
    unfold tr3; rw [e2]
    exact rdText_app [k] [] 1 rfl (by decide)
  have eE : trE (fxR r) = 0 := by unfold trE; rw [e3]; rfl
  have f64 : decide (flR r / 64 % 2 = 1) = r.st := by unfold flR; cases r.st <;> cases r.en <;> rfl
  have f32 : (if flR r / 32 % 2 = 1 then (1 : Int) else 2) = if r.en = true then 1 else 2 := by unfold flR; cases r.st <;> cases r.en <;> rfl
  have g32 : decide (flR r / 32 % 2 = 1) = r.en := by unfold flR; cases r.st <;> cases r.en <;> rfl
  have p5 := prtT_of _ 5 r.mi hr.mi (find_prtL r.mi r.mo).1
  have p6 := prtT_of _ 6 r.mo hr.mo (find_prtL r.mi r.mo).2
  unfold tkRp
  rw [e1, e2, e3, eE, f64, f32, g32, p5, p6, if_pos ⟨by rw [numOf_one]; exact hkk, rfl, rfl, rfl, rfl⟩, numOf_be4 _ hr.nm, numOf_byt _ hr.tl]
theorem fxR_len (r : Rp) : (fxR r).length = 6 := by unfold fxR; simp [be_length]
theorem okT_prt {k : UInt8} {m : Mc} (hk : k ≠ 0) : ∀ x ∈ prtL k m, okT x = 0 ∧ x.2.length ≤ 64 := by
  intro x hx
  unfold prtL at hx
  split at hx
  · simp at hx
  · rw [List.mem_singleton.1 hx]
    refine ⟨?_, ?_⟩
    · unfold okT; rw [if_neg hk, if_neg (by simp [Mc.by_len])]
    · simp [Mc.by_len]
end Go.Proofs.YtlkdfofpnmpidaaGreat

/- MepPair: the plain law: two points of an association, what comes from one to the other. -/
set_option linter.unusedVariables false
set_option linter.unusedSimpArgs false
namespace Go.Proofs.YtlkdfofpnmpidaaGreat
open Go.RowKit

def pM (k : Int) : Mc := ⟨2, k, 0, 0, 0, 0⟩
/-- A point of the pair. -/
def pO (lv iv k : Int) : Ow20 := ⟨⟨lv, k, iv, mdM⟩, pM k, 1⟩
/-- What else a point knows. -/
abbrev Ex := Int × List UInt8 × Int × Int × Int × List Rp
structure ExOk (E : Ex) : Prop where
  lp : 0 ≤ E.1 ∧ E.1 ≤ 1000
  dat : E.2.1.length ≤ 1000
  rep : 0 ≤ E.2.2.1 ∧ E.2.2.1 ≤ 1000
  ali : 0 ≤ E.2.2.2.1 ∧ E.2.2.2.1 ≤ 1000
  tr : 0 ≤ E.2.2.2.2.1 ∧ E.2.2.2.2.1 ≤ 1000
  way : E.2.2.2.2.2.length ≤ 32
  rp : ∀ r ∈ E.2.2.2.2.2, r.Ok
/-- A point that hears of one other: for how long that lasts, whether it tells of a defect; ticks till the next check. -/
structure PX (k l r f Q : Int) (E : Ex) (s : Ms) : Prop where
  V : s.V = [(k, l, r)]
  k0 : 0 ≤ k ∧ k < 65536
  l0 : 0 ≤ l ∧ l ≤ 35
  bd : s.bd = 0
  cr : s.cr = 0
  al : s.al.Ok
  lf : s.lf = f
  f0 : 1 ≤ f ∧ f ≤ 10
  sq : 0 ≤ s.sq ∧ s.sq ≤ Q
  q0 : Q ≤ 1000
  bad : s.bad = 0
  lp : s.lp = E.1
  dat : s.dat = E.2.1
  rep : s.rep = E.2.2.1
  ali : s.ali = E.2.2.2.1
  tr : s.tr = E.2.2.2.2.1
  way : s.way = E.2.2.2.2.2
section
variable {k l r f Q : Int} {E : Ex} {s : Ms}
theorem PX.ok (h : PX k l r f Q E s) (he : ExOk E) : s.Ok := by
  obtain ⟨h1, h2, h3, h4, h5, h6, h7⟩ := he
  have hq := h.q0
  have hs := h.sq
  have hf := h.f0
  refine ⟨?_, h.al, by rw [h.lf]; omega, by omega, by rw [h.bad]; omega, by rw [h.lp]; omega, by rw [h.dat]; omega, by rw [h.rep]; omega, by rw [h.ali]; omega, by rw [h.tr]; omega, by rw [h.way]; exact h6, by rw [h.way]; exact h7⟩
  rw [h.V, h.bd, h.cr]
  exact bnd_one (by have := h.l0; omega) h.k0 (by decide) (by decide)
theorem PX.mono (h : PX k l r f Q E s) {Q' : Int} (hq : Q ≤ Q') (hq' : Q' ≤ 1000) : PX k l r f Q' E s :=
  ⟨h.V, h.k0, h.l0, h.bd, h.cr, h.al, h.lf, h.f0, by have := h.sq; omega, hq', h.bad, h.lp, h.dat, h.rep, h.ali, h.tr, h.way⟩
def wX (l r : Int) : Int := if l = 0 then 2 else if r = 1 then 1 else 0
theorem worst_x (hl : 0 ≤ l) : worstV [(k, l, r)] 0 0 = wX l r := by
  unfold worstV wX thoseV
  rw [if_neg (by decide), if_neg (by decide)]
  by_cases h0 : l = 0
  · rw [if_pos h0, if_pos (by simp [isL, h0])]
  · rw [if_neg h0, if_neg (by simp [isL, h0])]
    by_cases h1 : r = 1
    · rw [if_pos h1, if_pos (by have : 0 < l := by omega
                                simp [isR, h1, this])]
    · rw [if_neg h1, if_neg (by simp [isR, h1])]
theorem PX.worst (h : PX k l r f Q E s) : wstM s = wX l r := by
  unfold wstM; rw [h.V, h.bd, h.cr]; exact worst_x h.l0.1
theorem PX.lost (h : PX k l r f Q E s) : thoseV isL s.V = if l = 0 then [k] else [] := by
  rw [h.V]; unfold thoseV
  by_cases h0 : l = 0
  · rw [if_pos h0]; simp [isL, h0]
  · rw [if_neg h0]; simp [isL, h0]
theorem PX.rdis (h : PX k l r f Q E s) : thoseV isR s.V = if 0 < l ∧ r = 1 then [k] else [] := by
  rw [h.V]; unfold thoseV
  by_cases h0 : 0 < l ∧ r = 1
  · rw [if_pos h0]; simp [isR, h0.1, h0.2]
  · rw [if_neg h0]
    have : isR (l, r) = false := by
      unfold isR
      rw [Bool.and_eq_false_iff]
      by_cases h1 : 0 < l
      · right; simp; exact fun e => h0 ⟨h1, e⟩
      · left; simp; omega
    simp [this]
theorem dn1_le (h : 0 ≤ l ∧ l ≤ 35) : 0 ≤ dn1 l ∧ dn1 l ≤ 35 := by unfold dn1; split <;> omega
theorem PX.remW (h : PX k l r f Q E s) : wstM (remT s) = wX (dn1 l) r := by
  unfold wstM remT
  rw [h.V, h.bd, h.cr]
  exact worst_x (dn1_le h.l0).1
/-- A tick without a check; with one. -/
theorem PX.quiet (h : PX k l r f Q E s) (hf : 2 ≤ f) (o : Ow20) : ∃ s' t, tickM o s = (s', [], t) ∧ PX k (dn1 l) r (f - 1) Q E s' := by
  unfold tickM
  rw [if_pos (by rw [h.lf]; omega)]
  refine ⟨_, _, rfl, ⟨?_, h.k0, dn1_le h.l0, ?_, ?_, (tickA_ok h.al (wstM_b _)).1, by show s.lf - 1 = _; rw [h.lf], by have := h.f0; omega, h.sq, h.q0, h.bad, h.lp, h.dat, h.rep, h.ali, h.tr, h.way⟩⟩
  · show tickV s.V = _; rw [h.V]; rfl
  · show dn1 s.bd = _; rw [h.bd]; rfl
  · show dn1 s.cr = _; rw [h.cr]; rfl
theorem PX.send (h : PX k l r 1 Q E s) (hq : Q < 1000) (o : Ow20) (hiv : o.a.iv = 4 ∨ o.a.iv = 5) : ∃ s' t, tickM o s = (s', ckS o (wX (dn1 l) r) (s.sq + 1), t) ∧ PX k (dn1 l) r (tickC o.a.iv) (Q + 1) E s' := by
  unfold tickM
  rw [if_neg (by rw [h.lf]; omega), h.remW]
  refine ⟨_, _, rfl, ⟨?_, h.k0, dn1_le h.l0, ?_, ?_, (tickA_ok h.al (wstM_b _)).1, rfl, ?_, ?_, by omega, h.bad, h.lp, h.dat, h.rep, h.ali, h.tr, h.way⟩⟩
  · show tickV s.V = _; rw [h.V]; rfl
  · show dn1 s.bd = _; rw [h.bd]; rfl
  · show dn1 s.cr = _; rw [h.cr]; rfl
  · rcases hiv with e | e <;> rw [e] <;> decide
  · show 0 ≤ s.sq + 1 ∧ s.sq + 1 ≤ Q + 1
    have := h.sq; omega
end
/-- A message as it is taken. -/
theorem takeM_of {o : Ow20} {s : Ms} {sr ds : Mc} {d : List UInt8} {b c : Int} {f : List UInt8} {l : List Th} (h : tkP d = (o.a.lv, b, c, f, l, 0)) (hb : hndN b ≠ 0) {s' : Ms} {x : List Sn} (ho : opM o s sr ds o.a.lv b c f l = (s', x, true)) : takeM o s sr ds d = (s', x) := by
  unfold takeM
  rw [h]
  rw [if_pos ⟨rfl, rfl, hb⟩]
  simp only [ho]
  rfl
/-- A check: what is sent, what becomes of it. -/
theorem check_msg {lv iv k : Int} (hlv : 0 ≤ lv ∧ lv < 8) (hiv : iv = 4 ∨ iv = 5) (hk : k = 1 ∨ k = 2) (w sq : Int) (hsq : 0 ≤ sq ∧ sq < 4294967296) :
    ∃ d, ckS (pO lv iv k) w sq = [⟨chkG lv, d⟩] ∧ d.length ≤ 1600 ∧ ∀ k' sr l r f Q E s, PX k l r f Q E s → ∃ s', takeM (pO lv iv k') s sr (chkG lv) d = (s', []) ∧ PX k (lastC iv) (if 2 ≤ w then 1 else 0) f Q E s' := by
  have hm : mayC lv iv k mdM = true := mayM hlv.2 hiv (by omega)
  have hc : 0 ≤ iv + (if decide (2 ≤ w) = true then 128 else 0) ∧ iv + (if decide (2 ≤ w) = true then 128 else 0) < 256 := by split <;> omega
  have hlen : (fxC sq k mdM).length = 70 := by simp [fxC, be_length, mdM_len]
  obtain ⟨A, hA, hAl, hAt⟩ := putP_takesG (a := lv) (b := 1) (c := iv + (if decide (2 ≤ w) = true then 128 else 0)) (f := fxC sq k mdM) (l := []) (by omega) (by decide) hc (by omega) (by simp)
  have hck : ckP (pO lv iv k) w sq = (lv, 1, iv + (if decide (2 ≤ w) = true then 128 else 0), fxC sq k mdM, 0) := by
    unfold ckP putC
    show (if mayC lv iv k mdM = true then _ else _) = _
    rw [if_pos hm]; rfl
  refine ⟨A, ?_, ?_, ?_⟩
  · unfold ckS sentR
    rw [hck, hA]; rfl
  · rw [hAl, hlen]; simp
  · intro k' sr l r f Q E s hs
    have ht := hAt []
    rw [List.append_nil] at ht
    have htk := cput_take (rd := decide (2 ≤ w)) (sq := sq) hm hsq
    have hh : hearC (pO lv iv k').a s.V s.bd s.cr lv (decide (2 ≤ w)) iv k mdM = ([(k, lastC iv, if 2 ≤ w then 1 else 0)], 0, 0) := by
      unfold hearC
      have e1 : refC (pO lv iv k').a lv iv k mdM = false := by
        unfold refC
        rw [hm]
        show (!true || decide (lv < lv)) = false
        simp
      rw [if_neg (by rw [e1]; decide), if_neg (by show ¬ (lv < lv ∨ mdM ≠ mdM); simp), hs.V, hs.bd, hs.cr, if_neg (by show ¬ ((vFind [(k, l, r)] k).isSome = false ∨ iv ≠ iv); simp [vFind])]
      have : vPut [(k, l, r)] (k, lastC iv, if decide (2 ≤ w) = true then 1 else 0) = [(k, lastC iv, if 2 ≤ w then 1 else 0)] := by
        unfold vPut vDel
        simp [vIns]
      rw [this]
    refine ⟨hearM (pO lv iv k') s lv (decide (2 ≤ w)) iv k mdM, takeM_of (o := pO lv iv k') ht (by decide) ?_, ?_⟩
    · unfold opM
      rw [if_pos rfl]
      have hch : chkM (pO lv iv k') s lv 1 (iv + (if decide (2 ≤ w) = true then 128 else 0)) (fxC sq k mdM) = (hearM (pO lv iv k') s lv (decide (2 ≤ w)) iv k mdM, true) := by
        unfold chkM; rw [htk]; rfl
      show ((chkM (pO lv iv k') s lv 1 (iv + (if decide (2 ≤ w) = true then 128 else 0)) (fxC sq k mdM)).1, _, (chkM (pO lv iv k') s lv 1 (iv + (if decide (2 ≤ w) = true then 128 else 0)) (fxC sq k mdM)).2) = _
      rw [hch]
    · unfold hearM
      rw [hh]
      exact ⟨rfl, hs.k0, by rcases hiv with e | e <;> rw [e] <;> decide, rfl, rfl, hs.al, hs.lf, hs.f0, hs.sq, hs.q0, hs.bad, hs.lp, hs.dat, hs.rep, hs.ali, hs.tr, hs.way⟩
end Go.Proofs.YtlkdfofpnmpidaaGreat

/- MepPair: the plain law: a loopback, a trace, what comes back. -/
set_option linter.unusedVariables false
set_option linter.unusedSimpArgs false
namespace Go.Proofs.YtlkdfofpnmpidaaGreat
open Go.RowKit

theorem pM_ok {k : Int} (hk : k = 1 ∨ k = 2) : (pM k).Ok := by rcases hk with rfl | rfl <;> exact ⟨by decide, by decide, by decide, by decide, by decide, by decide⟩
theorem pM_host {k : Int} (hk : k = 1 ∨ k = 2) : hostV (pM k) = true := by rcases hk with rfl | rfl <;> decide
theorem thL_ok {dt : List UInt8} (h : dt.length ≤ 64) : ∀ x ∈ thL dt, okT x = 0 := by
  intro x hx
  unfold thL at hx
  split at hx
  · simp at hx
  · rw [List.mem_singleton.1 hx]
    unfold okT
    rw [if_neg (show ¬ (3 : UInt8) = 0 by decide), if_neg (by show ¬ 1480 < dt.length; omega)]
theorem thL_flat {dt : List UInt8} (h : dt.length ≤ 64) : ((thL dt).flatMap thB).length ≤ 100 := by
  unfold thL
  split
  · simp
  · simp [thB, be_length]; omega
/-- A loopback: what is sent, what comes back, what is known then. -/
theorem loop_msg {lv iv : Int} (hlv : 0 ≤ lv ∧ lv < 8) {dt : List UInt8} (hdt : dt.length ≤ 64) {s0 s1 : Ms} (h0 : s0.lp = 0) :
    ∃ d d', loopM (pO lv iv 1) s0 (pM 2) dt = ({ s0 with lp := 1, dat := dt, rep := 0, ali := 0 }, ⟨pM 2, d⟩, 0) ∧ d.length ≤ 1600 ∧ d'.length ≤ 1600 ∧
      takeM (pO lv iv 2) s1 (pM 1) (pM 2) d = (s1, [⟨pM 1, d'⟩]) ∧ takeM (pO lv iv 1) { s0 with lp := 1, dat := dt, rep := 0, ali := 0 } (pM 2) (pM 1) d' = ({ s0 with lp := 1, dat := dt, rep := 1, ali := 1 }, []) := by
  have hb4 := be_length 4 (1 : Int)
  obtain ⟨A, hA, hAl, hAt⟩ := putP_takesG (a := lv) (b := 3) (c := 0) (f := be 4 1) (l := thL dt) (by omega) (by decide) (by decide) (by rw [hb4]; decide) (thL_ok hdt)
  obtain ⟨B, hB, hBl, hBt⟩ := putP_takesG (a := lv) (b := 2) (c := 0) (f := be 4 1) (l := thL dt) (by omega) (by decide) (by decide) (by rw [hb4]; decide) (thL_ok hdt)
  have hfl := thL_flat hdt
  have tA := hAt []
  have tB := hBt []
  rw [List.append_nil] at tA tB
  have k3 := tkL_put lv 3 1 dt (.inr rfl) (by decide)
  have k2 := tkL_put lv 2 1 dt (.inl rfl) (by decide)
  have hp : loopP lv 1 dt = (A, 0) := by
    unfold loopP putL
    rw [if_neg (by omega), if_neg (by omega)]
    exact hA
  refine ⟨A, B, ?_, by omega, by omega, ?_, ?_⟩
  · unfold loopM
    rw [pM_host (.inr rfl), if_neg (by decide), if_neg (by omega), h0]
    show (_, (⟨_, (loopP lv (0 + 1) dt).1⟩ : Sn), (loopP lv (0 + 1) dt).2) = _
    rw [show (0 : Int) + 1 = 1 by decide, hp]
  · refine takeM_of (o := pO lv iv 2) tA (by decide) ?_
    unfold opM
    rw [if_neg (by decide), if_neg (by decide), if_pos rfl]
    have ha : askM (pO lv iv 2) (pM 1) (pM 2) lv 3 0 (be 4 1) (thL dt) = ([⟨pM 1, B⟩], true) := by
      unfold askM
      rw [if_pos ⟨rfl, by decide⟩]
      have e : ansL lv 3 0 (be 4 1) (thL dt) = (lv, 2, 0, be 4 1, thL dt, 0) := by
        unfold ansL; rw [k3]; rfl
      rw [e]
      show (if (0 : Int) = 0 then (sentR (pM 1) lv 2 0 (be 4 1) (thL dt), decide (0 < (sentR (pM 1) lv 2 0 (be 4 1) (thL dt)).length)) else _) = _
      have : sentR (pM 1) lv 2 0 (be 4 1) (thL dt) = [⟨pM 1, B⟩] := by unfold sentR; rw [hB]; rfl
      rw [if_pos rfl, this]; rfl
    show (s1, (askM (pO lv iv 2) (pM 1) (pM 2) lv 3 0 (be 4 1) (thL dt)).1, (askM (pO lv iv 2) (pM 1) (pM 2) lv 3 0 (be 4 1) (thL dt)).2) = _
    rw [ha]
  · refine takeM_of (o := pO lv iv 1) tB (by decide) ?_
    unfold opM
    rw [if_neg (by decide), if_pos rfl]
    have ha : answM (pO lv iv 1) { s0 with lp := 1, dat := dt, rep := 0, ali := 0 } (pM 1) lv 2 (be 4 1) (thL dt) = ({ s0 with lp := 1, dat := dt, rep := 1, ali := 1 }, true) := by
      unfold answM
      rw [if_pos (show pM 1 = (pO lv iv 1).mc from rfl), k2]
      rw [if_pos ⟨rfl, by show (1 : Int) ≠ 0; decide, rfl⟩, if_pos rfl]
      rfl
    show ((answM (pO lv iv 1) { s0 with lp := 1, dat := dt, rep := 0, ali := 0 } (pM 1) lv 2 (be 4 1) (thL dt)).1, _, (answM (pO lv iv 1) { s0 with lp := 1, dat := dt, rep := 0, ali := 0 } (pM 1) lv 2 (be 4 1) (thL dt)).2) = _
    rw [ha]
def endX (lv ttl : Int) : Rp := ⟨lv, 1, ttl - 1, false, true, pM 2, mc0⟩
/-- A trace: what is sent, what comes back, what is known then. -/
theorem trace_msg {lv iv ttl : Int} (hlv : 0 ≤ lv ∧ lv < 8) (ht : 1 ≤ ttl ∧ ttl < 256) {s0 s1 : Ms} (h0 : s0.tr = 0) :
    ∃ d d', traceM (pO lv iv 1) s0 (pM 2) ttl = ({ s0 with tr := 1, way := [] }, ⟨trcG lv, d⟩, 0) ∧ d.length ≤ 1600 ∧ d'.length ≤ 1600 ∧
      takeM (pO lv iv 2) s1 (pM 1) (trcG lv) d = (s1, [⟨pM 1, d'⟩]) ∧ takeM (pO lv iv 1) { s0 with tr := 1, way := [] } (pM 2) (pM 1) d' = ({ s0 with tr := 1, way := [endX lv ttl] }, []) := by
  obtain ⟨T, hT⟩ : ∃ T : Tr, T = ⟨lv, 1, ttl, pM 1, pM 2⟩ := ⟨_, rfl⟩
  have hTok : T.Ok := by rw [hT]; exact ⟨⟨hlv.1, by show lv < 256; omega⟩, by show (0 : Int) ≤ 1 ∧ (1 : Int) < 4294967296; decide, by show 0 ≤ ttl ∧ ttl < 256; omega, pM_ok (.inl rfl), pM_ok (.inr rfl)⟩
  have hRok : (endX lv ttl).Ok := ⟨⟨hlv.1, by show lv < 256; omega⟩, by show (0 : Int) ≤ 1 ∧ (1 : Int) < 4294967296; decide, by show 0 ≤ ttl - 1 ∧ ttl - 1 < 256; omega, pM_ok (.inr rfl), by show mc0.Ok; exact ⟨by decide, by decide, by decide, by decide, by decide, by decide⟩⟩
  have hlenT := byTr_len T
  have hlenR := fxR_len (endX lv ttl)
  have hokR : ∀ x ∈ prtL 5 (pM 2) ++ prtL 6 mc0, okT x = 0 := by
    intro x hx
    rcases List.mem_append.1 hx with h | h
    · exact (okT_prt (by decide) x h).1
    · exact (okT_prt (by decide) x h).1
  obtain ⟨A, hA, hAl, hAt⟩ := putP_takesG (a := lv) (b := 5) (c := 128) (f := byTr T) (l := []) (by omega) (by decide) (by decide) (by omega) (by simp)
  obtain ⟨B, hB, hBl, hBt⟩ := putP_takesG (a := lv) (b := 4) (c := flR (endX lv ttl)) (f := fxR (endX lv ttl)) (l := prtL 5 (pM 2) ++ prtL 6 mc0) (by omega) (by decide) (by show 0 ≤ (32 : Int) ∧ (32 : Int) < 256; decide) (by omega) hokR
  have hflR : ((prtL 5 (pM 2) ++ prtL 6 mc0).flatMap thB).length ≤ 100 := by decide
  have tA := hAt []
  have tB := hBt []
  rw [List.append_nil] at tA tB
  have kT := tkTr_put T hTok
  rw [show T.lv = lv by rw [hT]] at kT
  have kR := tkRp_put (endX lv ttl) hRok
  have hpT : putTr T = (lv, 5, 128, byTr T, 0) := by unfold putTr; rw [if_neg (by rw [hT]; show ¬ 7 < lv; omega), hT]
  have hpR : putRp (endX lv ttl) = (lv, 4, flR (endX lv ttl), fxR (endX lv ttl), prtL 5 (pM 2) ++ prtL 6 mc0, 0) := by unfold putRp; rw [if_neg (by show ¬ 7 < lv; omega)]; rfl
  refine ⟨A, B, ?_, by simp at hAl; omega, by omega, ?_, ?_⟩
  · unfold traceM
    have hask : askT (pO lv iv 1) (s0.tr + 1) (pM 2) ttl = T := by rw [hT, h0]; rfl
    have htp : tracP T = (A, 0) := by unfold tracP; rw [hpT]; exact hA
    rw [if_neg (by rw [pM_host (.inr rfl)]; simp; omega), hask, htp, h0]
    rfl
  · refine takeM_of (o := pO lv iv 2) tA (by decide) ?_
    unfold opM
    rw [if_neg (by decide), if_neg (by decide), if_neg (by decide), if_neg (by decide)]
    have ha : sekM (pO lv iv 2) (trcG lv) lv 5 (byTr T) = ([⟨pM 1, B⟩], true) := by
      unfold sekM
      rw [if_pos (.inr rfl), kT]
      rw [if_pos ⟨rfl, by rw [hT]; rfl, by rw [hT]; show ttl ≠ 0; omega, by rw [hT]; show ((2 : Int) % 2 == 1) = false; decide⟩]
      have e : endP (pO lv iv 2) T = endX lv ttl := by rw [hT]; rfl
      rw [e, hpR]
      have e2 : T.fr = pM 1 := by rw [hT]
      rw [e2]
      unfold sentR
      show (if (putP lv 4 (flR (endX lv ttl)) (fxR (endX lv ttl)) (prtL 5 (pM 2) ++ prtL 6 mc0)).2 = 0 then [(⟨pM 1, (putP lv 4 (flR (endX lv ttl)) (fxR (endX lv ttl)) (prtL 5 (pM 2) ++ prtL 6 mc0)).1⟩ : Sn)] else [], true) = _
      rw [hB]; rfl
    show (s1, (sekM (pO lv iv 2) (trcG lv) lv 5 (byTr T)).1, (sekM (pO lv iv 2) (trcG lv) lv 5 (byTr T)).2) = _
    rw [ha]
  · refine takeM_of (o := pO lv iv 1) tB (by decide) ?_
    unfold opM
    rw [if_neg (by decide), if_neg (by decide), if_neg (by decide), if_pos rfl]
    have ha : fndM (pO lv iv 1) { s0 with tr := 1, way := [] } (pM 1) lv 4 (flR (endX lv ttl)) (fxR (endX lv ttl)) (prtL 5 (pM 2) ++ prtL 6 mc0) = ({ s0 with tr := 1, way := [endX lv ttl] }, true) := by
      unfold fndM
      have kR' : tkRp lv 4 (flR (endX lv ttl)) (fxR (endX lv ttl)) (prtL 5 (pM 2) ++ prtL 6 mc0) = (endX lv ttl, 0) := kR
      rw [if_pos (show pM 1 = (pO lv iv 1).mc from rfl), kR']
      rw [if_pos ⟨rfl, by show (1 : Int) ≠ 0; decide, rfl, by show 0 < 32; decide⟩]
      rfl
    show ((fndM (pO lv iv 1) { s0 with tr := 1, way := [] } (pM 1) lv 4 (flR (endX lv ttl)) (fxR (endX lv ttl)) (prtL 5 (pM 2) ++ prtL 6 mc0)).1, _, (fndM (pO lv iv 1) { s0 with tr := 1, way := [] } (pM 1) lv 4 (flR (endX lv ttl)) (fxR (endX lv ttl)) (prtL 5 (pM 2) ++ prtL 6 mc0)).2) = _
    rw [ha]
end Go.Proofs.YtlkdfofpnmpidaaGreat
