/- ZP15: the texts C3, T6, T8, T9 as one. -/
import Derived.Test.YtlkdfofpnmpidaaGreatZP08
import Derived.Test.YtlkdfofpnmpidaaGreatZP14
import Derived.StillTailTactics
import Derived.Test.YtlkdfofpnmpidaaGreatZP13
import Derived.Test.YtlkdfofpnmpidaaGreatZP03
/- cfm: Put. -/
set_option linter.unusedVariables false
namespace Go.Proofs.YtlkdfofpnmpidaaGreat
open Go.RowKit

/-- A number's byte. -/
def byt (a : Int) : UInt8 := UInt8.ofNat a.toNat
theorem byt_nat (a : Int) (h : 0 ≤ a ∧ a < 256) : ((byt a).toNat : Int) = a := by
  unfold byt; simp; omega
theorem byteV_byt (a : Int) (h : 0 ≤ a ∧ a < 256) : byteV (byt a) = .int .u8 a := by unfold byteV; rw [byt_nat a h]
theorem byt_of (c : UInt8) : byt (c.toNat : Int) = c := by unfold byt; simp
theorem src4 (W : World) (T : TypeId) (x y z t : Int) (hx : 0 ≤ x ∧ x < 256) (hy : 0 ≤ y ∧ y < 256) (hz : 0 ≤ z ∧ z < 256) (ht : 0 ≤ t ∧ t < 256) : Src (W.alloc (.cells #[.int .u8 x, .int .u8 y, .int .u8 z, .int .u8 t] T)) (.slice (some ⟨W.heap.size, 0, none⟩) 4 4) [byt x, byt y, byt z, byt t] := by
  refine .inr ⟨⟨W.heap.size, 0, none⟩, 4, rfl, fun j hj => ?_⟩
  rw [Go.WideShapes.add_plain]
  have hh : (W.alloc (.cells #[.int .u8 x, .int .u8 y, .int .u8 z, .int .u8 t] T)).heap[W.heap.size]? = some (.cells #[.int .u8 x, .int .u8 y, .int .u8 z, .int .u8 t] T) := heap_alloc_new W _
  generalize W.alloc (.cells #[.int .u8 x, .int .u8 y, .int .u8 z, .int .u8 t] T) = X at hh
  have : j = 0 ∨ j = 1 ∨ j = 2 ∨ j = 3 := by have : j < 4 := hj; omega
  rcases this with rfl | rfl | rfl | rfl
  · simp [World.cell?, hh, byteV_byt _ hx]
  · simp [World.cell?, hh, byteV_byt _ hy]
  · simp [World.cell?, hh, byteV_byt _ hz]
  · simp [World.cell?, hh, byteV_byt _ ht]
/-- A message's head. -/
def hdP (a b c : Int) (f : List UInt8) : List UInt8 := [byt (a * 32), byt b, byt c, byt (f.length : Int)]
/-- A message's bytes, and the error. -/
def putP (a b c : Int) (f : List UInt8) (l : List Th) : List UInt8 × Int :=
  if 7 < a then ([], 2) else if 255 < f.length then ([], 5) else if (putT l).2 = 0 then (hdP a b c f ++ f ++ (putT l).1, 0) else ([], (putT l).2)

set_option maxRecDepth 100000 in
set_option maxHeartbeats 1000000 in
theorem wrong_any (t : Bool) (x : Int) (w : World) : Calls Tryz.prog 88 #[.bool t, .int .i64 x] w fun en w' => en = .returned (.int .i64 (if t = true then x else 0)) ∧ w' = w := by
  cases t with
  | true =>
    go_enter Tryz.func88, Tryz.ntmps88
    go_wp2
    go_ret
    exact ⟨rfl, rfl⟩
  | false =>
    go_enter Tryz.func88, Tryz.ntmps88
    go_wp2
    go_ret
    exact ⟨rfl, rfl⟩
/-- The first of some errors. -/
def fst3 (x y z : Int) : Int := if x ≠ 0 then x else if y ≠ 0 then y else z
set_option maxRecDepth 100000 in
set_option maxHeartbeats 2000000 in
theorem first3_any (q : Nat) (x y z : Int) (w : World) (c0 : w.cell? ⟨q, 0, none⟩ = some (.int .i64 x)) (c1 : w.cell? ⟨q, 1, none⟩ = some (.int .i64 y)) (c2 : w.cell? ⟨q, 2, none⟩ = some (.int .i64 z)) : Calls Tryz.prog 87 #[.slice (some ⟨q, 0, none⟩) 3 3] w fun en w' => en = .returned (.int .i64 (fst3 x y z)) ∧ w = w' := by
  unfold fst3
  go_enter Tryz.func87, Tryz.ntmps87
  go_wp2_with fail
  refine wp_loop_rounds 4 ?_
  rw [rounds_succ]
  by_cases hx : x = 0
  · subst hx
    go_wp2_with fail
    rw [rounds_succ]
    by_cases hy : y = 0
    · subst hy
      go_wp2_with fail
      rw [rounds_succ]
      by_cases hz : z = 0
      · subst hz
        go_wp2_with fail
        rw [rounds_succ]
        go_wp2_with fail
        go_ret
        exact ⟨rfl, rfl⟩
      · have dz : (z != 0) = true := by rw [bne_iff_ne]; exact hz
        clear hz
        go_wp2_with fail
        go_ret
        exact ⟨rfl, rfl⟩
    · have dy : (y != 0) = true := by rw [bne_iff_ne]; exact hy
      have H := Lib.hid hy
      clear hy
      go_wp2_with fail
      go_ret
      exact ⟨rfl, rfl⟩
  · have dx : (x != 0) = true := by rw [bne_iff_ne]; exact hx
    have H := Lib.hid hx
    clear hx
    go_wp2_with fail
    go_ret
    exact ⟨rfl, rfl⟩
theorem first2_any (q : Nat) (x y : Int) (w : World) (c0 : w.cell? ⟨q, 0, none⟩ = some (.int .i64 x)) (c1 : w.cell? ⟨q, 1, none⟩ = some (.int .i64 y)) : Calls Tryz.prog 87 #[.slice (some ⟨q, 0, none⟩) 2 2] w fun en w' => en = .returned (.int .i64 (if x ≠ 0 then x else y)) ∧ w = w' := by
  go_enter Tryz.func87, Tryz.ntmps87
  go_wp2_with fail
  refine wp_loop_rounds 3 ?_
  rw [rounds_succ]
  by_cases hx : x = 0
  · subst hx
    go_wp2_with fail
    rw [rounds_succ]
    by_cases hy : y = 0
    · subst hy
      go_wp2_with fail
      rw [rounds_succ]
      go_wp2_with fail
      go_ret
      exact ⟨rfl, rfl⟩
    · have dy : (y != 0) = true := by rw [bne_iff_ne]; exact hy
      clear hy
      go_wp2_with fail
      go_ret
      exact ⟨rfl, rfl⟩
  · have dx : (x != 0) = true := by rw [bne_iff_ne]; exact hx
    have H := Lib.hid hx
    clear hx
    go_wp2_with fail
    go_ret
    exact ⟨rfl, rfl⟩
theorem putP_len (a b c : Int) (f : List UInt8) (l : List Th) : (putP a b c f l).1.length ≤ 4 + f.length + (putT l).1.length := by
  unfold putP hdP
  repeat' split
  all_goals simp
  all_goals omega
set_option maxRecDepth 100000 in
set_option maxHeartbeats 4000000 in
theorem cput_any (v : Value) (a b c : Int) (f : List UInt8) (l : List Th) (w : World) (hv : Tls w v l) (hl : l.length ≤ 100000) (hs : ∀ x ∈ l, x.2.length ≤ maxLen) (hf : f.length ≤ 1000000) (hm : (putT l).1.length ≤ 1000000000) (ha : 0 ≤ a ∧ a < 256) (hb : 0 ≤ b ∧ b < 256) (hc : 0 ≤ c ∧ c < 256) :
    Calls Tryz.prog 48 #[.agg #[.int .u8 a, .int .u8 b, .int .u8 c, .string (bs f), v]] w fun en w' => en = .returned (.tuple #[.string (bs (putP a b c f l).1), .int .i64 (putP a b c f l).2]) ∧ Below w.heap.size w w' := by
  obtain ⟨R, hR⟩ : ∃ R, putP a b c f l = R := ⟨_, rfl⟩
  have HR := Lib.hid hR
  rw [hR]; clear hR
  obtain ⟨A, e, hP⟩ : ∃ A e, putT l = (A, e) := ⟨_, _, rfl⟩
  rw [hP] at hm
  have P1 : ∀ w, Tls w v l → Calls Tryz.prog 86 #[v] w fun en w' => en = .returned (.tuple #[.string (bs A), .int .i64 e]) ∧ Below w.heap.size w w' := fun w h => by
    have h := tput_any v l w h hl hs
    rw [hP] at h; exact h
  have HP1 := Lib.hid P1
  have HV := Lib.hid hv
  have HP := Lib.hid hP
  have HA := Lib.hid ha
  have HB := Lib.hid hb
  have HC := Lib.hid hc
  have hsf := bs_size f
  have hMA : A.length ≤ 1000000000 := hm
  obtain ⟨ad, cp, rfl, _⟩ := hv.shape
  clear P1 hv hP hl hs hm
  go_enter Tryz.func48, Tryz.ntmps48
  go_upto_region 1 with fail
  have pb0 := PB.new 103 w a b c f (.slice ad l.length cp)
  have hb0 : Below w.heap.size w (w.alloc (.cells #[.int .u8 a, .int .u8 b, .int .u8 c, .string (bs f), .slice ad l.length cp] 103)) := (Below.refl _ _).alloc (Nat.le_refl _) _
  obtain ⟨w1, hw1⟩ : ∃ k, w.alloc (.cells #[.int .u8 a, .int .u8 b, .int .u8 c, .string (bs f), .slice ad l.length cp] 103) = k := ⟨_, rfl⟩
  rw [hw1] at pb0 hb0 ⊢
  have c4 := pb0.c4
  have PB0 := Lib.hid pb0
  have HB0 := Lib.hid hb0
  clear hw1 pb0 hb0 ha hb hc
  go_wp2_with fail
  with_reducible refine (HP1.out _ (HV.out.later HB0.out)).mono ?_
  rintro en w2 ⟨rfl, hb2⟩
  have PB2 := Lib.hid (PB0.out.later hb2)
  have HB2 := Lib.hid (HB0.out.trans (hb2.mono HB0.out.size))
  clear hb2 PB0 HB0 c4
  go_upto_region 2 with fail
  have p0 := PB2.out.c0
  have p3 := PB2.out.c3
  have p0d : w2.drew.cell? ⟨w.heap.size, 0, none⟩ = some (.int .u8 a) := p0
  have p3d : w2.drew.cell? ⟨w.heap.size, 3, none⟩ = some (.string (bs f)) := p3
  refine wp_region_still_tail 10 (by kernel_rfl) (by kernel_rfl) ?_
  simp only [List.take_succ_cons, List.take_zero, List.drop_succ_cons, List.drop_zero]
  iterate 3 still_step
  still_call (wrong_any _ _ _)
  iterate 4 still_step
  still_call (wrong_any _ _ _)
  still_step
  try refine wpStill_nil ?_
  obtain ⟨X, hX⟩ : ∃ X : Int, (if 7 < a then (2 : Int) else 0) = X := ⟨_, rfl⟩
  obtain ⟨Y, hY⟩ : ∃ Y : Int, (if (255 : Int) < (f.length : Int) then (5 : Int) else 0) = Y := ⟨_, rfl⟩
  rw [hX, hY]
  change wpList _ _ _ _ _ w2.drew
  have pb3 : PB 103 w2.drew w.heap.size a b c f (.slice ad l.length cp) := PB2.out
  have hb3 : Below w.heap.size w w2.drew := HB2.out.drew
  obtain ⟨w3, hw3⟩ : ∃ k, w2.drew = k := ⟨_, rfl⟩
  rw [hw3] at pb3 hb3 ⊢
  have PB3 := Lib.hid pb3
  have HB3 := Lib.hid hb3
  have HX := Lib.hid hX
  have HY := Lib.hid hY
  clear hX hY hw3 pb3 hb3 p0 p3 p0d p3d PB2 HB2
  go_wp2_with fail
  with_reducible refine (first3_any _ X Y e _ (by simp [go_sem]) (by simp [go_sem]) (by simp [go_sem])).mono ?_
  rintro en _ ⟨rfl, rfl⟩
  have PB4 := Lib.hid (PB3.out.later ((Below.refl _ _).alloc (Nat.le_refl _) (.cells #[.int .i64 X, .int .i64 Y, .int .i64 e] 32)))
  have hb4 : Below w.heap.size w (w3.alloc (.cells #[.int .i64 X, .int .i64 Y, .int .i64 e] 32)) := HB3.out.alloc HB3.out.size _
  obtain ⟨w4, hw4⟩ : ∃ k, w3.alloc (.cells #[.int .i64 X, .int .i64 Y, .int .i64 e] 32) = k := ⟨_, rfl⟩
  rw [hw4] at PB4 hb4 ⊢
  have HB4 := Lib.hid hb4
  obtain ⟨G, hG⟩ : ∃ G, fst3 X Y e = G := ⟨_, rfl⟩
  have hRR : (G = 0 ∧ a ≤ 7 ∧ f.length ≤ 255 ∧ R = (hdP a b c f ++ f ++ A, 0)) ∨ (G ≠ 0 ∧ R = ([], G)) := by
    rw [← HR.out, ← hG, ← HX.out, ← HY.out]
    unfold putP fst3
    rw [HP.out]
    by_cases h7 : 7 < a
    · right; rw [if_pos h7, if_pos h7, if_pos (by decide)]; exact ⟨by decide, rfl⟩
    · rw [if_neg h7, if_neg h7, if_neg (by decide)]
      by_cases h5 : 255 < f.length
      · right; rw [if_pos h5, if_pos (show (255 : Int) < (f.length : Int) by omega), if_pos (by decide)]; exact ⟨by decide, rfl⟩
      · rw [if_neg h5, if_neg (show ¬ (255 : Int) < (f.length : Int) by omega), if_neg (by decide)]
        by_cases he : e = 0
        · left; rw [if_pos he]; exact ⟨he, by omega, by omega, rfl⟩
        · right; rw [if_neg he]; exact ⟨he, rfl⟩
  rw [hG]
  clear hw4 hb4 hG PB3 HB3
  rcases hRR with ⟨h0, h1, h2, h3⟩ | ⟨h0, h3⟩
  · have hH : (hdP a b c f).length = 4 := rfl
    have a1 := run_add_bs (hdP a b c f) f (by rw [hH]; omega)
    have a2 := run_add_bs (hdP a b c f ++ f) A (by rw [List.length_append, hH]; omega)
    have w8 : IntKind.u8.wrap (a * 32) = a * 32 := IntWalk.u8_in _ (by have := HA.out; omega)
    have wL : IntKind.u8.wrap (f.length : Int) = (f.length : Int) := IntWalk.u8_in _ (by omega)
    have hcv : ∀ W : World, (convert 39 9 (.slice (some ⟨W.heap.size, 0, none⟩) 4 4)).run Tryz.prog (W.alloc (.cells #[.int .u8 (a * 32), .int .u8 b, .int .u8 c, .int .u8 (f.length : Int)] 5)) = .ok (.string (bs (hdP a b c f))) (W.alloc (.cells #[.int .u8 (a * 32), .int .u8 b, .int .u8 c, .int .u8 (f.length : Int)] 5)) := fun W => run_string_src (src4 W _ _ _ _ _ (by have := HA.out; omega) HB.out HC.out (by omega))
    obtain ⟨H, hHH⟩ : ∃ H, hdP a b c f = H := ⟨_, rfl⟩
    rw [hHH] at a1 a2 hcv h3
    have d0 : (G != 0) = false := by rw [h0]; rfl
    have p0 := PB4.out.c0
    have p1 := PB4.out.c1
    have p2 := PB4.out.c2
    have p3 := PB4.out.c3
    have p3a : ∀ o : Obj, (w4.alloc o).cell? ⟨w.heap.size, 3, none⟩ = some (.string (bs f)) := fun o => (PB4.out.later ((Below.refl _ _).alloc (Nat.le_refl _) o)).c3
    have H3 := Lib.hid h3
    clear h0 h1 h2 h3 hH hHH
    go_wp2_with fail
    refine bodyPost_ret (v := .tuple #[.string (bs (H ++ f ++ A)), .int .i64 0]) (by simp [results, Tryz.results48, go_sem]) rfl ⟨by rw [H3.out], HB4.out.alloc HB4.out.size _⟩
  · have d0 : (G != 0) = true := by rw [bne_iff_ne]; exact h0
    have H3 := Lib.hid h3
    clear h0 h3
    go_wp2_with fail
    refine bodyPost_ret (v := .tuple #[.string (bs []), .int .i64 G]) (by simp [results, Tryz.results48, go_sem]; rfl) rfl ⟨by rw [H3.out], HB4.out⟩
end Go.Proofs.YtlkdfofpnmpidaaGreat

/- tlv: Take: plain. -/
set_option linter.unusedVariables false
namespace Go.Proofs.YtlkdfofpnmpidaaGreat
open Go.RowKit

/-- Take: the things, what is behind them, the error. -/
def takeT : List UInt8 → List Th × List UInt8 × Int
  | [] => ([], [], 3)
  | c :: s =>
    if c = 0 then ([], s, 0)
    else if s.length < 2 then ([], [], 3)
    else if (s.drop 2).length < (s.getD 0 0).toNat * 256 + (s.getD 1 0).toNat then ([], [], 3)
    else if (takeT (s.drop (2 + ((s.getD 0 0).toNat * 256 + (s.getD 1 0).toNat)))).2.2 = 0 then
      ((c, (s.drop 2).take ((s.getD 0 0).toNat * 256 + (s.getD 1 0).toNat)) :: (takeT (s.drop (2 + ((s.getD 0 0).toNat * 256 + (s.getD 1 0).toNat)))).1, (takeT (s.drop (2 + ((s.getD 0 0).toNat * 256 + (s.getD 1 0).toNat)))).2)
    else ([], [], 3)
termination_by s => s.length
decreasing_by all_goals simp; omega
theorem takeT_nil : takeT [] = ([], [], 3) := by unfold takeT; rfl
theorem takeT_zero (s : List UInt8) : takeT (0 :: s) = ([], s, 0) := by unfold takeT; rfl
/-- One thing ahead. -/
theorem takeT_cons (c : UInt8) (n : Nat) (t s : List UInt8) (a b : UInt8) (hc : c ≠ 0) (hn : a.toNat * 256 + b.toNat = t.length) :
    takeT (c :: a :: b :: (t ++ s)) = if (takeT s).2.2 = 0 then ((c, t) :: (takeT s).1, (takeT s).2) else ([], [], 3) := by
  rw [takeT]
  have e1 : (a :: b :: (t ++ s)).drop 2 = t ++ s := rfl
  have e2 : (a :: b :: (t ++ s)).getD 0 0 = a := rfl
  have e3 : (a :: b :: (t ++ s)).getD 1 0 = b := rfl
  have e4 : (a :: b :: (t ++ s)).drop (2 + t.length) = s := by
    rw [Nat.add_comm 2]; exact List.drop_left' (l₁ := t) rfl
  rw [if_neg hc, if_neg (by simp), e1, e2, e3, hn, if_neg (by simp), e4, List.take_left' rfl]
theorem takeT_short1 (c : UInt8) (s : List UInt8) (hc : c ≠ 0) (h : s.length < 2) : takeT (c :: s) = ([], [], 3) := by
  rw [takeT, if_neg hc, if_pos h]
theorem takeT_short2 (c a b : UInt8) (s : List UInt8) (hc : c ≠ 0) (h : s.length < a.toNat * 256 + b.toNat) : takeT (c :: a :: b :: s) = ([], [], 3) := by
  rw [takeT, if_neg hc, if_neg (by simp), if_pos (by exact h)]
theorem takeT_err : ∀ (n : Nat) (s : List UInt8), s.length ≤ n → (takeT s).2.2 ≠ 0 → takeT s = ([], [], 3)
  | _, [], _, _ => takeT_nil
  | n + 1, c :: s, hn, h => by
    rw [takeT] at h ⊢
    split at h
    · exact absurd rfl h
    · rename_i h1
      rw [if_neg h1]
      split at h
      · rename_i h2; rw [if_pos h2]
      · rename_i h2
        rw [if_neg h2]
        split at h
        · rename_i h3; rw [if_pos h3]
        · rename_i h3
          rw [if_neg h3]
          split at h
          · rename_i h4; exact absurd h4 h
          · rename_i h4; rw [if_neg h4]
end Go.Proofs.YtlkdfofpnmpidaaGreat

/- tlv: Take's part, walked. -/
set_option linter.unusedVariables false
namespace Go.Proofs.YtlkdfofpnmpidaaGreat
open Go.RowKit

/-- What a thing's value is read as. -/
def tkThing (l : List UInt8) (e : Int) : List UInt8 × List UInt8 × Int := rdText (rdText l e 2).2.1 (rdText l e 2).2.2 (numOf (rdText l e 2).1)

set_option maxRecDepth 100000 in
set_option maxHeartbeats 4000000 in
theorem thing_any (q p : Nat) (l : List UInt8) (e k0 : Int) (w : World) (hr : Rd w p l e) (hc : w.cell? ⟨q, 0, none⟩ = some (.pointer (some ⟨p, 0, none⟩))) (hq : q < w.heap.size) (hne : q ≠ p) (hl : l.length ≤ 9223372036854775807) :
    Calls Tryz.prog 120 #[.int .u8 k0, .pointer (some ⟨q, 0, none⟩)] w fun en w' => en = .returned (.agg #[.int .u8 k0, .string (bs (tkThing l e).1)]) ∧ Rd w' p (tkThing l e).2.1 (tkThing l e).2.2 ∧ Only p w w' := by
  have h1 := numOf_lt (rdText l e 2).1 2 65536 (rdText_len l e 2) (by decide)
  have h0 := (numOf_bd (rdText l e 2).1).1
  have hle := rd_le l e 2
  obtain ⟨x, hx⟩ : ∃ x, numOf (rdText l e 2).1 = x := ⟨_, rfl⟩
  have hT : tkThing l e = rdText (rdText l e 2).2.1 (rdText l e 2).2.2 x := by unfold tkThing; rw [hx]
  have HU : Hid (∀ w, Rd w p l e → Calls Tryz.prog 121 #[.pointer (some ⟨p, 0, none⟩)] w fun en w' => en = .returned (.int .u16 x) ∧ Rd w' p (rdText l e 2).2.1 (rdText l e 2).2.2 ∧ Only p w w') := by
    rw [← hx]; exact fun w hr => U16_any p l e w hr hl
  rw [hx] at h1 h0
  have HX : Hid (∀ w, Rd w p (rdText l e 2).2.1 (rdText l e 2).2.2 → Calls Tryz.prog 91 #[.pointer (some ⟨p, 0, none⟩), .int .i64 x] w fun en w' => en = .returned (.string (bs (tkThing l e).1)) ∧ Rd w' p (tkThing l e).2.1 (tkThing l e).2.2 ∧ Only p w w') := by
    rw [hT]; exact fun w hr => text_any p _ _ x w hr (by omega)
  have hwx : IntKind.i64.wrap x = x := IntWalk.i64_in _ (by omega)
  obtain ⟨V, hV⟩ : ∃ V, (tkThing l e).1 = V := ⟨_, rfl⟩
  rw [hV] at HX ⊢
  have hpl := hr.lt
  have HR0 := Lib.hid hr
  have HC0 := Lib.hid hc
  clear hx hT hV hle hr hc
  go_enter Tryz.func120, Tryz.ntmps120
  go_upto_region 1 with fail
  refine forget (fun W => Rd W p l e ∧ W.cell? ⟨q, 0, none⟩ = some (.pointer (some ⟨p, 0, none⟩)) ∧ W.cell? ⟨w.heap.size, 0, none⟩ = some (.int .u8 0) ∧ W.cell? ⟨w.heap.size, 1, none⟩ = some (.string { data := #[] }) ∧ W.frozen? ⟨w.heap.size, 0, none⟩ = false ∧ W.frozen? ⟨w.heap.size, 1, none⟩ = false ∧ Only p w W ∧ w.heap.size < W.heap.size)
    ⟨HR0.out.later ((Below.refl _ _).alloc (Nat.le_refl _) _), (((Below.refl w.heap.size w).alloc (Nat.le_refl _) _).cell hq).trans HC0.out, by simp [go_sem], by simp [go_sem], by simp [go_sem], by simp [go_sem], World.grownBy_alloc w _ _, by simp⟩ ?_
  rintro W ⟨hr, cq, c0, c1, f0, f1, ho, hz⟩
  obtain ⟨t, ht⟩ : ∃ t, w.heap.size = t := ⟨_, rfl⟩
  rw [ht] at c0 c1 f0 f1 hz ⊢
  have htp : t ≠ p := by omega
  have HT : Hid (w.heap.size ≤ t) := Nat.le_of_eq ht
  have hqW : q < W.heap.size := by omega
  have HR := Lib.hid hr
  have HO := Lib.hid ho
  clear hr ho HR0 HC0 ht
  go_region_law (first
    | (go_simp; go_at_call 121; (with_reducible refine (HU.out _ ?_).mono ?_); exact HR.out; rintro en w1 ⟨rfl, hr1, ho1⟩; have cq1 := (ho1.cell hqW hne).trans cq; have a0 := (ho1.cell hz htp).trans c0; have a1 := (ho1.cell hz htp).trans c1; have b0 := (ho1.frozen hz htp).trans f0; have b1 := (ho1.frozen hz htp).trans f1; have hz1 := Nat.lt_of_lt_of_le hz ho1.size)
    | (go_simp; go_at_call 91; (with_reducible refine (HX.out _ ?_).mono ?_); exact hr1; rintro en w2 ⟨rfl, hr2, ho2⟩; have a2 := (ho2.cell hz1 htp).trans a0; have a3 := (ho2.cell hz1 htp).trans a1; have b2 := (ho2.frozen hz1 htp).trans b0; have b3 := (ho2.frozen hz1 htp).trans b1; have hz2 := Nat.lt_of_lt_of_le hz1 ho2.size))
  all_goals go_wp2_with fail
  all_goals refine bodyPost_ret (v := .agg #[.int .u8 k0, .string (bs V)]) (by simp [results, Tryz.results120, go_sem, a2, a3]) rfl ⟨rfl, (hr2.setOther htp _).setOther htp _, ((HO.out.trans (Only.undrew (ho1.trans ho2))).setNew HT.out _).setNew HT.out _⟩
end Go.Proofs.YtlkdfofpnmpidaaGreat

/- tlv: Take, walked. -/
set_option linter.unusedVariables false
namespace Go.Proofs.YtlkdfofpnmpidaaGreat
open Go.RowKit

/-- What is still to be read says what a text is taken as. -/
def Sp (s cur : List UInt8) (out : List Th) : Prop := takeT s = if (takeT cur).2.2 = 0 then (out ++ (takeT cur).1, (takeT cur).2) else ([], [], 3)
theorem Sp.start (s : List UInt8) : Sp s s [] := by
  unfold Sp
  by_cases h : (takeT s).2.2 = 0
  · rw [if_pos h]; rfl
  · rw [if_neg h]; exact takeT_err _ s (Nat.le_refl _) h
theorem Sp.bad {s cur : List UInt8} {out : List Th} (h : Sp s cur out) (hc : takeT cur = ([], [], 3)) : takeT s = ([], [], 3) := by
  unfold Sp at h; rw [hc, if_neg (by decide)] at h; exact h
theorem numOf_two (a b : UInt8) : numOf [a, b] = ((a.toNat * 256 + b.toNat : Nat) : Int) := by simp [numOf]
theorem rd_short (l : List UInt8) (k : Nat) (h : l.length < k) : rdText l 0 k = ([], [], 3) := rdText_short l k h
theorem step_T {s r : List UInt8} {out : List Th} {c : UInt8} (hc : c ≠ 0) (hS : Sp s (c :: r) out) :
    ((tkThing r 0).2.2 = 0 ∧ Sp s (tkThing r 0).2.1 (out ++ [(c, (tkThing r 0).1)]) ∧ (tkThing r 0).2.1.length ≤ r.length) ∨ ((tkThing r 0).2.2 = 3 ∧ (tkThing r 0).2.1 = [] ∧ takeT s = ([], [], 3)) := by
  by_cases h2 : r.length < 2
  · right
    have e0 : rdText r 0 2 = ([], [], 3) := rd_short r 2 h2
    have e : tkThing r 0 = ([], [], 3) := by unfold tkThing; rw [e0]; rfl
    rw [e]; exact ⟨rfl, rfl, hS.bad (takeT_short1 c r hc h2)⟩
  · obtain ⟨a, b, t, rfl⟩ : ∃ a b t, r = a :: b :: t := by
      match r, h2 with
      | [], h => simp at h
      | [_], h => simp at h
      | a :: b :: t, _ => exact ⟨a, b, t, rfl⟩
    have e2 : rdText (a :: b :: t) 0 2 = ([a, b], t, 0) := rdText_app [a, b] t 2 rfl (by omega)
    by_cases h3 : t.length < a.toNat * 256 + b.toNat
    · right
      have e : tkThing (a :: b :: t) 0 = ([], [], 3) := by unfold tkThing; rw [e2]; simp only [numOf_two]; exact rd_short t _ h3
      rw [e]; exact ⟨rfl, rfl, hS.bad (takeT_short2 c a b t hc h3)⟩
    · left
      obtain ⟨t1, t2, rfl, h4⟩ : ∃ t1 t2, t = t1 ++ t2 ∧ t1.length = a.toNat * 256 + b.toNat := ⟨t.take (a.toNat * 256 + b.toNat), t.drop (a.toNat * 256 + b.toNat), (List.take_append_drop _ t).symm, by simp; omega⟩
      have e : tkThing (a :: b :: (t1 ++ t2)) 0 = (t1, t2, 0) := by
        unfold tkThing; rw [e2]; simp only [numOf_two]; rw [← h4]; exact rd_exact t1 t2
      rw [e]
      refine ⟨rfl, ?_, by simp; omega⟩
      unfold Sp at hS ⊢
      rw [takeT_cons c 0 t1 t2 a b hc h4.symm] at hS
      by_cases h5 : (takeT t2).2.2 = 0
      · simp only [if_pos h5] at hS ⊢
        rw [hS]; simp
      · simp only [if_neg h5] at hS ⊢
        first | exact hS | (rw [if_neg (by decide)] at hS; exact hS)
theorem TlT.only {w w' : World} {p B : Nat} {v : Value} {l : List Th} (h : TlT w B v l) (ho : Only p w w') (hp : p < B) : TlT w' B v l := by
  obtain ⟨h1, h2⟩ := h
  refine ⟨h1, ?_⟩
  rcases h2 with h2 | ⟨g, cap, cur, hv, hg, hh, r⟩
  · exact .inl h2
  · refine .inr ⟨g, cap, cur, hv, hg, ?_, r⟩
    have hlt : g < w.heap.size := by
      rcases Nat.lt_or_ge g w.heap.size with h | h
      · exact h
      · rw [Array.getElem?_eq_none h] at hh; cases hh
    rw [ho.block g hlt (by simp; omega)]; exact hh
/-- A new thing behind owned ones leaves the reader as it was. -/
theorem TK.below {w W W' : World} {q : Nat} {l : List UInt8} {e : Int} (h : TK w q W l e) (hb : Below (q + 1) W W') : TK w q W' l e := by
  obtain ⟨h1, h2, h3, h4, h5⟩ := h
  refine ⟨?_, (hb.cell (p := ⟨q, 0, none⟩) (Nat.lt_succ_self q)).trans h2, h3.trans (hb.mono (by omega)), Nat.lt_of_lt_of_le h4 hb.size, h5⟩
  unfold Rd; rw [hb.block _ (by omega)]; exact h1
end Go.Proofs.YtlkdfofpnmpidaaGreat
