/- cfm: Put. -/
import Derived.Test.YtcbbocdmmehphaaC0
import Derived.Test.YtcbbocdmmehphaaT4
import Derived.Test.YtcbbocdmmehphaaT5
import Derived.StillTailTactics
set_option linter.unusedVariables false
namespace Go.Proofs.Ytcbbocdmmehphaa
open Go.RowKit

/-- A number's byte. -/
def byt (a : Int) : UInt8 := UInt8.ofNat a.toNat
theorem byt_nat (a : Int) (h : 0 ≤ a ∧ a < 256) : ((byt a).toNat : Int) = a := by
  unfold byt; simp; omega
theorem byteV_byt (a : Int) (h : 0 ≤ a ∧ a < 256) : byteV (byt a) = .int .u8 a := by unfold byteV; rw [byt_nat a h]
theorem byt_of (c : UInt8) : byt (c.toNat : Int) = c := by unfold byt; simp
theorem src4 (W : World) (T : TypeId) (x y z t : Int) (hx : 0 ≤ x ∧ x < 256) (hy : 0 ≤ y ∧ y < 256) (hz : 0 ≤ z ∧ z < 256) (ht : 0 ≤ t ∧ t < 256) : Src (W.alloc (.cells #[.int .u8 x, .int .u8 y, .int .u8 z, .int .u8 t] T)) (.slice (some ⟨W.heap.size, 0, none⟩) 4 4) [byt x, byt y, byt z, byt t] := by
  refine .inr ⟨⟨W.heap.size, 0, none⟩, 4, rfl, fun j hj => ?_⟩
  rw [Go.WideShapes.add_plain]
  have hh : (W.alloc (.cells #[.int .u8 x, .int .u8 y, .int .u8 z, .int .u8 t] T)).heap[W.heap.size]? = some (.cells #[.int .u8 x, .int .u8 y, .int .u8 z, .int .u8 t] T) := heap_alloc_new W _
  generalize W.alloc (.cells #[.int .u8 x, .int .u8 y, .int .u8 z, .int .u8 t] T) = X at hh
  have : j = 0 ∨ j = 1 ∨ j = 2 ∨ j = 3 := by have : j < 4 := hj; omega
  rcases this with rfl | rfl | rfl | rfl
  · simp [World.cell?, hh, byteV_byt _ hx]
  · simp [World.cell?, hh, byteV_byt _ hy]
  · simp [World.cell?, hh, byteV_byt _ hz]
  · simp [World.cell?, hh, byteV_byt _ ht]
/-- A message's head. -/
def hdP (a b c : Int) (f : List UInt8) : List UInt8 := [byt (a * 32), byt b, byt c, byt (f.length : Int)]
/-- A message's bytes, and the error. -/
def putP (a b c : Int) (f : List UInt8) (l : List Th) : List UInt8 × Int :=
  if 7 < a then ([], 2) else if 255 < f.length then ([], 5) else if (putT l).2 = 0 then (hdP a b c f ++ f ++ (putT l).1, 0) else ([], (putT l).2)

set_option maxRecDepth 100000 in
set_option maxHeartbeats 1000000 in
theorem wrong_any (t : Bool) (x : Int) (w : World) : Calls Try.prog 67 #[.bool t, .int .i64 x] w fun en w' => en = .returned (.int .i64 (if t = true then x else 0)) ∧ w' = w := by
  cases t with
  | true =>
    go_enter Try.func67, Try.ntmps67
    go_wp2
    go_ret
    exact ⟨rfl, rfl⟩
  | false =>
    go_enter Try.func67, Try.ntmps67
    go_wp2
    go_ret
    exact ⟨rfl, rfl⟩
/-- The first of some errors. -/
def fst3 (x y z : Int) : Int := if x ≠ 0 then x else if y ≠ 0 then y else z
set_option maxRecDepth 100000 in
set_option maxHeartbeats 2000000 in
theorem first3_any (q : Nat) (x y z : Int) (w : World) (c0 : w.cell? ⟨q, 0, none⟩ = some (.int .i64 x)) (c1 : w.cell? ⟨q, 1, none⟩ = some (.int .i64 y)) (c2 : w.cell? ⟨q, 2, none⟩ = some (.int .i64 z)) : Calls Try.prog 66 #[.slice (some ⟨q, 0, none⟩) 3 3] w fun en w' => en = .returned (.int .i64 (fst3 x y z)) ∧ w = w' := by
  unfold fst3
  go_enter Try.func66, Try.ntmps66
  go_wp2_with fail
  refine wp_loop_rounds 4 ?_
  rw [rounds_succ]
  by_cases hx : x = 0
  · subst hx
    go_wp2_with fail
    rw [rounds_succ]
    by_cases hy : y = 0
    · subst hy
      go_wp2_with fail
      rw [rounds_succ]
      by_cases hz : z = 0
      · subst hz
        go_wp2_with fail
        rw [rounds_succ]
        go_wp2_with fail
        go_ret
        exact ⟨rfl, rfl⟩
      · have dz : (z != 0) = true := by rw [bne_iff_ne]; exact hz
        clear hz
        go_wp2_with fail
        go_ret
        exact ⟨rfl, rfl⟩
    · have dy : (y != 0) = true := by rw [bne_iff_ne]; exact hy
      have H := Lib.hid hy
      clear hy
      go_wp2_with fail
      go_ret
      exact ⟨rfl, rfl⟩
  · have dx : (x != 0) = true := by rw [bne_iff_ne]; exact hx
    have H := Lib.hid hx
    clear hx
    go_wp2_with fail
    go_ret
    exact ⟨rfl, rfl⟩
theorem first2_any (q : Nat) (x y : Int) (w : World) (c0 : w.cell? ⟨q, 0, none⟩ = some (.int .i64 x)) (c1 : w.cell? ⟨q, 1, none⟩ = some (.int .i64 y)) : Calls Try.prog 66 #[.slice (some ⟨q, 0, none⟩) 2 2] w fun en w' => en = .returned (.int .i64 (if x ≠ 0 then x else y)) ∧ w = w' := by
  go_enter Try.func66, Try.ntmps66
  go_wp2_with fail
  refine wp_loop_rounds 3 ?_
  rw [rounds_succ]
  by_cases hx : x = 0
  · subst hx
    go_wp2_with fail
    rw [rounds_succ]
    by_cases hy : y = 0
    · subst hy
      go_wp2_with fail
      rw [rounds_succ]
      go_wp2_with fail
      go_ret
      exact ⟨rfl, rfl⟩
    · have dy : (y != 0) = true := by rw [bne_iff_ne]; exact hy
      clear hy
      go_wp2_with fail
      go_ret
      exact ⟨rfl, rfl⟩
  · have dx : (x != 0) = true := by rw [bne_iff_ne]; exact hx
    have H := Lib.hid hx
    clear hx
    go_wp2_with fail
    go_ret
    exact ⟨rfl, rfl⟩
theorem putP_len (a b c : Int) (f : List UInt8) (l : List Th) : (putP a b c f l).1.length ≤ 4 + f.length + (putT l).1.length := by
  unfold putP hdP
  repeat' split
  all_goals simp
  all_goals omega
set_option maxRecDepth 100000 in
set_option maxHeartbeats 4000000 in
theorem cput_any (v : Value) (a b c : Int) (f : List UInt8) (l : List Th) (w : World) (hv : Tls w v l) (hl : l.length ≤ 100000) (hs : ∀ x ∈ l, x.2.length ≤ maxLen) (hf : f.length ≤ 1000000) (hm : (putT l).1.length ≤ 1000000000) (ha : 0 ≤ a ∧ a < 256) (hb : 0 ≤ b ∧ b < 256) (hc : 0 ≤ c ∧ c < 256) :
    Calls Try.prog 17 #[.agg #[.int .u8 a, .int .u8 b, .int .u8 c, .string (bs f), v]] w fun en w' => en = .returned (.tuple #[.string (bs (putP a b c f l).1), .int .i64 (putP a b c f l).2]) ∧ Below w.heap.size w w' := by
  obtain ⟨R, hR⟩ : ∃ R, putP a b c f l = R := ⟨_, rfl⟩
  have HR := Lib.hid hR
  rw [hR]; clear hR
  obtain ⟨A, e, hP⟩ : ∃ A e, putT l = (A, e) := ⟨_, _, rfl⟩
  rw [hP] at hm
  have P1 : ∀ w, Tls w v l → Calls Try.prog 65 #[v] w fun en w' => en = .returned (.tuple #[.string (bs A), .int .i64 e]) ∧ Below w.heap.size w w' := fun w h => by
    have h := tput_any v l w h hl hs
    rw [hP] at h; exact h
  have HP1 := Lib.hid P1
  have HV := Lib.hid hv
  have HP := Lib.hid hP
  have HA := Lib.hid ha
  have HB := Lib.hid hb
  have HC := Lib.hid hc
  have hsf := bs_size f
  have hMA : A.length ≤ 1000000000 := hm
  obtain ⟨ad, cp, rfl, _⟩ := hv.shape
  clear P1 hv hP hl hs hm
  go_enter Try.func17, Try.ntmps17
  go_upto_region 1 with fail
  have pb0 := PB.new 32 w a b c f (.slice ad l.length cp)
  have hb0 : Below w.heap.size w (w.alloc (.cells #[.int .u8 a, .int .u8 b, .int .u8 c, .string (bs f), .slice ad l.length cp] 32)) := (Below.refl _ _).alloc (Nat.le_refl _) _
  obtain ⟨w1, hw1⟩ : ∃ k, w.alloc (.cells #[.int .u8 a, .int .u8 b, .int .u8 c, .string (bs f), .slice ad l.length cp] 32) = k := ⟨_, rfl⟩
  rw [hw1] at pb0 hb0 ⊢
  have c4 := pb0.c4
  have PB0 := Lib.hid pb0
  have HB0 := Lib.hid hb0
  clear hw1 pb0 hb0 ha hb hc
  go_wp2_with fail
  with_reducible refine (HP1.out _ (HV.out.later HB0.out)).mono ?_
  rintro en w2 ⟨rfl, hb2⟩
  have PB2 := Lib.hid (PB0.out.later hb2)
  have HB2 := Lib.hid (HB0.out.trans (hb2.mono HB0.out.size))
  clear hb2 PB0 HB0 c4
  go_upto_region 2 with fail
  have p0 := PB2.out.c0
  have p3 := PB2.out.c3
  have p0d : w2.drew.cell? ⟨w.heap.size, 0, none⟩ = some (.int .u8 a) := p0
  have p3d : w2.drew.cell? ⟨w.heap.size, 3, none⟩ = some (.string (bs f)) := p3
  refine wp_region_still_tail 10 (by kernel_rfl) (by kernel_rfl) ?_
  simp only [List.take_succ_cons, List.take_zero, List.drop_succ_cons, List.drop_zero]
  iterate 3 still_step
  still_call (wrong_any _ _ _)
  iterate 4 still_step
  still_call (wrong_any _ _ _)
  still_step
  try refine wpStill_nil ?_
  obtain ⟨X, hX⟩ : ∃ X : Int, (if 7 < a then (2 : Int) else 0) = X := ⟨_, rfl⟩
  obtain ⟨Y, hY⟩ : ∃ Y : Int, (if (255 : Int) < (f.length : Int) then (5 : Int) else 0) = Y := ⟨_, rfl⟩
  rw [hX, hY]
  change wpList _ _ _ _ _ w2.drew
  have pb3 : PB 32 w2.drew w.heap.size a b c f (.slice ad l.length cp) := PB2.out
  have hb3 : Below w.heap.size w w2.drew := HB2.out.drew
  obtain ⟨w3, hw3⟩ : ∃ k, w2.drew = k := ⟨_, rfl⟩
  rw [hw3] at pb3 hb3 ⊢
  have PB3 := Lib.hid pb3
  have HB3 := Lib.hid hb3
  have HX := Lib.hid hX
  have HY := Lib.hid hY
  clear hX hY hw3 pb3 hb3 p0 p3 p0d p3d PB2 HB2
  go_wp2_with fail
  with_reducible refine (first3_any _ X Y e _ (by simp [go_sem]) (by simp [go_sem]) (by simp [go_sem])).mono ?_
  rintro en _ ⟨rfl, rfl⟩
  have PB4 := Lib.hid (PB3.out.later ((Below.refl _ _).alloc (Nat.le_refl _) (.cells #[.int .i64 X, .int .i64 Y, .int .i64 e] 27)))
  have hb4 : Below w.heap.size w (w3.alloc (.cells #[.int .i64 X, .int .i64 Y, .int .i64 e] 27)) := HB3.out.alloc HB3.out.size _
  obtain ⟨w4, hw4⟩ : ∃ k, w3.alloc (.cells #[.int .i64 X, .int .i64 Y, .int .i64 e] 27) = k := ⟨_, rfl⟩
  rw [hw4] at PB4 hb4 ⊢
  have HB4 := Lib.hid hb4
  obtain ⟨G, hG⟩ : ∃ G, fst3 X Y e = G := ⟨_, rfl⟩
  have hRR : (G = 0 ∧ a ≤ 7 ∧ f.length ≤ 255 ∧ R = (hdP a b c f ++ f ++ A, 0)) ∨ (G ≠ 0 ∧ R = ([], G)) := by
    rw [← HR.out, ← hG, ← HX.out, ← HY.out]
    unfold putP fst3
    rw [HP.out]
    by_cases h7 : 7 < a
    · right; rw [if_pos h7, if_pos h7, if_pos (by decide)]; exact ⟨by decide, rfl⟩
    · rw [if_neg h7, if_neg h7, if_neg (by decide)]
      by_cases h5 : 255 < f.length
      · right; rw [if_pos h5, if_pos (show (255 : Int) < (f.length : Int) by omega), if_pos (by decide)]; exact ⟨by decide, rfl⟩
      · rw [if_neg h5, if_neg (show ¬ (255 : Int) < (f.length : Int) by omega), if_neg (by decide)]
        by_cases he : e = 0
        · left; rw [if_pos he]; exact ⟨he, by omega, by omega, rfl⟩
        · right; rw [if_neg he]; exact ⟨he, rfl⟩
  rw [hG]
  clear hw4 hb4 hG PB3 HB3
  rcases hRR with ⟨h0, h1, h2, h3⟩ | ⟨h0, h3⟩
  · have hH : (hdP a b c f).length = 4 := rfl
    have a1 := run_add_bs (hdP a b c f) f (by rw [hH]; omega)
    have a2 := run_add_bs (hdP a b c f ++ f) A (by rw [List.length_append, hH]; omega)
    have w8 : IntKind.u8.wrap (a * 32) = a * 32 := IntWalk.u8_in _ (by have := HA.out; omega)
    have wL : IntKind.u8.wrap (f.length : Int) = (f.length : Int) := IntWalk.u8_in _ (by omega)
    have hcv : ∀ W : World, (convert 124 9 (.slice (some ⟨W.heap.size, 0, none⟩) 4 4)).run Try.prog (W.alloc (.cells #[.int .u8 (a * 32), .int .u8 b, .int .u8 c, .int .u8 (f.length : Int)] 5)) = .ok (.string (bs (hdP a b c f))) (W.alloc (.cells #[.int .u8 (a * 32), .int .u8 b, .int .u8 c, .int .u8 (f.length : Int)] 5)) := fun W => run_string_src (src4 W _ _ _ _ _ (by have := HA.out; omega) HB.out HC.out (by omega))
    obtain ⟨H, hHH⟩ : ∃ H, hdP a b c f = H := ⟨_, rfl⟩
    rw [hHH] at a1 a2 hcv h3
    have d0 : (G != 0) = false := by rw [h0]; rfl
    have p0 := PB4.out.c0
    have p1 := PB4.out.c1
    have p2 := PB4.out.c2
    have p3 := PB4.out.c3
    have p3a : ∀ o : Obj, (w4.alloc o).cell? ⟨w.heap.size, 3, none⟩ = some (.string (bs f)) := fun o => (PB4.out.later ((Below.refl _ _).alloc (Nat.le_refl _) o)).c3
    have H3 := Lib.hid h3
    clear h0 h1 h2 h3 hH hHH
    go_wp2_with fail
    refine bodyPost_ret (v := .tuple #[.string (bs (H ++ f ++ A)), .int .i64 0]) (by simp [results, Try.results17, go_sem]) rfl ⟨by rw [H3.out], HB4.out.alloc HB4.out.size _⟩
  · have d0 : (G != 0) = true := by rw [bne_iff_ne]; exact h0
    have H3 := Lib.hid h3
    clear h0 h3
    go_wp2_with fail
    refine bodyPost_ret (v := .tuple #[.string (bs []), .int .i64 G]) (by simp [results, Try.results17, go_sem]; rfl) rfl ⟨by rw [H3.out], HB4.out⟩
end Go.Proofs.Ytcbbocdmmehphaa
