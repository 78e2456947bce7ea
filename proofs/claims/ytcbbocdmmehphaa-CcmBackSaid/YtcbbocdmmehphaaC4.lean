/- cfm: the reference's Put. -/
import Derived.Test.YtcbbocdmmehphaaC3
set_option linter.unusedVariables false
namespace Go.Proofs.Ytcbbocdmmehphaa
open Go.RowKit

set_option maxRecDepth 100000 in
set_option maxHeartbeats 4000000 in
theorem refPut12_any (v : Value) (a b c : Int) (f : List UInt8) (l : List Th) (w : World) (hv : Tls w v l) (hl : l.length ≤ 100000) (hs : ∀ x ∈ l, x.2.length ≤ maxLen) (hf : f.length ≤ 1000000) (hm : (putT l).1.length ≤ 1000000000) (ha : 0 ≤ a ∧ a < 256) (hb : 0 ≤ b ∧ b < 256) (hc : 0 ≤ c ∧ c < 256) :
    Calls Try.prog 19 #[.agg #[.int .u8 a, .int .u8 b, .int .u8 c, .string (bs f), v]] w fun en w' => en = .returned (.tuple #[.string (bs (putP a b c f l).1), .int .i64 (putP a b c f l).2]) ∧ Below w.heap.size w w' := by
  obtain ⟨R, hR⟩ : ∃ R, putP a b c f l = R := ⟨_, rfl⟩
  have HR := Lib.hid hR
  rw [hR]; clear hR
  obtain ⟨A, e, hP⟩ : ∃ A e, putT l = (A, e) := ⟨_, _, rfl⟩
  rw [hP] at hm
  have P1 : ∀ w, Tls w v l → Calls Try.prog 68 #[v] w fun en w' => en = .returned (.tuple #[.string (bs A), .int .i64 e]) ∧ Below w.heap.size w w' := fun w h => by
    have h := refPut11_any v l w h hl hs
    rw [hP] at h; exact h
  have HP1 := Lib.hid P1
  have HV := Lib.hid hv
  have HP := Lib.hid hP
  have HA := Lib.hid ha
  have HB := Lib.hid hb
  have HC := Lib.hid hc
  have hsf := bs_size f
  have hMA : A.length ≤ 1000000000 := hm
  obtain ⟨ad, cp, rfl, _⟩ := hv.shape
  clear P1 hv hP hl hs hm
  go_enter Try.func19, Try.ntmps19
  go_upto_region 1 with fail
  have pb0 := PB.new 24 w a b c f (.slice ad l.length cp)
  have hb0 : Below w.heap.size w (w.alloc (.cells #[.int .u8 a, .int .u8 b, .int .u8 c, .string (bs f), .slice ad l.length cp] 24)) := (Below.refl _ _).alloc (Nat.le_refl _) _
  obtain ⟨w1, hw1⟩ : ∃ k, w.alloc (.cells #[.int .u8 a, .int .u8 b, .int .u8 c, .string (bs f), .slice ad l.length cp] 24) = k := ⟨_, rfl⟩
  rw [hw1] at pb0 hb0 ⊢
  have q0 := pb0.c0
  have q3 := pb0.c3
  have q4 := pb0.c4
  have PB0 := Lib.hid pb0
  have HB0 := Lib.hid hb0
  clear hw1 pb0 hb0 ha hb hc
  by_cases h7 : 7 < a
  · have d7 : decide (7 < a) = true := decide_eq_true h7
    have hRR : R = ([], 2) := by rw [← HR.out]; unfold putP; rw [if_pos h7]
    have HRR := Lib.hid hRR
    clear h7 hRR
    go_wp2_with fail
    refine bodyPost_ret (v := .tuple #[.string (bs []), .int .i64 2]) (by simp [results, Try.results19, go_sem]; rfl) rfl ⟨by rw [HRR.out], HB0.out⟩
  have d7 : decide (7 < a) = false := decide_eq_false h7
  by_cases h5 : 255 < f.length
  · have d5 : decide ((255 : Int) < (f.length : Int)) = true := decide_eq_true (by omega)
    have hRR : R = ([], 5) := by rw [← HR.out]; unfold putP; rw [if_neg (by omega), if_pos h5]
    have HRR := Lib.hid hRR
    clear h7 h5 hRR
    go_wp2_with fail
    refine bodyPost_ret (v := .tuple #[.string (bs []), .int .i64 5]) (by simp [results, Try.results19, go_sem]; rfl) rfl ⟨by rw [HRR.out], HB0.out⟩
  have d5 : decide ((255 : Int) < (f.length : Int)) = false := decide_eq_false (by omega)
  go_wp2_with fail
  with_reducible refine (HP1.out _ (HV.out.later HB0.out)).mono ?_
  rintro en w2 ⟨rfl, hb2⟩
  have PB2 := Lib.hid (PB0.out.later hb2)
  have HB2 := Lib.hid (HB0.out.trans (hb2.mono HB0.out.size))
  clear hb2 PB0 HB0 q0 q3 q4
  by_cases he : e = 0
  · have hRR : R = (hdP a b c f ++ f ++ A, 0) := by rw [← HR.out]; unfold putP; rw [if_neg (by omega), if_neg (by omega), HP.out, if_pos he]
    have hH : (hdP a b c f).length = 4 := rfl
    have a1 := run_add_bs (hdP a b c f) f (by rw [hH]; omega)
    have a2 := run_add_bs (hdP a b c f ++ f) A (by rw [List.length_append, hH]; omega)
    have w8 : IntKind.u8.wrap (a * 32) = a * 32 := IntWalk.u8_in _ (by have := HA.out; omega)
    have wL : IntKind.u8.wrap (f.length : Int) = (f.length : Int) := IntWalk.u8_in _ (by omega)
    have hcv : ∀ W : World, (convert 124 9 (.slice (some ⟨W.heap.size, 0, none⟩) 4 4)).run Try.prog (W.alloc (.cells #[.int .u8 (a * 32), .int .u8 b, .int .u8 c, .int .u8 (f.length : Int)] 5)) = .ok (.string (bs (hdP a b c f))) (W.alloc (.cells #[.int .u8 (a * 32), .int .u8 b, .int .u8 c, .int .u8 (f.length : Int)] 5)) := fun W => run_string_src (src4 W _ _ _ _ _ (by have := HA.out; omega) HB.out HC.out (by omega))
    obtain ⟨H, hHH⟩ : ∃ H, hdP a b c f = H := ⟨_, rfl⟩
    rw [hHH] at a1 a2 hcv hRR
    have p0 := PB2.out.c0
    have p1 := PB2.out.c1
    have p2 := PB2.out.c2
    have p3 := PB2.out.c3
    have p3a : ∀ o : Obj, (w2.alloc o).cell? ⟨w.heap.size, 3, none⟩ = some (.string (bs f)) := fun o => (PB2.out.later ((Below.refl _ _).alloc (Nat.le_refl _) o)).c3
    have H3 := Lib.hid hRR
    clear hRR h7 h5 hH hHH
    subst he
    go_wp2_with fail
    refine bodyPost_ret (v := .tuple #[.string (bs (H ++ f ++ A)), .int .i64 0]) (by simp [results, Try.results19, go_sem]) rfl ⟨by rw [H3.out], HB2.out.alloc HB2.out.size _⟩
  · have d0 : (e != 0) = true := by rw [bne_iff_ne]; exact he
    have hRR : R = ([], e) := by rw [← HR.out]; unfold putP; rw [if_neg (by omega), if_neg (by omega), HP.out, if_neg he]
    have H3 := Lib.hid hRR
    clear hRR h7 h5 he
    go_wp2_with fail
    refine bodyPost_ret (v := .tuple #[.string (bs []), .int .i64 e]) (by simp [results, Try.results19, go_sem]; rfl) rfl ⟨by rw [H3.out], HB2.out⟩
end Go.Proofs.Ytcbbocdmmehphaa
