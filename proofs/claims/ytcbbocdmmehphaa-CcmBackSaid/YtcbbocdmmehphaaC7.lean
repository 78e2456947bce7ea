/- cfm: the head of a frame; the known message. -/
import Derived.Test.YtcbbocdmmehphaaC6
import Derived.Test.YtcbbocdmmehphaaC2
set_option linter.unusedVariables false
namespace Go.Proofs.Ytcbbocdmmehphaa
open Go.RowKit

set_option maxRecDepth 100000 in
set_option maxHeartbeats 4000000 in
theorem cof_any (d0 d1 d2 d3 d4 d5 s0 s1 s2 s3 s4 s5 p v y : Int) (t : Bool) (f : List UInt8) (w : World) (hl : f.length ≤ 100000) : Calls Try.prog 25 #[.agg #[.int .u8 d0, .int .u8 d1, .int .u8 d2, .int .u8 d3, .int .u8 d4, .int .u8 d5, .int .u8 s0, .int .u8 s1, .int .u8 s2, .int .u8 s3, .int .u8 s4, .int .u8 s5, .bool t, .int .u8 p, .int .u16 v, .int .u16 y, .string (bs f)]] w fun en w' => en = .returned (if y = 35074 then .tuple #[.int .u8 (hdV f).1, .int .u8 (hdV f).2.1, .bool (hdV f).2.2] else .tuple #[.int .u8 0, .int .u8 0, .bool false]) ∧ Below w.heap.size w w' := by
  have H1 := Lib.hid (Head_any f)
  by_cases hy : y = 35074
  · rw [if_pos hy]
    have dy : (y != 35074) = false := by rw [hy]; rfl
    have hb0 := (Below.refl w.heap.size w).alloc (Nat.le_refl _) (.cells #[.int .u8 d0, .int .u8 d1, .int .u8 d2, .int .u8 d3, .int .u8 d4, .int .u8 d5, .int .u8 s0, .int .u8 s1, .int .u8 s2, .int .u8 s3, .int .u8 s4, .int .u8 s5, .bool t, .int .u8 p, .int .u16 v, .int .u16 y, .string (bs f)] 48)
    have HB0 := Lib.hid hb0
    clear hb0 hy
    go_enter Try.func25, Try.ntmps25
    go_wp2_with fail
    with_reducible refine (H1.out _ hl).mono ?_
    rintro en w1 ⟨rfl, hb⟩
    go_wp2
    refine bodyPost_ret (v := .tuple #[.int .u8 (hdV f).1, .int .u8 (hdV f).2.1, .bool (hdV f).2.2]) (by simp [results, Try.results25, go_sem]) rfl ⟨rfl, HB0.out.trans (hb.mono HB0.out.size)⟩
  · rw [if_neg hy]
    have dy : (y != 35074) = true := by rw [bne_iff_ne]; exact hy
    clear hy
    go_enter Try.func25, Try.ntmps25
    go_wp2_with fail
    refine bodyPost_ret (v := .tuple #[.int .u8 0, .int .u8 0, .bool false]) (by simp [results, Try.results25, go_sem]) rfl ⟨rfl, (Below.refl _ _).alloc (Nat.le_refl _) _⟩
def wk12 : List UInt8 := [160, 3, 0, 4, 97, 98, 99, 100, 0]
theorem wk12_take : tkP (wk12 ++ [120]) = (5, 3, 0, [97, 98, 99, 100], [], 0) := by
  show tkP (160 :: 3 :: 0 :: 4 :: [97, 98, 99, 100, 0, 120]) = _
  rw [tkP_cons, if_neg (by decide), if_neg (by decide)]
  rw [show List.drop (4 : UInt8).toNat ([97, 98, 99, 100, 0, 120] : List UInt8) = [0, 120] from rfl, takeT_zero]
  rfl
set_option maxRecDepth 100000 in
set_option maxHeartbeats 4000000 in
theorem wakes12_any (w : World) : Calls Try.prog 16 #[] w fun en w' => en = .returned (.bool true) ∧ Below w.heap.size w w' := by
  have P1 : Hid (∀ w, Calls Try.prog 17 #[.agg #[.int .u8 5, .int .u8 3, .int .u8 0, .string { data := #[97, 98, 99, 100] }, .slice none 0 0]] w fun en w' => en = .returned (.tuple #[.string { data := #[160, 3, 0, 4, 97, 98, 99, 100, 0] }, .int .i64 0]) ∧ Below w.heap.size w w') := by
    have h : ∀ w, Calls Try.prog 17 #[.agg #[.int .u8 5, .int .u8 3, .int .u8 0, .string { data := #[97, 98, 99, 100] }, .slice none 0 0]] w fun en w' => en = .returned (.tuple #[.string { data := #[160, 3, 0, 4, 97, 98, 99, 100, 0] }, .int .i64 0]) ∧ Below w.heap.size w w' := fun w =>
      cput_any (.slice none 0 0) 5 3 0 [97, 98, 99, 100] [] w (Tls.nil w) (by decide) (by simp) (by decide) (by decide) (by omega) (by omega) (by omega)
    exact Lib.hid h
  have T1 : Hid (∀ w, Calls Try.prog 20 #[.string (bs (wk12 ++ [120]))] w fun en w' => ∃ v', en = .returned (.tuple #[.agg #[.int .u8 5, .int .u8 3, .int .u8 0, .string (bs [97, 98, 99, 100]), v'], .int .i64 0]) ∧ TlT w' w.heap.size v' [] ∧ Below w.heap.size w w') := by
    have h : ∀ w, Calls Try.prog 20 #[.string (bs (wk12 ++ [120]))] w fun en w' => ∃ v', en = .returned (.tuple #[.agg #[.int .u8 5, .int .u8 3, .int .u8 0, .string (bs [97, 98, 99, 100]), v'], .int .i64 0]) ∧ TlT w' w.heap.size v' [] ∧ Below w.heap.size w w' := fun w => by
      have h := ctake_any (wk12 ++ [120]) w (by decide)
      rw [wk12_take] at h; exact h
    exact Lib.hid h
  have H1 : Hid (∀ w, Calls Try.prog 22 #[.string { data := #[191, 9, 7, 6] }] w fun en w' => en = .returned (.tuple #[.int .u8 5, .int .u8 9, .bool true]) ∧ Below w.heap.size w w') := by
    have h : ∀ w, Calls Try.prog 22 #[.string { data := #[191, 9, 7, 6] }] w fun en w' => en = .returned (.tuple #[.int .u8 5, .int .u8 9, .bool true]) ∧ Below w.heap.size w w' := fun w => Head_any [191, 9, 7, 6] w (by decide)
    exact Lib.hid h
  have S1 : Hid (∀ u v w, Tls w u [] → Tls w v [] → Calls Try.prog 21 #[.agg #[.int .u8 5, .int .u8 3, .int .u8 0, .string { data := #[97, 98, 99, 100] }, u], .agg #[.int .u8 5, .int .u8 3, .int .u8 0, .string (bs [97, 98, 99, 100]), v]] w fun en w' => en = .returned (.bool true) ∧ Below w.heap.size w w') := by
    have h : ∀ u v w, Tls w u [] → Tls w v [] → Calls Try.prog 21 #[.agg #[.int .u8 5, .int .u8 3, .int .u8 0, .string { data := #[97, 98, 99, 100] }, u], .agg #[.int .u8 5, .int .u8 3, .int .u8 0, .string (bs [97, 98, 99, 100]), v]] w fun en w' => en = .returned (.bool true) ∧ Below w.heap.size w w' := fun u v w hu hv =>
      same12_any u v 5 3 0 5 3 0 [97, 98, 99, 100] [97, 98, 99, 100] [] [] w hu hv (by decide) (by decide)
    exact Lib.hid h
  have hadd : ∀ W : World, (Op.stringOp .add ({ data := #[160, 3, 0, 4, 97, 98, 99, 100, 0] } : ByteArray) { data := #[120] }).run Try.prog W = .ok (.string (bs (wk12 ++ [120]))) W := run_add_bs wk12 [120] (by decide)
  have hadd2 : ({ data := #[160, 3, 0, 4, 97, 98, 99, 100, 0] } : ByteArray) ++ { data := #[120] } = bs (wk12 ++ [120]) := bs_append wk12 [120]
  go_enter Try.func16, Try.ntmps16
  go_upto_region 2 with fail
  have pb0 := PB.new 32 w 5 3 0 [97, 98, 99, 100] (.slice none 0 0)
  have hb0 : Below w.heap.size w (w.alloc (.cells #[.int .u8 5, .int .u8 3, .int .u8 0, .string { data := #[97, 98, 99, 100] }, .slice none 0 0] 32)) := (Below.refl _ _).alloc (Nat.le_refl _) _
  obtain ⟨w1, hw1⟩ : ∃ k, w.alloc (.cells #[.int .u8 5, .int .u8 3, .int .u8 0, .string { data := #[97, 98, 99, 100] }, .slice none 0 0] 32) = k := ⟨_, rfl⟩
  have pb1 : PB 32 w1 w.heap.size 5 3 0 [97, 98, 99, 100] (.slice none 0 0) := by rw [← hw1]; exact pb0
  rw [hw1] at hb0 ⊢
  have c0 := pb1.c0
  have c1 := pb1.c1
  have c2 := pb1.c2
  have c3 : w1.cell? ⟨w.heap.size, 3, none⟩ = some (.string { data := #[97, 98, 99, 100] }) := pb1.c3
  have c4 := pb1.c4
  have PB1 := Lib.hid pb1
  have HB1 := Lib.hid hb0
  clear hw1 pb0 pb1 hb0
  go_wp2_with fail
  with_reducible refine (P1.out _).mono ?_
  rintro en w2 ⟨rfl, hb2⟩
  have PB2 := Lib.hid (PB1.out.later hb2)
  have HB2 := Lib.hid (HB1.out.trans (hb2.mono HB1.out.size))
  clear hb2 PB1 HB1 c0 c1 c2 c3 c4
  go_wp2_with fail
  with_reducible refine (T1.out _).mono ?_
  rintro en w3 ⟨v', rfl, hown, hb3⟩
  have PB3 := Lib.hid (PB2.out.later hb3)
  have HB3 := Lib.hid (HB2.out.trans (hb3.mono HB2.out.size))
  have HT := Lib.hid hown.tls
  obtain ⟨sa, sc, rfl, _⟩ := hown.tls.shape
  clear hb3 PB2 HB2 hown
  go_upto_region 4 with fail
  have q4 := PB.new 32 w3 5 3 0 [97, 98, 99, 100] (.slice sa 0 sc)
  have p4 := PB3.out.later ((Below.refl _ _).alloc (Nat.le_refl _) (.cells #[.int .u8 5, .int .u8 3, .int .u8 0, .string (bs [97, 98, 99, 100]), .slice sa 0 sc] 32))
  have t4 := HT.out.later ((Below.refl _ _).alloc (Nat.le_refl _) (.cells #[.int .u8 5, .int .u8 3, .int .u8 0, .string (bs [97, 98, 99, 100]), .slice sa 0 sc] 32))
  have hb4 : Below w.heap.size w (w3.alloc (.cells #[.int .u8 5, .int .u8 3, .int .u8 0, .string (bs [97, 98, 99, 100]), .slice sa 0 sc] 32)) := HB3.out.alloc HB3.out.size _
  obtain ⟨w4, hw4⟩ : ∃ k, w3.alloc (.cells #[.int .u8 5, .int .u8 3, .int .u8 0, .string (bs [97, 98, 99, 100]), .slice sa 0 sc] 32) = k := ⟨_, rfl⟩
  rw [hw4] at q4 p4 t4 hb4 ⊢
  have Q4 := Lib.hid q4
  have P4 := Lib.hid p4
  have T4 := Lib.hid t4
  have HB4 := Lib.hid hb4
  clear hw4 q4 p4 t4 hb4 PB3 HB3 HT
  go_wp2_with fail
  with_reducible refine (H1.out _).mono ?_
  rintro en w5 ⟨rfl, hb5⟩
  have q5 := Q4.out.later hb5
  have p5 := P4.out.later hb5
  have T5 : Hid (Tls w5 (.slice sa 0 sc) []) := Lib.hid (T4.out.later hb5)
  have HB5 := Lib.hid (HB4.out.trans (hb5.mono HB4.out.size))
  have a0 := p5.c0
  have a1 := p5.c1
  have a2 := p5.c2
  have a3 : w5.cell? ⟨w.heap.size, 3, none⟩ = some (.string { data := #[97, 98, 99, 100] }) := p5.c3
  have a4 := p5.c4
  have b0 := q5.c0
  have b1 := q5.c1
  have b2 := q5.c2
  have b3 := q5.c3
  have b4 := q5.c4
  clear hb5 q5 p5 Q4 P4 T4 HB4
  go_wp2_with fail
  with_reducible refine (S1.out _ _ _ (Tls.nil _) T5.out).mono ?_
  rintro en w6 ⟨rfl, hb6⟩
  go_wp2
  go_ret
  exact ⟨rfl, HB5.out.trans (hb6.mono HB5.out.size)⟩
end Go.Proofs.Ytcbbocdmmehphaa
