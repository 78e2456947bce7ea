/- wire: the walk of WireReads. -/
import Derived.Test.YtknahemnmboidaaW7
import Derived.Test.YtknahemnmboidaaRW1
import Derived.Deep.LoopGhost
import Derived.Deep.CutBlock
set_option linter.unusedVariables false
namespace Go.Proofs.Ytknahemnmboidaa
open Go.RowKit

/-- The reference's reader in a variable. -/
def Rf (w : World) (q : Nat) (l : List UInt8) (e : Int) : Prop := w.heap[q]? = some (.cells #[.string (bs l), .int .i64 e] 73 (0, 0))
theorem Rf.lt {w : World} {p : Nat} {l : List UInt8} {e : Int} (h : Rf w p l e) : p < w.heap.size := by
  rcases Nat.lt_or_ge p w.heap.size with h1 | h1
  · exact h1
  · unfold Rf at h; rw [Array.getElem?_eq_none h1] at h; cases h
theorem Rf.c0 {w : World} {p : Nat} {l : List UInt8} {e : Int} (h : Rf w p l e) : w.cell? ⟨p, 0, none⟩ = some (.string (bs l)) := by
  unfold Rf at h; simp [World.cell?, h]
theorem Rf.c1 {w : World} {p : Nat} {l : List UInt8} {e : Int} (h : Rf w p l e) : w.cell? ⟨p, 1, none⟩ = some (.int .i64 e) := by
  unfold Rf at h; simp [World.cell?, h]
theorem Rf.f0 {w : World} {p : Nat} {l : List UInt8} {e : Int} (h : Rf w p l e) : w.frozen? ⟨p, 0, none⟩ = false := by
  unfold Rf at h; simp [World.frozen?, h]
theorem Rf.f1 {w : World} {p : Nat} {l : List UInt8} {e : Int} (h : Rf w p l e) : w.frozen? ⟨p, 1, none⟩ = false := by
  unfold Rf at h; simp [World.frozen?, h]
theorem Rf.set {w : World} {p : Nat} {l : List UInt8} {e : Int} (h : Rf w p l e) (l' : List UInt8) (e' : Int) : Rf ((w.setCell ⟨p, 0, none⟩ (.string (bs l'))).setCell ⟨p, 1, none⟩ (.int .i64 e')) p l' e' := by
  unfold Rf at *
  simp [World.setCell, Array.getElem?_modify, h]
theorem Rf.later {q : Nat} {w w' : World} {l : List UInt8} {e : Int} (hr : Rf w q l e) (h : Below w.heap.size w w') : Rf w' q l e := by
  unfold Rf; rw [h.block q hr.lt]; exact hr
theorem Only.rf {p q : Nat} {w w' : World} (h : Only p w w') (hne : q ≠ p) {l : List UInt8} {e : Int} (hr : Rf w q l e) : Rf w' q l e := by
  unfold Rf; rw [h.block q hr.lt (by simpa using hne)]; exact hr
/-- What the loop keeps: both readers alike. -/
def RS (w : World) (p q : Nat) (sl : List UInt8) (e : Int) (W : World) : Prop :=
  Rd W p sl e ∧ Rf W q sl e ∧ Below w.heap.size w W ∧ sl.length ≤ 1000
theorem rdText_le (l : List UInt8) (e n : Int) : (rdText l e n).2.1.length ≤ l.length := by
  unfold rdText
  repeat' split
  all_goals simp
theorem rdFail_le (l : List UInt8) (e n : Int) : (rdFail l e n).1.length ≤ l.length := by
  unfold rdFail
  split <;> simp
theorem rdEnd_le (l : List UInt8) (e : Int) : (rdEnd l e).1.length ≤ l.length := by
  unfold rdEnd
  split
  · exact rdFail_le _ _ _
  · simp
/-- Behind the program's reader. -/
theorem RS.mid {w W W1 : World} {p q : Nat} {sl sl' : List UInt8} {e e' : Int} (h : RS w p q sl e W) (hpq : p < q) (hp : w.heap.size ≤ p) (hr : Rd W1 p sl' e') (ho : Only p W W1) : Rf W1 q sl e ∧ Below w.heap.size w W1 :=
  ⟨ho.rf (by omega) h.2.1, h.2.2.1.trans (ho.below hp h.2.2.1.size)⟩
/-- Behind both. -/
theorem RS.next {w W1 W2 : World} {p q : Nat} {sl sl' : List UInt8} {e e' : Int} (hpq : p < q) (hp : w.heap.size ≤ p) (hr : Rd W1 p sl' e') (hf : Rf W1 q sl e) (hB : Below w.heap.size w W1) (hb : Below W1.heap.size W1 W2) (hl : sl'.length ≤ 1000) :
    RS w p q sl' e' ((W2.setCell ⟨q, 0, none⟩ (.string (bs sl'))).setCell ⟨q, 1, none⟩ (.int .i64 e')) := by
  refine ⟨?_, (hf.later hb).set sl' e', ((hB.trans (hb.mono hB.size)).setCell (p := ⟨q, 0, none⟩) (by show _ ≤ q; omega) _).setCell (p := ⟨q, 1, none⟩) (by show _ ≤ q; omega) _, hl⟩
  unfold Rd
  rw [Below.heap_setCell _ _ _ _ (by show p ≠ q; omega), Below.heap_setCell _ _ _ _ (by show p ≠ q; omega)]
  exact hr.later hb

set_option maxRecDepth 100000 in
set_option maxHeartbeats 4000000 in
theorem WireReads_walk (s : ByteArray) (v : Value) (l : List (Int × Int)) (w : World) (hs : s.size ≤ maxLen) (hA : Pairs .u8 .i64 w v l) :
    Calls Try.prog 11 #[.string s, v] w fun e w' => e = .returned (.bool true) ∧ Below w.heap.size w w' := by
  unfold maxLen at hs
  obtain ⟨a, len, cap, rfl, hlen, hmax, hP⟩ := hA
  unfold maxLen at hmax
  have hA' : Pairs .u8 .i64 w (.slice a len cap) l := ⟨a, len, cap, rfl, hlen, by unfold maxLen; omega, hP⟩
  have HA := Lib.hid hA'
  have HL := Lib.hid hlen
  clear hlen hP hA'
  by_cases h1 : 1000 < s.size
  · go_enter Try.func11, Try.ntmps11
    go_wp2_with (go_at_call 28; refine (wakesW_any _).mono ?_; rintro en w' ⟨rfl, hb⟩)
    go_ret
    exact ⟨rfl, hb⟩
  by_cases h2 : 100 < len
  · go_enter Try.func11, Try.ntmps11
    go_wp2_with (go_at_call 28; refine (wakesW_any _).mono ?_; rintro en w' ⟨rfl, hb⟩)
    go_ret
    exact ⟨rfl, hb⟩
  obtain ⟨sl, rfl⟩ : ∃ sl, s = bs sl := ⟨_, bs_of s⟩
  rw [bs_size] at h1 hs
  have hsz := bs_size sl
  go_enter Try.func11, Try.ntmps11
  go_wp2_with fail
  refine (of_any sl w).mono ?_
  rintro en w1 ⟨rfl, hr, hb, hlt⟩
  have HR := Lib.hid hr
  have HB := Lib.hid hb
  clear hr hb
  go_wp2
  refine forget (fun W => RS w w.heap.size w1.heap.size sl 0 W) ⟨HR.out.later ((Below.refl _ _).alloc (by simp) _), heap_alloc_new w1 _, HB.out.alloc HB.out.size _, by omega⟩ ?_
  obtain ⟨q, hq⟩ : ∃ q, q = w1.heap.size := ⟨_, rfl⟩
  rw [← hq] at hlt ⊢
  clear hq HR HB hsz hs
  rintro W hRS
  go_loopg [7] len (fun g i wx => ∃ k : Nat, k ≤ len ∧ g = len - k ∧ i = .int .i64 k ∧ ∃ sl e, RS w w.heap.size q sl e wx)
  case atStart => exact ⟨0, by omega, by omega, rfl, sl, 0, hRS⟩
  case round =>
    obtain ⟨k, hk, rfl, rfl, sl, e, hRS⟩ := hrel
    by_cases hlt2 : k < len
    · obtain ⟨a', len', cap', he0, he1, _, hwf, hP⟩ := HA.out
      simp only [Value.slice.injEq] at he0
      obtain ⟨rfl, rfl, rfl⟩ := he0
      have hkl : k < l.length := by rw [← he1]; exact hlt2
      obtain ⟨b, off, rfl, hc⟩ := hP.resolve_left (by intro h; rw [h] at hkl; simp at hkl)
      have hbw := World.block_lt_of_cell? w _ (hc k hkl).1
      have cd := (hRS.2.2.1.cell hbw).trans (hc k hkl).1
      have cn := (hRS.2.2.1.cell (p := ⟨b, off + k * 2 + 1, none⟩) hbw).trans (hc k hkl).2
      have CN := Lib.hid (hc k hkl).2
      have hw := (hwf l[k] (List.getElem_mem hkl))
      generalize l[k].1 = d at *
      generalize l[k].2 = N at *
      obtain ⟨dlo, dhi⟩ := bounds_u8 hw.1
      clear hc hwf hw he1
      have HRS := Lib.hid hRS
      have c0 := hRS.1.c0
      clear hRS
      have hslen : sl.length ≤ 1000 := HRS.out.2.2.2
      have HK := Lib.hid hkl
      clear hkl
      go_upto_block 2 with fail
      go_cut [8, 9, 10, 11, 12] (fun s8 s9 s10 s11 s12 wc => ∃ (n : Int) (t : List UInt8) (sl : List UInt8) (e : Int), s8 = .int .u64 n ∧ s9 = .int .u64 n ∧ s10 = .string (bs t) ∧ s11 = .string (bs t) ∧ RS w w.heap.size q sl e wc)
      case first =>
        by_cases d0 : d = 0
        · subst d0
          have hN0 := (numOf_bd (rdText sl e 1).1).1
          have hN1 := numOf_lt (rdText sl e 1).1 1 256 (rdText_len _ _ _) (by decide)
          go_wp2_with fail
          refine (U8_any w.heap.size sl e _ HRS.out.1 (by omega)).mono ?_
          rintro en w2 ⟨rfl, hr, ho⟩
          obtain ⟨hf, hB⟩ := HRS.out.mid hlt (Nat.le_refl _) hr ho
          have r0 := hf.c0
          have r1 := hf.c1
          have HR := Lib.hid hr
          have HF := Lib.hid hf
          have HB := Lib.hid hB
          clear hr ho hf hB
          go_wp2_with fail
          refine (refNum_any sl e 1 _ (by omega) (by omega)).mono ?_
          rintro en w3 ⟨rfl, hb⟩
          have f3 := HF.out.later hb
          have s0 := f3.c0
          have s1 := f3.c1
          have s2 := f3.f0
          have s3 := f3.f1
          have HB3 := Lib.hid hb
          clear hb f3
          go_wp2_with fail
          go_meet
          exact ⟨_, [], _, _, rfl, rfl, rfl, rfl, RS.next hlt (Nat.le_refl _) HR.out HF.out HB.out HB3.out (by have := rdText_le sl e 1; omega)⟩
        by_cases d1 : d = 1
        · subst d1
          have hN0 := (numOf_bd (rdText sl e 2).1).1
          have hN1 := numOf_lt (rdText sl e 2).1 2 65536 (rdText_len _ _ _) (by decide)
          go_wp2_with fail
          refine (U16_any w.heap.size sl e _ HRS.out.1 (by omega)).mono ?_
          rintro en w2 ⟨rfl, hr, ho⟩
          obtain ⟨hf, hB⟩ := HRS.out.mid hlt (Nat.le_refl _) hr ho
          have r0 := hf.c0
          have r1 := hf.c1
          have HR := Lib.hid hr
          have HF := Lib.hid hf
          have HB := Lib.hid hB
          clear hr ho hf hB
          go_wp2_with fail
          refine (refNum_any sl e 2 _ (by omega) (by omega)).mono ?_
          rintro en w3 ⟨rfl, hb⟩
          have f3 := HF.out.later hb
          have s0 := f3.c0
          have s1 := f3.c1
          have s2 := f3.f0
          have s3 := f3.f1
          have HB3 := Lib.hid hb
          clear hb f3
          go_wp2_with fail
          go_meet
          exact ⟨_, [], _, _, rfl, rfl, rfl, rfl, RS.next hlt (Nat.le_refl _) HR.out HF.out HB.out HB3.out (by have := rdText_le sl e 2; omega)⟩
        by_cases d2 : d = 2
        · subst d2
          have hN0 := (numOf_bd (rdText sl e 4).1).1
          have hN1 := numOf_lt (rdText sl e 4).1 4 4294967296 (rdText_len _ _ _) (by decide)
          go_wp2_with fail
          refine (U32_any w.heap.size sl e _ HRS.out.1 (by omega)).mono ?_
          rintro en w2 ⟨rfl, hr, ho⟩
          obtain ⟨hf, hB⟩ := HRS.out.mid hlt (Nat.le_refl _) hr ho
          have r0 := hf.c0
          have r1 := hf.c1
          have HR := Lib.hid hr
          have HF := Lib.hid hf
          have HB := Lib.hid hB
          clear hr ho hf hB
          go_wp2_with fail
          refine (refNum_any sl e 4 _ (by omega) (by omega)).mono ?_
          rintro en w3 ⟨rfl, hb⟩
          have f3 := HF.out.later hb
          have s0 := f3.c0
          have s1 := f3.c1
          have s2 := f3.f0
          have s3 := f3.f1
          have HB3 := Lib.hid hb
          clear hb f3
          go_wp2_with fail
          go_meet
          exact ⟨_, [], _, _, rfl, rfl, rfl, rfl, RS.next hlt (Nat.le_refl _) HR.out HF.out HB.out HB3.out (by have := rdText_le sl e 4; omega)⟩
        by_cases d3 : d = 3
        · subst d3
          have hN0 := (numOf_bd (rdText sl e 8).1).1
          have hN1 := numOf_lt (rdText sl e 8).1 8 18446744073709551616 (rdText_len _ _ _) (by decide)
          go_wp2_with fail
          refine (U64_any w.heap.size sl e _ HRS.out.1 (by omega)).mono ?_
          rintro en w2 ⟨rfl, hr, ho⟩
          obtain ⟨hf, hB⟩ := HRS.out.mid hlt (Nat.le_refl _) hr ho
          have r0 := hf.c0
          have r1 := hf.c1
          have HR := Lib.hid hr
          have HF := Lib.hid hf
          have HB := Lib.hid hB
          clear hr ho hf hB
          go_wp2_with fail
          refine (refNum_any sl e 8 _ (by omega) (by omega)).mono ?_
          rintro en w3 ⟨rfl, hb⟩
          have f3 := HF.out.later hb
          have s0 := f3.c0
          have s1 := f3.c1
          have s2 := f3.f0
          have s3 := f3.f1
          have HB3 := Lib.hid hb
          clear hb f3
          go_wp2_with fail
          go_meet
          exact ⟨_, [], _, _, rfl, rfl, rfl, rfl, RS.next hlt (Nat.le_refl _) HR.out HF.out HB.out HB3.out (by have := rdText_le sl e 8; omega)⟩
        by_cases d4 : d = 4
        · subst d4
          go_wp2_with fail
          refine (text_any w.heap.size sl e N _ HRS.out.1 (by omega)).mono ?_
          rintro en w2 ⟨rfl, hr, ho⟩
          obtain ⟨hf, hB⟩ := HRS.out.mid hlt (Nat.le_refl _) hr ho
          have r0 := hf.c0
          have r1 := hf.c1
          have cn2 := (hB.cell (p := ⟨b, off + k * 2 + 1, none⟩) hbw).trans CN.out
          have HR := Lib.hid hr
          have HF := Lib.hid hf
          have HB := Lib.hid hB
          clear hr ho hf hB
          go_wp2_with fail
          go_region_with (go_at_call 53; refine (refText_any sl e N _ (by omega)).mono ?_; rintro en w3 ⟨rfl, hbd⟩; have hb : Below w2.heap.size w2 w3 := (Below.refl w2.heap.size w2).drew.trans hbd; have s0 := (HF.out.later hb).c0; have s1 := (HF.out.later hb).c1; have s2 := (HF.out.later hb).f0; have s3 := (HF.out.later hb).f1)
          all_goals go_wp2_with fail
          all_goals go_meet
          all_goals exact ⟨0, _, _, _, rfl, rfl, rfl, rfl, RS.next hlt (Nat.le_refl _) HR.out HF.out HB.out hb (by have := rdText_le sl e N; omega)⟩
        by_cases d5 : d = 5
        · subst d5
          go_wp2_with fail
          refine (rest_any w.heap.size sl e _ HRS.out.1 (by omega)).mono ?_
          rintro en w2 ⟨rfl, hr, ho⟩
          obtain ⟨hf, hB⟩ := HRS.out.mid hlt (Nat.le_refl _) hr ho
          have r0 := hf.c0
          have r1 := hf.c1
          have hss := bs_size sl
          have HR := Lib.hid hr
          have HF := Lib.hid hf
          have HB := Lib.hid hB
          clear hr ho hf hB
          go_wp2_with fail
          refine (refText_any sl e sl.length _ (by omega)).mono ?_
          rintro en w3 ⟨rfl, hb⟩
          have f3 := HF.out.later hb
          have s0 := f3.c0
          have s1 := f3.c1
          have s2 := f3.f0
          have s3 := f3.f1
          have HB3 := Lib.hid hb
          clear hb f3
          go_wp2_with fail
          go_meet
          exact ⟨0, _, _, _, rfl, rfl, rfl, rfl, RS.next hlt (Nat.le_refl _) HR.out HF.out HB.out HB3.out (by have := rdText_le sl e sl.length; omega)⟩
        by_cases d6 : d = 6
        · subst d6
          go_wp2_with fail
          refine (bad_any w.heap.size sl e _ HRS.out.1).mono ?_
          rintro en w2 ⟨rfl, hr, ho⟩
          obtain ⟨hf, hB⟩ := HRS.out.mid hlt (Nat.le_refl _) hr ho
          have r0 := hf.c0
          have r1 := hf.c1
          have HR := Lib.hid hr
          have HF := Lib.hid hf
          have HB := Lib.hid hB
          clear hr ho hf hB
          go_wp2_with fail
          refine (refBad_any sl e _).mono ?_
          rintro en w3 ⟨rfl, hb⟩
          have f3 := HF.out.later hb
          have s0 := f3.c0
          have s1 := f3.c1
          have s2 := f3.f0
          have s3 := f3.f1
          have HB3 := Lib.hid hb
          clear hb f3
          go_wp2_with fail
          go_meet
          exact ⟨0, [], _, _, rfl, rfl, rfl, rfl, RS.next hlt (Nat.le_refl _) HR.out HF.out HB.out HB3.out (by have := rdFail_le sl e 4; omega)⟩
        have x0 : (d == 0) = false := by simp [d0]
        have x1 : (d == 1) = false := by simp [d1]
        have x2 : (d == 2) = false := by simp [d2]
        have x3 : (d == 3) = false := by simp [d3]
        have x4 : (d == 4) = false := by simp [d4]
        have x5 : (d == 5) = false := by simp [d5]
        have x6 : (d == 6) = false := by simp [d6]
        clear d0 d1 d2 d3 d4 d5 d6
        go_wp2_with fail
        refine (end_any w.heap.size sl e _ HRS.out.1 (by omega)).mono ?_
        rintro en w2 ⟨rfl, hr, ho⟩
        obtain ⟨hf, hB⟩ := HRS.out.mid hlt (Nat.le_refl _) hr ho
        have r0 := hf.c0
        have r1 := hf.c1
        have HR := Lib.hid hr
        have HF := Lib.hid hf
        have HB := Lib.hid hB
        clear hr ho hf hB
        go_wp2_with fail
        refine (refEnd_any sl e _ (by omega)).mono ?_
        rintro en w3 ⟨rfl, hb⟩
        have f3 := HF.out.later hb
        have s0 := f3.c0
        have s1 := f3.c1
        have s2 := f3.f0
        have s3 := f3.f1
        have HB3 := Lib.hid hb
        clear hb f3
        go_wp2_with fail
        go_meet
        exact ⟨0, [], _, _, rfl, rfl, rfl, rfl, RS.next hlt (Nat.le_refl _) HR.out HF.out HB.out HB3.out (by have := rdEnd_le sl e; omega)⟩
      case rest =>
        clear c0 cd cn HRS
        obtain ⟨n2, t2, sl2, e2, rfl, rfl, rfl, rfl, hRS2⟩ := hcut
        have l0 := Later.cell hRS2.2.1.c0
        have l1 := Later.cell hRS2.2.1.c1
        have hs2 := bs_size sl2
        have hl2 := hRS2.2.2.2
        have HRS2 := Lib.hid hRS2
        clear hRS2
        go_upto_region 36 with fail
        refine wp_region_later (by kernel_rfl) (by kernel_rfl) ?_
        repeat (go_big_quiet_step (first | (go_at_call 42; exact Calls.later_same (err_any w.heap.size sl2 e2 _ ((HRS2.out.1).later (Later.h _)))) | (go_at_call 44; exact Calls.later_same (left_any w.heap.size sl2 e2 _ ((HRS2.out.1).later (Later.h _)) (by omega)))))
        refine wpQuiet_nil ?_
        rintro _ ⟨K, rfl⟩
        have hK : RS w w.heap.size q sl2 e2 K.out := ⟨HRS2.out.1.later K.h, HRS2.out.2.1.later K.h, Later.bel HRS2.out.2.2.1 K, HRS2.out.2.2.2⟩
        have HKK := Lib.hid hK
        clear hK l0 l1
        go_wp2_with fail
        go_roundg (len - (k + 1))
        case measure => omega
        case rel => exact ⟨k + 1, by omega, rfl, by go_num, sl2, e2, HKK.out⟩
    · obtain rfl : k = len := by omega
      have HB := Lib.hid hRS.2.2.1
      clear hRS
      go_wp2_with (go_at_call 28; refine (wakesW_any _).mono ?_; rintro en w' ⟨rfl, hb⟩)
      go_ret
      exact ⟨rfl, HB.out.trans (hb.mono HB.out.size)⟩
end Go.Proofs.Ytknahemnmboidaa
