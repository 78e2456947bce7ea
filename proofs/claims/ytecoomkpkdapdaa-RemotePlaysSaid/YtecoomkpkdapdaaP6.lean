/- maid: the walk of Take. -/
import Derived.Test.YtecoomkpkdapdaaRK
import Derived.Test.YtecoomkpkdapdaaP5
import Derived.Test.YtecoomkpkdapdaaP2
set_option linter.unusedVariables false
namespace Go.Proofs.Ytecoomkpkdapdaa
open Go.RowKit

theorem tkPart_le (l : List UInt8) (e : Int) : (tkPart l e).2.1.length ≤ l.length := by
  unfold tkPart; exact Nat.le_trans (rd_le _ _ _) (rd_le _ _ _)
theorem tkPart_le1 (l : List UInt8) (e : Int) : (tkPart l e).1.length ≤ l.length := by
  unfold tkPart; exact Nat.le_trans (rd_le1 _ _ _) (rd_le _ _ _)
/-- What Take tests. -/
theorem takeR_of_test (l d o A : List UInt8) (e f : Int) (hd : (tkDom l).1 = d) (hf : numOf (tkFmt l).1 = f) (ho : (tkOwn l).1 = o) (hP : mPut d o = (A, e)) :
    takeR l = if e = 0 ∧ A = l ∧ f = 2 then (d, o, 0) else ([], [], 4) := by
  unfold takeR
  rw [hd, hf, ho, hP]
  by_cases h : e = 0 ∧ A = l ∧ f = 2
  · rw [if_pos h, if_pos ⟨by rw [h.1, h.2.1], h.2.2⟩]
  · rw [if_neg h, if_neg (fun hh => h ⟨by simpa using congrArg Prod.snd hh.1, by simpa using congrArg Prod.fst hh.1, hh.2⟩)]

set_option maxRecDepth 100000 in
set_option maxHeartbeats 4000000 in
theorem take10_any (l : List UInt8) (w : World) (hl : l.length ≤ 1000) : Calls Try.prog 124 #[.string (bs l)] w fun en w' =>
    en = .returned (.tuple #[.string (bs (takeR l).1), .string (bs (takeR l).2.1), .int .i64 (takeR l).2.2]) ∧ Below w.heap.size w w' := by
  obtain ⟨V, hV⟩ : ∃ V, (Value.tuple #[.string (bs (takeR l).1), .string (bs (takeR l).2.1), .int .i64 (takeR l).2.2]) = V := ⟨_, rfl⟩
  have HV := Lib.hid hV
  rw [hV]; clear hV
  -- the steps
  obtain ⟨x, hx⟩ : ∃ x, numOf (rdText l 0 1).1 = x := ⟨_, rfl⟩
  obtain ⟨l1, hl1⟩ : ∃ l1, (rdText l 0 1).2.1 = l1 := ⟨_, rfl⟩
  obtain ⟨e1, he1⟩ : ∃ e1, (rdText l 0 1).2.2 = e1 := ⟨_, rfl⟩
  have n1 : l1.length ≤ 1000 := by rw [← hl1]; exact Nat.le_trans (rd_le _ _ _) hl
  have C1 : Hid (∀ w p, Rd w p l 0 → Calls Try.prog 44 #[.pointer (some ⟨p, 0, none⟩)] w fun en w' => en = .returned (.int .u8 x) ∧ Rd w' p l1 e1 ∧ Only p w w') := by
    rw [← hx, ← hl1, ← he1]; exact fun w p hr => U8_any p l 0 w hr (by omega)
  have hD : tkDom l = if x = 4 then tkPart l1 e1 else ([], l1, e1) := by unfold tkDom; rw [hx, hl1, he1]
  obtain ⟨d, hd⟩ : ∃ d, (tkDom l).1 = d := ⟨_, rfl⟩
  obtain ⟨l2, hl2⟩ : ∃ l2, (tkDom l).2.1 = l2 := ⟨_, rfl⟩
  obtain ⟨e2, he2⟩ : ∃ e2, (tkDom l).2.2 = e2 := ⟨_, rfl⟩
  have n2 : l2.length ≤ 1000 ∧ d.length ≤ 1000 := by
    rw [← hl2, ← hd, hD]; split
    · have := tkPart_le l1 e1; have := tkPart_le1 l1 e1; omega
    · exact ⟨n1, by simp⟩
  have C2 : x = 4 → Hid (∀ w p q, Rd w p l1 e1 → w.cell? ⟨q, 0, none⟩ = some (.pointer (some ⟨p, 0, none⟩)) → q < w.heap.size → q ≠ p → Calls Try.prog 131 #[.pointer (some ⟨q, 0, none⟩)] w fun en w' => en = .returned (.string (bs d)) ∧ Rd w' p l2 e2 ∧ Only p w w') := fun h4 => by
    rw [← hd, ← hl2, ← he2, hD, if_pos h4]; exact fun w p q hr hc hq hne => tpart_any q p l1 e1 w hr hc hq hne (by omega)
  have N2 : x ≠ 4 → d = [] ∧ l2 = l1 ∧ e2 = e1 := fun h4 => by
    rw [← hd, ← hl2, ← he2, hD, if_neg h4]; exact ⟨rfl, rfl, rfl⟩
  obtain ⟨f, hf⟩ : ∃ f, numOf (tkFmt l).1 = f := ⟨_, rfl⟩
  obtain ⟨l3, hl3⟩ : ∃ l3, (tkFmt l).2.1 = l3 := ⟨_, rfl⟩
  obtain ⟨e3, he3⟩ : ∃ e3, (tkFmt l).2.2 = e3 := ⟨_, rfl⟩
  have hF : tkFmt l = rdText l2 e2 1 := by unfold tkFmt; rw [hl2, he2]
  have n3 : l3.length ≤ 1000 := by rw [← hl3, hF]; exact Nat.le_trans (rd_le _ _ _) n2.1
  have C3 : Hid (∀ w p, Rd w p l2 e2 → Calls Try.prog 44 #[.pointer (some ⟨p, 0, none⟩)] w fun en w' => en = .returned (.int .u8 f) ∧ Rd w' p l3 e3 ∧ Only p w w') := by
    rw [← hf, ← hl3, ← he3, hF]; exact fun w p hr => U8_any p l2 e2 w hr (by omega)
  obtain ⟨o, ho⟩ : ∃ o, (tkOwn l).1 = o := ⟨_, rfl⟩
  have hO : tkOwn l = tkPart l3 e3 := by unfold tkOwn; rw [hl3, he3]
  have n4 : o.length ≤ 1000 := by rw [← ho, hO]; exact Nat.le_trans (tkPart_le1 _ _) n3
  have C4 : Hid (∀ w p q, Rd w p l3 e3 → w.cell? ⟨q, 0, none⟩ = some (.pointer (some ⟨p, 0, none⟩)) → q < w.heap.size → q ≠ p → Calls Try.prog 131 #[.pointer (some ⟨q, 0, none⟩)] w fun en w' => en = .returned (.string (bs o)) ∧ Only p w w') := by
    rw [← ho, hO]; exact fun w p q hr hc hq hne => (tpart_any q p l3 e3 w hr hc hq hne (by omega)).mono fun _ _ h => ⟨h.1, h.2.2⟩
  obtain ⟨A, e, hP⟩ : ∃ A e, mPut d o = (A, e) := ⟨_, _, rfl⟩
  have C5 : Hid (∀ w, Calls Try.prog 132 #[.string (bs d), .string (bs o)] w fun en w' => en = .returned (.tuple #[.string (bs A), .int .i64 e]) ∧ Below w.heap.size w w') := fun w => by
    have h := put10_any d o w n2.2 n4
    rw [hP] at h; exact h
  have HR := Lib.hid (takeR_of_test l d o A e f hd hf ho hP)
  have hlA := bs_tl_eq A l
  clear hx hl1 he1 hD hd hl2 he2 hf hl3 he3 hF ho hO hP n1 n2 n3 n4
  go_enter Try.func124, Try.ntmps124
  go_wp2_with fail
  with_reducible refine (of_any l w).mono ?_
  rintro en w1 ⟨rfl, hr, hb, hlt⟩
  have tk0 : TK w w1.heap.size (w1.alloc (.cells #[.pointer (some ⟨w.heap.size, 0, none⟩)] 85)) l 0 :=
    ⟨hr.later ((Below.refl _ _).alloc (Nat.le_refl _) _), by simp [go_sem], hb.alloc hb.size _, by simp, hlt⟩
  have TK0 := Lib.hid tk0
  clear tk0 hr hb hlt
  go_wp2_with fail
  with_reducible refine (C1.out _ _ TK0.out.rd).mono ?_
  rintro en w2 ⟨rfl, hr2, ho2⟩
  have tk1 := TK0.out.next hr2 ho2
  have c1 := tk1.2.1
  have TK1 := Lib.hid tk1
  clear hr2 ho2 tk1 TK0
  by_cases h4 : x = 4
  · have d4 : (x == 4) = true := by simpa using h4
    have C2' := C2 h4
    clear h4 C2 N2
    go_wp2_with fail
    with_reducible refine (C2'.out _ _ _ TK1.out.rd c1 TK1.out.lt TK1.out.ne).mono ?_
    rintro en w3 ⟨rfl, hr3, ho3⟩
    have tk2 := TK1.out.next hr3 ho3
    have c2 := tk2.2.1
    have TK2 := Lib.hid tk2
    clear hr3 ho3 tk2 c1 TK1
    go_wp2_with fail
    with_reducible refine (C3.out _ _ TK2.out.rd).mono ?_
    rintro en w4 ⟨rfl, hr4, ho4⟩
    have tk4 := TK2.out.next hr4 ho4
    have c4 := tk4.2.1
    have TK4 := Lib.hid tk4
    clear hr4 ho4 tk4 c2 TK2
    go_wp2_with fail
    with_reducible refine (C4.out _ _ _ TK4.out.rd c4 TK4.out.lt TK4.out.ne).mono ?_
    rintro en w5 ⟨rfl, ho5⟩
    have HB5 := Lib.hid (TK4.out.bel.trans (ho5.below (Nat.le_refl _) TK4.out.bel.size))
    clear c4 TK4 ho5
    go_wp2_with fail
    with_reducible refine (C5.out _).mono ?_
    rintro en w6 ⟨rfl, hb6⟩
    have HB6 := Lib.hid (HB5.out.trans (hb6.mono HB5.out.size))
    clear hb6 HB5
    by_cases he : e = 0
    · have de : (e == 0) = true := by simpa using he
      have de' : (e != 0) = false := by unfold bne; rw [de]; rfl
      by_cases hA : A = l
      · have dA : ((bs A).toList == (bs l).toList) = true := by rw [hlA]; exact decide_eq_true hA
        by_cases hf : f = 2
        · have df : (f == 2) = true := by simpa using hf
          have df' : (f != 2) = false := by unfold bne; rw [df]; rfl
          have hVV := HV.out
          rw [HR.out, if_pos ⟨he, hA, hf⟩] at hVV
          have HVV := Lib.hid hVV
          clear he hA hf hVV hlA
          go_wp2
          refine bodyPost_ret (v := .tuple #[.string (bs d), .string (bs o), .int .i64 0]) (by simp [results, Try.results124, go_sem]) rfl ⟨by rw [← HVV.out], HB6.out⟩
        · have df : (f == 2) = false := by simpa using hf
          have df' : (f != 2) = true := by unfold bne; rw [df]; rfl
          have hVV := HV.out
          rw [HR.out, if_neg (fun h => hf h.2.2)] at hVV
          have HVV := Lib.hid hVV
          clear he hA hf hVV hlA
          go_wp2
          refine bodyPost_ret (v := .tuple #[.string (bs []), .string (bs []), .int .i64 4]) (by simp [results, Try.results124, go_sem]; rfl) rfl ⟨by rw [← HVV.out], HB6.out⟩
      · have dA : ((bs A).toList == (bs l).toList) = false := by rw [hlA]; exact decide_eq_false hA
        have hVV := HV.out
        rw [HR.out, if_neg (fun h => hA h.2.1)] at hVV
        have HVV := Lib.hid hVV
        clear he hA hVV hlA
        go_wp2
        refine bodyPost_ret (v := .tuple #[.string (bs []), .string (bs []), .int .i64 4]) (by simp [results, Try.results124, go_sem]; rfl) rfl ⟨by rw [← HVV.out], HB6.out⟩
    · have de : (e == 0) = false := by simpa using he
      have de' : (e != 0) = true := by unfold bne; rw [de]; rfl
      have hVV := HV.out
      rw [HR.out, if_neg (fun h => he h.1)] at hVV
      have HVV := Lib.hid hVV
      clear he hVV hlA
      go_wp2
      refine bodyPost_ret (v := .tuple #[.string (bs []), .string (bs []), .int .i64 4]) (by simp [results, Try.results124, go_sem]; rfl) rfl ⟨by rw [← HVV.out], HB6.out⟩
  · have d4 : (x == 4) = false := by simpa using h4
    obtain ⟨rfl, rfl, rfl⟩ := N2 h4
    have TK2 := TK1
    have c2 := c1
    clear h4 C2 N2 c1 TK1
    go_wp2_with fail
    with_reducible refine (C3.out _ _ TK2.out.rd).mono ?_
    rintro en w4 ⟨rfl, hr4, ho4⟩
    have tk4 := TK2.out.next hr4 ho4
    have c4 := tk4.2.1
    have TK4 := Lib.hid tk4
    clear hr4 ho4 tk4 c2 TK2
    go_wp2_with fail
    with_reducible refine (C4.out _ _ _ TK4.out.rd c4 TK4.out.lt TK4.out.ne).mono ?_
    rintro en w5 ⟨rfl, ho5⟩
    have HB5 := Lib.hid (TK4.out.bel.trans (ho5.below (Nat.le_refl _) TK4.out.bel.size))
    clear c4 TK4 ho5
    go_wp2_with fail
    refine (C5.out _).mono ?_
    rintro en w6 ⟨rfl, hb6⟩
    have HB6 := Lib.hid (HB5.out.trans (hb6.mono HB5.out.size))
    clear hb6 HB5
    by_cases he : e = 0
    · have de : (e == 0) = true := by simpa using he
      have de' : (e != 0) = false := by unfold bne; rw [de]; rfl
      by_cases hA : A = l
      · have dA : ((bs A).toList == (bs l).toList) = true := by rw [hlA]; exact decide_eq_true hA
        by_cases hf : f = 2
        · have df : (f == 2) = true := by simpa using hf
          have df' : (f != 2) = false := by unfold bne; rw [df]; rfl
          have hVV := HV.out
          rw [HR.out, if_pos ⟨he, hA, hf⟩] at hVV
          have HVV := Lib.hid hVV
          clear he hA hf hVV hlA
          go_wp2
          refine bodyPost_ret (v := .tuple #[.string (bs []), .string (bs o), .int .i64 0]) (by simp [results, Try.results124, go_sem]; rfl) rfl ⟨by rw [← HVV.out], HB6.out⟩
        · have df : (f == 2) = false := by simpa using hf
          have df' : (f != 2) = true := by unfold bne; rw [df]; rfl
          have hVV := HV.out
          rw [HR.out, if_neg (fun h => hf h.2.2)] at hVV
          have HVV := Lib.hid hVV
          clear he hA hf hVV hlA
          go_wp2
          refine bodyPost_ret (v := .tuple #[.string (bs []), .string (bs []), .int .i64 4]) (by simp [results, Try.results124, go_sem]; rfl) rfl ⟨by rw [← HVV.out], HB6.out⟩
      · have dA : ((bs A).toList == (bs l).toList) = false := by rw [hlA]; exact decide_eq_false hA
        have hVV := HV.out
        rw [HR.out, if_neg (fun h => hA h.2.1)] at hVV
        have HVV := Lib.hid hVV
        clear he hA hVV hlA
        go_wp2
        refine bodyPost_ret (v := .tuple #[.string (bs []), .string (bs []), .int .i64 4]) (by simp [results, Try.results124, go_sem]; rfl) rfl ⟨by rw [← HVV.out], HB6.out⟩
    · have de : (e == 0) = false := by simpa using he
      have de' : (e != 0) = true := by unfold bne; rw [de]; rfl
      have hVV := HV.out
      rw [HR.out, if_neg (fun h => he h.1)] at hVV
      have HVV := Lib.hid hVV
      clear he hVV hlA
      go_wp2
      refine bodyPost_ret (v := .tuple #[.string (bs []), .string (bs []), .int .i64 4]) (by simp [results, Try.results124, go_sem]; rfl) rfl ⟨by rw [← HVV.out], HB6.out⟩
end Go.Proofs.Ytecoomkpkdapdaa
