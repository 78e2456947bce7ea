/- ZP10: the texts P2, P6 as one. -/
import Derived.Test.YtlkdfofpnmpidaaGreatZP09
import Derived.Test.YtlkdfofpnmpidaaGreatZP03
/- maid: the walk of Put. -/
set_option linter.unusedVariables false
namespace Go.Proofs.YtlkdfofpnmpidaaGreat
open Go.RowKit

set_option maxRecDepth 100000 in
set_option maxHeartbeats 4000000 in
theorem put10_any (d o : List UInt8) (w : World) (hd : d.length ≤ 1000) (ho : o.length ≤ 1000) :
    Calls Tryz.prog 135 #[.string (bs d), .string (bs o)] w fun en w' => en = .returned (.tuple #[.string (bs (mPut d o).1), .int .i64 (mPut d o).2]) ∧ Below w.heap.size w w' := by
  have hsd := bs_size d
  have hso := bs_size o
  by_cases h0 : o = []
  · have hP : mPut d o = ([], 2) := by unfold mPut; rw [if_neg (fun h => h.1 h0)]
    rw [hP]
    have e0 : (bs o).toList.isEmpty = true := by rw [empty_eq]; exact decide_eq_true h0
    clear hP h0
    go_enter Tryz.func135, Tryz.ntmps135
    go_wp2
    refine bodyPost_ret (v := .tuple #[.string (bs []), .int .i64 2]) (by simp [results, Tryz.results135, go_sem]; rfl) rfl ⟨rfl, Below.refl _ _⟩
  have e0 : (bs o).toList.isEmpty = false := by rw [empty_eq]; exact decide_eq_false h0
  by_cases h1 : plB o = true
  rotate_left
  · have hP : mPut d o = ([], 2) := by unfold mPut; rw [if_neg (fun h => h1 h.2.1)]
    rw [hP]
    have HC : Hid (∀ w, Calls Tryz.prog 150 #[.string (bs o)] w fun en w' => en = .returned (.bool false) ∧ Below w.heap.size w w') := by
      have : plB o = false := by simpa using h1
      rw [← this]; exact fun w => plain_any o w (by omega)
    clear hP h0 h1
    go_enter Tryz.func135, Tryz.ntmps135
    go_wp2_with fail
    refine (HC.out _).mono ?_
    rintro en w1 ⟨rfl, hb⟩
    go_wp2
    refine bodyPost_ret (v := .tuple #[.string (bs []), .int .i64 2]) (by simp [results, Tryz.results135, go_sem]; rfl) rfl ⟨rfl, hb⟩
  have HC : Hid (∀ w, Calls Tryz.prog 150 #[.string (bs o)] w fun en w' => en = .returned (.bool true) ∧ Below w.heap.size w w') := by
    rw [← h1]; exact fun w => plain_any o w (by omega)
  by_cases h2 : plB d = true
  rotate_left
  · have hP : mPut d o = ([], 2) := by unfold mPut; rw [if_neg (fun h => h2 h.2.2)]
    rw [hP]
    have HC2 : Hid (∀ w, Calls Tryz.prog 150 #[.string (bs d)] w fun en w' => en = .returned (.bool false) ∧ Below w.heap.size w w') := by
      have : plB d = false := by simpa using h2
      rw [← this]; exact fun w => plain_any d w (by omega)
    clear hP h0 h1 h2
    go_enter Tryz.func135, Tryz.ntmps135
    go_wp2_with fail
    refine (HC.out _).mono ?_
    rintro en w1 ⟨rfl, hb1⟩
    go_wp2_with fail
    refine (HC2.out _).mono ?_
    rintro en w2 ⟨rfl, hb2⟩
    go_wp2
    refine bodyPost_ret (v := .tuple #[.string (bs []), .int .i64 2]) (by simp [results, Tryz.results135, go_sem]; rfl) rfl ⟨rfl, hb1.trans (hb2.mono hb1.size)⟩
  have HC2 : Hid (∀ w, Calls Tryz.prog 150 #[.string (bs d)] w fun en w' => en = .returned (.bool true) ∧ Below w.heap.size w w') := by
    rw [← h2]; exact fun w => plain_any d w (by omega)
  by_cases h3 : d.length + o.length ≤ 44
  rotate_left
  · have hP : mPut d o = ([], 5) := by unfold mPut; rw [if_pos ⟨h0, h1, h2⟩, if_neg h3]
    rw [hP]
    clear hP h0 h1 h2
    go_enter Tryz.func135, Tryz.ntmps135
    go_wp2_with fail
    refine (HC.out _).mono ?_
    rintro en w1 ⟨rfl, hb1⟩
    go_wp2_with fail
    refine (HC2.out _).mono ?_
    rintro en w2 ⟨rfl, hb2⟩
    have HB := Lib.hid (hb1.trans (hb2.mono hb1.size))
    clear hb1 hb2
    by_cases h4 : 44 < d.length
    · have d4 : decide (44 < (d.length : Int)) = true := decide_eq_true (by omega)
      go_wp2
      refine bodyPost_ret (v := .tuple #[.string (bs []), .int .i64 5]) (by simp [results, Tryz.results135, go_sem]; rfl) rfl ⟨rfl, HB.out⟩
    · have d4 : decide (44 < (d.length : Int)) = false := decide_eq_false (by omega)
      have d5 : decide ((44 : Int) - (d.length : Int) < (o.length : Int)) = true := decide_eq_true (by omega)
      go_wp2
      refine bodyPost_ret (v := .tuple #[.string (bs []), .int .i64 5]) (by simp [results, Tryz.results135, go_sem]; rfl) rfl ⟨rfl, HB.out⟩
  have hP : mPut d o = (padT (mBody d o), 0) := by unfold mPut; rw [if_pos ⟨h0, h1, h2⟩, if_pos h3]
  rw [hP]
  obtain ⟨R, hR⟩ : ∃ R, padT (mBody d o) = R := ⟨_, rfl⟩
  have HR := Lib.hid hR
  rw [hR]
  have hbl := mBody_len d o
  have d4 : decide (44 < (d.length : Int)) = false := decide_eq_false (by omega)
  have d5 : decide ((44 : Int) - (d.length : Int) < (o.length : Int)) = false := decide_eq_false (by omega)
  have HBL := Lib.hid hbl
  clear hP h0 h1 h2 hR hbl
  go_enter Tryz.func135, Tryz.ntmps135
  go_wp2_with fail
  refine (HC.out _).mono ?_
  rintro en w1 ⟨rfl, hb1⟩
  go_wp2_with fail
  refine (HC2.out _).mono ?_
  rintro en w2 ⟨rfl, hb2⟩
  have hB2 := hb1.trans (hb2.mono hb1.size)
  clear hb1 hb2
  by_cases h5 : d = []
  · have e5 : (bs d).toList.isEmpty = true := by rw [empty_eq]; exact decide_eq_true h5
    have hbody : mBody d o = [1] ++ 2 :: lenB o :: o := by unfold mBody; rw [if_pos h5]
    have hl1 := Bys.lit w2 w.heap.size #[.int .u8 1] [1] hB2.size rfl (by simp)
    have HL1 := Lib.hid hl1
    have HB2 := Lib.hid (hB2.alloc hB2.size (.cells #[.int .u8 1] 5))
    have HBD := Lib.hid hbody
    have hlen3 : (mBody d o).length ≤ 48 := by rw [HBL.out, if_pos h5]; omega
    clear hB2 hl1 hbody h5
    go_wp2_with fail
    refine (mput_any w.heap.size _ [1] o 2 _ HB2.out.size HL1.out (by simp) (by omega)).mono ?_
    rintro en w3 ⟨v3, rfl, hown3, hb3⟩
    rw [← HBD.out] at hown3
    have hk3 : ((48 : Int) - ((mBody d o).length : Int)) = ((48 - (mBody d o).length : Nat) : Int) := by omega
    have HB3 := Lib.hid (HB2.out.trans hb3)
    have hz3 := HB3.out.size
    have hne : (mBody d o) ≠ [] := by unfold mBody; simp
    obtain ⟨g, cap, rfl, _, _, hcp, hcm⟩ := hown3.shape.resolve_left (fun h => hne h.2)
    have HO3 := Lib.hid hown3
    clear hown3 hb3 hne
    obtain ⟨n, hn⟩ : ∃ n, (mBody d o).length = n := ⟨_, rfl⟩
    have hR2 : padT (mBody d o) = mBody d o ++ List.replicate (48 - n) 0 := by unfold padT; rw [hn]
    rw [HR.out] at hR2
    rw [hn] at hlen3 hk3 HO3 ⊢
    have HN := Lib.hid hn
    have HR2 := Lib.hid hR2
    clear hn hR2
    go_wp2_with (at_builtin; refine wpList_append_zeros rfl (.tmp 40) (.tmp 43) rfl w.heap.size _ (mBody d o) rfl HO3.out (48 - n) rfl ?_ ?_ ?_)
    · have := HN.out; omega
    · exact hz3
    · intro v4 w4 hown4 hb4
      rw [← HR2.out] at hown4
      have hstr := run_string_bys hown4
      have HB4 := Lib.hid (HB3.out.trans hb4)
      clear hown4 hb4 HO3
      go_wp2
      refine bodyPost_ret (v := .tuple #[.string (bs R), .int .i64 0]) (by simp [results, Tryz.results135, go_sem]) rfl ⟨rfl, HB4.out⟩
  · have e5 : (bs d).toList.isEmpty = false := by rw [empty_eq]; exact decide_eq_false h5
    have hbody : mBody d o = ([] ++ 4 :: lenB d :: d) ++ 2 :: lenB o :: o := by unfold mBody; rw [if_neg h5]; rfl
    have HBD := Lib.hid hbody
    have hlen3 : (mBody d o).length ≤ 48 := by rw [HBL.out, if_neg h5]; omega
    have HB2 := Lib.hid (hB2.alloc hB2.size (.cells #[.int .u8 1] 5))
    clear hB2 hbody h5
    go_wp2_with fail
    refine (mput_any w.heap.size _ [] d 4 _ HB2.out.size (Bys.none _ _) (by simp) (by omega)).mono ?_
    rintro en w2' ⟨v2, rfl, hown2, hb2⟩
    have HBx := Lib.hid (HB2.out.trans hb2)
    have HO2 := Lib.hid hown2
    clear hb2 hown2 HB2
    go_wp2_with fail
    refine (mput_any w.heap.size _ _ o 2 _ HBx.out.size HO2.out (by simp; omega) (by omega)).mono ?_
    rintro en w3 ⟨v3, rfl, hown3, hb3⟩
    rw [← HBD.out] at hown3
    have hk3 : ((48 : Int) - ((mBody d o).length : Int)) = ((48 - (mBody d o).length : Nat) : Int) := by omega
    have HB3 := Lib.hid (HBx.out.trans hb3)
    have hz3 := HB3.out.size
    have hne : (mBody d o) ≠ [] := by unfold mBody; simp
    obtain ⟨g, cap, rfl, _, _, hcp, hcm⟩ := hown3.shape.resolve_left (fun h => hne h.2)
    have HO3 := Lib.hid hown3
    clear hown3 hb3 hne
    obtain ⟨n, hn⟩ : ∃ n, (mBody d o).length = n := ⟨_, rfl⟩
    have hR2 : padT (mBody d o) = mBody d o ++ List.replicate (48 - n) 0 := by unfold padT; rw [hn]
    rw [HR.out] at hR2
    rw [hn] at hlen3 hk3 HO3 ⊢
    have HN := Lib.hid hn
    have HR2 := Lib.hid hR2
    clear hn hR2
    go_wp2_with (at_builtin; refine wpList_append_zeros rfl (.tmp 40) (.tmp 43) rfl w.heap.size _ (mBody d o) rfl HO3.out (48 - n) rfl ?_ ?_ ?_)
    · have := HN.out; omega
    · exact hz3
    · intro v4 w4 hown4 hb4
      rw [← HR2.out] at hown4
      have hstr := run_string_bys hown4
      have HB4 := Lib.hid (HB3.out.trans hb4)
      clear hown4 hb4 HO3
      go_wp2
      refine bodyPost_ret (v := .tuple #[.string (bs R), .int .i64 0]) (by simp [results, Tryz.results135, go_sem]) rfl ⟨rfl, HB4.out⟩
end Go.Proofs.YtlkdfofpnmpidaaGreat

/- maid: the walk of Take. -/
set_option linter.unusedVariables false
namespace Go.Proofs.YtlkdfofpnmpidaaGreat
open Go.RowKit

theorem tkPart_le (l : List UInt8) (e : Int) : (tkPart l e).2.1.length ≤ l.length := by
  unfold tkPart; exact Nat.le_trans (rd_le _ _ _) (rd_le _ _ _)
theorem tkPart_le1 (l : List UInt8) (e : Int) : (tkPart l e).1.length ≤ l.length := by
  unfold tkPart; exact Nat.le_trans (rd_le1 _ _ _) (rd_le _ _ _)
/-- What Take tests. -/
theorem takeR_of_test (l d o A : List UInt8) (e f : Int) (hd : (tkDom l).1 = d) (hf : numOf (tkFmt l).1 = f) (ho : (tkOwn l).1 = o) (hP : mPut d o = (A, e)) :
    takeR l = if e = 0 ∧ A = l ∧ f = 2 then (d, o, 0) else ([], [], 4) := by
  unfold takeR
  rw [hd, hf, ho, hP]
  by_cases h : e = 0 ∧ A = l ∧ f = 2
  · rw [if_pos h, if_pos ⟨by rw [h.1, h.2.1], h.2.2⟩]
  · rw [if_neg h, if_neg (fun hh => h ⟨by simpa using congrArg Prod.snd hh.1, by simpa using congrArg Prod.fst hh.1, hh.2⟩)]

set_option maxRecDepth 100000 in
set_option maxHeartbeats 4000000 in
theorem take10_any (l : List UInt8) (w : World) (hl : l.length ≤ 1000) : Calls Tryz.prog 112 #[.string (bs l)] w fun en w' =>
    en = .returned (.tuple #[.string (bs (takeR l).1), .string (bs (takeR l).2.1), .int .i64 (takeR l).2.2]) ∧ Below w.heap.size w w' := by
  obtain ⟨V, hV⟩ : ∃ V, (Value.tuple #[.string (bs (takeR l).1), .string (bs (takeR l).2.1), .int .i64 (takeR l).2.2]) = V := ⟨_, rfl⟩
  have HV := Lib.hid hV
  rw [hV]; clear hV
  -- the steps
  obtain ⟨x, hx⟩ : ∃ x, numOf (rdText l 0 1).1 = x := ⟨_, rfl⟩
  obtain ⟨l1, hl1⟩ : ∃ l1, (rdText l 0 1).2.1 = l1 := ⟨_, rfl⟩
  obtain ⟨e1, he1⟩ : ∃ e1, (rdText l 0 1).2.2 = e1 := ⟨_, rfl⟩
  have n1 : l1.length ≤ 1000 := by rw [← hl1]; exact Nat.le_trans (rd_le _ _ _) hl
  have C1 : Hid (∀ w p, Rd w p l 0 → Calls Tryz.prog 90 #[.pointer (some ⟨p, 0, none⟩)] w fun en w' => en = .returned (.int .u8 x) ∧ Rd w' p l1 e1 ∧ Only p w w') := by
    rw [← hx, ← hl1, ← he1]; exact fun w p hr => U8_any p l 0 w hr (by omega)
  have hD : tkDom l = if x = 4 then tkPart l1 e1 else ([], l1, e1) := by unfold tkDom; rw [hx, hl1, he1]
  obtain ⟨d, hd⟩ : ∃ d, (tkDom l).1 = d := ⟨_, rfl⟩
  obtain ⟨l2, hl2⟩ : ∃ l2, (tkDom l).2.1 = l2 := ⟨_, rfl⟩
  obtain ⟨e2, he2⟩ : ∃ e2, (tkDom l).2.2 = e2 := ⟨_, rfl⟩
  have n2 : l2.length ≤ 1000 ∧ d.length ≤ 1000 := by
    rw [← hl2, ← hd, hD]; split
    · have := tkPart_le l1 e1; have := tkPart_le1 l1 e1; omega
    · exact ⟨n1, by simp⟩
  have C2 : x = 4 → Hid (∀ w p q, Rd w p l1 e1 → w.cell? ⟨q, 0, none⟩ = some (.pointer (some ⟨p, 0, none⟩)) → q < w.heap.size → q ≠ p → Calls Tryz.prog 134 #[.pointer (some ⟨q, 0, none⟩)] w fun en w' => en = .returned (.string (bs d)) ∧ Rd w' p l2 e2 ∧ Only p w w') := fun h4 => by
    rw [← hd, ← hl2, ← he2, hD, if_pos h4]; exact fun w p q hr hc hq hne => tpart_any q p l1 e1 w hr hc hq hne (by omega)
  have N2 : x ≠ 4 → d = [] ∧ l2 = l1 ∧ e2 = e1 := fun h4 => by
    rw [← hd, ← hl2, ← he2, hD, if_neg h4]; exact ⟨rfl, rfl, rfl⟩
  obtain ⟨f, hf⟩ : ∃ f, numOf (tkFmt l).1 = f := ⟨_, rfl⟩
  obtain ⟨l3, hl3⟩ : ∃ l3, (tkFmt l).2.1 = l3 := ⟨_, rfl⟩
  obtain ⟨e3, he3⟩ : ∃ e3, (tkFmt l).2.2 = e3 := ⟨_, rfl⟩
  have hF : tkFmt l = rdText l2 e2 1 := by unfold tkFmt; rw [hl2, he2]
  have n3 : l3.length ≤ 1000 := by rw [← hl3, hF]; exact Nat.le_trans (rd_le _ _ _) n2.1
  have C3 : Hid (∀ w p, Rd w p l2 e2 → Calls Tryz.prog 90 #[.pointer (some ⟨p, 0, none⟩)] w fun en w' => en = .returned (.int .u8 f) ∧ Rd w' p l3 e3 ∧ Only p w w') := by
    rw [← hf, ← hl3, ← he3, hF]; exact fun w p hr => U8_any p l2 e2 w hr (by omega)
  obtain ⟨o, ho⟩ : ∃ o, (tkOwn l).1 = o := ⟨_, rfl⟩
  have hO : tkOwn l = tkPart l3 e3 := by unfold tkOwn; rw [hl3, he3]
  have n4 : o.length ≤ 1000 := by rw [← ho, hO]; exact Nat.le_trans (tkPart_le1 _ _) n3
  have C4 : Hid (∀ w p q, Rd w p l3 e3 → w.cell? ⟨q, 0, none⟩ = some (.pointer (some ⟨p, 0, none⟩)) → q < w.heap.size → q ≠ p → Calls Tryz.prog 134 #[.pointer (some ⟨q, 0, none⟩)] w fun en w' => en = .returned (.string (bs o)) ∧ Only p w w') := by
    rw [← ho, hO]; exact fun w p q hr hc hq hne => (tpart_any q p l3 e3 w hr hc hq hne (by omega)).mono fun _ _ h => ⟨h.1, h.2.2⟩
  obtain ⟨A, e, hP⟩ : ∃ A e, mPut d o = (A, e) := ⟨_, _, rfl⟩
  have C5 : Hid (∀ w, Calls Tryz.prog 135 #[.string (bs d), .string (bs o)] w fun en w' => en = .returned (.tuple #[.string (bs A), .int .i64 e]) ∧ Below w.heap.size w w') := fun w => by
    have h := put10_any d o w n2.2 n4
    rw [hP] at h; exact h
  have HR := Lib.hid (takeR_of_test l d o A e f hd hf ho hP)
  have hlA := bs_tl_eq A l
  clear hx hl1 he1 hD hd hl2 he2 hf hl3 he3 hF ho hO hP n1 n2 n3 n4
  go_enter Tryz.func112, Tryz.ntmps112
  go_wp2_with fail
  with_reducible refine (of_any l w).mono ?_
  rintro en w1 ⟨rfl, hr, hb, hlt⟩
  have tk0 : TK w w1.heap.size (w1.alloc (.cells #[.pointer (some ⟨w.heap.size, 0, none⟩)] 188)) l 0 :=
    ⟨hr.later ((Below.refl _ _).alloc (Nat.le_refl _) _), by simp [go_sem], hb.alloc hb.size _, by simp, hlt⟩
  have TK0 := Lib.hid tk0
  clear tk0 hr hb hlt
  go_wp2_with fail
  with_reducible refine (C1.out _ _ TK0.out.rd).mono ?_
  rintro en w2 ⟨rfl, hr2, ho2⟩
  have tk1 := TK0.out.next hr2 ho2
  have c1 := tk1.2.1
  have TK1 := Lib.hid tk1
  clear hr2 ho2 tk1 TK0
  by_cases h4 : x = 4
  · have d4 : (x == 4) = true := by simpa using h4
    have C2' := C2 h4
    clear h4 C2 N2
    go_wp2_with fail
    with_reducible refine (C2'.out _ _ _ TK1.out.rd c1 TK1.out.lt TK1.out.ne).mono ?_
    rintro en w3 ⟨rfl, hr3, ho3⟩
    have tk2 := TK1.out.next hr3 ho3
    have c2 := tk2.2.1
    have TK2 := Lib.hid tk2
    clear hr3 ho3 tk2 c1 TK1
    go_wp2_with fail
    with_reducible refine (C3.out _ _ TK2.out.rd).mono ?_
    rintro en w4 ⟨rfl, hr4, ho4⟩
    have tk4 := TK2.out.next hr4 ho4
    have c4 := tk4.2.1
    have TK4 := Lib.hid tk4
    clear hr4 ho4 tk4 c2 TK2
    go_wp2_with fail
    with_reducible refine (C4.out _ _ _ TK4.out.rd c4 TK4.out.lt TK4.out.ne).mono ?_
    rintro en w5 ⟨rfl, ho5⟩
    have HB5 := Lib.hid (TK4.out.bel.trans (ho5.below (Nat.le_refl _) TK4.out.bel.size))
    clear c4 TK4 ho5
    go_wp2_with fail
    with_reducible refine (C5.out _).mono ?_
    rintro en w6 ⟨rfl, hb6⟩
    have HB6 := Lib.hid (HB5.out.trans (hb6.mono HB5.out.size))
    clear hb6 HB5
    by_cases he : e = 0
    · have de : (e == 0) = true := by simpa using he
      have de' : (e != 0) = false := by unfold bne; rw [de]; rfl
      by_cases hA : A = l
      · have dA : ((bs A).toList == (bs l).toList) = true := by rw [hlA]; exact decide_eq_true hA
        by_cases hf : f = 2
        · have df : (f == 2) = true := by simpa using hf
          have df' : (f != 2) = false := by unfold bne; rw [df]; rfl
          have hVV := HV.out
          rw [HR.out, if_pos ⟨he, hA, hf⟩] at hVV
          have HVV := Lib.hid hVV
          clear he hA hf hVV hlA
          go_wp2
          refine bodyPost_ret (v := .tuple #[.string (bs d), .string (bs o), .int .i64 0]) (by simp [results, Tryz.results112, go_sem]) rfl ⟨by rw [← HVV.out], HB6.out⟩
        · have df : (f == 2) = false := by simpa using hf
          have df' : (f != 2) = true := by unfold bne; rw [df]; rfl
          have hVV := HV.out
          rw [HR.out, if_neg (fun h => hf h.2.2)] at hVV
          have HVV := Lib.hid hVV
          clear he hA hf hVV hlA
          go_wp2
          refine bodyPost_ret (v := .tuple #[.string (bs []), .string (bs []), .int .i64 4]) (by simp [results, Tryz.results112, go_sem]; rfl) rfl ⟨by rw [← HVV.out], HB6.out⟩
      · have dA : ((bs A).toList == (bs l).toList) = false := by rw [hlA]; exact decide_eq_false hA
        have hVV := HV.out
        rw [HR.out, if_neg (fun h => hA h.2.1)] at hVV
        have HVV := Lib.hid hVV
        clear he hA hVV hlA
        go_wp2
        refine bodyPost_ret (v := .tuple #[.string (bs []), .string (bs []), .int .i64 4]) (by simp [results, Tryz.results112, go_sem]; rfl) rfl ⟨by rw [← HVV.out], HB6.out⟩
    · have de : (e == 0) = false := by simpa using he
      have de' : (e != 0) = true := by unfold bne; rw [de]; rfl
      have hVV := HV.out
      rw [HR.out, if_neg (fun h => he h.1)] at hVV
      have HVV := Lib.hid hVV
      clear he hVV hlA
      go_wp2
      refine bodyPost_ret (v := .tuple #[.string (bs []), .string (bs []), .int .i64 4]) (by simp [results, Tryz.results112, go_sem]; rfl) rfl ⟨by rw [← HVV.out], HB6.out⟩
  · have d4 : (x == 4) = false := by simpa using h4
    obtain ⟨rfl, rfl, rfl⟩ := N2 h4
    have TK2 := TK1
    have c2 := c1
    clear h4 C2 N2 c1 TK1
    go_wp2_with fail
    with_reducible refine (C3.out _ _ TK2.out.rd).mono ?_
    rintro en w4 ⟨rfl, hr4, ho4⟩
    have tk4 := TK2.out.next hr4 ho4
    have c4 := tk4.2.1
    have TK4 := Lib.hid tk4
    clear hr4 ho4 tk4 c2 TK2
    go_wp2_with fail
    with_reducible refine (C4.out _ _ _ TK4.out.rd c4 TK4.out.lt TK4.out.ne).mono ?_
    rintro en w5 ⟨rfl, ho5⟩
    have HB5 := Lib.hid (TK4.out.bel.trans (ho5.below (Nat.le_refl _) TK4.out.bel.size))
    clear c4 TK4 ho5
    go_wp2_with fail
    refine (C5.out _).mono ?_
    rintro en w6 ⟨rfl, hb6⟩
    have HB6 := Lib.hid (HB5.out.trans (hb6.mono HB5.out.size))
    clear hb6 HB5
    by_cases he : e = 0
    · have de : (e == 0) = true := by simpa using he
      have de' : (e != 0) = false := by unfold bne; rw [de]; rfl
      by_cases hA : A = l
      · have dA : ((bs A).toList == (bs l).toList) = true := by rw [hlA]; exact decide_eq_true hA
        by_cases hf : f = 2
        · have df : (f == 2) = true := by simpa using hf
          have df' : (f != 2) = false := by unfold bne; rw [df]; rfl
          have hVV := HV.out
          rw [HR.out, if_pos ⟨he, hA, hf⟩] at hVV
          have HVV := Lib.hid hVV
          clear he hA hf hVV hlA
          go_wp2
          refine bodyPost_ret (v := .tuple #[.string (bs []), .string (bs o), .int .i64 0]) (by simp [results, Tryz.results112, go_sem]; rfl) rfl ⟨by rw [← HVV.out], HB6.out⟩
        · have df : (f == 2) = false := by simpa using hf
          have df' : (f != 2) = true := by unfold bne; rw [df]; rfl
          have hVV := HV.out
          rw [HR.out, if_neg (fun h => hf h.2.2)] at hVV
          have HVV := Lib.hid hVV
          clear he hA hf hVV hlA
          go_wp2
          refine bodyPost_ret (v := .tuple #[.string (bs []), .string (bs []), .int .i64 4]) (by simp [results, Tryz.results112, go_sem]; rfl) rfl ⟨by rw [← HVV.out], HB6.out⟩
      · have dA : ((bs A).toList == (bs l).toList) = false := by rw [hlA]; exact decide_eq_false hA
        have hVV := HV.out
        rw [HR.out, if_neg (fun h => hA h.2.1)] at hVV
        have HVV := Lib.hid hVV
        clear he hA hVV hlA
        go_wp2
        refine bodyPost_ret (v := .tuple #[.string (bs []), .string (bs []), .int .i64 4]) (by simp [results, Tryz.results112, go_sem]; rfl) rfl ⟨by rw [← HVV.out], HB6.out⟩
    · have de : (e == 0) = false := by simpa using he
      have de' : (e != 0) = true := by unfold bne; rw [de]; rfl
      have hVV := HV.out
      rw [HR.out, if_neg (fun h => he h.1)] at hVV
      have HVV := Lib.hid hVV
      clear he hVV hlA
      go_wp2
      refine bodyPost_ret (v := .tuple #[.string (bs []), .string (bs []), .int .i64 4]) (by simp [results, Tryz.results112, go_sem]; rfl) rfl ⟨by rw [← HVV.out], HB6.out⟩
end Go.Proofs.YtlkdfofpnmpidaaGreat
