/- mac: the walk of Parse. -/
import Derived.Test.YtknahemnmboidaaM10
import Derived.Test.YtknahemnmboidaaM12
set_option linter.unusedVariables false
namespace Go.Proofs.Ytknahemnmboidaa
open Go.RowKit

theorem bs_beq (a b : List UInt8) : (bs a == bs b) = decide (a = b) := by
  have h : (bs a == bs b) = (a.toArray == b.toArray) := rfl
  rw [h, Bool.eq_iff_iff]; simp
theorem bs_bne (a b : List UInt8) : (bs a != bs b) = decide (a ≠ b) := by
  unfold bne; rw [bs_beq]; simp
theorem bs_tl (l : List UInt8) : (bs l).toList = l := by rw [ByteArray.toList_eq]; simp [bs]
theorem bs_tl_eq (a b : List UInt8) : ((bs a).toList == (bs b).toList) = decide (a = b) := by
  rw [bs_tl, bs_tl, Bool.eq_iff_iff]; simp
theorem valV_yes (x : Int) (h : 0 ≤ digI x) : valV x = .tuple #[.int .u8 (digI x), .bool true] := by
  unfold digI at h ⊢
  unfold valV
  split at h
  · rename_i h1; rw [if_pos h1, if_pos h1]
  · rename_i h1
    split at h
    · rename_i h2; rw [if_neg h1, if_neg h1, if_pos h2, if_pos h2]
    · omega
theorem valV_no (x : Int) (h : ¬ 0 ≤ digI x) : valV x = .tuple #[.int .u8 0, .bool false] := by
  unfold digI at h
  unfold valV
  split at h
  · omega
  · rename_i h1
    split at h
    · omega
    · rename_i h2; rw [if_neg h1, if_neg h2]
theorem mS_bd (l : List UInt8) (k j : Nat) : 0 ≤ mS l k j ∧ mS l k j < 256 := by
  by_cases h0 : k ≤ 3 * j
  · rw [mS_zero l k j h0]; omega
  · by_cases h1 : k = 3 * j + 1
    · have := mS_one l j; rw [h1]; omega
    · rw [mS_stay l j k (by omega)]; exact mS_two l j
theorem mS_pm (l : List UInt8) (h : okP l = true) (j : Nat) (hj : j < 6) : mS l 17 j = pm l j := by
  rw [mS_stay l j 17 (by omega)]
  refine mS_ok l j ?_
  simp only [okP, Bool.and_eq_true, decide_eq_true_eq] at h
  have : j = 0 ∨ j = 1 ∨ j = 2 ∨ j = 3 ∨ j = 4 ∨ j = 5 := by omega
  rcases this with rfl | rfl | rfl | rfl | rfl | rfl
  · exact h.2.1
  · exact h.2.2.1
  · exact h.2.2.2.1
  · exact h.2.2.2.2.1
  · exact h.2.2.2.2.2.1
  · exact h.2.2.2.2.2.2
theorem MB.new (W : World) (a b c d e f : Int) : MB (W.alloc (.cells #[.int .u8 a, .int .u8 b, .int .u8 c, .int .u8 d, .int .u8 e, .int .u8 f] 34)) W.heap.size a b c d e f := by
  unfold MB
  show (W.heap.push _)[W.heap.size]? = _
  simp
theorem MB.new' {W : World} {p : Nat} (hp : W.heap.size = p) (a b c d e f : Int) : MB (W.alloc (.cells #[.int .u8 a, .int .u8 b, .int .u8 c, .int .u8 d, .int .u8 e, .int .u8 f] 34)) p a b c d e f := hp ▸ MB.new W a b c d e f
/-- The block of an address. -/
def MF (W : World) (p : Nat) (m : Nat → Int) : Prop := MB W p (m 0) (m 1) (m 2) (m 3) (m 4) (m 5)
theorem MF.c {W : World} {p : Nat} {m : Nat → Int} (h : MF W p m) (j : Nat) (hj : j < 6) : W.cell? ⟨p, j, none⟩ = some (.int .u8 (m j)) := by
  have : j = 0 ∨ j = 1 ∨ j = 2 ∨ j = 3 ∨ j = 4 ∨ j = 5 := by omega
  rcases this with rfl | rfl | rfl | rfl | rfl | rfl
  · exact h.c0
  · exact h.c1
  · exact h.c2
  · exact h.c3
  · exact h.c4
  · exact h.c5
theorem MF.f {W : World} {p : Nat} {m : Nat → Int} (h : MF W p m) (j : Nat) (hj : j < 6) : W.frozen? ⟨p, j, none⟩ = false := by
  have : j = 0 ∨ j = 1 ∨ j = 2 ∨ j = 3 ∨ j = 4 ∨ j = 5 := by omega
  rcases this with rfl | rfl | rfl | rfl | rfl | rfl
  · exact h.f0
  · exact h.f1
  · exact h.f2
  · exact h.f3
  · exact h.f4
  · exact h.f5
theorem MF.s {W : World} {p : Nat} {m : Nat → Int} (h : MF W p m) (j : Nat) (hj : j < 6) (y : Int) (m' : Nat → Int) (hm : ∀ i, m' i = if i = j then y else m i) : MF (W.setCell ⟨p, j, none⟩ (.int .u8 y)) p m' := by
  have : j = 0 ∨ j = 1 ∨ j = 2 ∨ j = 3 ∨ j = 4 ∨ j = 5 := by omega
  unfold MF
  rw [hm 0, hm 1, hm 2, hm 3, hm 4, hm 5]
  rcases this with rfl | rfl | rfl | rfl | rfl | rfl
  · exact MB.s0 h y
  · exact MB.s1 h y
  · exact MB.s2 h y
  · exact MB.s3 h y
  · exact MB.s4 h y
  · exact MB.s5 h y
theorem MB.other {W : World} {p q : Nat} {o : Nat} {a b c d e f : Int} (h : MB W p a b c d e f) (hq : q ≠ p) (v : Value) : MB (W.setCell ⟨q, o, none⟩ v) p a b c d e f := by
  unfold MB at *
  simp [World.setCell, Array.getElem?_modify, h, hq]

theorem MF.to {W : World} {p : Nat} {m m' : Nat → Int} (h : MF W p m) (hm : ∀ i, m' i = m i) : MF W p m' := by
  have : m' = m := funext hm
  rw [this]; exact h

/-- The loop's state. -/
def PS (w : World) (l : List UInt8) (k : Nat) (W : World) : Prop := MB W w.heap.size 0 0 0 0 0 0 ∧ MF W (w.heap.size + 1) (mS l k) ∧ Below w.heap.size w W
set_option maxRecDepth 100000 in
set_option maxHeartbeats 4000000 in
theorem parse_any (l : List UInt8) (w : World) (hl : l.length ≤ 1000) : Calls Try.prog 38 #[.string (bs l)] w fun en w' => en = .returned (prsV l) ∧ Below w.heap.size w w' := by
  have hs := bs_size l
  go_enter Try.func38, Try.ntmps38
  go_wp2_with fail
  go_loopw [5] (fun i wr => ∃ k : Nat, k ≤ 17 ∧ k ≤ l.length ∧ i = .int .i64 k ∧ PS w l k wr) (fun i _ => 17 - (intOf i).toNat)
  case atStart =>
    refine ⟨0, by omega, by omega, rfl, ?_, ?_, ?_⟩
    · exact (MB.new w 0 0 0 0 0 0).later ((Below.refl _ _).alloc (by simp) _)
    · exact MB.new' (by simp) 0 0 0 0 0 0
    · exact ((Below.refl _ _).alloc (by simp) _).alloc (by simp) _
  case round =>
    obtain ⟨k, hk, hkl, rfl, hm0, hm1, hb⟩ := hrel
    by_cases hlt : k < l.length ∧ k < 17
    · obtain ⟨hlt, hk17⟩ := hlt
      obtain ⟨x, hx⟩ : ∃ x : Int, ((l.getD k 0).toNat : Int) = x := ⟨_, rfl⟩
      have lo : 0 ≤ x := by omega
      have hi : x < 256 := by have := (l.getD k 0).toNat_lt; omega
      have g : ∀ h' : k < (bs l).size, (((bs l)[k]'h').toNat : Int) = x := fun h' => by
        rw [bs_get l k h' hlt, ← hx]; simp [List.getD, hlt]
      obtain ⟨j, hj⟩ : ∃ j, k / 3 = j := ⟨_, rfl⟩
      obtain ⟨r, hr⟩ : ∃ r, k % 3 = r := ⟨_, rfl⟩
      have tj : (k : Int).tdiv 3 = (j : Int) := by rw [Int.tdiv_eq_ediv_of_nonneg (by omega)]; omega
      have tr : (k : Int).tmod 3 = (r : Int) := by rw [Int.tmod_eq_emod_of_nonneg (by omega)]; omega
      have hj6 : j < 6 := by omega
      have dk : decide ((k : Int) < 17) = true := decide_eq_true (by omega)
      have dl : decide ((k : Int) < (l.length : Int)) = true := decide_eq_true (by omega)
      have HM0 := Lib.hid hm0; have HM1 := Lib.hid hm1; have HB := Lib.hid hb
      clear hm0 hm1 hb
      go_wp2_with fail
      by_cases hd : 0 ≤ digI x
      · have hc := value_any x wr lo hi
        rw [valV_yes x hd] at hc
        refine hc.mono ?_
        clear hc
        rintro en _ ⟨rfl, rfl⟩
        have dlt := dig_lt x
        by_cases hr2 : r < 2
        · have d2 : decide ((r : Int) < 2) = true := decide_eq_true (by omega)
          have hM : 0 ≤ mS l k j ∧ mS l k j < 16 := by
            by_cases h0 : r = 0
            · rw [mS_zero l k j (by omega)]; omega
            · have := mS_one l j; rw [show k = 3 * j + 1 by omega]; exact this
          have hS : ∀ i, mS l (k + 1) i = if i = j then 16 * mS l k j + digI x else mS l k i := by
            intro i
            by_cases hij : i = j
            · subst hij; rw [if_pos rfl]; show (if _ then _ else _) = _; rw [hx, if_pos ⟨by omega, by omega, hd⟩]
            · rw [if_neg hij]; show (if _ then _ else _) = _; rw [if_neg (by omega)]
          have cc := HM1.out.c j hj6
          have cf := HM1.out.f j hj6
          obtain ⟨M, hMe⟩ : ∃ M, mS l k j = M := ⟨_, rfl⟩
          rw [hMe] at cc hM hS
          obtain ⟨D, hDe⟩ : ∃ D, digI x = D := ⟨_, rfl⟩
          rw [hDe] at hS hd dlt ⊢
          have no : bits .or .u8 (M * 16) D = 16 * M + D := by rw [Int.mul_comm]; exact nib_or M D hM.1 hM.2 hd dlt
          go_wp2
          refine ⟨⟨k + 1, by omega, by omega, by go_num, ?_, ?_, ?_⟩, by simp [intOf]; omega⟩
          · exact HM0.out.other (by omega) _
          · exact HM1.out.s j hj6 _ _ (fun i => by rw [hS i])
          · exact below_set HB.out (by omega) _
        · have d2 : decide ((r : Int) < 2) = false := decide_eq_false (by omega)
          have hS : ∀ i, mS l (k + 1) i = mS l k i := fun i => by show (if _ then _ else _) = _; rw [if_neg (by omega)]
          go_wp2
          exact ⟨⟨k + 1, by omega, by omega, by go_num, HM0.out, HM1.out.to hS, HB.out⟩, by simp [intOf]; omega⟩
      · have hc := value_any x wr lo hi
        rw [valV_no x hd] at hc
        refine hc.mono ?_
        clear hc
        rintro en _ ⟨rfl, rfl⟩
        have hS : ∀ i, mS l (k + 1) i = mS l k i := fun i => by show (if _ then _ else _) = _; rw [hx, if_neg (fun h => hd h.2.2)]
        go_wp2
        exact ⟨⟨k + 1, by omega, by omega, by go_num, HM0.out, HM1.out.to hS, HB.out⟩, by simp [intOf]; omega⟩
    · have hk' : k = 17 ∨ k = l.length := by omega
      obtain ⟨m, hm⟩ : ∃ m, mS l k = m := ⟨_, rfl⟩
      have bd : ∀ j, 0 ≤ m j ∧ m j < 256 := fun j => by rw [← hm]; exact mS_bd l k j
      rw [hm] at hm1
      have c0 := hm1.c 0 (by omega)
      have c1 := hm1.c 1 (by omega)
      have c2 := hm1.c 2 (by omega)
      have c3 := hm1.c 3 (by omega)
      have c4 := hm1.c 4 (by omega)
      have c5 := hm1.c 5 (by omega)
      have hz := hb.size
      have HM0 := Lib.hid hm0; have HM1 := Lib.hid hm1; have HB := Lib.hid hb; have HB0 := Lib.hid bd; have HK := Lib.hid hk'
      have hlt1 := hm1.lt
      clear hm0 hm1 hb bd hk'
      by_cases hl1 : k < l.length
      · have dk : decide ((k : Int) < 17) = false := decide_eq_false (by omega)
        have dl : decide ((k : Int) < (l.length : Int)) = true := decide_eq_true (by omega)
        go_wp2_with fail
        refine (text_of _ _ _ _ _ _ _ (HB0.out 0) (HB0.out 1) (HB0.out 2) (HB0.out 3) (HB0.out 4) (HB0.out 5)).mono ?_
        rintro en w1 ⟨rfl, hb1⟩
        have M0 := HM0.out.later (hb1.mono (Nat.le_refl _))
        have M1 := MB.later HM1.out hb1
        have Hb1 := Lib.hid (HB.out.trans (hb1.mono (by omega)))
        clear c0 c1 c2 c3 c4 c5 hb1
        have hok : ¬ okP l = true := fun hok => by
          simp only [okP, Bool.and_eq_true, decide_eq_true_eq] at hok; have := hok.1; omega
        have hT : ((bs (txt6 (m 0) (m 1) (m 2) (m 3) (m 4) (m 5))).toList == (bs l).toList) = false := by
          rw [bs_tl_eq]; exact decide_eq_false (fun h => hok (by rw [← h]; exact text_okP _ _ _ _ _ _))
        have hV := prs_no l (by simpa using hok)
        have c0 := M0.c0; have c1 := M0.c1; have c2 := M0.c2; have c3 := M0.c3; have c4 := M0.c4; have c5 := M0.c5
        have f0 := M0.f0; have f1 := M0.f1; have f2 := M0.f2; have f3 := M0.f3; have f4 := M0.f4; have f5 := M0.f5
        clear M0 M1
        have HV := Lib.hid hV; clear hV
        go_wp2
        refine bodyPost_ret (v := .tuple #[.agg #[.int .u8 0, .int .u8 0, .int .u8 0, .int .u8 0, .int .u8 0, .int .u8 0], .bool false]) (by simp [results, Try.results38, go_sem, c0, c1, c2, c3, c4, c5]) rfl ⟨congrArg Ending.returned HV.out.symm, ?_⟩
        repeat (refine below_set ?_ (by omega) _)
        exact Hb1.out
      · have dl : decide ((k : Int) < (l.length : Int)) = false := decide_eq_false (by omega)
        go_wp2_with fail
        refine (text_of _ _ _ _ _ _ _ (HB0.out 0) (HB0.out 1) (HB0.out 2) (HB0.out 3) (HB0.out 4) (HB0.out 5)).mono ?_
        rintro en w1 ⟨rfl, hb1⟩
        have M0 := HM0.out.later (hb1.mono (Nat.le_refl _))
        have M1 := MB.later HM1.out hb1
        have Hb1 := Lib.hid (HB.out.trans (hb1.mono (by omega)))
        clear c0 c1 c2 c3 c4 c5 hb1
        by_cases hok : okP l = true
        · have hlen : l.length = 17 := by simp only [okP, Bool.and_eq_true, decide_eq_true_eq] at hok; exact hok.1
          have k17 : k = 17 := by omega
          have e : ∀ j, j < 6 → m j = pm l j := fun j hj => by rw [← hm, k17]; exact mS_pm l hok j hj
          have hT : ((bs (txt6 (m 0) (m 1) (m 2) (m 3) (m 4) (m 5))).toList == (bs l).toList) = true := by
            rw [bs_tl_eq, e 0 (by omega), e 1 (by omega), e 2 (by omega), e 3 (by omega), e 4 (by omega), e 5 (by omega)]; exact decide_eq_true (okP_text l hok)
          have hV : prsV l = .tuple #[.agg #[.int .u8 (m 0), .int .u8 (m 1), .int .u8 (m 2), .int .u8 (m 3), .int .u8 (m 4), .int .u8 (m 5)], .bool true] := by
            unfold prsV; rw [if_pos hok, e 0 (by omega), e 1 (by omega), e 2 (by omega), e 3 (by omega), e 4 (by omega), e 5 (by omega)]
          have HV := Lib.hid hV
          clear e hV
          have c0 := M0.c0; have c1 := M0.c1; have c2 := M0.c2; have c3 := M0.c3; have c4 := M0.c4; have c5 := M0.c5
          have f0 := M0.f0; have f1 := M0.f1; have f2 := M0.f2; have f3 := M0.f3; have f4 := M0.f4; have f5 := M0.f5
          have d0 := M1.c0; have d1 := M1.c1; have d2 := M1.c2; have d3 := M1.c3; have d4 := M1.c4; have d5 := M1.c5
          clear M0 M1
          go_wp2
          refine bodyPost_ret (v := .tuple #[.agg #[.int .u8 (m 0), .int .u8 (m 1), .int .u8 (m 2), .int .u8 (m 3), .int .u8 (m 4), .int .u8 (m 5)], .bool true]) (by simp [results, Try.results38, go_sem, c0, c1, c2, c3, c4, c5]) rfl ⟨congrArg Ending.returned HV.out.symm, ?_⟩
          repeat (refine below_set ?_ (by omega) _)
          exact Hb1.out
        · have hT : ((bs (txt6 (m 0) (m 1) (m 2) (m 3) (m 4) (m 5))).toList == (bs l).toList) = false := by
            rw [bs_tl_eq]; exact decide_eq_false (fun h => hok (by rw [← h]; exact text_okP _ _ _ _ _ _))
          have hV := prs_no l (by simpa using hok)
          have c0 := M0.c0; have c1 := M0.c1; have c2 := M0.c2; have c3 := M0.c3; have c4 := M0.c4; have c5 := M0.c5
          have f0 := M0.f0; have f1 := M0.f1; have f2 := M0.f2; have f3 := M0.f3; have f4 := M0.f4; have f5 := M0.f5
          clear M0 M1
          have HV := Lib.hid hV; clear hV
          go_wp2
          refine bodyPost_ret (v := .tuple #[.agg #[.int .u8 0, .int .u8 0, .int .u8 0, .int .u8 0, .int .u8 0, .int .u8 0], .bool false]) (by simp [results, Try.results38, go_sem, c0, c1, c2, c3, c4, c5]) rfl ⟨congrArg Ending.returned HV.out.symm, ?_⟩
          repeat (refine below_set ?_ (by omega) _)
          exact Hb1.out
end Go.Proofs.Ytknahemnmboidaa
