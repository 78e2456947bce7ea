/- maid: the walk of Put. -/
import Derived.Test.YtecoomkpkdapdaaP2a
set_option linter.unusedVariables false
namespace Go.Proofs.Ytecoomkpkdapdaa
open Go.RowKit

set_option maxRecDepth 100000 in
set_option maxHeartbeats 4000000 in
theorem put10_any (d o : List UInt8) (w : World) (hd : d.length ≤ 1000) (ho : o.length ≤ 1000) :
    Calls Try.prog 132 #[.string (bs d), .string (bs o)] w fun en w' => en = .returned (.tuple #[.string (bs (mPut d o).1), .int .i64 (mPut d o).2]) ∧ Below w.heap.size w w' := by
  have hsd := bs_size d
  have hso := bs_size o
  by_cases h0 : o = []
  · have hP : mPut d o = ([], 2) := by unfold mPut; rw [if_neg (fun h => h.1 h0)]
    rw [hP]
    have e0 : (bs o).toList.isEmpty = true := by rw [empty_eq]; exact decide_eq_true h0
    clear hP h0
    go_enter Try.func132, Try.ntmps132
    go_wp2
    refine bodyPost_ret (v := .tuple #[.string (bs []), .int .i64 2]) (by simp [results, Try.results132, go_sem]; rfl) rfl ⟨rfl, Below.refl _ _⟩
  have e0 : (bs o).toList.isEmpty = false := by rw [empty_eq]; exact decide_eq_false h0
  by_cases h1 : plB o = true
  rotate_left
  · have hP : mPut d o = ([], 2) := by unfold mPut; rw [if_neg (fun h => h1 h.2.1)]
    rw [hP]
    have HC : Hid (∀ w, Calls Try.prog 134 #[.string (bs o)] w fun en w' => en = .returned (.bool false) ∧ Below w.heap.size w w') := by
      have : plB o = false := by simpa using h1
      rw [← this]; exact fun w => plain_any o w (by omega)
    clear hP h0 h1
    go_enter Try.func132, Try.ntmps132
    go_wp2_with fail
    refine (HC.out _).mono ?_
    rintro en w1 ⟨rfl, hb⟩
    go_wp2
    refine bodyPost_ret (v := .tuple #[.string (bs []), .int .i64 2]) (by simp [results, Try.results132, go_sem]; rfl) rfl ⟨rfl, hb⟩
  have HC : Hid (∀ w, Calls Try.prog 134 #[.string (bs o)] w fun en w' => en = .returned (.bool true) ∧ Below w.heap.size w w') := by
    rw [← h1]; exact fun w => plain_any o w (by omega)
  by_cases h2 : plB d = true
  rotate_left
  · have hP : mPut d o = ([], 2) := by unfold mPut; rw [if_neg (fun h => h2 h.2.2)]
    rw [hP]
    have HC2 : Hid (∀ w, Calls Try.prog 134 #[.string (bs d)] w fun en w' => en = .returned (.bool false) ∧ Below w.heap.size w w') := by
      have : plB d = false := by simpa using h2
      rw [← this]; exact fun w => plain_any d w (by omega)
    clear hP h0 h1 h2
    go_enter Try.func132, Try.ntmps132
    go_wp2_with fail
    refine (HC.out _).mono ?_
    rintro en w1 ⟨rfl, hb1⟩
    go_wp2_with fail
    refine (HC2.out _).mono ?_
    rintro en w2 ⟨rfl, hb2⟩
    go_wp2
    refine bodyPost_ret (v := .tuple #[.string (bs []), .int .i64 2]) (by simp [results, Try.results132, go_sem]; rfl) rfl ⟨rfl, hb1.trans (hb2.mono hb1.size)⟩
  have HC2 : Hid (∀ w, Calls Try.prog 134 #[.string (bs d)] w fun en w' => en = .returned (.bool true) ∧ Below w.heap.size w w') := by
    rw [← h2]; exact fun w => plain_any d w (by omega)
  by_cases h3 : d.length + o.length ≤ 44
  rotate_left
  · have hP : mPut d o = ([], 5) := by unfold mPut; rw [if_pos ⟨h0, h1, h2⟩, if_neg h3]
    rw [hP]
    clear hP h0 h1 h2
    go_enter Try.func132, Try.ntmps132
    go_wp2_with fail
    refine (HC.out _).mono ?_
    rintro en w1 ⟨rfl, hb1⟩
    go_wp2_with fail
    refine (HC2.out _).mono ?_
    rintro en w2 ⟨rfl, hb2⟩
    have HB := Lib.hid (hb1.trans (hb2.mono hb1.size))
    clear hb1 hb2
    by_cases h4 : 44 < d.length
    · have d4 : decide (44 < (d.length : Int)) = true := decide_eq_true (by omega)
      go_wp2
      refine bodyPost_ret (v := .tuple #[.string (bs []), .int .i64 5]) (by simp [results, Try.results132, go_sem]; rfl) rfl ⟨rfl, HB.out⟩
    · have d4 : decide (44 < (d.length : Int)) = false := decide_eq_false (by omega)
      have d5 : decide ((44 : Int) - (d.length : Int) < (o.length : Int)) = true := decide_eq_true (by omega)
      go_wp2
      refine bodyPost_ret (v := .tuple #[.string (bs []), .int .i64 5]) (by simp [results, Try.results132, go_sem]; rfl) rfl ⟨rfl, HB.out⟩
  have hP : mPut d o = (padT (mBody d o), 0) := by unfold mPut; rw [if_pos ⟨h0, h1, h2⟩, if_pos h3]
  rw [hP]
  obtain ⟨R, hR⟩ : ∃ R, padT (mBody d o) = R := ⟨_, rfl⟩
  have HR := Lib.hid hR
  rw [hR]
  have hbl := mBody_len d o
  have d4 : decide (44 < (d.length : Int)) = false := decide_eq_false (by omega)
  have d5 : decide ((44 : Int) - (d.length : Int) < (o.length : Int)) = false := decide_eq_false (by omega)
  have HBL := Lib.hid hbl
  clear hP h0 h1 h2 hR hbl
  go_enter Try.func132, Try.ntmps132
  go_wp2_with fail
  refine (HC.out _).mono ?_
  rintro en w1 ⟨rfl, hb1⟩
  go_wp2_with fail
  refine (HC2.out _).mono ?_
  rintro en w2 ⟨rfl, hb2⟩
  have hB2 := hb1.trans (hb2.mono hb1.size)
  clear hb1 hb2
  by_cases h5 : d = []
  · have e5 : (bs d).toList.isEmpty = true := by rw [empty_eq]; exact decide_eq_true h5
    have hbody : mBody d o = [1] ++ 2 :: lenB o :: o := by unfold mBody; rw [if_pos h5]
    have hl1 := Bys.lit w2 w.heap.size #[.int .u8 1] [1] hB2.size rfl (by simp)
    have HL1 := Lib.hid hl1
    have HB2 := Lib.hid (hB2.alloc hB2.size (.cells #[.int .u8 1] 5))
    have HBD := Lib.hid hbody
    have hlen3 : (mBody d o).length ≤ 48 := by rw [HBL.out, if_pos h5]; omega
    clear hB2 hl1 hbody h5
    go_wp2_with fail
    refine (mput_any w.heap.size _ [1] o 2 _ HB2.out.size HL1.out (by simp) (by omega)).mono ?_
    rintro en w3 ⟨v3, rfl, hown3, hb3⟩
    rw [← HBD.out] at hown3
    have hk3 : ((48 : Int) - ((mBody d o).length : Int)) = ((48 - (mBody d o).length : Nat) : Int) := by omega
    have HB3 := Lib.hid (HB2.out.trans hb3)
    have hz3 := HB3.out.size
    have hne : (mBody d o) ≠ [] := by unfold mBody; simp
    obtain ⟨g, cap, rfl, _, _, hcp, hcm⟩ := hown3.shape.resolve_left (fun h => hne h.2)
    have HO3 := Lib.hid hown3
    clear hown3 hb3 hne
    obtain ⟨n, hn⟩ : ∃ n, (mBody d o).length = n := ⟨_, rfl⟩
    have hR2 : padT (mBody d o) = mBody d o ++ List.replicate (48 - n) 0 := by unfold padT; rw [hn]
    rw [HR.out] at hR2
    rw [hn] at hlen3 hk3 HO3 ⊢
    have HN := Lib.hid hn
    have HR2 := Lib.hid hR2
    clear hn hR2
    go_wp2_with (at_builtin; refine wpList_append_zeros rfl (.tmp 40) (.tmp 43) rfl w.heap.size _ (mBody d o) rfl HO3.out (48 - n) rfl ?_ ?_ ?_)
    · have := HN.out; omega
    · exact hz3
    · intro v4 w4 hown4 hb4
      rw [← HR2.out] at hown4
      have hstr := run_string_bys hown4
      have HB4 := Lib.hid (HB3.out.trans hb4)
      clear hown4 hb4 HO3
      go_wp2
      refine bodyPost_ret (v := .tuple #[.string (bs R), .int .i64 0]) (by simp [results, Try.results132, go_sem]) rfl ⟨rfl, HB4.out⟩
  · have e5 : (bs d).toList.isEmpty = false := by rw [empty_eq]; exact decide_eq_false h5
    have hbody : mBody d o = ([] ++ 4 :: lenB d :: d) ++ 2 :: lenB o :: o := by unfold mBody; rw [if_neg h5]; rfl
    have HBD := Lib.hid hbody
    have hlen3 : (mBody d o).length ≤ 48 := by rw [HBL.out, if_neg h5]; omega
    have HB2 := Lib.hid (hB2.alloc hB2.size (.cells #[.int .u8 1] 5))
    clear hB2 hbody h5
    go_wp2_with fail
    refine (mput_any w.heap.size _ [] d 4 _ HB2.out.size (Bys.none _ _) (by simp) (by omega)).mono ?_
    rintro en w2' ⟨v2, rfl, hown2, hb2⟩
    have HBx := Lib.hid (HB2.out.trans hb2)
    have HO2 := Lib.hid hown2
    clear hb2 hown2 HB2
    go_wp2_with fail
    refine (mput_any w.heap.size _ _ o 2 _ HBx.out.size HO2.out (by simp; omega) (by omega)).mono ?_
    rintro en w3 ⟨v3, rfl, hown3, hb3⟩
    rw [← HBD.out] at hown3
    have hk3 : ((48 : Int) - ((mBody d o).length : Int)) = ((48 - (mBody d o).length : Nat) : Int) := by omega
    have HB3 := Lib.hid (HBx.out.trans hb3)
    have hz3 := HB3.out.size
    have hne : (mBody d o) ≠ [] := by unfold mBody; simp
    obtain ⟨g, cap, rfl, _, _, hcp, hcm⟩ := hown3.shape.resolve_left (fun h => hne h.2)
    have HO3 := Lib.hid hown3
    clear hown3 hb3 hne
    obtain ⟨n, hn⟩ : ∃ n, (mBody d o).length = n := ⟨_, rfl⟩
    have hR2 : padT (mBody d o) = mBody d o ++ List.replicate (48 - n) 0 := by unfold padT; rw [hn]
    rw [HR.out] at hR2
    rw [hn] at hlen3 hk3 HO3 ⊢
    have HN := Lib.hid hn
    have HR2 := Lib.hid hR2
    clear hn hR2
    go_wp2_with (at_builtin; refine wpList_append_zeros rfl (.tmp 40) (.tmp 43) rfl w.heap.size _ (mBody d o) rfl HO3.out (48 - n) rfl ?_ ?_ ?_)
    · have := HN.out; omega
    · exact hz3
    · intro v4 w4 hown4 hb4
      rw [← HR2.out] at hown4
      have hstr := run_string_bys hown4
      have HB4 := Lib.hid (HB3.out.trans hb4)
      clear hown4 hb4 HO3
      go_wp2
      refine bodyPost_ret (v := .tuple #[.string (bs R), .int .i64 0]) (by simp [results, Try.results132, go_sem]) rfl ⟨rfl, HB4.out⟩
end Go.Proofs.Ytecoomkpkdapdaa
