/- maid: the walk of the reference's Take. -/
import Derived.Test.YtecoomkpkdapdaaP7
set_option linter.unusedVariables false
namespace Go.Proofs.Ytecoomkpkdapdaa
open Go.RowKit

theorem at_le (l : List UInt8) (x : Int) (hx : ((l.getD 0 0).toNat : Int) = x) : atR l = if x = 4 then 2 + (l.getD 1 0).toNat else 1 := by unfold atR; rw [hx]
theorem no_put_len {l : List UInt8} (h : l.length ≠ 48) : takeR l = ([], [], 4) := takeR_none fun d o hh => h (mPut_len hh)
theorem no_put_at {l : List UInt8} (h : ¬ atR l ≤ 45) : takeR l = ([], [], 4) := takeR_none fun d o hh => h (ref_put hh).1
theorem no_put_end {l : List UInt8} (h : ¬ endR l ≤ 48) : takeR l = ([], [], 4) := takeR_none fun d o hh => h (ref_put hh).2.1
theorem takeR_ref (l A : List UInt8) (e : Int) (hP : mPut (domR l) (ownR l) = (A, e)) : takeR l = if e = 0 ∧ A = l then (domR l, ownR l, 0) else ([], [], 4) := by
  by_cases h : e = 0 ∧ A = l
  · rw [if_pos h]; exact takeR_of (by rw [hP, h.1, h.2])
  · rw [if_neg h]
    refine takeR_none fun d o hh => h ?_
    obtain ⟨_, _, h1, h2⟩ := ref_put hh
    rw [h1, h2, hh] at hP
    exact ⟨by simpa using (congrArg Prod.snd hP).symm, by simpa using (congrArg Prod.fst hP).symm⟩

set_option maxRecDepth 100000 in
set_option maxHeartbeats 4000000 in
theorem refTake10_any (l : List UInt8) (w : World) (hl : l.length ≤ 1000) : Calls Try.prog 97 #[.string (bs l)] w fun en w' =>
    en = .returned (.tuple #[.string (bs (takeR l).1), .string (bs (takeR l).2.1), .int .i64 (takeR l).2.2]) ∧ Below w.heap.size w w' := by
  obtain ⟨V, hV⟩ : ∃ V, (Value.tuple #[.string (bs (takeR l).1), .string (bs (takeR l).2.1), .int .i64 (takeR l).2.2]) = V := ⟨_, rfl⟩
  have HV := Lib.hid hV
  rw [hV]; clear hV
  have hs := bs_size l
  by_cases h48 : l.length = 48
  rotate_left
  · have d0 : ((l.length : Int) != 48) = true := by simp; omega
    have hVV := HV.out
    rw [no_put_len h48] at hVV
    have HVV := Lib.hid hVV
    clear h48 hVV
    go_enter Try.func97, Try.ntmps97
    go_wp2
    refine bodyPost_ret (v := .tuple #[.string (bs []), .string (bs []), .int .i64 4]) (by simp [results, Try.results97, go_sem]; rfl) rfl ⟨by rw [← HVV.out], Below.refl _ _⟩
  have d0 : ((l.length : Int) != 48) = false := by simp; omega
  obtain ⟨x, hx⟩ : ∃ x : Int, ((l.getD 0 0).toNat : Int) = x := ⟨_, rfl⟩
  obtain ⟨y, hy⟩ : ∃ y : Nat, (l.getD 1 0).toNat = y := ⟨_, rfl⟩
  have hy1 : y < 256 := by rw [← hy]; exact (l.getD 1 0).toNat_lt
  have gx : ∀ h' : 0 < (bs l).size, (((bs l)[0]'h').toNat : Int) = x := fun h' => by
    rw [bs_get l 0 h' (by omega), ← hx]; simp [List.getD, show 0 < l.length by omega]
  have gy : ∀ h' : 1 < (bs l).size, (((bs l)[1]'h').toNat : Int) = (y : Int) := fun h' => by
    rw [bs_get l 1 h' (by omega), ← hy]; simp [List.getD, show 1 < l.length by omega]
  obtain ⟨a, ha⟩ : ∃ a, atR l = a := ⟨_, rfl⟩
  have hax := at_le l x hx
  rw [ha, hy] at hax
  have hD : domR l = if x = 4 then (l.take a).drop 2 else [] := by unfold domR; rw [hx, ha]
  obtain ⟨z, hz⟩ : ∃ z : Nat, (l.getD (a + 1) 0).toNat = z := ⟨_, rfl⟩
  have hz1 : z < 256 := by rw [← hz]; exact (l.getD _ 0).toNat_lt
  have gz : a ≤ 45 → ∀ h' : a + 1 < (bs l).size, (((bs l)[a + 1]'h').toNat : Int) = (z : Int) := fun h h' => by
    rw [bs_get l (a + 1) h' (by omega), ← hz]; simp [List.getD, show a + 1 < l.length by omega]
  obtain ⟨n, hn⟩ : ∃ n, endR l = n := ⟨_, rfl⟩
  have hna : n = a + 2 + z := by rw [← hn]; unfold endR; rw [ha, hz]
  have hO : ownR l = (l.take n).drop (a + 2) := by unfold ownR; rw [hn, ha]
  obtain ⟨d, hd⟩ : ∃ d, domR l = d := ⟨_, rfl⟩
  obtain ⟨o, ho⟩ : ∃ o, ownR l = o := ⟨_, rfl⟩
  rw [hd] at hD
  rw [ho] at hO
  have nd : d.length ≤ 1000 := by rw [hD]; split <;> simp; omega
  have no : o.length ≤ 1000 := by rw [hO]; simp; omega
  obtain ⟨A, e, hP⟩ : ∃ A e, mPut d o = (A, e) := ⟨_, _, rfl⟩
  have C5 : Hid (∀ w, Calls Try.prog 80 #[.string (bs d), .string (bs o)] w fun en w' => en = .returned (.tuple #[.string (bs A), .int .i64 e]) ∧ Below w.heap.size w w') := fun w => by
    have h := refPut10_any d o w nd no
    rw [hP] at h; exact h
  have HR : Hid (takeR l = if e = 0 ∧ A = l then (d, o, 0) else ([], [], 4)) := by
    have h := takeR_ref l A e (by rw [hd, ho]; exact hP)
    rw [hd, ho] at h; exact h
  have NA : ¬ a ≤ 45 → takeR l = ([], [], 4) := fun h => no_put_at (by rw [ha]; exact h)
  have NE : ¬ n ≤ 48 → takeR l = ([], [], 4) := fun h => no_put_end (by rw [hn]; exact h)
  have hlA := bs_tl_eq A l
  have wy : IntKind.i64.wrap (y : Int) = (y : Int) := IntWalk.i64_in _ (by omega)
  have wz : IntKind.i64.wrap (z : Int) = (z : Int) := IntWalk.i64_in _ (by omega)
  clear hx hy ha hz hn hd ho nd no hP
  by_cases h4 : x = 4
  · have d4 : (x == 4) = true := by simpa using h4
    rw [if_pos h4] at hax hD
    have hA : (2 : Int) + (y : Int) = (a : Int) := by omega
    have hE : (a : Int) + 2 + (z : Int) = (n : Int) := by omega
    have HN := Lib.hid hna
    have HO := Lib.hid hO
    have HX := Lib.hid hax
    clear h4 hna hO
    have ha2 : 2 ≤ a := by omega
    clear hax
    by_cases h45 : a ≤ 45
    rotate_left
    · have d45 : decide ((45 : Int) < (a : Int)) = true := decide_eq_true (by omega)
      have hVV := HV.out
      rw [NA h45] at hVV
      have HVV := Lib.hid hVV
      clear hVV NA NE h45 gz hD
      go_enter Try.func97, Try.ntmps97
      go_wp2
      refine bodyPost_ret (v := .tuple #[.string (bs []), .string (bs []), .int .i64 4]) (by simp [results, Try.results97, go_sem]; rfl) rfl ⟨by rw [← HVV.out], Below.refl _ _⟩
    have d45 : decide ((45 : Int) < (a : Int)) = false := decide_eq_false (by omega)
    have gz' := gz h45
    have hcut : (bs l).extract 2 a = bs d := by rw [bs_extract, hD, List.drop_take]
    clear NA gz hD
    by_cases h48n : n ≤ 48
    rotate_left
    · have d48 : decide ((48 : Int) < (n : Int)) = true := decide_eq_true (by omega)
      have hVV := HV.out
      rw [NE h48n] at hVV
      have HVV := Lib.hid hVV
      clear hVV NE h48n
      go_enter Try.func97, Try.ntmps97
      go_wp2
      refine bodyPost_ret (v := .tuple #[.string (bs []), .string (bs []), .int .i64 4]) (by simp [results, Try.results97, go_sem]; rfl) rfl ⟨by rw [← HVV.out], Below.refl _ _⟩
    have d48 : decide ((48 : Int) < (n : Int)) = false := decide_eq_false (by omega)
    have hn2 : a + 2 ≤ n := by have := HN.out; omega
    have hcut2 : (bs l).extract (a + 2) n = bs o := by rw [bs_extract, HO.out, List.drop_take]
    clear NE HO
    go_enter Try.func97, Try.ntmps97
    go_wp2_with fail
    with_reducible refine (C5.out _).mono ?_
    rintro en w1 ⟨rfl, hb1⟩
    have HB := Lib.hid hb1
    clear hb1
    by_cases he : e = 0
    · have de : (e == 0) = true := by simpa using he
      have de' : (e != 0) = false := by unfold bne; rw [de]; rfl
      by_cases hA : A = l
      · have dA : ((bs A).toList == (bs l).toList) = true := by rw [hlA]; exact decide_eq_true hA
        have hVV := HV.out
        rw [HR.out, if_pos ⟨he, hA⟩] at hVV
        have HVV := Lib.hid hVV
        clear he hA hVV hlA
        go_wp2
        refine bodyPost_ret (v := .tuple #[.string (bs d), .string (bs o), .int .i64 0]) (by simp [results, Try.results97, go_sem]) rfl ⟨by rw [← HVV.out], HB.out⟩
      · have dA : ((bs A).toList == (bs l).toList) = false := by rw [hlA]; exact decide_eq_false hA
        have hVV := HV.out
        rw [HR.out, if_neg (fun h => hA h.2)] at hVV
        have HVV := Lib.hid hVV
        clear he hA hVV hlA
        go_wp2
        refine bodyPost_ret (v := .tuple #[.string (bs []), .string (bs []), .int .i64 4]) (by simp [results, Try.results97, go_sem]; rfl) rfl ⟨by rw [← HVV.out], HB.out⟩
    · have de : (e == 0) = false := by simpa using he
      have de' : (e != 0) = true := by unfold bne; rw [de]; rfl
      have hVV := HV.out
      rw [HR.out, if_neg (fun h => he h.1)] at hVV
      have HVV := Lib.hid hVV
      clear he hVV hlA
      go_wp2
      refine bodyPost_ret (v := .tuple #[.string (bs []), .string (bs []), .int .i64 4]) (by simp [results, Try.results97, go_sem]; rfl) rfl ⟨by rw [← HVV.out], HB.out⟩
  · have d4 : (x == 4) = false := by simpa using h4
    rw [if_neg h4] at hax hD
    subst hax
    subst hD
    have gz' : ∀ h' : 2 < (bs l).size, (((bs l)[2]'h').toNat : Int) = (z : Int) := gz (by omega)
    have hE : (3 : Int) + (z : Int) = (n : Int) := by omega
    have HN := Lib.hid hna
    have HO := Lib.hid hO
    clear h4 hna hO NA gz
    by_cases h48n : n ≤ 48
    rotate_left
    · have d48 : decide ((48 : Int) < (n : Int)) = true := decide_eq_true (by omega)
      have hVV := HV.out
      rw [NE h48n] at hVV
      have HVV := Lib.hid hVV
      clear hVV NE h48n
      go_enter Try.func97, Try.ntmps97
      go_wp2
      refine bodyPost_ret (v := .tuple #[.string (bs []), .string (bs []), .int .i64 4]) (by simp [results, Try.results97, go_sem]; rfl) rfl ⟨by rw [← HVV.out], Below.refl _ _⟩
    have d48 : decide ((48 : Int) < (n : Int)) = false := decide_eq_false (by omega)
    have hn2 : 3 ≤ n := by have := HN.out; omega
    have hcut2 : (bs l).extract 3 n = bs o := by rw [bs_extract, HO.out, List.drop_take]
    clear NE HO
    go_enter Try.func97, Try.ntmps97
    go_wp2_with fail
    refine (C5.out _).mono ?_
    rintro en w1 ⟨rfl, hb1⟩
    have HB := Lib.hid hb1
    clear hb1
    by_cases he : e = 0
    · have de : (e == 0) = true := by simpa using he
      have de' : (e != 0) = false := by unfold bne; rw [de]; rfl
      by_cases hA : A = l
      · have dA : ((bs A).toList == (bs l).toList) = true := by rw [hlA]; exact decide_eq_true hA
        have hVV := HV.out
        rw [HR.out, if_pos ⟨he, hA⟩] at hVV
        have HVV := Lib.hid hVV
        clear he hA hVV hlA
        go_wp2
        refine bodyPost_ret (v := .tuple #[.string (bs []), .string (bs o), .int .i64 0]) (by simp [results, Try.results97, go_sem]; rfl) rfl ⟨by rw [← HVV.out], HB.out⟩
      · have dA : ((bs A).toList == (bs l).toList) = false := by rw [hlA]; exact decide_eq_false hA
        have hVV := HV.out
        rw [HR.out, if_neg (fun h => hA h.2)] at hVV
        have HVV := Lib.hid hVV
        clear he hA hVV hlA
        go_wp2
        refine bodyPost_ret (v := .tuple #[.string (bs []), .string (bs []), .int .i64 4]) (by simp [results, Try.results97, go_sem]; rfl) rfl ⟨by rw [← HVV.out], HB.out⟩
    · have de : (e == 0) = false := by simpa using he
      have de' : (e != 0) = true := by unfold bne; rw [de]; rfl
      have hVV := HV.out
      rw [HR.out, if_neg (fun h => he h.1)] at hVV
      have HVV := Lib.hid hVV
      clear he hVV hlA
      go_wp2
      refine bodyPost_ret (v := .tuple #[.string (bs []), .string (bs []), .int .i64 4]) (by simp [results, Try.results97, go_sem]; rfl) rfl ⟨by rw [← HVV.out], HB.out⟩
end Go.Proofs.Ytecoomkpkdapdaa
