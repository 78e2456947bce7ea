/- law18: RemoteThere's plain law. -/
import Derived.Test.YtecoomkpkdapdaaSB
set_option linter.unusedVariables false
set_option linter.unusedSimpArgs false
namespace Go.Proofs.Ytecoomkpkdapdaa

/-- The point; a check that does not count. -/
def thA (lv iv : Int) : Ow8 := ⟨lv, 7, iv, mdM⟩
def badT (lv iv t : Int) : Int × Int × Int := if t = 0 then (lv, iv, 7) else if t = 1 then (lv, 9 - iv, 8) else if t = 2 then (lv + 1, iv, 8) else (lv, iv, 10)
theorem thA_ok {lv iv : Int} (h1 : 0 ≤ lv ∧ lv < 8) (h2 : iv = 4 ∨ iv = 5) : (thA lv iv).Ok := ⟨by show 0 ≤ lv ∧ lv < 256; omega, by show (0 : Int) ≤ 7 ∧ (7 : Int) < 65536; decide, by show 0 ≤ iv ∧ iv < 256; omega, by show mdM.length ≤ 1000; rw [mdM_len]; decide⟩
theorem newV_T {lv iv : Int} (h1 : 0 ≤ lv ∧ lv < 8) (h2 : iv = 4 ∨ iv = 5) : newV (thA lv iv) [9, 8] = some [(8, lastC iv, 0), (9, lastC iv, 0)] := by
  unfold newV
  rw [show mayC (thA lv iv).lv (thA lv iv).iv (thA lv iv).mp (thA lv iv).md = true from mayM h1.2 h2 (show (1 : Int) ≤ 7 ∧ (7 : Int) ≤ 8191 by decide), if_neg (by simp)]
  unfold newGo
  rw [show mayC (thA lv iv).lv (thA lv iv).iv 9 (thA lv iv).md = true from mayM h1.2 h2 (by decide)]
  unfold newGo
  rw [show mayC (thA lv iv).lv (thA lv iv).iv 8 (thA lv iv).md = true from mayM h1.2 h2 (by decide)]
  rfl
theorem lastC_bnd {iv : Int} (h : iv = 4 ∨ iv = 5) : 1 ≤ lastC iv ∧ lastC iv ≤ 35 := by rcases h with rfl | rfl <;> decide
theorem lastC_all (iv : Int) : 0 ≤ lastC iv ∧ lastC iv ≤ 35 := by unfold lastC; split <;> (try split) <;> omega
theorem hear_bad {lv iv x b y c bd cr t : Int} (h1 : 0 ≤ lv ∧ lv < 8) (h2 : iv = 4 ∨ iv = 5) (h3 : 0 ≤ bd ∧ bd ≤ 1000) :
    ∃ bd', hearC (thA lv iv) [(8, x, b), (9, y, c)] bd cr (badT lv iv t).1 false (badT lv iv t).2.1 (badT lv iv t).2.2 mdM = ([(8, x, b), (9, y, c)], bd', cr) ∧ 0 ≤ bd' ∧ bd' ≤ 1000 := by
  have hlt : ¬ lv < lv := by omega
  unfold badT
  split
  · refine ⟨max bd (lastC iv), ?_, by have := lastC_all iv; omega, by have := lastC_all iv; omega⟩
    unfold hearC refC
    simp only [mayM h1.2 h2 (show (1 : Int) ≤ 7 ∧ (7 : Int) ≤ 8191 by decide)]
    simp [thA, vFind]
  · split
    · have h9 : 9 - iv = 4 ∨ 9 - iv = 5 := by omega
      have hne : 9 - iv ≠ iv := by omega
      refine ⟨max bd (lastC (9 - iv)), ?_, by have := lastC_all (9 - iv); omega, by have := lastC_all (9 - iv); omega⟩
      unfold hearC refC
      simp only [mayM h1.2 h9 (show (1 : Int) ≤ 8 ∧ (8 : Int) ≤ 8191 by decide)]
      simp [thA, vFind, hne]
    · split
      · refine ⟨bd, ?_, h3.1, h3.2⟩
        unfold hearC refC
        rw [if_pos (by simp only [thA]; rw [Bool.or_eq_true]; exact .inr (decide_eq_true (by omega)))]
      · refine ⟨max bd (lastC iv), ?_, by have := lastC_all iv; omega, by have := lastC_all iv; omega⟩
        unfold hearC refC
        simp only [mayM h1.2 h2 (show (1 : Int) ≤ 10 ∧ (10 : Int) ≤ 8191 by decide)]
        simp [thA, vFind]
theorem hear_good {lv iv x b y c bd cr : Int} (h1 : 0 ≤ lv ∧ lv < 8) (h2 : iv = 4 ∨ iv = 5) :
    hearC (thA lv iv) [(8, x, b), (9, y, c)] bd cr lv false iv 8 mdM = ([(8, lastC iv, 0), (9, y, c)], bd, cr) := by
  unfold hearC refC
  simp only [mayM h1.2 h2 (show (1 : Int) ≤ 8 ∧ (8 : Int) ≤ 8191 by decide)]
  simp [thA, vFind, vPut, vDel, vIns]
theorem tick_two (x b y c : Int) : tickV [(8, x, b), (9, y, c)] = [(8, dn1 x, b), (9, dn1 y, c)] := rfl
/-- Is the first that is lost the eighth? -/
theorem those_two {x b y c : Int} : (0 < x ∧ (thoseV isL [(8, x, b), (9, y, c)] = [] ∨ thoseV isL [(8, x, b), (9, y, c)] = [9])) ∨ (x ≤ 0 ∧ 0 ≠ x ∧ (thoseV isL [(8, x, b), (9, y, c)] = [] ∨ thoseV isL [(8, x, b), (9, y, c)] = [9])) ∨ (x = 0 ∧ ∃ r, r.length ≤ 1 ∧ thoseV isL [(8, x, b), (9, y, c)] = 8 :: r) := by
  by_cases hx : x = 0
  · refine .inr (.inr ⟨hx, ?_⟩)
    by_cases hy : y = 0
    · exact ⟨[9], by decide, by simp [thoseV, isL, hx, hy]⟩
    · exact ⟨[], by decide, by simp [thoseV, isL, hx, hy]⟩
  · have h : thoseV isL [(8, x, b), (9, y, c)] = [] ∨ thoseV isL [(8, x, b), (9, y, c)] = [9] := by
      by_cases hy : y = 0
      · exact .inr (by simp [thoseV, isL, hx, hy])
      · exact .inl (by simp [thoseV, isL, hx, hy])
    by_cases hp : 0 < x
    · exact .inl ⟨hp, h⟩
    · exact .inr (.inl ⟨by omega, fun e => hx e.symm, h⟩)
end Go.Proofs.Ytecoomkpkdapdaa
