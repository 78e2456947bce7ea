/- ref07: In. -/
import Derived.Test.YtecoomkpkdapdaaQ8
set_option linter.unusedVariables false
namespace Go.Proofs.Ytecoomkpkdapdaa
open Go.RowKit

set_option maxRecDepth 100000 in
set_option maxHeartbeats 8000000 in
theorem refIn_any (FA : Array Value) (n : Int) (s : Value) (o : List Int) (V : List Vn) (p : Nat) (t : Bool) (v : Int) (w : World) (h12 : FA[12]? = some (.bool t)) (h14 : FA[14]? = some (.int .u16 v)) (hV : Vs w s V) (hl : V.length ≤ 100) (hwf : ∀ x ∈ V, (0 ≤ x.2.1 ∧ x.2.1 < 256) ∧ (0 ≤ x.2.2 ∧ x.2.2 < 256)) (ho : o.length = 8) (hn : n ≤ 8) (hp : p < 256) (hv : 0 ≤ v ∧ v < 65536) : Calls Try.prog 21 #[.agg (RA n s o), .int .u8 (p : Int), .agg FA] w fun en w' => en = .returned (.tuple #[.int .u16 (inF n o V p t v).1, .bool (inF n o V p t v).2]) ∧ Below w.heap.size w w' := by
  obtain ⟨A, hA⟩ : ∃ A, RA n s o = A := ⟨_, rfl⟩
  have HAR := Lib.hid (RA_AR (n := n) (s := s) ho hV.one)
  rw [hA] at HAR
  have HA := Lib.hid hA
  rw [hA]
  have HIL := Lib.hid HAR.out.il
  have a0 : Hid (A[0]? = some (.int .i64 n)) := Lib.hid (by rw [← hA]; rfl)
  have HV := Lib.hid hV
  obtain ⟨R, hR⟩ : ∃ R, inF n o V p t v = R := ⟨_, rfl⟩
  rw [hR]
  have HR := Lib.hid hR
  have MBR : Hid (∀ (k : Int) w1, Below w.heap.size w w1 → Calls Try.prog 20 #[.agg A, .int .u16 k] w1 fun en w' => en = .returned (.int .u8 (vGet V k).1) ∧ Below w1.heap.size w1 w') := Lib.hid fun k w1 hb => by
    rw [← HA.out]; exact refMembers_any n s o V k w1 (HV.out.later vnC_len hb) hl ho
  have HAS : Hid (∀ (k : Int) w1, Calls Try.prog 68 #[.int .u8 (vGet V k).1, .int .u8 (p : Int)] w1 fun en w' => en = .returned (.bool (memB (vGet V k).1 p)) ∧ w' = w1) := Lib.hid fun k w1 => has_any _ p w1 (vGet_wf2 hwf k).1 hp
  have hwp : wrap64 (p : Int) = (p : Int) := by unfold wrap64; omega
  have HHV := Lib.hid hv
  clear hA hR hV hwf hv
  go_enter Try.func21, Try.ntmps21
  go_upto_region 1 with fail
  have g1 := (GB.new 43 w A).later ((Below.refl _ _).alloc (Nat.le_refl _) (.cells FA 26))
  have g2 := GB.new 26 (w.alloc (.cells A 43)) FA
  rw [World.size_alloc] at g2
  have hb0 : Below w.heap.size w ((w.alloc (.cells A 43)).alloc (.cells FA 26)) := ((Below.refl _ _).alloc (Nat.le_refl _) _).alloc (by simp) _
  obtain ⟨w0, hw0⟩ : ∃ K, (w.alloc (.cells A 43)).alloc (.cells FA 26) = K := ⟨_, rfl⟩
  rw [hw0] at g1 g2 hb0 ⊢
  have G1 := Lib.hid g1
  have B0 := Lib.hid hb0
  have c0 := g1.c 0 _ a0.out
  have c12 := g2.c 12 _ h12
  have c14 := g2.c 14 _ h14
  clear hw0 hb0 h12 h14
  by_cases h1 : n ≤ (p : Int)
  · have d1 : decide (n ≤ (p : Int)) = true := decide_eq_true h1
    have HR2 : Hid (R = (0, false)) := Lib.hid (by rw [← HR.out]; unfold inF; rw [if_pos h1])
    clear h1 g1 g2
    go_wp2
    exact bodyPost_ret (v := .tuple #[.int .u16 0, .bool false]) (by simp [results, Try.results21, go_sem]) rfl ⟨by rw [HR2.out], B0.out⟩
  · have d1 : decide (n ≤ (p : Int)) = false := decide_eq_false h1
    have hp8 : p < 8 := by omega
    have hpi : (p : Int) < 8 := by omega
    obtain ⟨y, hy⟩ : ∃ y, o[p]? = some y := ⟨_, List.getElem?_eq_getElem (by omega)⟩
    have ap : A[2 + p]? = some (.int .u16 y) := by rw [← HA.out]; exact RA_at n s o p y hy
    have cp := g1.c (2 + p) _ ap
    have hgd : o.getD p 0 = y := by rw [List.getD_eq_getElem?_getD, hy]; rfl
    have HRR : Hid (R = if memB (vGet V (if t = true ∧ v ≠ 0 then v else y)).1 p = true then ((if t = true ∧ v ≠ 0 then v else y), true) else (0, false)) := Lib.hid (by
      rw [← HR.out]; unfold inF; rw [if_neg h1, hgd])
    have hcase : (∃ z, (if t = true ∧ v ≠ 0 then v else y) = z ∧ ((t = true ∧ decide ((0 : Int) < v) = true ∧ z = v) ∨ (t = true ∧ decide ((0 : Int) < v) = false ∧ z = y) ∨ (t = false ∧ z = y))) := by
      cases t
      · exact ⟨y, if_neg (fun h => by cases h.1), .inr (.inr ⟨rfl, rfl⟩)⟩
      · by_cases h0 : v = 0
        · exact ⟨y, if_neg (fun h => h.2 h0), .inr (.inl ⟨rfl, by rw [h0]; rfl, rfl⟩)⟩
        · exact ⟨v, if_pos ⟨rfl, h0⟩, .inl ⟨rfl, decide_eq_true (by have := HHV.out; omega), rfl⟩⟩
    obtain ⟨z, hz, hcs⟩ := hcase
    rw [hz] at HRR
    have M1 := Lib.hid (MBR.out z)
    have S1 := Lib.hid (HAS.out z)
    obtain ⟨e1, he1⟩ : ∃ e, (vGet V z).1 = e := ⟨_, rfl⟩
    rw [he1] at M1 S1 HRR
    obtain ⟨B, hB⟩ : ∃ B, memB e1 p = B := ⟨_, rfl⟩
    rw [hB] at S1 HRR
    clear h1 g1 g2 hy ap hgd hz he1 hB
    rcases hcs with ⟨rfl, dv, rfl⟩ | ⟨rfl, dv, rfl⟩ | ⟨rfl, rfl⟩
    all_goals
      go_upto_region 6 with fail
      clear c0 c12 c14 cp
      go_wp2_with ((with_reducible refine wpList_load_mid rfl 43 (.tmp 3) rfl w.heap.size 0 ?hx A.toList _ G1.out.range Try.underlying43 ?hu HIL.out ?_); (case hx => rfl); (case hu => rfl))
      with_reducible refine (M1.out _ B0.out).mono ?_
      rintro en w1 ⟨rfl, hb1⟩
      have B1 := Lib.hid (B0.out.trans (hb1.mono B0.out.size))
      clear hb1
      go_wp2_with fail
      with_reducible refine (S1.out _).mono ?_
      rintro en w2 ⟨rfl, rfl⟩
      cases B
      · have HR2 : Hid (R = (0, false)) := HRR
        go_wp2
        exact bodyPost_ret (v := .tuple #[.int .u16 0, .bool false]) (by simp [results, Try.results21, go_sem]) rfl ⟨by rw [HR2.out], B1.out⟩
      · have HR2 := Lib.hid (HRR.out.trans (if_pos rfl))
        go_wp2
        exact bodyPost_ret (v := .tuple #[.int .u16 R.1, .bool R.2]) (by rw [HR2.out]; simp [results, Try.results21, go_sem]) rfl ⟨rfl, B1.out⟩
end Go.Proofs.Ytecoomkpkdapdaa
