/- ref07: Drop, SetOwn, Members. -/
import Derived.Test.YtecoomkpkdapdaaQ6
set_option linter.unusedVariables false
namespace Go.Proofs.Ytecoomkpkdapdaa
open Go.RowKit

/-- A table's box, the result's block. -/
structure BX (w W : World) (A Z : Array Value) : Prop where
  g : GB 43 W w.heap.size A
  z : GB 43 W (w.heap.size + 1) Z
  bel : Below w.heap.size w W
def rZ : Array Value := #[.int .i64 0, .slice none 0 0, .int .u16 0, .int .u16 0, .int .u16 0, .int .u16 0, .int .u16 0, .int .u16 0, .int .u16 0, .int .u16 0]
section
variable {w W W' : World} {A Z : Array Value}
theorem BX.later (h : BX w W A Z) (hb : Below W.heap.size W W') : BX w W' A Z := ⟨h.g.later hb, h.z.later hb, h.bel.trans (hb.mono h.bel.size)⟩
theorem BX.new (w : World) (A Z : Array Value) : BX w ((w.alloc (.cells A 43)).alloc (.cells Z 43)) A Z := by
  refine ⟨(GB.new 43 w A).later ((Below.refl _ _).alloc (Nat.le_refl _) _), ?_, ((Below.refl _ _).alloc (Nat.le_refl _) _).alloc (by simp) _⟩
  have := GB.new 43 (w.alloc (.cells A 43)) Z
  rwa [World.size_alloc] at this
/-- The result is stored. -/
theorem BX.store (h : BX w W A Z) {A' : Array Value} (hs : Z.size = A'.size) (h1 : A'.all (·.oneCell') = true) : BX w (W.setCells (w.heap.size + 1) 0 A'.toList) A A' :=
  ⟨h.g.cellsOther (by omega) A'.toList 0 W, h.z.store hs h1, below_cellsG (Nat.le_succ _) A'.toList 0 W h.bel⟩
theorem BX.th (h : BX w W A Z) {n : Nat} (hn : n ≤ Z.size) : W.there (w.heap.size + 1) 0 n := h.z.there hn
theorem BX.set (h : BX w W A Z) (j : Nat) (v : Value) : BX w (W.setCell ⟨w.heap.size, j, none⟩ v) (A.setIfInBounds j v) Z :=
  ⟨h.g.set j v, h.z.other (by omega) v, below_set h.bel (Nat.le_refl _) v⟩
end
/-- What is kept of a table's array. -/
structure AR (A : Array Value) : Prop where
  s : A.size = 10
  o : A.all (·.oneCell') = true
theorem AR.i {A : Array Value} (h : AR A) : (Try.prog.info? 43).map (·.size) = some A.size := refInfo h.s
theorem AR.il {A : Array Value} (h : AR A) : (Try.prog.info? 43).map (·.size) = some A.toList.length := by rw [Array.length_toList]; exact h.i
theorem RA_AR {n : Int} {s : Value} {o : List Int} (ho : o.length = 8) (hs : s.oneCell' = true) : AR (RA n s o) := ⟨RA_size ho, RA_one hs⟩
/-- Drop: the error; the VLANs. -/
def dropErr (V : List Vn) (k : Int) : Int := if ¬ (1 ≤ k ∧ k ≤ 4094) then 2 else if (vFind V k).isSome = false then 7 else 0
def dropV (V : List Vn) (k : Int) : List Vn := if dropErr V k = 0 then vDel V k else V
theorem vIdx_neg (V : List Vn) (k : Int) : decide (vIdx V k < 0) = !(vFind V k).isSome := by
  rcases vIdx_find V k with ⟨h1, h2⟩ | ⟨j, hj, h1, h2, _⟩
  · rw [h1, h2]; rfl
  · rw [h1, h2]; simp
set_option maxRecDepth 100000 in
set_option maxHeartbeats 8000000 in
theorem refDrop_any (n : Int) (s : Value) (o : List Int) (V : List Vn) (k : Int) (w : World) (hV : Vs w s V) (hl : V.length ≤ 100) (ho : o.length = 8) (hk : 0 ≤ k ∧ k < 65536) : Calls Try.prog 62 #[.agg (RA n s o), .int .u16 k] w fun en w' => ∃ s', en = .returned (.tuple #[.agg (RA n s' o), .int .i64 (dropErr V k)]) ∧ Vs w' s' (dropV V k) ∧ Below w.heap.size w w' := by
  obtain ⟨A, hA⟩ : ∃ A, RA n s o = A := ⟨_, rfl⟩
  obtain ⟨Z, hZ⟩ : ∃ Z, rZ = Z := ⟨_, rfl⟩
  have hZ' : #[.int .i64 0, .slice none 0 0, .int .u16 0, .int .u16 0, .int .u16 0, .int .u16 0, .int .u16 0, .int .u16 0, .int .u16 0, .int .u16 0] = Z := hZ
  have HZS : Hid (Z.size = 10) := Lib.hid (by rw [← hZ]; rfl)
  have HAR := Lib.hid (RA_AR (n := n) (s := s) ho hV.one)
  rw [hA] at HAR
  have HA := Lib.hid hA
  rw [hA]
  have HI := Lib.hid HAR.out.i
  have HIL := Lib.hid HAR.out.il
  have OC := Lib.hid HAR.out.o
  have HV := Lib.hid hV
  clear hA hZ hV
  have FD : Hid (∀ w1, Below w.heap.size w w1 → Calls Try.prog 67 #[.agg A, .int .u16 k] w1 fun en w' => en = .returned (.int .i64 (vIdx V k)) ∧ Below w1.heap.size w1 w') := Lib.hid fun w1 hb => by
    rw [← HA.out]; exact find_any n s o V k w1 (HV.out.later vnC_len hb) hl
  have WO : Hid (∀ w1, Below w.heap.size w w1 → Calls Try.prog 90 #[.agg A, .int .u16 k] w1 fun en w' => ∃ s', en = .returned (.agg (RA n s' o)) ∧ VO w' w1.heap.size s' (vDel V k) ∧ Below w1.heap.size w1 w') := Lib.hid fun w1 hb => by
    rw [← HA.out]; exact without_any n s o V k w1 (HV.out.later vnC_len hb) hl ho
  obtain ⟨R, hR⟩ : ∃ R, dropErr V k = R := ⟨_, rfl⟩
  rw [hR]
  have HR := Lib.hid hR
  clear hR
  by_cases hr : 1 ≤ k ∧ k ≤ 4094
  · have d1 : decide (k < 1) = false := decide_eq_false (by omega)
    have d2 : decide (4094 < k) = false := decide_eq_false (by omega)
    have hx := vIdx_neg V k
    obtain ⟨X, hX⟩ : ∃ X, vIdx V k = X := ⟨_, rfl⟩
    rw [hX] at hx FD
    cases hf : (vFind V k).isSome
    · have hx2 : decide (X < 0) = true := by rw [hx, hf]; rfl
      have HR2 : Hid (R = 7) := Lib.hid (by rw [← HR.out]; unfold dropErr; rw [if_neg (by omega), if_pos hf])
      have HDV : Hid (dropV V k = V) := Lib.hid (by unfold dropV; rw [HR.out, HR2.out]; rfl)
      clear hx hf hX
      go_enter Try.func62, Try.ntmps62
      go_upto_region 1 with fail
      have t0 := BX.new w A Z
      clear hZ'
      obtain ⟨w0, hw0⟩ : ∃ k, (w.alloc (.cells A 43)).alloc (.cells Z 43) = k := ⟨_, rfl⟩
      rw [hw0] at t0 ⊢
      have T := Lib.hid t0
      clear hw0 t0
      have TH := Lib.hid (T.out.th (n := A.size) (by rw [HZS.out, HAR.out.s]; exact Nat.le_refl _))
      go_wp2_with ((with_reducible refine wpList_load_mid rfl 43 (.tmp 2) rfl w.heap.size 0 ?hx A.toList _ T.out.g.range Try.underlying43 ?hu HIL.out ?_); (case hx => rfl); (case hu => rfl))
      with_reducible refine (FD.out _ T.out.bel).mono ?_
      rintro en w1 ⟨rfl, hb1⟩
      have T := Lib.hid (T.out.later hb1)
      have TH := Lib.hid (T.out.th (n := A.size) (by rw [HZS.out, HAR.out.s]; exact Nat.le_refl _))
      clear hb1
      go_wp2_with (first | ((with_reducible refine wpList_load_mid rfl 43 (.tmp 2) rfl w.heap.size 0 ?hx A.toList _ T.out.g.range Try.underlying43 ?hu HIL.out ?_); (case hx => rfl); (case hu => rfl)) | ((with_reducible refine wpList_store_mid rfl 43 (.tmp 4) (.tmp 17) rfl (w.heap.size + 1) 0 A ?hx ?hy TH.out HI.out OC.out ?_); (case hx => rfl); (case hy => rfl)))
      have T2 := T.out.store (A' := A) (by rw [HZS.out, HAR.out.s]) OC.out
      exact bodyPost_ret (v := .tuple #[.agg A, .int .i64 7]) (res_two (d := _) (p := 4) (u := 5) rfl rfl Try.underlying43 _ _ (w.heap.size + 1) _ rfl T2.z HI.out) rfl ⟨s, by rw [← HA.out, HR2.out], by rw [HDV.out]; exact HV.out.later vnC_len T2.bel, T2.bel⟩
    · have hx2 : decide (X < 0) = false := by rw [hx, hf]; rfl
      have HR2 : Hid (R = 0) := Lib.hid (by rw [← HR.out]; unfold dropErr; rw [if_neg (by omega), if_neg (by rw [hf]; simp)])
      have HDV : Hid (dropV V k = vDel V k) := Lib.hid (by unfold dropV; rw [HR.out, HR2.out]; rfl)
      clear hx hf hX
      go_enter Try.func62, Try.ntmps62
      go_upto_region 1 with fail
      have t0 := BX.new w A Z
      clear hZ'
      obtain ⟨w0, hw0⟩ : ∃ k, (w.alloc (.cells A 43)).alloc (.cells Z 43) = k := ⟨_, rfl⟩
      rw [hw0] at t0 ⊢
      have T := Lib.hid t0
      clear hw0 t0
      have TH := Lib.hid (T.out.th (n := A.size) (by rw [HZS.out, HAR.out.s]; exact Nat.le_refl _))
      go_wp2_with ((with_reducible refine wpList_load_mid rfl 43 (.tmp 2) rfl w.heap.size 0 ?hx A.toList _ T.out.g.range Try.underlying43 ?hu HIL.out ?_); (case hx => rfl); (case hu => rfl))
      with_reducible refine (FD.out _ T.out.bel).mono ?_
      rintro en w1 ⟨rfl, hb1⟩
      have T := Lib.hid (T.out.later hb1)
      clear hb1
      have HZL := Lib.hid T.out.z.lt
      go_wp2_with ((with_reducible refine wpList_load_mid rfl 43 (.tmp 2) rfl w.heap.size 0 ?hx A.toList _ T.out.g.range Try.underlying43 ?hu HIL.out ?_); (case hx => rfl); (case hu => rfl))
      with_reducible refine (WO.out _ T.out.bel).mono ?_
      rintro en w2 ⟨s', rfl, hvo, hb2⟩
      have T := Lib.hid (T.out.later hb2)
      have HVO := Lib.hid hvo
      obtain ⟨A', hA'⟩ : ∃ A', RA n s' o = A' := ⟨_, rfl⟩
      have HAR' := Lib.hid (RA_AR (n := n) (s := s') ho (Vs.one (hvo.rw vnC_len)))
      rw [hA'] at HAR' ⊢
      have HA' := Lib.hid hA'
      have HI' := Lib.hid HAR'.out.i
      have OC' := Lib.hid HAR'.out.o
      have TH := Lib.hid (T.out.th (n := A'.size) (by rw [HZS.out, HAR'.out.s]; exact Nat.le_refl _))
      clear hb2 hvo hA'
      go_wp2_with ((with_reducible refine wpList_store_mid rfl 43 (.tmp 4) (.tmp 20) rfl (w.heap.size + 1) 0 A' ?hx ?hy TH.out HI'.out OC'.out ?_); (case hx => rfl); (case hy => rfl))
      have T2 := T.out.store (A' := A') (by rw [HZS.out, HAR'.out.s]) OC'.out
      have hv2 := (HVO.out.only (Only.setCells (w.heap.size + 1) A'.toList 0 w2) HZL.out).rw vnC_len
      exact bodyPost_ret (v := .tuple #[.agg A', .int .i64 0]) (res_two (d := _) (p := 4) (u := 5) rfl rfl Try.underlying43 _ _ (w.heap.size + 1) _ rfl T2.z HI'.out) rfl ⟨s', by rw [HA'.out, HR2.out], by rw [HDV.out]; exact hv2, T2.bel⟩
  · have HR2 : Hid (R = 2) := Lib.hid (by rw [← HR.out]; unfold dropErr; rw [if_pos hr])
    have HDV : Hid (dropV V k = V) := Lib.hid (by unfold dropV; rw [HR.out, HR2.out]; rfl)
    have hd : decide (k < 1) = true ∨ (decide (k < 1) = false ∧ decide (4094 < k) = true) := by
      by_cases h1 : k < 1
      · exact .inl (decide_eq_true h1)
      · exact .inr ⟨decide_eq_false h1, decide_eq_true (by omega)⟩
    clear hr
    rcases hd with d1 | ⟨d1, d2⟩
    all_goals
      go_enter Try.func62, Try.ntmps62
      go_upto_region 1 with fail
      have t0 := BX.new w A Z
      clear hZ'
      obtain ⟨w0, hw0⟩ : ∃ k, (w.alloc (.cells A 43)).alloc (.cells Z 43) = k := ⟨_, rfl⟩
      rw [hw0] at t0 ⊢
      have T := Lib.hid t0
      clear hw0 t0
      have TH := Lib.hid (T.out.th (n := A.size) (by rw [HZS.out, HAR.out.s]; exact Nat.le_refl _))
      go_wp2_with (first | ((with_reducible refine wpList_load_mid rfl 43 (.tmp 2) rfl w.heap.size 0 ?hx A.toList _ T.out.g.range Try.underlying43 ?hu HIL.out ?_); (case hx => rfl); (case hu => rfl)) | ((with_reducible refine wpList_store_mid rfl 43 (.tmp 4) (.tmp 12) rfl (w.heap.size + 1) 0 A ?hx ?hy TH.out HI.out OC.out ?_); (case hx => rfl); (case hy => rfl)))
      have T2 := T.out.store (A' := A) (by rw [HZS.out, HAR.out.s]) OC.out
      exact bodyPost_ret (v := .tuple #[.agg A, .int .i64 2]) (res_two (d := _) (p := 4) (u := 5) rfl rfl Try.underlying43 _ _ (w.heap.size + 1) _ rfl T2.z HI.out) rfl ⟨s, by rw [← HA.out, HR2.out], by rw [HDV.out]; exact HV.out.later vnC_len T2.bel, T2.bel⟩
end Go.Proofs.Ytecoomkpkdapdaa
