/- ref07: SetOwn, Members, In. -/
import Derived.Test.YtecoomkpkdapdaaQ7
import Derived.Test.YtecoomkpkdapdaaV2
set_option linter.unusedVariables false
namespace Go.Proofs.Ytecoomkpkdapdaa
open Go.RowKit

theorem RA_own (n : Int) (s : Value) (o : List Int) (p : Nat) (x : Int) : (RA n s o).setIfInBounds (2 + p) (.int .u16 x) = RA n s (o.set p x) := by
  unfold RA
  rw [Nat.add_comm]
  simp [List.setIfInBounds_toArray, List.set_cons_succ, List.map_set]
theorem RA_at (n : Int) (s : Value) (o : List Int) (p : Nat) (x : Int) (h : o[p]? = some x) : (RA n s o)[2 + p]? = some (.int .u16 x) := by
  unfold RA
  rw [Nat.add_comm]
  simp [h]
set_option maxRecDepth 100000 in
set_option maxHeartbeats 8000000 in
theorem refSetOwn_any (n : Int) (s : Value) (o : List Int) (V : List Vn) (p : Nat) (k : Int) (w : World) (hV : Vs w s V) (hl : V.length ≤ 100) (ho : o.length = 8) (hn : n ≤ 8) (hp : p < 256) : Calls Try.prog 63 #[.agg (RA n s o), .int .u8 (p : Int), .int .u16 k] w fun en w' => en = .returned (.tuple #[.agg (RA n s (ownO n o p k)), .int .i64 (ownErr n p k)]) ∧ Below w.heap.size w w' := by
  obtain ⟨A, hA⟩ : ∃ A, RA n s o = A := ⟨_, rfl⟩
  obtain ⟨Z, hZ⟩ : ∃ Z, rZ = Z := ⟨_, rfl⟩
  have hZ' : #[.int .i64 0, .slice none 0 0, .int .u16 0, .int .u16 0, .int .u16 0, .int .u16 0, .int .u16 0, .int .u16 0, .int .u16 0, .int .u16 0] = Z := hZ
  have HZS : Hid (Z.size = 10) := Lib.hid (by rw [← hZ]; rfl)
  have HAR := Lib.hid (RA_AR (n := n) (s := s) ho hV.one)
  rw [hA] at HAR
  have HA := Lib.hid hA
  rw [hA]
  have HI := Lib.hid HAR.out.i
  have HIL := Lib.hid HAR.out.il
  have OC := Lib.hid HAR.out.o
  have HV := Lib.hid hV
  clear hA hZ hV
  have a0 : Hid (A[0]? = some (.int .i64 n)) := Lib.hid (by rw [← HA.out]; rfl)
  have hwp : wrap64 (p : Int) = (p : Int) := by unfold wrap64; omega
  by_cases h1 : n ≤ (p : Int)
  · have HE : Hid (ownErr n p k = 2 ∧ ownO n o p k = o) := Lib.hid (by unfold ownO ownErr; rw [if_pos h1]; exact ⟨rfl, rfl⟩)
    have d1 : decide (n ≤ (p : Int)) = true := decide_eq_true h1
    rw [HE.out.1, HE.out.2, HA.out]
    clear h1
    go_enter Try.func63, Try.ntmps63
    go_upto_region 1 with fail
    have t0 := BX.new w A Z
    clear hZ'
    obtain ⟨w0, hw0⟩ : ∃ k, (w.alloc (.cells A 43)).alloc (.cells Z 43) = k := ⟨_, rfl⟩
    rw [hw0] at t0 ⊢
    have T := Lib.hid t0
    clear hw0 t0
    have TH := Lib.hid (T.out.th (n := A.size) (by rw [HZS.out, HAR.out.s]; exact Nat.le_refl _))
    have c0 := T.out.g.c 0 _ a0.out
    go_upto_region 2 with fail
    clear c0
    go_wp2_with (first | ((with_reducible refine wpList_load_mid rfl 43 (.tmp 3) rfl w.heap.size 0 ?hx A.toList _ T.out.g.range Try.underlying43 ?hu HIL.out ?_); (case hx => rfl); (case hu => rfl)) | ((with_reducible refine wpList_store_mid rfl 43 (.tmp 6) (.tmp 17) rfl (w.heap.size + 1) 0 A ?hx ?hy TH.out HI.out OC.out ?_); (case hx => rfl); (case hy => rfl)))
    have T2 := T.out.store (A' := A) (by rw [HZS.out, HAR.out.s]) OC.out
    exact bodyPost_ret (v := .tuple #[.agg A, .int .i64 2]) (res_two (d := _) (p := 6) (u := 7) rfl rfl Try.underlying43 _ _ (w.heap.size + 1) _ rfl T2.z HI.out) rfl ⟨rfl, T2.bel⟩
  · have d1 : decide (n ≤ (p : Int)) = false := decide_eq_false h1
    by_cases h2 : 4094 < k
    · have HE : Hid (ownErr n p k = 2 ∧ ownO n o p k = o) := Lib.hid (by unfold ownO ownErr; rw [if_neg h1, if_pos h2]; exact ⟨rfl, rfl⟩)
      have d2 : decide (4094 < k) = true := decide_eq_true h2
      rw [HE.out.1, HE.out.2, HA.out]
      clear h1 h2
      go_enter Try.func63, Try.ntmps63
      go_upto_region 1 with fail
      have t0 := BX.new w A Z
      clear hZ'
      obtain ⟨w0, hw0⟩ : ∃ k, (w.alloc (.cells A 43)).alloc (.cells Z 43) = k := ⟨_, rfl⟩
      rw [hw0] at t0 ⊢
      have T := Lib.hid t0
      clear hw0 t0
      have TH := Lib.hid (T.out.th (n := A.size) (by rw [HZS.out, HAR.out.s]; exact Nat.le_refl _))
      have c0 := T.out.g.c 0 _ a0.out
      go_upto_region 2 with fail
      clear c0
      go_wp2_with (first | ((with_reducible refine wpList_load_mid rfl 43 (.tmp 3) rfl w.heap.size 0 ?hx A.toList _ T.out.g.range Try.underlying43 ?hu HIL.out ?_); (case hx => rfl); (case hu => rfl)) | ((with_reducible refine wpList_store_mid rfl 43 (.tmp 6) (.tmp 17) rfl (w.heap.size + 1) 0 A ?hx ?hy TH.out HI.out OC.out ?_); (case hx => rfl); (case hy => rfl)))
      have T2 := T.out.store (A' := A) (by rw [HZS.out, HAR.out.s]) OC.out
      exact bodyPost_ret (v := .tuple #[.agg A, .int .i64 2]) (res_two (d := _) (p := 6) (u := 7) rfl rfl Try.underlying43 _ _ (w.heap.size + 1) _ rfl T2.z HI.out) rfl ⟨rfl, T2.bel⟩
    · have HE : Hid (ownErr n p k = 0 ∧ ownO n o p k = o.set p k) := Lib.hid (by unfold ownO ownErr; rw [if_neg h1, if_neg h2]; exact ⟨rfl, rfl⟩)
      have d2 : decide (4094 < k) = false := decide_eq_false h2
      rw [HE.out.1, HE.out.2]
      have hp8 : p < 8 := by omega
      have hpi : (p : Int) < 8 := by omega
      obtain ⟨A', hA'⟩ : ∃ A', RA n s (o.set p k) = A' := ⟨_, rfl⟩
      have HAR' := Lib.hid (RA_AR (n := n) (s := s) (o := o.set p k) (by rw [List.length_set]; exact ho) HV.out.one)
      rw [hA'] at HAR' ⊢
      have HI' := Lib.hid HAR'.out.i
      have HIL' := Lib.hid HAR'.out.il
      have OC' := Lib.hid HAR'.out.o
      have HSET : Hid (A.setIfInBounds (2 + p) (.int .u16 k) = A') := Lib.hid (by rw [← HA.out, RA_own, hA'])
      obtain ⟨y, hy⟩ : ∃ y, o[p]? = some y := ⟨_, List.getElem?_eq_getElem (by omega)⟩
      have ap : Hid (A[2 + p]? = some (.int .u16 y)) := Lib.hid (by rw [← HA.out]; exact RA_at n s o p y hy)
      clear h1 h2 hA' hy
      go_enter Try.func63, Try.ntmps63
      go_upto_region 1 with fail
      have t0 := BX.new w A Z
      clear hZ'
      obtain ⟨w0, hw0⟩ : ∃ k, (w.alloc (.cells A 43)).alloc (.cells Z 43) = k := ⟨_, rfl⟩
      rw [hw0] at t0 ⊢
      have T := Lib.hid t0
      clear hw0 t0
      have TH := Lib.hid (T.out.th (n := A.size) (by rw [HZS.out, HAR.out.s]; exact Nat.le_refl _))
      have c0 := T.out.g.c 0 _ a0.out
      have c2 := T.out.g.c (2 + p) _ ap.out
      have f2 := T.out.g.fr (2 + p)
      go_upto_region 4 with fail
      have t3 := T.out.set (2 + p) (.int .u16 k)
      rw [HSET.out] at t3
      clear c0 c2 f2
      obtain ⟨w3, hw3⟩ : ∃ K, w0.setCell ⟨w.heap.size, 2 + p, none⟩ (.int .u16 k) = K := ⟨_, rfl⟩
      rw [hw3] at t3 ⊢
      have T3 := Lib.hid t3
      clear hw3 t3
      have TH := Lib.hid (T3.out.th (n := A'.size) (by rw [HZS.out, HAR'.out.s]; exact Nat.le_refl _))
      go_wp2_with (first | ((with_reducible refine wpList_load_mid rfl 43 (.tmp 3) rfl w.heap.size 0 ?hx A'.toList _ T3.out.g.range Try.underlying43 ?hu HIL'.out ?_); (case hx => rfl); (case hu => rfl)) | ((with_reducible refine wpList_store_mid rfl 43 (.tmp 6) (.tmp 22) rfl (w.heap.size + 1) 0 A' ?hx ?hy TH.out HI'.out OC'.out ?_); (case hx => rfl); (case hy => rfl)))
      have T2 := T3.out.store (A' := A') (by rw [HZS.out, HAR'.out.s]) OC'.out
      exact bodyPost_ret (v := .tuple #[.agg A', .int .i64 0]) (res_two (d := _) (p := 6) (u := 7) rfl rfl Try.underlying43 _ _ (w.heap.size + 1) _ rfl T2.z HI'.out) rfl ⟨rfl, T2.bel⟩
set_option maxRecDepth 100000 in
set_option maxHeartbeats 8000000 in
theorem refMembers_any (n : Int) (s : Value) (o : List Int) (V : List Vn) (k : Int) (w : World) (hV : Vs w s V) (hl : V.length ≤ 100) (ho : o.length = 8) : Calls Try.prog 20 #[.agg (RA n s o), .int .u16 k] w fun en w' => en = .returned (.int .u8 (vGet V k).1) ∧ Below w.heap.size w w' := by
  obtain ⟨A, hA⟩ : ∃ A, RA n s o = A := ⟨_, rfl⟩
  have HAR := Lib.hid (RA_AR (n := n) (s := s) ho hV.one)
  have a1 : Hid (A[1]? = some s) := Lib.hid (by rw [← hA]; rfl)
  rw [hA] at HAR
  have HA := Lib.hid hA
  rw [hA]
  have HIL := Lib.hid HAR.out.il
  have HV := Lib.hid hV
  have FD : Hid (∀ w1, Below w.heap.size w w1 → Calls Try.prog 67 #[.agg A, .int .u16 k] w1 fun en w' => en = .returned (.int .i64 (vIdx V k)) ∧ Below w1.heap.size w1 w') := Lib.hid fun w1 hb => by
    rw [← HA.out]; exact find_any n s o V k w1 (HV.out.later vnC_len hb) hl
  obtain ⟨R, hR⟩ : ∃ R, (vGet V k).1 = R := ⟨_, rfl⟩
  rw [hR]
  have HR := Lib.hid hR
  clear hA hR hV
  have go : ∀ X : Int, vIdx V k = X → (X = -1 ∧ R = 0 ∨ ∃ (j : Nat) (hj : j < V.length), X = j ∧ V[j].2.1 = R) := fun X hX => by
    rcases vIdx_find V k with ⟨h1, h2⟩ | ⟨j, hj, h1, h2, h3⟩
    · exact .inl ⟨by rw [← hX, h1], by rw [← HR.out]; unfold vGet; rw [h2]; rfl⟩
    · exact .inr ⟨j, hj, by rw [← hX, h1], by rw [← HR.out]; unfold vGet; rw [h2]; rfl⟩
  obtain ⟨X, hX⟩ : ∃ X, vIdx V k = X := ⟨_, rfl⟩
  have HG := Lib.hid (go X hX)
  rw [hX] at FD
  clear go hX
  go_enter Try.func20, Try.ntmps20
  go_upto_region 1 with fail
  have g0 := GB.new 43 w A
  have hb0 : Below w.heap.size w (w.alloc (.cells A 43)) := (Below.refl _ _).alloc (Nat.le_refl _) _
  obtain ⟨w0, hw0⟩ : ∃ K, w.alloc (.cells A 43) = K := ⟨_, rfl⟩
  rw [hw0] at g0 hb0 ⊢
  have G := Lib.hid g0
  have HB := Lib.hid hb0
  clear hw0 g0 hb0
  go_wp2_with ((with_reducible refine wpList_load_mid rfl 43 (.tmp 2) rfl w.heap.size 0 ?hx A.toList _ G.out.range Try.underlying43 ?hu HIL.out ?_); (case hx => rfl); (case hu => rfl))
  with_reducible refine (FD.out _ HB.out).mono ?_
  rintro en w1 ⟨rfl, hb1⟩
  have G := Lib.hid (G.out.later hb1)
  have HB := Lib.hid (HB.out.trans (hb1.mono HB.out.size))
  clear hb1
  rcases HG.out with ⟨hx, hr⟩ | ⟨j, hj, hx, hr⟩
  · subst hx hr
    go_wp2
    go_ret
    exact ⟨rfl, HB.out⟩
  · subst hx
    obtain ⟨a, c, rfl, hc⟩ := (HV.out.later vnC_len HB.out).shape
    obtain ⟨b, off, rfl, hcc⟩ := hc.resolve_left (by intro h; rw [h] at hj; simp at hj)
    have c1 := G.out.c 1 _ a1.out
    have c2 : w1.cell? ⟨b, off + j * 3 + 1, none⟩ = some (.int .u8 R) := by rw [← hr]; exact hcc j hj 1 (by decide)
    have dk : decide ((j : Int) < (V.length : Int)) = true := decide_eq_true (by omega)
    have hji : (j : Int) < (V.length : Int) := by omega
    have hj0 : ¬ ((j : Int) < 0) := by omega
    have dn : decide ((j : Int) < 0) = false := decide_eq_false hj0
    obtain ⟨N, hN⟩ : ∃ N, V.length = N := ⟨_, rfl⟩
    rw [hN] at dk hji c1
    clear hcc hc hr hj
    go_wp2
    go_ret
    exact ⟨rfl, HB.out⟩
end Go.Proofs.Ytecoomkpkdapdaa
