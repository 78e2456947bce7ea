/- bpdu: the walk of BpduBack. -/
import Derived.Test.YtecoomkpkdapdaaDoorJ2
import Derived.Test.YtecoomkpkdapdaaDoorH7
import Derived.Deep.DeepCutAuto
set_option linter.unusedVariables false
namespace Go.Proofs.YtecoomkpkdapdaaDoor
open Go.RowKit

structure J4S (w W : World) (p q : Nat) (A A2 : Array Value) : Prop where
  g1 : GB 33 W p A
  g2 : GB 33 W q A2
  bel : Below w.heap.size w W
theorem J4S.later {w W W' : World} {p q : Nat} {A A2 : Array Value} (h : J4S w W p q A A2) (hb : Below W.heap.size W W') : J4S w W' p q A A2 := ⟨h.g1.later hb, h.g2.later hb, h.bel.trans (hb.mono h.bel.size)⟩
theorem make_zeros (n : Nat) (hn : n ≤ 100000) : ∃ Z : Array Value, ∀ W : World, (Instr.makeSlice 43 (.int .i64 (n : Int)) (.int .i64 (n : Int))).run Tryd.prog W = .ok (.slice (some ⟨W.heap.size, 0, none⟩) n n) (W.alloc (.cells Z 5)) ∧ Src (W.alloc (.cells Z 5)) (.slice (some ⟨W.heap.size, 0, none⟩) n n) (List.replicate n 0) := by
  refine ⟨madeCells #[.int .u8 0] n, fun W => ⟨run_make_row' 43 5 (.int .u8 0) 1 Tryd.underlying43 (by kernel_rfl) rfl .i64 .i64 n (by omega) (by omega) W, ?_⟩⟩
  refine .inr ⟨⟨W.heap.size, 0, none⟩, n, by rw [List.length_replicate], fun j hj => ?_⟩
  rw [Go.WideShapes.add_plain]
  have hj' : j < n := by simpa using hj
  have hh : (W.alloc (.cells (madeCells #[.int .u8 0] n) 5)).heap[W.heap.size]? = some (.cells (madeCells #[.int .u8 0] n) 5) := heap_alloc_new W _
  have hz : (madeCells #[.int .u8 0] n)[j]? = some (.int .u8 0) := by simp [madeCells, hj', Nat.mod_one]
  generalize W.alloc (.cells (madeCells #[.int .u8 0] n) 5) = X at hh
  simp [World.cell?, hh, hz, byteV]
set_option maxRecDepth 100000 in
set_option maxHeartbeats 8000000 in
theorem BpduBack_walk (a b : Bp) (t : ByteArray) (nz : Int) (w : World) (ha : a.Ok) (hb : b.Ok) (ht : t.size ≤ maxLen) (hn : (Lit.int .u8 nz).wf) : Calls Tryd.prog 5 #[.agg #[.int .u64 a.rt, .int .u32 a.co, .int .u64 a.br, .int .u8 a.po, .int .u8 a.ho, .int .u64 a.ve, .int .u8 a.ro, .bool a.pr, .bool a.ag, .bool a.tp, .int .u64 a.ec], .agg #[.int .u64 b.rt, .int .u32 b.co, .int .u64 b.br, .int .u8 b.po, .int .u8 b.ho, .int .u64 b.ve, .int .u8 b.ro, .bool b.pr, .bool b.ag, .bool b.tp, .int .u64 b.ec], .string t, .int .u8 nz] w fun en w' => en = .returned (.bool true) ∧ Below w.heap.size w w' := by
  unfold maxLen at ht
  have hn := bounds_u8 hn
  have WK := Lib.hid wakes05_any
  obtain ⟨A, hA⟩ : ∃ A : Array Value, A = #[.int .u64 a.rt, .int .u32 a.co, .int .u64 a.br, .int .u8 a.po, .int .u8 a.ho, .int .u64 a.ve, .int .u8 a.ro, .bool a.pr, .bool a.ag, .bool a.tp, .int .u64 a.ec] := ⟨_, rfl⟩
  obtain ⟨A2, hA2⟩ : ∃ A : Array Value, A = #[.int .u64 b.rt, .int .u32 b.co, .int .u64 b.br, .int .u8 b.po, .int .u8 b.ho, .int .u64 b.ve, .int .u8 b.ro, .bool b.pr, .bool b.ag, .bool b.tp, .int .u64 b.ec] := ⟨_, rfl⟩
  obtain ⟨X, e, hP⟩ : ∃ X e, putB a = (X, e) := ⟨_, _, rfl⟩
  obtain ⟨Y, f, hP2⟩ : ∃ Y f, putB b = (Y, f) := ⟨_, _, rfl⟩
  have P1 : Hid (∀ w, Calls Tryd.prog 7 #[.agg A] w fun en w' => en = .returned (.tuple #[.string (bs X), .int .i64 e]) ∧ Below w.heap.size w w') := Lib.hid fun w => by
    have h := bput_any a w ha
    rw [hP] at h; rw [hA]; exact h
  have P2 : Hid (∀ w, Calls Tryd.prog 7 #[.agg A2] w fun en w' => en = .returned (.tuple #[.string (bs Y), .int .i64 f]) ∧ Below w.heap.size w w') := Lib.hid fun w => by
    have h := bput_any b w hb
    rw [hP2] at h; rw [hA2]; exact h
  have HP1 : Hid ((mayB a = true ∧ X = byB a ∧ e = 0) ∨ (X = [] ∧ e = 2)) := Lib.hid (by
    unfold putB at hP
    cases hM : mayB a
    · right; rw [hM] at hP; simp only [Bool.false_eq_true, if_false, Prod.mk.injEq] at hP; exact ⟨hP.1.symm, hP.2.symm⟩
    · left; rw [hM] at hP; simp only [if_true, Prod.mk.injEq] at hP; exact ⟨rfl, hP.1.symm, hP.2.symm⟩)
  have HP2 : Hid ((mayB b = true ∧ Y = byB b ∧ f = 0) ∨ (Y = [] ∧ f = 2)) := Lib.hid (by
    unfold putB at hP2
    cases hM : mayB b
    · right; rw [hM] at hP2; simp only [Bool.false_eq_true, if_false, Prod.mk.injEq] at hP2; exact ⟨hP2.1.symm, hP2.2.symm⟩
    · left; rw [hM] at hP2; simp only [if_true, Prod.mk.injEq] at hP2; exact ⟨rfl, hP2.1.symm, hP2.2.symm⟩)
  have hs : A.size = 11 := by rw [hA]; rfl
  have HIL : Hid ((Tryd.prog.info? 33).map (·.size) = some A.toList.length) := Lib.hid (by rw [hA]; kernel_rfl)
  have HJL : Hid ((Tryd.prog.info? 33).map (·.size) = some A2.toList.length) := Lib.hid (by rw [hA2]; kernel_rfl)
  have HA1 := Lib.hid hA
  have HA2 := Lib.hid hA2
  have HOA := Lib.hid ha
  have HOB := Lib.hid hb
  have HN := Lib.hid hn
  rw [← hA, ← hA2]
  clear hA hA2 hP hP2 hs ha hb hn
  obtain ⟨s, rfl⟩ : ∃ l, t = bs l := ⟨_, bs_of t⟩
  rw [bs_size] at ht
  have hsz := bs_size s
  by_cases h1 : 2000 < s.length
  · go_enter Tryd.func5, Tryd.ntmps5
    go_upto_region 1 with fail
    have hb0 : Below w.heap.size w ((w.alloc (.cells A 33)).alloc (.cells A2 33)) := ((Below.refl _ _).alloc (Nat.le_refl _) _).alloc (by simp [World.size_alloc]) _
    obtain ⟨w0, hw0⟩ : ∃ k, (w.alloc (.cells A 33)).alloc (.cells A2 33) = k := ⟨_, rfl⟩
    rw [hw0] at hb0 ⊢
    clear hw0
    go_wp2_with fail
    with_reducible refine (WK.out _).mono ?_
    rintro en w1 ⟨rfl, hb1⟩
    go_wp2
    go_ret
    exact ⟨rfl, hb0.trans (hb1.mono hb0.size)⟩
  go_enter Tryd.func5, Tryd.ntmps5
  go_upto_region 1 with fail
  have g1 := (GB.new 33 w A).later ((Below.refl _ _).alloc (Nat.le_refl _) (.cells A2 33))
  have g2 := GB.new 33 (w.alloc (.cells A 33)) A2
  have hb0 : Below w.heap.size w ((w.alloc (.cells A 33)).alloc (.cells A2 33)) := ((Below.refl _ _).alloc (Nat.le_refl _) _).alloc (by simp [World.size_alloc]) _
  rw [World.size_alloc] at g2
  obtain ⟨w0, hw0⟩ : ∃ k, (w.alloc (.cells A 33)).alloc (.cells A2 33) = k := ⟨_, rfl⟩
  rw [hw0] at g1 g2 hb0 ⊢
  obtain ⟨q, hq⟩ : ∃ k, w.heap.size + 1 = k := ⟨_, rfl⟩
  rw [hq] at g2 ⊢
  obtain ⟨p, hp⟩ : ∃ k, w.heap.size = k := ⟨_, rfl⟩
  have T := Lib.hid (⟨g1, g2, hb0⟩ : J4S w w0 w.heap.size q A A2)
  rw [hp] at T ⊢
  clear hw0 hp hq hb0 g1 g2
  go_wp2_with ((with_reducible refine wpList_load_mid rfl 33 (.tmp 4) rfl p 0 ?hx A.toList _ T.out.g1.range Tryd.underlying33 ?hu HIL.out ?_); (case hx => rfl); (case hu => rfl))
  with_reducible refine (P1.out _).mono ?_
  rintro en w1 ⟨rfl, hb1⟩
  have T := Lib.hid (T.out.later hb1)
  clear hb1 P1
  go_wp2_with ((with_reducible refine wpList_load_mid rfl 33 (.tmp 5) rfl q 0 ?hx A2.toList _ T.out.g2.range Tryd.underlying33 ?hu HJL.out ?_); (case hx => rfl); (case hu => rfl))
  with_reducible refine (P2.out _).mono ?_
  rintro en w2 ⟨rfl, hb2⟩
  have T := Lib.hid (T.out.later hb2)
  clear hb2 P2
  go_upto_region 5 with fail
  go_cut [48] (fun s48 wx => s48 = .bool false ∧ wx = w2)
  case first =>
    have hg := eqGuard_bp
    rcases HP1.out with ⟨ma, hX, he⟩ | ⟨hX, he⟩
    · rcases HP2.out with ⟨mb, hY, hf⟩ | ⟨hY, hf⟩
      · subst hX hY he hf
        obtain ⟨B, hB⟩ : ∃ B, beqB a b = B := ⟨_, rfl⟩
        have eqA : ∀ w : World, (binOp .eql 33 (.agg A) (.agg A2)).run Tryd.prog w = .ok (.bool B) w := by
          intro w; rw [HA1.out, HA2.out, run_eql_bp, hB]
        have hst : ((bs (byB a)).toList == (bs (byB b)).toList) = B := by
          rw [bs_tl_eq, ← hB]
          cases h3 : beqB a b
          · exact decide_eq_false (fun h => by rw [(beqB_iff a b).2 (byB_inj a b HOA.out HOB.out ma mb h)] at h3; cases h3)
          · rw [(beqB_iff a b).1 h3]; exact decide_eq_true rfl
        clear HP1 HP2 ma mb
        cases B
        · go_wp2_with (first | ((with_reducible refine wpList_load_gH ?hw 33 (.tmp 4) rfl p 0 ?hx A.toList _ T.out.g1.range Tryd.underlying33 ?hu HIL.out ?_); (case hw => rfl); (case hx => rfl); (case hu => rfl)) | ((with_reducible refine wpList_load_gH ?hw 33 (.tmp 5) rfl q 0 ?hx A2.toList _ T.out.g2.range Tryd.underlying33 ?hu HJL.out ?_); (case hw => rfl); (case hx => rfl); (case hu => rfl)))
          go_meet
          exact ⟨rfl, rfl⟩
        · go_wp2_with (first | ((with_reducible refine wpList_load_gH ?hw 33 (.tmp 4) rfl p 0 ?hx A.toList _ T.out.g1.range Tryd.underlying33 ?hu HIL.out ?_); (case hw => rfl); (case hx => rfl); (case hu => rfl)) | ((with_reducible refine wpList_load_gH ?hw 33 (.tmp 5) rfl q 0 ?hx A2.toList _ T.out.g2.range Tryd.underlying33 ?hu HJL.out ?_); (case hw => rfl); (case hx => rfl); (case hu => rfl)))
          go_meet
          exact ⟨rfl, rfl⟩
      · subst hf hX he
        clear hY HP1 HP2
        go_wp2_with fail
        go_meet
        exact ⟨rfl, rfl⟩
    · subst he
      clear hX HP1 HP2
      go_wp2_with fail
      go_meet
      exact ⟨rfl, rfl⟩
  case rest =>
    obtain ⟨rfl, rfl⟩ := hcut
    clear HP2 HJL HOB HA2
    go_upto_region 7 with fail
    go_upto_if 50 with fail
    go_cut [8] (fun s8 wx => s8 = .bool false ∧ Hid (Below w.heap.size w wx))
    case first =>
      rcases HP1.out with ⟨ma, hX, he⟩ | ⟨hX, he⟩
      · subst hX he
        clear HP1
        obtain ⟨n, hn2⟩ : ∃ n : Nat, nz = n := ⟨nz.toNat, by have := HN.out; omega⟩
        subst hn2
        have hnb : n < 256 := by have := HN.out; omega
        have hwr : wrap64 (n : Int) = (n : Int) := by unfold wrap64; omega
        obtain ⟨z, hz⟩ : ∃ z : List UInt8, List.replicate n 0 = z := ⟨_, rfl⟩
        have lz : z.length = n := by rw [← hz]; simp
        have hz0 : ∀ x ∈ z, x = 0 := by rw [← hz]; intro x hx; exact List.eq_of_mem_replicate hx
        obtain ⟨Z, hZ⟩ := make_zeros n (by omega)
        rw [hz] at hZ
        have hmk : ∀ W : World, (Instr.makeSlice 43 (.int .i64 (n : Int)) (.int .i64 (n : Int))).run Tryd.prog W = .ok (.slice (some ⟨W.heap.size, 0, none⟩) n n) (W.alloc (.cells Z 5)) := fun W => (hZ W).1
        have hcv : ∀ W : World, (convert 43 9 (.slice (some ⟨W.heap.size, 0, none⟩) n n)).run Tryd.prog (W.alloc (.cells Z 5)) = .ok (.string (bs z)) (W.alloc (.cells Z 5)) := fun W => run_string_src (hZ W).2
        have ad := run_add_bs (byB a) z (by rw [byB_len]; omega)
        have T1 : Hid (∀ w, Calls Tryd.prog 12 #[.string (bs (byB a ++ z))] w fun en w' => en = .returned (.tuple #[.agg A, .int .i64 0]) ∧ Below w.heap.size w w') := Lib.hid fun w => by
          have h := btake_any (byB a ++ z) w (by rw [List.length_append, byB_len]; omega)
          rw [tkB_put a HOA.out ma z hz0] at h; rw [HA1.out]; exact h
        have neA : ∀ w : World, (binOp .neq 33 (.agg A) (.agg A)).run Tryd.prog w = .ok (.bool false) w := by
          intro w; rw [HA1.out, run_neq_bp, (beqB_iff a a).2 rfl]; rfl
        have hg := eqGuard_bp
        have hs : A.size = 11 := by rw [HA1.out]; rfl
        have OC := Lib.hid (show A.all (·.oneCell') = true by rw [HA1.out]; simp [Value.oneCell'])
        have HI : Hid ((Tryd.prog.info? 33).map (·.size) = some A.size) := Lib.hid (by rw [hs]; kernel_rfl)
        have HS := Lib.hid hs
        have T := Lib.hid (T.out.later ((Below.refl _ _).alloc (Nat.le_refl _) (.cells Z 5)))
        obtain ⟨Y2, hY2⟩ : ∃ Y2, byB a ++ z = Y2 := ⟨_, rfl⟩
        rw [hY2] at ad T1
        clear hZ hz hz0 lz hs hY2 hnb ma
        go_wp2_with fail
        with_reducible refine (T1.out _).mono ?_
        rintro en w4 ⟨rfl, hb4⟩
        have T := Lib.hid (T.out.later hb4)
        clear hb4 T1 hmk hcv ad
        have gz := GB.new 33 w4 #[.int .u64 0, .int .u32 0, .int .u64 0, .int .u8 0, .int .u8 0, .int .u64 0, .int .u8 0, .bool false, .bool false, .bool false, .int .u64 0]
        have TH := Lib.hid (gz.there (n := A.size) (Nat.le_of_eq HS.out))
        go_upto_region 9 with ((with_reducible refine wpList_store_mid rfl 33 (.tmp 13) (.tmp 59) rfl w4.heap.size 0 A ?hx ?hy TH.out HI.out OC.out ?_); (case hx => rfl); (case hy => rfl))
        have g2 := gz.store (A := A) HS.out.symm OC.out
        have hbz : Below w4.heap.size w4 ((w4.alloc (.cells #[.int .u64 0, .int .u32 0, .int .u64 0, .int .u8 0, .int .u8 0, .int .u64 0, .int .u8 0, .bool false, .bool false, .bool false, .int .u64 0] 33)).setCells w4.heap.size 0 A.toList) := below_cellsG (Nat.le_refl _) _ _ _ ((Below.refl _ _).alloc (Nat.le_refl _) _)
        have T0 : J4S w ((w4.alloc (.cells #[.int .u64 0, .int .u32 0, .int .u64 0, .int .u8 0, .int .u8 0, .int .u64 0, .int .u8 0, .bool false, .bool false, .bool false, .int .u64 0] 33)).setCells w4.heap.size 0 A.toList) p w4.heap.size A A := ⟨T.out.g1.later hbz, g2, T.out.bel.trans (hbz.mono T.out.bel.size)⟩
        obtain ⟨r, hr⟩ : ∃ k, w4.heap.size = k := ⟨_, rfl⟩
        obtain ⟨w5, hw5⟩ : ∃ k, (w4.alloc (.cells #[.int .u64 0, .int .u32 0, .int .u64 0, .int .u8 0, .int .u8 0, .int .u64 0, .int .u8 0, .bool false, .bool false, .bool false, .int .u64 0] 33)).setCells w4.heap.size 0 A.toList = k := ⟨_, rfl⟩
        rw [hr] at hw5
        rw [hr, hw5] at T0
        rw [hr, hw5]
        have T := Lib.hid T0
        clear gz TH hw5 hr g2 hbz T0
        go_wp2_with (first | ((with_reducible refine wpList_load_gH ?hw 33 (.tmp 13) rfl r 0 ?hx A.toList _ T.out.g2.range Tryd.underlying33 ?hu HIL.out ?_); (case hw => rfl); (case hx => rfl); (case hu => rfl)) | ((with_reducible refine wpList_load_gH ?hw 33 (.tmp 4) rfl p 0 ?hx A.toList _ T.out.g1.range Tryd.underlying33 ?hu HIL.out ?_); (case hw => rfl); (case hx => rfl); (case hu => rfl)))
        go_meet
        exact ⟨rfl, Lib.hid T.out.bel⟩
      · subst he
        clear hX HP1
        go_wp2_with fail
        go_meet
        exact ⟨rfl, Lib.hid T.out.bel⟩
    case rest =>
      obtain ⟨rfl, HB⟩ := hcut
      clear T HIL HP1 HOA HA1 HN
      obtain ⟨B, e2, hT⟩ : ∃ B e2, tkB s = (B, e2) := ⟨_, _, rfl⟩
      obtain ⟨C, hC⟩ : ∃ C : Array Value, C = #[.int .u64 B.rt, .int .u32 B.co, .int .u64 B.br, .int .u8 B.po, .int .u8 B.ho, .int .u64 B.ve, .int .u8 B.ro, .bool B.pr, .bool B.ag, .bool B.tp, .int .u64 B.ec] := ⟨_, rfl⟩
      have T1 : Hid (∀ w, Calls Tryd.prog 12 #[.string (bs s)] w fun en w' => en = .returned (.tuple #[.agg C, .int .i64 e2]) ∧ Below w.heap.size w w') := Lib.hid fun w => by
        have h := btake_any s w (by omega)
        rw [hT] at h; rw [hC]; exact h
      have hs : C.size = 11 := by rw [hC]; rfl
      have OC := Lib.hid (show C.all (·.oneCell') = true by rw [hC]; simp [Value.oneCell'])
      have HI : Hid ((Tryd.prog.info? 33).map (·.size) = some C.size) := Lib.hid (by rw [hs]; kernel_rfl)
      have HIL : Hid ((Tryd.prog.info? 33).map (·.size) = some C.toList.length) := Lib.hid (by rw [Array.length_toList]; exact HI.out)
      have HS := Lib.hid hs
      have HT := Lib.hid hT
      have HC := Lib.hid hC
      clear hT hC hs
      go_wp2_with fail
      with_reducible refine (T1.out _).mono ?_
      rintro en w4 ⟨rfl, hb4⟩
      have HB4 := Lib.hid (HB.out.trans (hb4.mono HB.out.size))
      clear hb4 T1 HB
      have gz := GB.new 33 w4 #[.int .u64 0, .int .u32 0, .int .u64 0, .int .u8 0, .int .u8 0, .int .u64 0, .int .u8 0, .bool false, .bool false, .bool false, .int .u64 0]
      have TH := Lib.hid (gz.there (n := C.size) (Nat.le_of_eq HS.out))
      go_upto_region 12 with ((with_reducible refine wpList_store_mid rfl 33 (.tmp 15) (.tmp 71) rfl w4.heap.size 0 C ?hx ?hy TH.out HI.out OC.out ?_); (case hx => rfl); (case hy => rfl))
      have g2 := gz.store (A := C) HS.out.symm OC.out
      have hbz : Below w4.heap.size w4 ((w4.alloc (.cells #[.int .u64 0, .int .u32 0, .int .u64 0, .int .u8 0, .int .u8 0, .int .u64 0, .int .u8 0, .bool false, .bool false, .bool false, .int .u64 0] 33)).setCells w4.heap.size 0 C.toList) := below_cellsG (Nat.le_refl _) _ _ _ ((Below.refl _ _).alloc (Nat.le_refl _) _)
      have hb5 := HB4.out.trans (hbz.mono HB4.out.size)
      obtain ⟨r, hr⟩ : ∃ k, w4.heap.size = k := ⟨_, rfl⟩
      obtain ⟨w5, hw5⟩ : ∃ k, (w4.alloc (.cells #[.int .u64 0, .int .u32 0, .int .u64 0, .int .u8 0, .int .u8 0, .int .u64 0, .int .u8 0, .bool false, .bool false, .bool false, .int .u64 0] 33)).setCells w4.heap.size 0 C.toList = k := ⟨_, rfl⟩
      rw [hr] at hw5 g2 hb5
      rw [hw5] at hb5 g2
      have HB5 := Lib.hid hb5
      rw [hr, hw5]
      have G := Lib.hid g2
      clear gz TH hw5 hr g2 hbz HB4 hb5
      have hg := eqGuard_bp
      by_cases he : e2 = 0
      · subst he
        clear hg
        obtain ⟨mt, okt, z, hs, hz⟩ := tkB_ok s B HT.out
        have P1 : Hid (∀ w, Calls Tryd.prog 7 #[.agg C] w fun en w' => en = .returned (.tuple #[.string (bs (byB B)), .int .i64 0]) ∧ Below w.heap.size w w') := Lib.hid fun w => by
          have h := bput_any B w okt
          unfold putB at h; rw [if_pos mt] at h; rw [HC.out]; exact h
        have hlen : s.length = 42 + z.length := by rw [hs, List.length_append, byB_len]
        have hsy : (bs (byB B)).size = 42 := by rw [bs_size, byB_len]
        have hex : (bs s).extract 0 42 = bs (byB B) := by rw [bs_take, hs, List.take_left' (byB_len B)]
        have hst : ((bs (byB B)).toList == (bs (byB B)).toList) = true := by simp
        have HZ : Hid (∀ (m : Nat) (hm : m < (bs s).size), 42 ≤ m → (bs s)[m]'hm = 0) := Lib.hid fun m hm h42 => by
          rw [bs_size] at hm
          rw [bs_get s m _ hm]
          apply hz
          have h5 : s[m]? = z[m - 42]? := by rw [hs, List.getElem?_append_right (by rw [byB_len]; omega), byB_len]
          rw [List.getElem?_eq_getElem hm, List.getElem?_eq_getElem (by omega)] at h5
          rw [Option.some.inj h5]
          exact List.getElem_mem _
        clear mt okt hs hz HT
        go_wp2_with ((with_reducible refine wpList_load_mid rfl 33 (.tmp 15) rfl r 0 ?hx C.toList _ G.out.range Tryd.underlying33 ?hu HIL.out ?_); (case hx => rfl); (case hu => rfl))
        with_reducible refine (P1.out _).mono ?_
        rintro en w6 ⟨rfl, hb6⟩
        have HB6 := Lib.hid (HB5.out.trans (hb6.mono HB5.out.size))
        clear hb6 P1 G HB5
        go_upto_region 17 with fail
        go_wp2_with fail
        go_loop [19] (fun i => ∃ m : Nat, 42 ≤ m ∧ m ≤ s.length ∧ i = .int .i64 (m : Int)) (fun i => s.length - (intOf i).toNat)
        case atStart => exact ⟨42, by omega, by omega, rfl⟩
        case round =>
          obtain ⟨m, hm1, hm2, rfl⟩ := hrel
          by_cases hlt : m < s.length
          · have hms : m < (bs s).size := by rw [bs_size]; exact hlt
            have zs := HZ.out m hms hm1
            go_wp2
            go_round
            case rel => exact ⟨m + 1, by omega, by omega, by go_num⟩
            case measure => simp [intOf]; omega
          · obtain rfl : m = s.length := by omega
            clear hm1 hm2 hlt
            go_wp2_with fail
            with_reducible refine (WK.out _).mono ?_
            rintro en w9 ⟨rfl, hb9⟩
            go_wp2
            go_ret
            exact ⟨rfl, HB6.out.trans (hb9.mono HB6.out.size)⟩
      · have hbe : (e2 == 0) = false := by simpa using he
        have hB0 : B = bp0 := tkB_err s B e2 HT.out he
        have hC0 : C = #[.int .u64 0, .int .u32 0, .int .u64 0, .int .u8 0, .int .u8 0, .int .u64 0, .int .u8 0, .bool false, .bool false, .bool false, .int .u64 0] := by rw [HC.out, hB0]; rfl
        have eqA : ∀ w : World, (binOp .eql 33 (.agg C) (.agg #[.int .u64 0, .int .u32 0, .int .u64 0, .int .u8 0, .int .u8 0, .int .u64 0, .int .u8 0, .bool false, .bool false, .bool false, .int .u64 0])).run Tryd.prog w = .ok (.bool true) w := by
          intro w; rw [hC0]; exact (run_eql_bp bp0 bp0 w).trans (by rw [(beqB_iff bp0 bp0).2 rfl])
        clear hB0 hC0
        go_wp2_with ((with_reducible refine wpList_load_mid rfl 33 (.tmp 15) rfl r 0 ?hx C.toList _ G.out.range Tryd.underlying33 ?hu HIL.out ?_); (case hx => rfl); (case hu => rfl))
        with_reducible refine (WK.out _).mono ?_
        rintro en w9 ⟨rfl, hb9⟩
        go_wp2
        go_ret
        exact ⟨rfl, HB5.out.trans (hb9.mono HB5.out.size)⟩
end Go.Proofs.YtecoomkpkdapdaaDoor
