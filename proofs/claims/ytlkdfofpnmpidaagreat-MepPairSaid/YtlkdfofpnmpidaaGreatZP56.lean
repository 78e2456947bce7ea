/- ZP56: the texts PA8 as one. -/
import Derived.Test.YtlkdfofpnmpidaaGreatZP55
import Derived.Test.YtlkdfofpnmpidaaGreatZP51
import Derived.OrdersHeld
/- MepPair: the walk. -/
set_option linter.unusedVariables false
set_option linter.unusedSimpArgs false
namespace Go.Proofs.YtlkdfofpnmpidaaGreat
open Go.RowKit

theorem fieldP0 (a0 a1 a2 a3 a4 a5 a6 a7 a8 a9 : Value) (W : World) : (Instr.field 69 (.agg #[a0, a1, a2, a3, a4, a5, a6, a7, a8, a9]) 0).run Tryz.prog W = .ok a0 W := by kernel_rfl
theorem fieldP1 (a0 a1 a2 a3 a4 a5 a6 a7 a8 a9 : Value) (W : World) : (Instr.field 69 (.agg #[a0, a1, a2, a3, a4, a5, a6, a7, a8, a9]) 1).run Tryz.prog W = .ok a1 W := by kernel_rfl
theorem fieldP2 (a0 a1 a2 a3 a4 a5 a6 a7 a8 a9 : Value) (W : World) : (Instr.field 69 (.agg #[a0, a1, a2, a3, a4, a5, a6, a7, a8, a9]) 2).run Tryz.prog W = .ok a2 W := by kernel_rfl
set_option maxRecDepth 100000 in
set_option maxHeartbeats 16000000 in
theorem MepPair_walk (l : Int) (ten : Bool) (tk : Int) (d : List UInt8) (tl : Int) (w : World) (hl : 0 ≤ l ∧ l < 256) (htk : 0 ≤ tk ∧ tk < 256) (hd : d.length ≤ maxLen) (htl : 0 ≤ tl ∧ tl < 256) :
    Calls Tryz.prog 5 #[.int .u8 l, .bool ten, .int .u8 tk, .string (bs d), .int .u8 tl] w fun en w' => en = .returned (.bool true) ∧ Below w.heap.size w w' := by
  have WK := Lib.hid wakes20_any
  have FD0 := fieldP0
  have FD1 := fieldP1
  have FD2 := fieldP2
  have hsz := bs_size d
  unfold maxLen at hd
  by_cases hbad : 64 < d.length ∨ tl = 0
  · obtain ⟨D, hD⟩ : ∃ D, decide ((64 : Int) < (d.length : Int)) = D := ⟨_, rfl⟩
    cases D
    · have hz : (tl == 0) = true := by
        rw [beq_iff_eq]
        rcases hbad with h | h
        · exact absurd (decide_eq_false_iff_not.1 hD) (by omega)
        · exact h
      clear hbad
      go_enter Tryz.func5, Tryz.ntmps5
      go_wp2_with (go_at_call 7; with_reducible refine (WK.out _).mono ?_; rintro e w' ⟨rfl, hb⟩)
      go_ret
      exact ⟨rfl, hb⟩
    · clear hbad
      go_enter Tryz.func5, Tryz.ntmps5
      go_wp2_with (go_at_call 7; with_reducible refine (WK.out _).mono ?_; rintro e w' ⟨rfl, hb⟩)
      go_ret
      exact ⟨rfl, hb⟩
  have hd64 : d.length ≤ 64 := by omega
  have ht1 : 1 ≤ tl ∧ tl < 256 := by omega
  have d1 : decide ((64 : Int) < (d.length : Int)) = false := decide_eq_false (by omega)
  have d2 : (tl == 0) = false := beq_eq_false_iff_ne.2 (by omega)
  obtain ⟨iv, hivd⟩ : ∃ iv : Int, (if ten = true then (5 : Int) else 4) = iv := ⟨_, rfl⟩
  have hiv : iv = 4 ∨ iv = 5 := by rw [← hivd]; cases ten <;> simp
  obtain ⟨N, hN⟩ : ∃ N : Nat, tickC iv = (N : Int) := ⟨(tickC iv).toNat, by rcases hiv with rfl | rfl <;> decide⟩
  have hNb : N = 1 ∨ N = 10 := by have := last_b hiv; omega
  have HN := Lib.hid hN
  have HIVD := Lib.hid hivd
  have HD64 := Lib.hid (And.intro hd64 ht1)
  have HIV := Lib.hid hiv
  obtain ⟨lv, hlve⟩ : ∃ lv, l.tmod 8 = lv := ⟨_, rfl⟩
  have hlv : 0 ≤ lv ∧ lv < 8 := by rw [← hlve, Int.tmod_eq_emod_of_nonneg hl.1]; omega
  have HLV : Hid (0 ≤ lv ∧ lv < 8) := Lib.hid hlv
  have HOK : Hid ((pO lv iv 1).Ok ∧ (pO lv iv 2).Ok) := Lib.hid ⟨pO_ok hlv hiv (.inl rfl), pO_ok hlv hiv (.inr rfl)⟩
  clear hN hivd hbad hd64 hd
  go_enter Tryz.func5, Tryz.ntmps5
  go_upto_if 34 with fail
  go_cut [11, 12] (fun s11 s12 wx => s11 = .int .u8 iv ∧ s12 = .int .i64 N ∧ wx = w)
  case first =>
    have e1 := HN.out
    have e2 := HIVD.out
    cases ten
    · obtain rfl : iv = 4 := by simpa using e2.symm
      obtain rfl : N = 1 := by have : (1 : Int) = (N : Int) := e1; omega
      clear e1 e2
      go_wp2_with fail
      go_meet
      exact ⟨rfl, rfl, rfl⟩
    · obtain rfl : iv = 5 := by simpa using e2.symm
      obtain rfl : N = 10 := by have : (10 : Int) = (N : Int) := e1; omega
      clear e1 e2
      go_wp2_with fail
      go_meet
      exact ⟨rfl, rfl, rfl⟩
  case rest =>
    obtain ⟨rfl, rfl, hwx⟩ := hcut
    rw [hwx]
    clear hwx
    have BG := Lib.hid (begins_any lv iv HLV.out HIV.out)
    go_upto_region 7 with (go_at_call 22; (with_reducible refine (BG.out _).mono ?_); rintro en w1 ⟨P, x0, x1, v0, v1, rfl, hlo, hp⟩; have PB := Lib.hid hp; have HLO := Lib.hid hlo; clear hp hlo)
    have Q0 : Hid (∀ Q, w1.heap.size = Q → PQ w (w1.alloc (.cells #[.pointer (some ⟨P, 0, none⟩)] 72)) P Q (pO lv iv 1) (pO lv iv 2) v0 v1 x0 x1 (ms0 [(2, lastC iv, 0)]) (ms0 [(1, lastC iv, 0)]) (.slice none 0 0) (.slice none 0 0)) := Lib.hid fun Q hQ => by
      rw [← hQ]
      have hb := (Below.refl w1.heap.size w1).alloc (Nat.le_refl _) (.cells #[.pointer (some ⟨P, 0, none⟩)] 72)
      exact ⟨PB.out.later hb, (GB.new 72 w1 #[.pointer (some ⟨P, 0, none⟩)]).c 0 _ rfl, ⟨fun e => Nat.lt_irrefl _ (PB.out.m0.ltD e), fun e => Nat.lt_irrefl _ (PB.out.m1.ltD e)⟩, HLO.out⟩
    obtain ⟨w2, hw2⟩ : ∃ k, w1.alloc (.cells #[.pointer (some ⟨P, 0, none⟩)] 72) = k := ⟨_, rfl⟩
    rw [hw2] at Q0 ⊢
    obtain ⟨Q, hQ⟩ : ∃ k, w1.heap.size = k := ⟨_, rfl⟩
    have Q1 := Lib.hid (Q0.out Q hQ)
    rw [hQ]
    clear Q0 hQ hw2 PB HLO BG
    have SX : Hid (∀ W s0 s1 z0 z1, PQ w W P Q (pO lv iv 1) (pO lv iv 2) v0 v1 x0 x1 s0 s1 z0 z1 → W.cell? ⟨P, 0, none⟩ = some (.pointer (some ⟨x0.p, 0, none⟩)) ∧ W.cell? ⟨P, 1, none⟩ = some (.pointer (some ⟨x1.p, 0, none⟩)) ∧ W.cell? ⟨Q, 0, none⟩ = some (.pointer (some ⟨P, 0, none⟩)) ∧ W.cell? ⟨P, 8, none⟩ = some (.int .u8 2) ∧ W.cell? ⟨P, 9, none⟩ = some (.int .u8 2) ∧ W.cell? ⟨P, 10, none⟩ = some (.int .u8 0) ∧ W.cell? ⟨P, 11, none⟩ = some (.int .u8 0) ∧ W.cell? ⟨P, 12, none⟩ = some (.int .u8 0) ∧ W.cell? ⟨P, 13, none⟩ = some (.int .u8 0)) := Lib.hid fun W _ _ _ _ h => ⟨h.pw.gb.c 0 _ rfl, h.pw.gb.c 1 _ rfl, h.q, h.pw.gb.c 8 _ rfl, h.pw.gb.c 9 _ rfl, h.pw.gb.c 10 _ rfl, h.pw.gb.c 11 _ rfl, h.pw.gb.c 12 _ rfl, h.pw.gb.c 13 _ rfl⟩
    have C3 : Hid (∀ W s0 s1 z0 z1, PQ w W P Q (pO lv iv 1) (pO lv iv 2) v0 v1 x0 x1 s0 s1 z0 z1 → W.cell? ⟨P, 0, none⟩ = some (.pointer (some ⟨x0.p, 0, none⟩)) ∧ W.cell? ⟨P, 1, none⟩ = some (.pointer (some ⟨x1.p, 0, none⟩)) ∧ W.cell? ⟨Q, 0, none⟩ = some (.pointer (some ⟨P, 0, none⟩))) := Lib.hid fun W _ _ _ _ h => h.c0
    obtain ⟨k0, k1, kq⟩ := C3.out _ _ _ _ _ Q1.out
    have ALL : Hid (∀ W s0 s1 z0 z1 t0 t1 lost, PQ w W P Q (pO lv iv 1) (pO lv iv 2) v0 v1 x0 x1 s0 s1 z0 z1 → AllR (pO lv iv 1) (pO lv iv 2) lost s0 s1 t0 t1 → Calls Tryz.prog 23 #[.bool lost, .pointer (some ⟨Q, 0, none⟩)] W fun en w' => en = .returned (.tuple #[]) ∧ ∃ z0 z1, PQ w w' P Q (pO lv iv 1) (pO lv iv 2) v0 v1 x0 x1 t0 t1 z0 z1) := Lib.hid fun W _ _ _ _ _ _ lost h ha => h.all HOK.out.1 HLV.out.2 HOK.out.2 HLV.out.2 lost ha
    obtain ⟨M, hM⟩ : ∃ M, tk.tmod 60 = M := ⟨_, rfl⟩
    have hMb : 0 ≤ M ∧ M < 60 := by rw [← hM, Int.tmod_eq_emod_of_nonneg htk.1]; omega
    obtain ⟨K, hK⟩ : ∃ K : Nat, M + N = (K : Int) := ⟨(M + N).toNat, by omega⟩
    have hKb : 1 ≤ K ∧ K < 70 := by omega
    have hw1 : IntKind.i64.wrap tk = tk := IntWalk.i64_in _ (by omega)
    have hw3 : IntKind.i64.wrap (K : Int) = (K : Int) := IntWalk.i64_in _ (by omega)
    clear hMb htk hl
    go_wp2_with fail
    go_loopw [15] (fun i wr => ∃ (j : Nat) (s0 s1 : Ms) (z0 z1 : Value), j ≤ K ∧ i = .int .i64 j ∧ Hid (PQ w wr P Q (pO lv iv 1) (pO lv iv 2) v0 v1 x0 x1 s0 s1 z0 z1) ∧ Hid (J1 iv j s0 s1)) (fun i _ => K - (intOf i).toNat)
    case atStart => exact ⟨0, _, _, _, _, Nat.zero_le _, rfl, Q1, Lib.hid (.inl ⟨rfl, rfl, rfl⟩)⟩
    case round =>
      obtain ⟨j, s0, s1, z0, z1, hj, rfl, HP, HJ⟩ := hrel
      have hjb : (j : Int) < 1000 := by omega
      clear Q1 k0 k1 kq
      by_cases hlt : j < K
      · have dk : decide ((j : Int) < (K : Int)) = true := decide_eq_true (by omega)
        obtain ⟨t0, t1, ha, f, hi⟩ := HJ.out.step HLV.out HIV.out (by omega)
        have AA := Lib.hid (ALL.out _ _ _ _ _ _ _ _ HP.out ha)
        have HI := Lib.hid (And.intro hi (hi.calm HIV.out))
        obtain ⟨k0, k1, kq⟩ := C3.out _ _ _ _ _ HP.out
        clear ha hi HJ
        go_upto_region 14 with (go_at_call 23; (with_reducible refine AA.out.mono ?_); rintro en wa ⟨rfl, u0, u1, hp⟩; have P1 := Lib.hid hp; clear hp)
        clear k0 k1 kq AA
        have W0 : Hid (Calls Tryz.prog 21 #[.pointer (some ⟨x0.p, 0, none⟩)] wa fun en w' => ∃ a b c d e f g h i, en = .returned (.agg #[a, b, .int .u8 0, c, d, e, f, g, h, i]) ∧ PQ w w' P Q (pO lv iv 1) (pO lv iv 2) v0 v1 x0 x1 t0 t1 u0 u1) := Lib.hid ((P1.out.state0 (by rw [HI.out.1.2.1.way]; decide)).mono fun en w' ⟨a, b, c, he, _, _, _, hp, _⟩ => by (rw [HI.out.2.1] at he; exact ⟨a, b, _, _, _, _, _, _, c, he, hp⟩))
        have W1 : Hid (∀ W, PQ w W P Q (pO lv iv 1) (pO lv iv 2) v0 v1 x0 x1 t0 t1 u0 u1 → Calls Tryz.prog 21 #[.pointer (some ⟨x1.p, 0, none⟩)] W fun en w' => ∃ a b c d e f g h i, en = .returned (.agg #[a, b, .int .u8 0, c, d, e, f, g, h, i]) ∧ PQ w w' P Q (pO lv iv 1) (pO lv iv 2) v0 v1 x0 x1 t0 t1 u0 u1) := Lib.hid fun W hW => (hW.state1 (by rw [HI.out.1.2.2.way]; decide)).mono fun en w' ⟨a, b, c, he, _, _, _, hp, _⟩ => by (rw [HI.out.2.2] at he; exact ⟨a, b, _, _, _, _, _, _, c, he, hp⟩)
        obtain ⟨k0, k1, kq⟩ := C3.out _ _ _ _ _ P1.out
        go_wp2_with fail
        with_reducible refine W0.out.mono ?_
        rintro en wb ⟨a1, a2, a3, a4, a5, a6, a7, a8, a9, rfl, hp⟩
        have P2 := Lib.hid hp
        clear hp k0 k1 kq
        obtain ⟨k0, k1, kq⟩ := C3.out _ _ _ _ _ P2.out
        go_wp2_with fail
        with_reducible refine (W1.out _ P2.out).mono ?_
        rintro en wc ⟨b1, b2, b3, b4, b5, b6, b7, b8, b9, rfl, hp⟩
        have P3 := Lib.hid hp
        clear hp k0 k1 kq
        go_wp2_with fail
        exact ⟨⟨j + 1, t0, t1, u0, u1, by omega, by go_num, P3, Lib.hid (.inr ⟨f, HI.out.1⟩)⟩, by simp [intOf]; omega⟩
      · obtain rfl : j = K := by omega
        have dk : decide ((j : Int) < (j : Int)) = false := decide_eq_false (by omega)
        obtain ⟨f, hi⟩ := HJ.out.resolve_left (fun e => by omega)
        have HI := Lib.hid hi
        clear hi HJ hlt hj
        obtain ⟨s0a, s0b, s0c, s0d, X, Y, has⟩ := HI.out.asked HLV.out HD64.out.1 HD64.out.2
        have HAS := Lib.hid has
        clear has
        have HC : Hid (∀ W, PQ w W P Q (pO lv iv 1) (pO lv iv 2) v0 v1 x0 x1 s0 s1 z0 z1 → Calls Tryz.prog 14 #[.pointer (some ⟨x0.p, 0, none⟩), .agg #[.int .u8 2, .int .u8 2, .int .u8 0, .int .u8 0, .int .u8 0, .int .u8 0], .string (bs d)] W fun en w' => ∃ z', en = .returned (.tuple #[.agg (snC X).toArray, .int .i64 0]) ∧ PQ w w' P Q (pO lv iv 1) (pO lv iv 2) v0 v1 x0 x1 s0a s1 z' z1 ∧ Fr (x0.D z0) W w' ∧ ∀ k, x0.D z' k → x0.D z0 k) := Lib.hid fun W h => h.loop HOK.out.1 (by rw [HAS.out.lp]; decide) (pM 2) (pM_ok (.inr rfl)) d HD64.out.1 HAS.out.la
        have HT : Hid (∀ W y0 y1, PQ w W P Q (pO lv iv 1) (pO lv iv 2) v0 v1 x0 x1 s0b s1 y0 y1 → Calls Tryz.prog 16 #[.pointer (some ⟨x0.p, 0, none⟩), .agg #[.int .u8 2, .int .u8 2, .int .u8 0, .int .u8 0, .int .u8 0, .int .u8 0], .int .u8 tl] W fun en w' => ∃ z', en = .returned (.tuple #[.agg (snC Y).toArray, .int .i64 0]) ∧ PQ w w' P Q (pO lv iv 1) (pO lv iv 2) v0 v1 x0 x1 s0c s1 z' y1 ∧ Fr (x0.D y0) W w' ∧ ∀ k, x0.D z' k → x0.D y0 k) := Lib.hid fun W y0 y1 h => h.trace HOK.out.1 HLV.out.2 (by rw [HAS.out.tr]; decide) (pM 2) (pM_ok (.inr rfl)) tl htl HAS.out.lt
        clear HI
        go_upto_region 16 with fail
        go_cut [16, 17] (fun s_a s_b wx => ∃ (q : Nat) (z' : Value), s_a = .pointer (some ⟨q, 0, none⟩) ∧ s_b = .int .i64 0 ∧ Hid (GB 55 wx q (snC X).toArray) ∧ Hid (PQ w wx P Q (pO lv iv 1) (pO lv iv 2) v0 v1 x0 x1 s0a s1 z' z1))
        case first => as_aux_lemma =>
          have HD := Lib.hid HP.out.drew
          refine wp_region_held_drew (S := fun W => W.cell? ⟨P, 0, none⟩ = some (.pointer (some ⟨x0.p, 0, none⟩)) ∧ W.cell? ⟨P, 1, none⟩ = some (.pointer (some ⟨x1.p, 0, none⟩)) ∧ W.cell? ⟨Q, 0, none⟩ = some (.pointer (some ⟨P, 0, none⟩)) ∧ W.cell? ⟨P, 8, none⟩ = some (.int .u8 2) ∧ W.cell? ⟨P, 9, none⟩ = some (.int .u8 2) ∧ W.cell? ⟨P, 10, none⟩ = some (.int .u8 0) ∧ W.cell? ⟨P, 11, none⟩ = some (.int .u8 0) ∧ W.cell? ⟨P, 12, none⟩ = some (.int .u8 0) ∧ W.cell? ⟨P, 13, none⟩ = some (.int .u8 0)) (by as_aux_lemma => kernel_rfl) (SX.out _ _ _ _ _ HD.out) (fun hHeld => ?_)
          refine wpAnyH_take (i := 0) (v := ?_) rfl (by as_aux_lemma => kernel_rfl) (by as_aux_lemma => kernel_rfl) (by as_aux_lemma => kernel_rfl) (fun _ _ _ h => h) (Or.inl ⟨by rfl, ?hy0⟩) (by assumption) ?_
          case hy0 => (intro w hSw; (try dsimp only at hSw); go_simp; try with_reducible rfl)
          try simp only [Act.put, List.setIfInBounds_toArray, List.set_cons_zero, List.set_cons_succ, List.getElem_toArray, List.getElem_cons_zero, List.getElem_cons_succ]
          refine wpAnyH_take (i := 1) (v := ?_) rfl (by as_aux_lemma => kernel_rfl) (by as_aux_lemma => kernel_rfl) (by as_aux_lemma => kernel_rfl) (fun _ _ _ h => h) (Or.inl ⟨by rfl, ?hy1⟩) (by assumption) ?_
          case hy1 => (intro w hSw; (try dsimp only at hSw); go_simp; try with_reducible rfl)
          try simp only [Act.put, List.setIfInBounds_toArray, List.set_cons_zero, List.set_cons_succ, List.getElem_toArray, List.getElem_cons_zero, List.getElem_cons_succ]
          refine wpAnyH_take (i := 2) (v := ?_) rfl (by as_aux_lemma => kernel_rfl) (by as_aux_lemma => kernel_rfl) (by as_aux_lemma => kernel_rfl) (fun _ _ _ h => h) (Or.inl ⟨by rfl, ?hy2⟩) (by assumption) ?_
          case hy2 => (intro w hSw; (try dsimp only at hSw); go_simp; try with_reducible rfl)
          try simp only [Act.put, List.setIfInBounds_toArray, List.set_cons_zero, List.set_cons_succ, List.getElem_toArray, List.getElem_cons_zero, List.getElem_cons_succ]
          refine wpAnyH_take (i := 3) (v := ?_) rfl (by as_aux_lemma => kernel_rfl) (by as_aux_lemma => kernel_rfl) (by as_aux_lemma => kernel_rfl) (fun _ _ _ h => h) (Or.inl ⟨by rfl, ?hy3⟩) (by assumption) ?_
          case hy3 => (intro w hSw; (try dsimp only at hSw); go_simp; try with_reducible rfl)
          try simp only [Act.put, List.setIfInBounds_toArray, List.set_cons_zero, List.set_cons_succ, List.getElem_toArray, List.getElem_cons_zero, List.getElem_cons_succ]
          refine wpAnyH_take (i := 4) (v := ?_) rfl (by as_aux_lemma => kernel_rfl) (by as_aux_lemma => kernel_rfl) (by as_aux_lemma => kernel_rfl) (fun _ _ _ h => h) (Or.inl ⟨by rfl, ?hy4⟩) (by assumption) ?_
          case hy4 => (intro w hSw; (try dsimp only at hSw); go_simp; try with_reducible rfl)
          try simp only [Act.put, List.setIfInBounds_toArray, List.set_cons_zero, List.set_cons_succ, List.getElem_toArray, List.getElem_cons_zero, List.getElem_cons_succ]
          refine wpAnyH_take (i := 5) (v := ?_) rfl (by as_aux_lemma => kernel_rfl) (by as_aux_lemma => kernel_rfl) (by as_aux_lemma => kernel_rfl) (fun _ _ _ h => h) (Or.inl ⟨by rfl, ?hy5⟩) (by assumption) ?_
          case hy5 => (intro w hSw; (try dsimp only at hSw); go_simp; try with_reducible rfl)
          try simp only [Act.put, List.setIfInBounds_toArray, List.set_cons_zero, List.set_cons_succ, List.getElem_toArray, List.getElem_cons_zero, List.getElem_cons_succ]
          refine wpAnyH_take (i := 6) (v := ?_) rfl (by as_aux_lemma => kernel_rfl) (by as_aux_lemma => kernel_rfl) (by as_aux_lemma => kernel_rfl) (fun _ _ _ h => h) (Or.inl ⟨by rfl, ?hy6⟩) (by assumption) ?_
          case hy6 => (intro w hSw; (try dsimp only at hSw); go_simp; try with_reducible rfl)
          try simp only [Act.put, List.setIfInBounds_toArray, List.set_cons_zero, List.set_cons_succ, List.getElem_toArray, List.getElem_cons_zero, List.getElem_cons_succ]
          refine wpAnyH_take (i := 7) (v := ?_) rfl (by as_aux_lemma => kernel_rfl) (by as_aux_lemma => kernel_rfl) (by as_aux_lemma => kernel_rfl) (fun _ _ _ h => h) (Or.inl ⟨by rfl, ?hy7⟩) (by assumption) ?_
          case hy7 => (intro w hSw; (try dsimp only at hSw); go_simp; try with_reducible rfl)
          try simp only [Act.put, List.setIfInBounds_toArray, List.set_cons_zero, List.set_cons_succ, List.getElem_toArray, List.getElem_cons_zero, List.getElem_cons_succ]
          refine wpAnyH_take (i := 8) (v := ?_) rfl (by as_aux_lemma => kernel_rfl) (by as_aux_lemma => kernel_rfl) (by as_aux_lemma => kernel_rfl) (fun _ _ _ h => h) (Or.inl ⟨by rfl, ?hy8⟩) (by assumption) ?_
          case hy8 => (intro w hSw; (try dsimp only at hSw); go_simp; try with_reducible rfl)
          try simp only [Act.put, List.setIfInBounds_toArray, List.set_cons_zero, List.set_cons_succ, List.getElem_toArray, List.getElem_cons_zero, List.getElem_cons_succ]
          refine wpAnyH_take (i := 9) (v := ?_) rfl (by as_aux_lemma => kernel_rfl) (by as_aux_lemma => kernel_rfl) (by as_aux_lemma => kernel_rfl) (fun _ _ _ h => h) (Or.inl ⟨by rfl, ?hy9⟩) (by assumption) ?_
          case hy9 => (intro w hSw; (try dsimp only at hSw); go_simp; try with_reducible rfl)
          try simp only [Act.put, List.setIfInBounds_toArray, List.set_cons_zero, List.set_cons_succ, List.getElem_toArray, List.getElem_cons_zero, List.getElem_cons_succ]
          refine wpAnyH_take (i := 10) (v := ?_) rfl (by as_aux_lemma => kernel_rfl) (by as_aux_lemma => kernel_rfl) (by as_aux_lemma => kernel_rfl) (fun _ _ _ h => h) (Or.inl ⟨by rfl, ?hy10⟩) (by assumption) ?_
          case hy10 => (intro w hSw; (try dsimp only at hSw); go_simp; try with_reducible rfl)
          try simp only [Act.put, List.setIfInBounds_toArray, List.set_cons_zero, List.set_cons_succ, List.getElem_toArray, List.getElem_cons_zero, List.getElem_cons_succ]
          refine wpAnyH_ready (rs := [11, 15]) (by as_aux_lemma => kernel_rfl) (by simp) (AllReadyH.cons rfl (fun K hK => ?_) (AllReadyH.cons rfl (fun K hK => ?_) AllReadyH.nil))
          · (go_simp; go_at_call 14; (with_reducible refine (HC.out _ HD.out).mono ?_); rintro en wn ⟨z', rfl, hp, hf, hg⟩; have P1 := Lib.hid hp; refine hK.out _ _ (SX.out _ _ _ _ _ P1.out) (fun hHeld => ?_); clear hK K hp hf hg; try simp only [Act.put, List.setIfInBounds_toArray, List.set_cons_zero, List.set_cons_succ, List.getElem_toArray, List.getElem_cons_zero, List.getElem_cons_succ])
            refine wpAnyH_take (i := 12) (v := ?_) rfl (by as_aux_lemma => kernel_rfl) (by as_aux_lemma => kernel_rfl) (by as_aux_lemma => kernel_rfl) (fun _ _ _ h => h) (Or.inl ⟨by rfl, ?hy12⟩) (by assumption) ?_
            case hy12 => (intro w hSw; (try dsimp only at hSw); go_simp; try with_reducible rfl)
            try simp only [Act.put, List.setIfInBounds_toArray, List.set_cons_zero, List.set_cons_succ, List.getElem_toArray, List.getElem_cons_zero, List.getElem_cons_succ]
            refine wpAnyH_take (i := 13) (v := ?_) rfl (by as_aux_lemma => kernel_rfl) (by as_aux_lemma => kernel_rfl) (by as_aux_lemma => kernel_rfl) (fun _ _ _ h => h) (Or.inl ⟨by rfl, ?hy13⟩) (by assumption) ?_
            case hy13 => (intro w hSw; (try dsimp only at hSw); go_simp; try with_reducible rfl)
            try simp only [Act.put, List.setIfInBounds_toArray, List.set_cons_zero, List.set_cons_succ, List.getElem_toArray, List.getElem_cons_zero, List.getElem_cons_succ]
            refine wpAnyH_take (i := 14) (v := ?_) rfl (by as_aux_lemma => kernel_rfl) (by as_aux_lemma => kernel_rfl) (by as_aux_lemma => kernel_rfl) (fun _ _ _ h => h) (Or.inl ⟨by rfl, ?hy14⟩) (by assumption) ?_
            case hy14 => (intro w hSw; (try dsimp only at hSw); go_simp; try with_reducible rfl)
            try simp only [Act.put, List.setIfInBounds_toArray, List.set_cons_zero, List.set_cons_succ, List.getElem_toArray, List.getElem_cons_zero, List.getElem_cons_succ]
            have GN := Lib.hid (GB.new 55 wn #[.int .u8 0, .int .u8 0, .int .u8 0, .int .u8 0, .int .u8 0, .int .u8 0, .string { data := #[] }])
            have BN : Hid (Below wn.heap.size wn ((wn.alloc (.cells #[.int .u8 0, .int .u8 0, .int .u8 0, .int .u8 0, .int .u8 0, .int .u8 0, .string { data := #[] }] 55)).setCells wn.heap.size 0 (snC X))) := Lib.hid (below_cellsG (Nat.le_refl _) (snC X) 0 _ ((Below.refl _ _).alloc (Nat.le_refl _) _))
            have P2 := Lib.hid (P1.out.later ((Below.refl _ _).alloc (Nat.le_refl _) (.cells #[.int .u8 0, .int .u8 0, .int .u8 0, .int .u8 0, .int .u8 0, .int .u8 0, .string { data := #[] }] 55)))
            have P3 := Lib.hid (P1.out.later BN.out)
            have G3 : Hid (GB 55 ((wn.alloc (.cells #[.int .u8 0, .int .u8 0, .int .u8 0, .int .u8 0, .int .u8 0, .int .u8 0, .string { data := #[] }] 55)).setCells wn.heap.size 0 (snC X)) wn.heap.size (snC X).toArray) := Lib.hid (by have := GN.out.store (A := (snC X).toArray) rfl (snA_oneP X); rw [List.toList_toArray] at this; exact this)
            refine wpAnyH_ready (rs := [15]) (by as_aux_lemma => kernel_rfl) (by simp) (AllReadyH.cons rfl (fun K hK => ?_) AllReadyH.nil)
            (go_simp; refine hK.out _ _ (SX.out _ _ _ _ _ P2.out) (fun hHeld => ?_); clear hK K; try simp only [Act.put, List.setIfInBounds_toArray, List.set_cons_zero, List.set_cons_succ, List.getElem_toArray, List.getElem_cons_zero, List.getElem_cons_succ])
            refine wpAnyH_ready (rs := [16]) (by as_aux_lemma => kernel_rfl) (by simp) (AllReadyH.cons rfl (fun K hK => ?_) AllReadyH.nil)
            (rw [if_pos (by rfl)]; refine wp_store_mid 55 (.tmp 16) (.tmp 84) rfl wn.heap.size 0 (snC X).toArray rfl rfl (GN.out.there (Nat.le_refl _)) info_smP (snA_oneP X) ?_; simp only [List.toList_toArray]; refine hK.out _ _ (SX.out _ _ _ _ _ P3.out) (fun hHeld => ?_); clear hK K; try simp only [Act.put, List.setIfInBounds_toArray])
            refine wpAnyH_take (i := 17) (v := ?_) rfl (by as_aux_lemma => kernel_rfl) (by as_aux_lemma => kernel_rfl) (by as_aux_lemma => kernel_rfl) (fun _ _ _ h => h) (Or.inl ⟨by rfl, ?hy17⟩) (by assumption) ?_
            case hy17 => (intro w hSw; (try dsimp only at hSw); go_simp; try with_reducible rfl)
            try simp only [Act.put, List.setIfInBounds_toArray, List.set_cons_zero, List.set_cons_succ, List.getElem_toArray, List.getElem_cons_zero, List.getElem_cons_succ]
            refine wpAnyH_done (by as_aux_lemma => kernel_rfl) ?_ _
            clear hHeld
            go_wp2_with fail
            go_meet
            exact ⟨_, z', rfl, rfl, G3, P3⟩
          · (go_simp; have BA := ((Below.refl wr.heap.size wr).alloc (Nat.le_refl _) (.cells #[.int .u8 0, .int .u8 0, .int .u8 0, .int .u8 0, .int .u8 0, .int .u8 0, .string { data := #[] }] 55)).drew; have P1 := Lib.hid (HP.out.later BA); refine hK.out _ _ (SX.out _ _ _ _ _ P1.out) (fun hHeld => ?_); clear hK K; try simp only [Act.put, List.setIfInBounds_toArray, List.set_cons_zero, List.set_cons_succ, List.getElem_toArray, List.getElem_cons_zero, List.getElem_cons_succ])
            refine wpAnyH_ready (rs := [11]) (by as_aux_lemma => kernel_rfl) (by simp) (AllReadyH.cons rfl (fun K hK => ?_) AllReadyH.nil)
            (go_simp; go_at_call 14; (with_reducible refine (HC.out _ P1.out).mono ?_); rintro en wn ⟨z', rfl, hp, hf, hg⟩; have P2 := Lib.hid hp; have ND : Hid (¬ x0.D z' wr.heap.size) := Lib.hid (fun e => Nat.lt_irrefl _ (HD.out.pw.m0.ltD (hg _ e))); have GN : Hid (GB 55 wn wr.heap.size #[.int .u8 0, .int .u8 0, .int .u8 0, .int .u8 0, .int .u8 0, .int .u8 0, .string { data := #[] }]) := Lib.hid ((GB.new 55 wr #[.int .u8 0, .int .u8 0, .int .u8 0, .int .u8 0, .int .u8 0, .int .u8 0, .string { data := #[] }]).drew.fr' hf (fun e => Nat.lt_irrefl _ (HD.out.pw.m0.ltD e))); refine hK.out _ _ (SX.out _ _ _ _ _ P2.out) (fun hHeld => ?_); clear hK K hp hf hg; try simp only [Act.put, List.setIfInBounds_toArray, List.set_cons_zero, List.set_cons_succ, List.getElem_toArray, List.getElem_cons_zero, List.getElem_cons_succ])
            refine wpAnyH_take (i := 12) (v := ?_) rfl (by as_aux_lemma => kernel_rfl) (by as_aux_lemma => kernel_rfl) (by as_aux_lemma => kernel_rfl) (fun _ _ _ h => h) (Or.inl ⟨by rfl, ?hy12⟩) (by assumption) ?_
            case hy12 => (intro w hSw; (try dsimp only at hSw); go_simp; try with_reducible rfl)
            try simp only [Act.put, List.setIfInBounds_toArray, List.set_cons_zero, List.set_cons_succ, List.getElem_toArray, List.getElem_cons_zero, List.getElem_cons_succ]
            refine wpAnyH_take (i := 13) (v := ?_) rfl (by as_aux_lemma => kernel_rfl) (by as_aux_lemma => kernel_rfl) (by as_aux_lemma => kernel_rfl) (fun _ _ _ h => h) (Or.inl ⟨by rfl, ?hy13⟩) (by assumption) ?_
            case hy13 => (intro w hSw; (try dsimp only at hSw); go_simp; try with_reducible rfl)
            try simp only [Act.put, List.setIfInBounds_toArray, List.set_cons_zero, List.set_cons_succ, List.getElem_toArray, List.getElem_cons_zero, List.getElem_cons_succ]
            refine wpAnyH_take (i := 14) (v := ?_) rfl (by as_aux_lemma => kernel_rfl) (by as_aux_lemma => kernel_rfl) (by as_aux_lemma => kernel_rfl) (fun _ _ _ h => h) (Or.inl ⟨by rfl, ?hy14⟩) (by assumption) ?_
            case hy14 => (intro w hSw; (try dsimp only at hSw); go_simp; try with_reducible rfl)
            try simp only [Act.put, List.setIfInBounds_toArray, List.set_cons_zero, List.set_cons_succ, List.getElem_toArray, List.getElem_cons_zero, List.getElem_cons_succ]
            have P3 : Hid (PQ w (wn.setCells wr.heap.size 0 (snC X)) P Q (pO lv iv 1) (pO lv iv 2) v0 v1 x0 x1 s0a s1 z' z1) := Lib.hid (P2.out.box ND.out (fun e => Nat.lt_irrefl _ (HD.out.pw.m1.ltD e)) (Nat.ne_of_lt HD.out.pw.gb.lt) (Nat.ne_of_lt (World.block_lt_of_cell? _ _ HD.out.q)) HD.out.pw.bel.size _)
            have G3 : Hid (GB 55 (wn.setCells wr.heap.size 0 (snC X)) wr.heap.size (snC X).toArray) := Lib.hid (by have := GN.out.store (A := (snC X).toArray) rfl (snA_oneP X); rw [List.toList_toArray] at this; exact this)
            refine wpAnyH_ready (rs := [16]) (by as_aux_lemma => kernel_rfl) (by simp) (AllReadyH.cons rfl (fun K hK => ?_) AllReadyH.nil)
            (rw [if_pos (by rfl)]; refine wp_store_mid 55 (.tmp 16) (.tmp 84) rfl wr.heap.size 0 (snC X).toArray rfl rfl (GN.out.there (Nat.le_refl _)) info_smP (snA_oneP X) ?_; simp only [List.toList_toArray]; refine hK.out _ _ (SX.out _ _ _ _ _ P3.out) (fun hHeld => ?_); clear hK K; try simp only [Act.put, List.setIfInBounds_toArray])
            refine wpAnyH_take (i := 17) (v := ?_) rfl (by as_aux_lemma => kernel_rfl) (by as_aux_lemma => kernel_rfl) (by as_aux_lemma => kernel_rfl) (fun _ _ _ h => h) (Or.inl ⟨by rfl, ?hy17⟩) (by assumption) ?_
            case hy17 => (intro w hSw; (try dsimp only at hSw); go_simp; try with_reducible rfl)
            try simp only [Act.put, List.setIfInBounds_toArray, List.set_cons_zero, List.set_cons_succ, List.getElem_toArray, List.getElem_cons_zero, List.getElem_cons_succ]
            refine wpAnyH_done (by as_aux_lemma => kernel_rfl) ?_ _
            clear hHeld
            go_wp2_with fail
            go_meet
            exact ⟨_, z', rfl, rfl, G3, P3⟩
        case rest =>
          obtain ⟨q, z', rfl, rfl, GX, HQ2⟩ := hcut
          clear HC HP
          obtain ⟨b0, b1, b2, b3, b4, b5, b6⟩ := sent7P GX.out
          have cq := HQ2.out.q
          have CM : Hid (Calls Tryz.prog 24 #[.pointer (some ⟨P, 0, none⟩), .int .i64 0, .slice (some ⟨wc.heap.size, 0, none⟩) 1 1] (wc.alloc (.cells #[.int .u8 X.m.a, .int .u8 X.m.b, .int .u8 X.m.c, .int .u8 X.m.d, .int .u8 X.m.e, .int .u8 X.m.f, .string (bs X.d)] 55)) fun en w' => en = .returned (.tuple #[]) ∧ ∃ z0 z1, PQ w w' P Q (pO lv iv 1) (pO lv iv 2) v0 v1 x0 x1 s0b s1 z0 z1) := Lib.hid
            ((HQ2.out.later ((Below.refl _ _).alloc (Nat.le_refl _) (.cells #[.int .u8 X.m.a, .int .u8 X.m.b, .int .u8 X.m.c, .int .u8 X.m.d, .int .u8 X.m.e, .int .u8 X.m.f, .string (bs X.d)] 55))).comes HOK.out.1 HLV.out.2 HOK.out.2 HLV.out.2 X _ HAS.out.ea ((Ow.lit (E := 55) snC_len wc 0 X #[.int .u8 X.m.a, .int .u8 X.m.b, .int .u8 X.m.c, .int .u8 X.m.d, .int .u8 X.m.e, .int .u8 X.m.f, .string (bs X.d)] rfl (Nat.zero_le _)).rw snC_len) (HQ2.out.above))
          go_wp2_with fail
          with_reducible refine CM.out.mono ?_
          rintro en wa ⟨rfl, y0, y1, hp⟩
          have HQA := Lib.hid hp
          clear hp b0 b1 b2 b3 b4 b5 b6 cq CM GX HQ2
          have HTT : Hid (∀ W, PQ w W P Q (pO lv iv 1) (pO lv iv 2) v0 v1 x0 x1 s0b s1 y0 y1 → _) := Lib.hid fun W h => HT.out W y0 y1 h
          clear HT
          go_upto_region 18 with fail
          go_cut [18, 19] (fun s_a s_b wx => ∃ (q : Nat) (z' : Value), s_a = .pointer (some ⟨q, 0, none⟩) ∧ s_b = .int .i64 0 ∧ Hid (GB 55 wx q (snC Y).toArray) ∧ Hid (PQ w wx P Q (pO lv iv 1) (pO lv iv 2) v0 v1 x0 x1 s0c s1 z' y1))
          case first => as_aux_lemma =>
            have HD := Lib.hid HQA.out.drew
            refine wp_region_held_drew (S := fun W => W.cell? ⟨P, 0, none⟩ = some (.pointer (some ⟨x0.p, 0, none⟩)) ∧ W.cell? ⟨P, 1, none⟩ = some (.pointer (some ⟨x1.p, 0, none⟩)) ∧ W.cell? ⟨Q, 0, none⟩ = some (.pointer (some ⟨P, 0, none⟩)) ∧ W.cell? ⟨P, 8, none⟩ = some (.int .u8 2) ∧ W.cell? ⟨P, 9, none⟩ = some (.int .u8 2) ∧ W.cell? ⟨P, 10, none⟩ = some (.int .u8 0) ∧ W.cell? ⟨P, 11, none⟩ = some (.int .u8 0) ∧ W.cell? ⟨P, 12, none⟩ = some (.int .u8 0) ∧ W.cell? ⟨P, 13, none⟩ = some (.int .u8 0)) (by as_aux_lemma => kernel_rfl) (SX.out _ _ _ _ _ HD.out) (fun hHeld => ?_)
            refine wpAnyH_take (i := 0) (v := ?_) rfl (by as_aux_lemma => kernel_rfl) (by as_aux_lemma => kernel_rfl) (by as_aux_lemma => kernel_rfl) (fun _ _ _ h => h) (Or.inl ⟨by rfl, ?hy0⟩) (by assumption) ?_
            case hy0 => (intro w hSw; (try dsimp only at hSw); go_simp; try with_reducible rfl)
            try simp only [Act.put, List.setIfInBounds_toArray, List.set_cons_zero, List.set_cons_succ, List.getElem_toArray, List.getElem_cons_zero, List.getElem_cons_succ]
            refine wpAnyH_take (i := 1) (v := ?_) rfl (by as_aux_lemma => kernel_rfl) (by as_aux_lemma => kernel_rfl) (by as_aux_lemma => kernel_rfl) (fun _ _ _ h => h) (Or.inl ⟨by rfl, ?hy1⟩) (by assumption) ?_
            case hy1 => (intro w hSw; (try dsimp only at hSw); go_simp; try with_reducible rfl)
            try simp only [Act.put, List.setIfInBounds_toArray, List.set_cons_zero, List.set_cons_succ, List.getElem_toArray, List.getElem_cons_zero, List.getElem_cons_succ]
            refine wpAnyH_take (i := 2) (v := ?_) rfl (by as_aux_lemma => kernel_rfl) (by as_aux_lemma => kernel_rfl) (by as_aux_lemma => kernel_rfl) (fun _ _ _ h => h) (Or.inl ⟨by rfl, ?hy2⟩) (by assumption) ?_
            case hy2 => (intro w hSw; (try dsimp only at hSw); go_simp; try with_reducible rfl)
            try simp only [Act.put, List.setIfInBounds_toArray, List.set_cons_zero, List.set_cons_succ, List.getElem_toArray, List.getElem_cons_zero, List.getElem_cons_succ]
            refine wpAnyH_take (i := 3) (v := ?_) rfl (by as_aux_lemma => kernel_rfl) (by as_aux_lemma => kernel_rfl) (by as_aux_lemma => kernel_rfl) (fun _ _ _ h => h) (Or.inl ⟨by rfl, ?hy3⟩) (by assumption) ?_
            case hy3 => (intro w hSw; (try dsimp only at hSw); go_simp; try with_reducible rfl)
            try simp only [Act.put, List.setIfInBounds_toArray, List.set_cons_zero, List.set_cons_succ, List.getElem_toArray, List.getElem_cons_zero, List.getElem_cons_succ]
            refine wpAnyH_take (i := 4) (v := ?_) rfl (by as_aux_lemma => kernel_rfl) (by as_aux_lemma => kernel_rfl) (by as_aux_lemma => kernel_rfl) (fun _ _ _ h => h) (Or.inl ⟨by rfl, ?hy4⟩) (by assumption) ?_
            case hy4 => (intro w hSw; (try dsimp only at hSw); go_simp; try with_reducible rfl)
            try simp only [Act.put, List.setIfInBounds_toArray, List.set_cons_zero, List.set_cons_succ, List.getElem_toArray, List.getElem_cons_zero, List.getElem_cons_succ]
            refine wpAnyH_take (i := 5) (v := ?_) rfl (by as_aux_lemma => kernel_rfl) (by as_aux_lemma => kernel_rfl) (by as_aux_lemma => kernel_rfl) (fun _ _ _ h => h) (Or.inl ⟨by rfl, ?hy5⟩) (by assumption) ?_
            case hy5 => (intro w hSw; (try dsimp only at hSw); go_simp; try with_reducible rfl)
            try simp only [Act.put, List.setIfInBounds_toArray, List.set_cons_zero, List.set_cons_succ, List.getElem_toArray, List.getElem_cons_zero, List.getElem_cons_succ]
            refine wpAnyH_take (i := 6) (v := ?_) rfl (by as_aux_lemma => kernel_rfl) (by as_aux_lemma => kernel_rfl) (by as_aux_lemma => kernel_rfl) (fun _ _ _ h => h) (Or.inl ⟨by rfl, ?hy6⟩) (by assumption) ?_
            case hy6 => (intro w hSw; (try dsimp only at hSw); go_simp; try with_reducible rfl)
            try simp only [Act.put, List.setIfInBounds_toArray, List.set_cons_zero, List.set_cons_succ, List.getElem_toArray, List.getElem_cons_zero, List.getElem_cons_succ]
            refine wpAnyH_take (i := 7) (v := ?_) rfl (by as_aux_lemma => kernel_rfl) (by as_aux_lemma => kernel_rfl) (by as_aux_lemma => kernel_rfl) (fun _ _ _ h => h) (Or.inl ⟨by rfl, ?hy7⟩) (by assumption) ?_
            case hy7 => (intro w hSw; (try dsimp only at hSw); go_simp; try with_reducible rfl)
            try simp only [Act.put, List.setIfInBounds_toArray, List.set_cons_zero, List.set_cons_succ, List.getElem_toArray, List.getElem_cons_zero, List.getElem_cons_succ]
            refine wpAnyH_take (i := 8) (v := ?_) rfl (by as_aux_lemma => kernel_rfl) (by as_aux_lemma => kernel_rfl) (by as_aux_lemma => kernel_rfl) (fun _ _ _ h => h) (Or.inl ⟨by rfl, ?hy8⟩) (by assumption) ?_
            case hy8 => (intro w hSw; (try dsimp only at hSw); go_simp; try with_reducible rfl)
            try simp only [Act.put, List.setIfInBounds_toArray, List.set_cons_zero, List.set_cons_succ, List.getElem_toArray, List.getElem_cons_zero, List.getElem_cons_succ]
            refine wpAnyH_take (i := 9) (v := ?_) rfl (by as_aux_lemma => kernel_rfl) (by as_aux_lemma => kernel_rfl) (by as_aux_lemma => kernel_rfl) (fun _ _ _ h => h) (Or.inl ⟨by rfl, ?hy9⟩) (by assumption) ?_
            case hy9 => (intro w hSw; (try dsimp only at hSw); go_simp; try with_reducible rfl)
            try simp only [Act.put, List.setIfInBounds_toArray, List.set_cons_zero, List.set_cons_succ, List.getElem_toArray, List.getElem_cons_zero, List.getElem_cons_succ]
            refine wpAnyH_take (i := 10) (v := ?_) rfl (by as_aux_lemma => kernel_rfl) (by as_aux_lemma => kernel_rfl) (by as_aux_lemma => kernel_rfl) (fun _ _ _ h => h) (Or.inl ⟨by rfl, ?hy10⟩) (by assumption) ?_
            case hy10 => (intro w hSw; (try dsimp only at hSw); go_simp; try with_reducible rfl)
            try simp only [Act.put, List.setIfInBounds_toArray, List.set_cons_zero, List.set_cons_succ, List.getElem_toArray, List.getElem_cons_zero, List.getElem_cons_succ]
            refine wpAnyH_ready (rs := [11, 15]) (by as_aux_lemma => kernel_rfl) (by simp) (AllReadyH.cons rfl (fun K hK => ?_) (AllReadyH.cons rfl (fun K hK => ?_) AllReadyH.nil))
            · (go_simp; go_at_call 16; (with_reducible refine (HTT.out _ HD.out).mono ?_); rintro en wn ⟨z', rfl, hp, hf, hg⟩; have P1 := Lib.hid hp; refine hK.out _ _ (SX.out _ _ _ _ _ P1.out) (fun hHeld => ?_); clear hK K hp hf hg; try simp only [Act.put, List.setIfInBounds_toArray, List.set_cons_zero, List.set_cons_succ, List.getElem_toArray, List.getElem_cons_zero, List.getElem_cons_succ])
              refine wpAnyH_take (i := 12) (v := ?_) rfl (by as_aux_lemma => kernel_rfl) (by as_aux_lemma => kernel_rfl) (by as_aux_lemma => kernel_rfl) (fun _ _ _ h => h) (Or.inl ⟨by rfl, ?hy12⟩) (by assumption) ?_
              case hy12 => (intro w hSw; (try dsimp only at hSw); go_simp; try with_reducible rfl)
              try simp only [Act.put, List.setIfInBounds_toArray, List.set_cons_zero, List.set_cons_succ, List.getElem_toArray, List.getElem_cons_zero, List.getElem_cons_succ]
              refine wpAnyH_take (i := 13) (v := ?_) rfl (by as_aux_lemma => kernel_rfl) (by as_aux_lemma => kernel_rfl) (by as_aux_lemma => kernel_rfl) (fun _ _ _ h => h) (Or.inl ⟨by rfl, ?hy13⟩) (by assumption) ?_
              case hy13 => (intro w hSw; (try dsimp only at hSw); go_simp; try with_reducible rfl)
              try simp only [Act.put, List.setIfInBounds_toArray, List.set_cons_zero, List.set_cons_succ, List.getElem_toArray, List.getElem_cons_zero, List.getElem_cons_succ]
              refine wpAnyH_take (i := 14) (v := ?_) rfl (by as_aux_lemma => kernel_rfl) (by as_aux_lemma => kernel_rfl) (by as_aux_lemma => kernel_rfl) (fun _ _ _ h => h) (Or.inl ⟨by rfl, ?hy14⟩) (by assumption) ?_
              case hy14 => (intro w hSw; (try dsimp only at hSw); go_simp; try with_reducible rfl)
              try simp only [Act.put, List.setIfInBounds_toArray, List.set_cons_zero, List.set_cons_succ, List.getElem_toArray, List.getElem_cons_zero, List.getElem_cons_succ]
              have GN := Lib.hid (GB.new 55 wn #[.int .u8 0, .int .u8 0, .int .u8 0, .int .u8 0, .int .u8 0, .int .u8 0, .string { data := #[] }])
              have BN : Hid (Below wn.heap.size wn ((wn.alloc (.cells #[.int .u8 0, .int .u8 0, .int .u8 0, .int .u8 0, .int .u8 0, .int .u8 0, .string { data := #[] }] 55)).setCells wn.heap.size 0 (snC Y))) := Lib.hid (below_cellsG (Nat.le_refl _) (snC Y) 0 _ ((Below.refl _ _).alloc (Nat.le_refl _) _))
              have P2 := Lib.hid (P1.out.later ((Below.refl _ _).alloc (Nat.le_refl _) (.cells #[.int .u8 0, .int .u8 0, .int .u8 0, .int .u8 0, .int .u8 0, .int .u8 0, .string { data := #[] }] 55)))
              have P3 := Lib.hid (P1.out.later BN.out)
              have G3 : Hid (GB 55 ((wn.alloc (.cells #[.int .u8 0, .int .u8 0, .int .u8 0, .int .u8 0, .int .u8 0, .int .u8 0, .string { data := #[] }] 55)).setCells wn.heap.size 0 (snC Y)) wn.heap.size (snC Y).toArray) := Lib.hid (by have := GN.out.store (A := (snC Y).toArray) rfl (snA_oneP Y); rw [List.toList_toArray] at this; exact this)
              refine wpAnyH_ready (rs := [15]) (by as_aux_lemma => kernel_rfl) (by simp) (AllReadyH.cons rfl (fun K hK => ?_) AllReadyH.nil)
              (go_simp; refine hK.out _ _ (SX.out _ _ _ _ _ P2.out) (fun hHeld => ?_); clear hK K; try simp only [Act.put, List.setIfInBounds_toArray, List.set_cons_zero, List.set_cons_succ, List.getElem_toArray, List.getElem_cons_zero, List.getElem_cons_succ])
              refine wpAnyH_ready (rs := [16]) (by as_aux_lemma => kernel_rfl) (by simp) (AllReadyH.cons rfl (fun K hK => ?_) AllReadyH.nil)
              (rw [if_pos (by rfl)]; refine wp_store_mid 55 (.tmp 18) (.tmp 103) rfl wn.heap.size 0 (snC Y).toArray rfl rfl (GN.out.there (Nat.le_refl _)) info_smP (snA_oneP Y) ?_; simp only [List.toList_toArray]; refine hK.out _ _ (SX.out _ _ _ _ _ P3.out) (fun hHeld => ?_); clear hK K; try simp only [Act.put, List.setIfInBounds_toArray])
              refine wpAnyH_take (i := 17) (v := ?_) rfl (by as_aux_lemma => kernel_rfl) (by as_aux_lemma => kernel_rfl) (by as_aux_lemma => kernel_rfl) (fun _ _ _ h => h) (Or.inl ⟨by rfl, ?hy17⟩) (by assumption) ?_
              case hy17 => (intro w hSw; (try dsimp only at hSw); go_simp; try with_reducible rfl)
              try simp only [Act.put, List.setIfInBounds_toArray, List.set_cons_zero, List.set_cons_succ, List.getElem_toArray, List.getElem_cons_zero, List.getElem_cons_succ]
              refine wpAnyH_done (by as_aux_lemma => kernel_rfl) ?_ _
              clear hHeld
              go_wp2_with fail
              go_meet
              exact ⟨_, z', rfl, rfl, G3, P3⟩
            · (go_simp; have BA := ((Below.refl wa.heap.size wa).alloc (Nat.le_refl _) (.cells #[.int .u8 0, .int .u8 0, .int .u8 0, .int .u8 0, .int .u8 0, .int .u8 0, .string { data := #[] }] 55)).drew; have P1 := Lib.hid (HQA.out.later BA); refine hK.out _ _ (SX.out _ _ _ _ _ P1.out) (fun hHeld => ?_); clear hK K; try simp only [Act.put, List.setIfInBounds_toArray, List.set_cons_zero, List.set_cons_succ, List.getElem_toArray, List.getElem_cons_zero, List.getElem_cons_succ])
              refine wpAnyH_ready (rs := [11]) (by as_aux_lemma => kernel_rfl) (by simp) (AllReadyH.cons rfl (fun K hK => ?_) AllReadyH.nil)
              (go_simp; go_at_call 16; (with_reducible refine (HTT.out _ P1.out).mono ?_); rintro en wn ⟨z', rfl, hp, hf, hg⟩; have P2 := Lib.hid hp; have ND : Hid (¬ x0.D z' wa.heap.size) := Lib.hid (fun e => Nat.lt_irrefl _ (HD.out.pw.m0.ltD (hg _ e))); have GN : Hid (GB 55 wn wa.heap.size #[.int .u8 0, .int .u8 0, .int .u8 0, .int .u8 0, .int .u8 0, .int .u8 0, .string { data := #[] }]) := Lib.hid ((GB.new 55 wa #[.int .u8 0, .int .u8 0, .int .u8 0, .int .u8 0, .int .u8 0, .int .u8 0, .string { data := #[] }]).drew.fr' hf (fun e => Nat.lt_irrefl _ (HD.out.pw.m0.ltD e))); refine hK.out _ _ (SX.out _ _ _ _ _ P2.out) (fun hHeld => ?_); clear hK K hp hf hg; try simp only [Act.put, List.setIfInBounds_toArray, List.set_cons_zero, List.set_cons_succ, List.getElem_toArray, List.getElem_cons_zero, List.getElem_cons_succ])
              refine wpAnyH_take (i := 12) (v := ?_) rfl (by as_aux_lemma => kernel_rfl) (by as_aux_lemma => kernel_rfl) (by as_aux_lemma => kernel_rfl) (fun _ _ _ h => h) (Or.inl ⟨by rfl, ?hy12⟩) (by assumption) ?_
              case hy12 => (intro w hSw; (try dsimp only at hSw); go_simp; try with_reducible rfl)
              try simp only [Act.put, List.setIfInBounds_toArray, List.set_cons_zero, List.set_cons_succ, List.getElem_toArray, List.getElem_cons_zero, List.getElem_cons_succ]
              refine wpAnyH_take (i := 13) (v := ?_) rfl (by as_aux_lemma => kernel_rfl) (by as_aux_lemma => kernel_rfl) (by as_aux_lemma => kernel_rfl) (fun _ _ _ h => h) (Or.inl ⟨by rfl, ?hy13⟩) (by assumption) ?_
              case hy13 => (intro w hSw; (try dsimp only at hSw); go_simp; try with_reducible rfl)
              try simp only [Act.put, List.setIfInBounds_toArray, List.set_cons_zero, List.set_cons_succ, List.getElem_toArray, List.getElem_cons_zero, List.getElem_cons_succ]
              refine wpAnyH_take (i := 14) (v := ?_) rfl (by as_aux_lemma => kernel_rfl) (by as_aux_lemma => kernel_rfl) (by as_aux_lemma => kernel_rfl) (fun _ _ _ h => h) (Or.inl ⟨by rfl, ?hy14⟩) (by assumption) ?_
              case hy14 => (intro w hSw; (try dsimp only at hSw); go_simp; try with_reducible rfl)
              try simp only [Act.put, List.setIfInBounds_toArray, List.set_cons_zero, List.set_cons_succ, List.getElem_toArray, List.getElem_cons_zero, List.getElem_cons_succ]
              have P3 : Hid (PQ w (wn.setCells wa.heap.size 0 (snC Y)) P Q (pO lv iv 1) (pO lv iv 2) v0 v1 x0 x1 s0c s1 z' y1) := Lib.hid (P2.out.box ND.out (fun e => Nat.lt_irrefl _ (HD.out.pw.m1.ltD e)) (Nat.ne_of_lt HD.out.pw.gb.lt) (Nat.ne_of_lt (World.block_lt_of_cell? _ _ HD.out.q)) HD.out.pw.bel.size _)
              have G3 : Hid (GB 55 (wn.setCells wa.heap.size 0 (snC Y)) wa.heap.size (snC Y).toArray) := Lib.hid (by have := GN.out.store (A := (snC Y).toArray) rfl (snA_oneP Y); rw [List.toList_toArray] at this; exact this)
              refine wpAnyH_ready (rs := [16]) (by as_aux_lemma => kernel_rfl) (by simp) (AllReadyH.cons rfl (fun K hK => ?_) AllReadyH.nil)
              (rw [if_pos (by rfl)]; refine wp_store_mid 55 (.tmp 18) (.tmp 103) rfl wa.heap.size 0 (snC Y).toArray rfl rfl (GN.out.there (Nat.le_refl _)) info_smP (snA_oneP Y) ?_; simp only [List.toList_toArray]; refine hK.out _ _ (SX.out _ _ _ _ _ P3.out) (fun hHeld => ?_); clear hK K; try simp only [Act.put, List.setIfInBounds_toArray])
              refine wpAnyH_take (i := 17) (v := ?_) rfl (by as_aux_lemma => kernel_rfl) (by as_aux_lemma => kernel_rfl) (by as_aux_lemma => kernel_rfl) (fun _ _ _ h => h) (Or.inl ⟨by rfl, ?hy17⟩) (by assumption) ?_
              case hy17 => (intro w hSw; (try dsimp only at hSw); go_simp; try with_reducible rfl)
              try simp only [Act.put, List.setIfInBounds_toArray, List.set_cons_zero, List.set_cons_succ, List.getElem_toArray, List.getElem_cons_zero, List.getElem_cons_succ]
              refine wpAnyH_done (by as_aux_lemma => kernel_rfl) ?_ _
              clear hHeld
              go_wp2_with fail
              go_meet
              exact ⟨_, z', rfl, rfl, G3, P3⟩
          case rest =>
            obtain ⟨q, z', rfl, rfl, GX, HQ2⟩ := hcut
            clear HTT HQA
            obtain ⟨b0, b1, b2, b3, b4, b5, b6⟩ := sent7P GX.out
            have cq := HQ2.out.q
            have CM : Hid (Calls Tryz.prog 24 #[.pointer (some ⟨P, 0, none⟩), .int .i64 0, .slice (some ⟨wc.heap.size, 0, none⟩) 1 1] (wc.alloc (.cells #[.int .u8 Y.m.a, .int .u8 Y.m.b, .int .u8 Y.m.c, .int .u8 Y.m.d, .int .u8 Y.m.e, .int .u8 Y.m.f, .string (bs Y.d)] 55)) fun en w' => en = .returned (.tuple #[]) ∧ ∃ z0 z1, PQ w w' P Q (pO lv iv 1) (pO lv iv 2) v0 v1 x0 x1 s0d s1 z0 z1) := Lib.hid
              ((HQ2.out.later ((Below.refl _ _).alloc (Nat.le_refl _) (.cells #[.int .u8 Y.m.a, .int .u8 Y.m.b, .int .u8 Y.m.c, .int .u8 Y.m.d, .int .u8 Y.m.e, .int .u8 Y.m.f, .string (bs Y.d)] 55))).comes HOK.out.1 HLV.out.2 HOK.out.2 HLV.out.2 Y _ HAS.out.et ((Ow.lit (E := 55) snC_len wc 0 Y #[.int .u8 Y.m.a, .int .u8 Y.m.b, .int .u8 Y.m.c, .int .u8 Y.m.d, .int .u8 Y.m.e, .int .u8 Y.m.f, .string (bs Y.d)] rfl (Nat.zero_le _)).rw snC_len) (HQ2.out.above))
            go_wp2_with fail
            with_reducible refine CM.out.mono ?_
            rintro en wd ⟨rfl, zz, z1, hp⟩
            have HQ3 := Lib.hid hp
            clear hp b0 b1 b2 b3 b4 b5 b6 cq CM GX HQ2
            have W0 : Hid (Calls Tryz.prog 21 #[.pointer (some ⟨x0.p, 0, none⟩)] wd fun en w' => ∃ (aa ab : Option Addr) (an ac bn bc : Nat) (e f g : Int) (yb yo yc : Nat), en = .returned (.agg #[.slice aa an ac, .slice ab bn bc, .int .u8 e, .int .u8 f, .int .u64 g, .int .u32 1, .int .i64 1, .int .i64 1, .int .u32 1, .slice (some ⟨yb, yo, none⟩) 1 yc]) ∧ w'.rangeAt yb yo (rqC (endX lv tl)) ∧ PQ w w' P Q (pO lv iv 1) (pO lv iv 2) v0 v1 x0 x1 s0d s1 zz z1) := Lib.hid ((HQ3.out.state0 (by rw [HAS.out.inv.2.1.way]; show 1 ≤ 1000; decide)).mono fun en w' ⟨a, b, c, he, h1, h2, h3, hp, _⟩ => by
              have e1 : s0d.way = [endX lv tl] := HAS.out.inv.2.1.way
              have e2 : s0d.lp = 1 := HAS.out.inv.2.1.lp
              have e3 : s0d.rep = 1 := HAS.out.inv.2.1.rep
              have e4 : s0d.ali = 1 := HAS.out.inv.2.1.ali
              have e5 : s0d.tr = 1 := HAS.out.inv.2.1.tr
              rw [e1] at h3
              rw [e2, e3, e4, e5] at he
              obtain ⟨yb, yo, yc, rfl, hr⟩ := h3.oneR
              obtain ⟨aa, ac, rfl, -⟩ := h1.shape
              obtain ⟨ab, bc, rfl, -⟩ := h2.shape
              exact ⟨aa, ab, _, ac, _, bc, _, _, _, yb, yo, yc, he, hr, hp⟩)
            obtain ⟨k0, k1, kq⟩ := C3.out _ _ _ _ _ HQ3.out
            go_upto_region 21 with (go_at_call 21; (with_reducible refine W0.out.mono ?_); rintro en we ⟨aa, ab, an, ac, bn, bc, e, f', g, yb, yo, yc, rfl, hr, hp⟩; have P1 := Lib.hid hp; have RY := Lib.hid hr; clear hp hr)
            have BS := (Below.refl we.heap.size we).alloc (Nat.le_refl _) (.cells #[.slice aa an ac, .slice ab bn bc, .int .u8 e, .int .u8 f', .int .u64 g, .int .u32 1, .int .i64 1, .int .i64 1, .int .u32 1, .slice (some ⟨yb, yo, none⟩) 1 yc] 69)
            have P2 := Lib.hid (P1.out.later BS)
            have GS : Hid (GB 69 (we.alloc (.cells #[.slice aa an ac, .slice ab bn bc, .int .u8 e, .int .u8 f', .int .u64 g, .int .u32 1, .int .i64 1, .int .i64 1, .int .u32 1, .slice (some ⟨yb, yo, none⟩) 1 yc] 69)) we.heap.size #[.slice aa an ac, .slice ab bn bc, .int .u8 e, .int .u8 f', .int .u64 g, .int .u32 1, .int .i64 1, .int .i64 1, .int .u32 1, .slice (some ⟨yb, yo, none⟩) 1 yc]) := Lib.hid (GB.new _ _ _)
            have RY2 : Hid ((we.alloc (.cells #[.slice aa an ac, .slice ab bn bc, .int .u8 e, .int .u8 f', .int .u64 g, .int .u32 1, .int .i64 1, .int .i64 1, .int .u32 1, .slice (some ⟨yb, yo, none⟩) 1 yc] 69)).rangeAt yb yo (rqC (endX lv tl))) := Lib.hid (fun i u hu => (BS.cell (World.block_lt_of_cell? we _ (RY.out i u hu))).trans (RY.out i u hu))
            obtain ⟨wf, hwf⟩ : ∃ k, we.alloc (.cells #[.slice aa an ac, .slice ab bn bc, .int .u8 e, .int .u8 f', .int .u64 g, .int .u32 1, .int .i64 1, .int .i64 1, .int .u32 1, .slice (some ⟨yb, yo, none⟩) 1 yc] 69) = k := ⟨_, rfl⟩
            rw [hwf] at P2 GS RY2 ⊢
            obtain ⟨S, hS⟩ : ∃ k, we.heap.size = k := ⟨_, rfl⟩
            rw [hS] at GS ⊢
            clear hwf hS BS k0 k1 kq W0 P1 RY HQ3
            obtain ⟨T1, hT1⟩ : ∃ k, tl - 1 = k := ⟨_, rfl⟩
            have hw5 : IntKind.u8.wrap T1 = T1 := IntWalk.u8_in _ (by have := HD64.out.2; omega)
            have q6 : ∀ k : Later wf, k.out.cell? ⟨S, 6, none⟩ = some (.int .i64 1) := fun k => (GS.out.later k.h).c 6 _ rfl
            have q7 : ∀ k : Later wf, k.out.cell? ⟨S, 7, none⟩ = some (.int .i64 1) := fun k => (GS.out.later k.h).c 7 _ rfl
            have q8 : ∀ k : Later wf, k.out.cell? ⟨S, 8, none⟩ = some (.int .u32 1) := fun k => (GS.out.later k.h).c 8 _ rfl
            have q9 : ∀ k : Later wf, k.out.cell? ⟨S, 9, none⟩ = some (.slice (some ⟨yb, yo, none⟩) 1 yc) := fun k => (GS.out.later k.h).c 9 _ rfl
            have qq : ∀ k : Later wf, k.out.cell? ⟨Q, 0, none⟩ = some (.pointer (some ⟨P, 0, none⟩)) := fun k => (P2.out.later k.h).q
            have m0 : ∀ k : Later wf, k.out.cell? ⟨P, 8, none⟩ = some (.int .u8 2) := fun k => (P2.out.later k.h).pw.gb.c 8 _ rfl
            have m1 : ∀ k : Later wf, k.out.cell? ⟨P, 9, none⟩ = some (.int .u8 2) := fun k => (P2.out.later k.h).pw.gb.c 9 _ rfl
            have m2 : ∀ k : Later wf, k.out.cell? ⟨P, 10, none⟩ = some (.int .u8 0) := fun k => (P2.out.later k.h).pw.gb.c 10 _ rfl
            have m3 : ∀ k : Later wf, k.out.cell? ⟨P, 11, none⟩ = some (.int .u8 0) := fun k => (P2.out.later k.h).pw.gb.c 11 _ rfl
            have m4 : ∀ k : Later wf, k.out.cell? ⟨P, 12, none⟩ = some (.int .u8 0) := fun k => (P2.out.later k.h).pw.gb.c 12 _ rfl
            have m5 : ∀ k : Later wf, k.out.cell? ⟨P, 13, none⟩ = some (.int .u8 0) := fun k => (P2.out.later k.h).pw.gb.c 13 _ rfl
            have LD : ∀ k : Later wf, (Instr.loadAt 81 (.pointer (some ⟨yb, yo, none⟩))).run Tryz.prog k.out = .ok (.agg #[.int .u8 lv, .int .u32 1, .int .u8 T1, .bool false, .bool true, .int .u8 2, .int .u8 2, .int .u8 0, .int .u8 0, .int .u8 0, .int .u8 0, .int .u8 0, .int .u8 0, .int .u8 0, .int .u8 0, .int .u8 0, .int .u8 0]) k.out := fun k => by
              rw [← hT1]
              exact run_loadAt_mid (P := Tryz.prog) k.out yb yo 81 (rqC (endX lv tl)) _ (fun i u hu => (k.h.cell (World.block_lt_of_cell? wf _ (RY2.out i u hu))).trans (RY2.out i u hu)) Tryz.underlying81 rfl (by as_aux_lemma => kernel_rfl)
            have NE : ∀ W, (binOp .neq 81 (.agg #[.int .u8 lv, .int .u32 1, .int .u8 T1, .bool false, .bool true, .int .u8 2, .int .u8 2, .int .u8 0, .int .u8 0, .int .u8 0, .int .u8 0, .int .u8 0, .int .u8 0, .int .u8 0, .int .u8 0, .int .u8 0, .int .u8 0]) (.agg #[.int .u8 lv, .int .u32 1, .int .u8 T1, .bool false, .bool true, .int .u8 2, .int .u8 2, .int .u8 0, .int .u8 0, .int .u8 0, .int .u8 0, .int .u8 0, .int .u8 0, .int .u8 0, .int .u8 0, .int .u8 0, .int .u8 0])).run Tryz.prog W = .ok (.bool false) W := fun W => by
              rw [← hT1]
              exact run_neq_rp (endX lv tl) W
            go_cut [155] (fun s155 wx => s155 = .bool false ∧ Hid (PQ w wx P Q (pO lv iv 1) (pO lv iv 2) v0 v1 x0 x1 s0d s1 zz z1))
            case first =>
              refine wp_region_later (by as_aux_lemma => kernel_rfl) (by as_aux_lemma => kernel_rfl) ?_
              repeat (go_big_quiet_step (fail))
              refine wpQuiet_loadP 81 (.tmp 140) yb yo _ rfl rfl rfl (by rintro _ ⟨k, rfl⟩; exact LD k) ?_
              try simp only [Act.put, List.setIfInBounds_toArray, List.set_cons_zero, List.set_cons_succ, List.getElem_toArray, List.getElem_cons_zero, List.getElem_cons_succ]
              repeat (go_big_quiet_step (fail))
              refine wpQuiet_nil ?_
              rintro _ ⟨kk, rfl⟩
              go_wp2_with fail
              go_meet
              exact ⟨rfl, Lib.hid (P2.out.later kk.h)⟩
            case rest =>
              obtain ⟨rfl, HQ4⟩ := hcut
              clear P2 GS RY2 q6 q7 q8 q9 qq m0 m1 m2 m3 m4 m5 LD NE hw5 hT1
              obtain ⟨LN, hLN⟩ : ∃ n : Nat, lastC iv = (n : Int) := ⟨(lastC iv).toNat, by have := last_b HIV.out; omega⟩
              have hLNb : 4 ≤ LN ∧ LN ≤ 35 := by have := last_b HIV.out; omega
              have LA : Hid (∀ W, Calls Tryz.prog 25 #[.int .u8 iv] W fun en w' => en = .returned (.int .i64 (LN : Int)) ∧ w' = W) := Lib.hid fun W => by have := lasts_any iv W; rw [hLN] at this; exact this
              have HLN := Lib.hid hLN
              have EOK : Hid (ExOk (exE lv tl d)) := Lib.hid (exE_ok HLV.out HD64.out.2 HD64.out.1)
              have J2 : Hid (Inv2 iv (j : Int) (exE lv tl d) ex0 0 s0d s1) := Lib.hid HAS.out.inv.two
              have HQ2 := HQ4
              clear HAS hLN HQ4
              go_wp2_with fail
              go_loopw [21] (fun i wr => ∃ (n : Nat) (s0 s1 : Ms) (z0 z1 : Value), n ≤ LN ∧ i = .int .i64 n ∧ Hid (PQ w wr P Q (pO lv iv 1) (pO lv iv 2) v0 v1 x0 x1 s0 s1 z0 z1) ∧ Hid (Inv2 iv ((j : Int) + (n : Int)) (exE lv tl d) ex0 (n : Int) s0 s1)) (fun i _ => LN - (intOf i).toNat)
              case atStart => exact ⟨0, _, _, _, _, Nat.zero_le _, rfl, HQ2, Lib.hid (by simpa using J2.out)⟩
              case round =>
                obtain ⟨n2, a2, b2, c2, e2, hn2, rfl, HP2, HJ⟩ := hrel
                have hnb2 : (n2 : Int) < 1000 := by omega
                clear HQ2 J2
                by_cases hlt : n2 < LN
                · have dk : decide ((n2 : Int) < (LN : Int)) = true := decide_eq_true (by omega)
                  obtain ⟨t0, t1, ha, hi⟩ := inv2_step HLV.out HIV.out EOK.out ex0_ok (by omega) HJ.out
                  have AA := Lib.hid (ALL.out _ _ _ _ _ _ _ _ HP2.out ha)
                  have HI := Lib.hid hi
                  clear ha hi HJ
                  go_wp2_with (first | (go_at_call 25; (with_reducible refine (LA.out _).mono ?_); rintro en wa ⟨rfl, rfl⟩) | (go_at_call 23; (with_reducible refine AA.out.mono ?_); rintro en wa ⟨rfl, u0, u1, hp⟩; have P1 := Lib.hid hp; clear hp))
                  exact ⟨⟨n2 + 1, t0, t1, u0, u1, by omega, by go_num, P1, Lib.hid (by have := HI.out; rw [Int.natCast_add, ← Int.add_assoc]; exact this)⟩, by simp [intOf]; omega⟩
                · obtain rfl : LN = n2 := by omega
                  have dk : decide ((LN : Int) < (LN : Int)) = false := decide_eq_false (by omega)
                  clear hlt
                  have I3 := HJ.out.three HIV.out (by have := HLN.out; omega)
                  have R2 := Lib.hid I3.lost
                  have J3 := Lib.hid I3
                  have WY : Hid (b2.way.length ≤ 1000) := Lib.hid (by obtain ⟨f, l1, r0, hf, hl, h0, h1⟩ := HJ.out; rw [h1.way]; decide)
                  clear HJ I3
                  have W1 : Hid (∀ W, PQ w W P Q (pO lv iv 1) (pO lv iv 2) v0 v1 x0 x1 a2 b2 c2 e2 → Calls Tryz.prog 21 #[.pointer (some ⟨x1.p, 0, none⟩)] W fun en w' => ∃ a b c d e f g h i lb lo lc, en = .returned (.agg #[.slice (some ⟨lb, lo, none⟩) 1 lc, a, b, c, d, e, f, g, h, i]) ∧ w'.cell? ⟨lb, lo, none⟩ = some (.int .u16 1) ∧ PQ w w' P Q (pO lv iv 1) (pO lv iv 2) v0 v1 x0 x1 a2 b2 c2 e2) := Lib.hid fun W hW => ((hW.state1 WY.out).mono fun en w' ⟨a, b, c, he, h1, _, _, hp, _⟩ => by
                    rw [R2.out] at h1
                    obtain ⟨lb, lo, lc, rfl, hc⟩ := h1.oneU
                    exact ⟨b, _, _, _, _, _, _, _, c, lb, lo, lc, he, hc, hp⟩)
                  obtain ⟨k0, k1, kq⟩ := C3.out _ _ _ _ _ HP2.out
                  go_wp2_with (go_at_call 25; (with_reducible refine (LA.out _).mono ?_); rintro en wa ⟨rfl, rfl⟩)
                  with_reducible refine (W1.out _ HP2.out).mono ?_
                  rintro en wb ⟨g1, g2, g3, g4, g5, g6, g7, g8, g9, lb, lo, lc, rfl, hc, hp⟩
                  have HQ3 := Lib.hid hp
                  clear hp k0 k1 kq W1 R2 WY HP2 LA
                  go_wp2_with fail
                  go_loopw [23] (fun i wr => ∃ (n : Nat) (s0 s1 : Ms) (z0 z1 : Value), n ≤ N ∧ i = .int .i64 n ∧ Hid (PQ w wr P Q (pO lv iv 1) (pO lv iv 2) v0 v1 x0 x1 s0 s1 z0 z1) ∧ Hid (Inv3 iv (((j : Int) + (LN : Int)) + (n : Int)) (exE lv tl d) ex0 (n : Int) s0 s1)) (fun i _ => N - (intOf i).toNat)
                  case atStart => exact ⟨0, _, _, _, _, Nat.zero_le _, rfl, HQ3, Lib.hid (by simpa using J3.out)⟩
                  case round =>
                    obtain ⟨n3, a3, b3, c3, e3, hn3, rfl, HP3, HJ⟩ := hrel
                    have hnb3 : (n3 : Int) < 1000 := by omega
                    clear HQ3 J3
                    by_cases hlt : n3 < N
                    · have dk : decide ((n3 : Int) < (N : Int)) = true := decide_eq_true (by omega)
                      obtain ⟨t0, t1, ha, hi⟩ := inv3_step HLV.out HIV.out EOK.out ex0_ok (by omega) HJ.out
                      have AA := Lib.hid (ALL.out _ _ _ _ _ _ _ _ HP3.out ha)
                      have HI := Lib.hid hi
                      clear ha hi HJ
                      go_wp2_with (first | (go_at_call 23; (with_reducible refine AA.out.mono ?_); rintro en wa ⟨rfl, u0, u1, hp⟩; have P1 := Lib.hid hp; clear hp))
                      exact ⟨⟨n3 + 1, t0, t1, u0, u1, by omega, by go_num, P1, Lib.hid (by have := HI.out; rw [Int.natCast_add, ← Int.add_assoc]; exact this)⟩, by simp [intOf]; omega⟩
                    · obtain rfl : N = n3 := by omega
                      have dk : decide ((N : Int) < (N : Int)) = false := decide_eq_false (by omega)
                      clear hlt
                      have R3 := Lib.hid (HJ.out.rdis HIV.out (by have := HN.out; omega))
                      have J4 := Lib.hid HJ.out.four
                      have WY : Hid (a3.way.length ≤ 1000) := Lib.hid (by obtain ⟨f, r0, hf, hr, h0, h1⟩ := HJ.out; rw [h0.way]; show 1 ≤ 1000; decide)
                      clear HJ
                      have W0 : Hid (Calls Tryz.prog 21 #[.pointer (some ⟨x0.p, 0, none⟩)] wr fun en w' => ∃ a b c d e f g h i lb lo lc, en = .returned (.agg #[a, .slice (some ⟨lb, lo, none⟩) 1 lc, b, c, d, e, f, g, h, i]) ∧ w'.cell? ⟨lb, lo, none⟩ = some (.int .u16 2) ∧ PQ w w' P Q (pO lv iv 1) (pO lv iv 2) v0 v1 x0 x1 a3 b3 c3 e3) := Lib.hid ((HP3.out.state0 WY.out).mono fun en w' ⟨a, b, c, he, _, h2, _, hp, _⟩ => by
                        rw [R3.out] at h2
                        obtain ⟨lb, lo, lc, rfl, hc⟩ := h2.oneU
                        exact ⟨a, _, _, _, _, _, _, _, c, lb, lo, lc, he, hc, hp⟩)
                      obtain ⟨k0, k1, kq⟩ := C3.out _ _ _ _ _ HP3.out
                      go_wp2_with fail
                      with_reducible refine W0.out.mono ?_
                      rintro en wb ⟨g1, g2, g3, g4, g5, g6, g7, g8, g9, lb, lo, lc, rfl, hc, hp⟩
                      have HQ4 := Lib.hid hp
                      clear hp k0 k1 kq W0 R3 WY HP3
                      obtain ⟨N2, hN2⟩ : ∃ n : Nat, 2 * (N : Int) = (n : Int) := ⟨2 * N, by omega⟩
                      have hw6 : IntKind.i64.wrap (N2 : Int) = (N2 : Int) := IntWalk.i64_in _ (by omega)
                      go_wp2_with fail
                      go_loopw [25] (fun i wr => ∃ (n : Nat) (s0 s1 : Ms) (z0 z1 : Value), n ≤ N2 ∧ i = .int .i64 n ∧ Hid (PQ w wr P Q (pO lv iv 1) (pO lv iv 2) v0 v1 x0 x1 s0 s1 z0 z1) ∧ Hid (Inv4 iv (((j : Int) + (LN : Int) + (N : Int)) + (n : Int)) (exE lv tl d) ex0 (n : Int) s0 s1)) (fun i _ => N2 - (intOf i).toNat)
                      case atStart => exact ⟨0, _, _, _, _, Nat.zero_le _, rfl, HQ4, Lib.hid (by simpa using J4.out)⟩
                      case round =>
                        obtain ⟨n4, a4, b4, c4, e4, hn4, rfl, HP4, HJ⟩ := hrel
                        have hnb4 : (n4 : Int) < 1000 := by omega
                        clear HQ4 J4
                        by_cases hlt : n4 < N2
                        · have dk : decide ((n4 : Int) < (N2 : Int)) = true := decide_eq_true (by omega)
                          obtain ⟨t0, t1, ha, hi⟩ := inv4_step HLV.out HIV.out EOK.out ex0_ok (by omega) HJ.out
                          have AA := Lib.hid (ALL.out _ _ _ _ _ _ _ _ HP4.out ha)
                          have HI := Lib.hid hi
                          clear ha hi HJ
                          go_wp2_with (first | (go_at_call 23; (with_reducible refine AA.out.mono ?_); rintro en wa ⟨rfl, u0, u1, hp⟩; have P1 := Lib.hid hp; clear hp))
                          exact ⟨⟨n4 + 1, t0, t1, u0, u1, by omega, by go_num, P1, Lib.hid (by have := HI.out; rw [Int.natCast_add, ← Int.add_assoc]; exact this)⟩, by simp [intOf]; omega⟩
                        · obtain rfl : N2 = n4 := by omega
                          have dk : decide ((N2 : Int) < (N2 : Int)) = false := decide_eq_false (by omega)
                          clear hlt
                          obtain ⟨fz, hfz⟩ := HJ.out.one HIV.out (by have := HN.out; omega)
                          have HC2 := Lib.hid (And.intro hfz (hfz.calm HIV.out))
                          clear HJ hfz
                          have W0 : Hid (∀ W, PQ w W P Q (pO lv iv 1) (pO lv iv 2) v0 v1 x0 x1 a4 b4 c4 e4 → Calls Tryz.prog 21 #[.pointer (some ⟨x0.p, 0, none⟩)] W fun en w' => ∃ a b c d e f g h i, en = .returned (.agg #[a, b, .int .u8 0, c, d, e, f, g, h, i]) ∧ PQ w w' P Q (pO lv iv 1) (pO lv iv 2) v0 v1 x0 x1 a4 b4 c4 e4) := Lib.hid fun W hW => (hW.state0 (by rw [HC2.out.1.2.1.way]; show 1 ≤ 1000; decide)).mono fun en w' ⟨a, b, c, he, _, _, _, hp, _⟩ => by (rw [HC2.out.2.1] at he; exact ⟨a, b, _, _, _, _, _, _, c, he, hp⟩)
                          have W1 : Hid (∀ W, PQ w W P Q (pO lv iv 1) (pO lv iv 2) v0 v1 x0 x1 a4 b4 c4 e4 → Calls Tryz.prog 21 #[.pointer (some ⟨x1.p, 0, none⟩)] W fun en w' => ∃ a b c d e f g h i, en = .returned (.agg #[a, b, .int .u8 0, c, d, e, f, g, h, i]) ∧ PQ w w' P Q (pO lv iv 1) (pO lv iv 2) v0 v1 x0 x1 a4 b4 c4 e4) := Lib.hid fun W hW => (hW.state1 (by rw [HC2.out.1.2.2.way]; decide)).mono fun en w' ⟨a, b, c, he, _, _, _, hp, _⟩ => by (rw [HC2.out.2.2] at he; exact ⟨a, b, _, _, _, _, _, _, c, he, hp⟩)
                          obtain ⟨k0, k1, kq⟩ := C3.out _ _ _ _ _ HP4.out
                          go_wp2_with fail
                          with_reducible refine (W0.out _ HP4.out).mono ?_
                          rintro en wb ⟨g1, g2, g3, g4, g5, g6, g7, g8, g9, rfl, hp⟩
                          have P2 := Lib.hid hp
                          clear hp k0 k1 kq
                          obtain ⟨k0, k1, kq⟩ := C3.out _ _ _ _ _ P2.out
                          go_wp2_with fail
                          with_reducible refine (W1.out _ P2.out).mono ?_
                          rintro en wc ⟨h1, h2, h3, h4, h5, h6, h7, h8, h9, rfl, hp⟩
                          have P3 := Lib.hid hp
                          clear hp k0 k1 kq
                          go_wp2_with (go_at_call 7; with_reducible refine (WK.out _).mono ?_; rintro e w' ⟨rfl, hb⟩)
                          go_ret
                          exact ⟨rfl, P3.out.pw.bel.trans (hb.mono P3.out.pw.bel.size)⟩
end Go.Proofs.YtlkdfofpnmpidaaGreat
