/- ZP14: the texts T4, T5 as one. -/
import Derived.Test.YtlkdfofpnmpidaaGreatZP13
import Derived.Deep.RegionHeld3
/- tlv: Put, walked. -/
set_option linter.unusedVariables false
namespace Go.Proofs.YtlkdfofpnmpidaaGreat
open Go.RowKit

set_option maxRecDepth 100000 in
set_option maxHeartbeats 4000000 in
theorem tput_any (v : Value) (l : List Th) (w : World) (hv : Tls w v l) (hl : l.length ≤ 100000) (hs : ∀ x ∈ l, x.2.length ≤ maxLen) : Calls Tryz.prog 86 #[v] w fun en w' => en = .returned (.tuple #[.string (bs (putT l).1), .int .i64 (putT l).2]) ∧ Below w.heap.size w w' := by
  obtain ⟨a, c, rfl, hc⟩ := hv.shape
  have HC := Lib.hid hc
  have HS := Lib.hid hs
  clear hc hv hs
  obtain ⟨R, hR⟩ : ∃ R, putT l = R := ⟨_, rfl⟩
  have HR := Lib.hid hR
  rw [hR]; clear hR
  go_enter Tryz.func86, Tryz.ntmps86
  go_wp2_with fail
  go_loopw [4, 9] (fun s i wr => ∃ j : Nat, j ≤ l.length ∧ i = .int .i64 j ∧ (∀ x ∈ l.take j, okT x = 0) ∧ Bys wr w.heap.size s ((l.take j).flatMap thB) ∧ Below w.heap.size w wr) (fun _ i _ => l.length - (intOf i).toNat)
  case atStart => exact ⟨0, by omega, rfl, by simp, Bys.none _ _, Below.refl _ _⟩
  case round =>
    obtain ⟨j, hj, rfl, hno, hown, hb⟩ := hrel
    have hacc := thBs_len _ hno
    have HN := Lib.hid hno; clear hno
    by_cases hlt : j < l.length
    · have dk : decide ((j : Int) < (l.length : Int)) = true := decide_eq_true (by omega)
      obtain ⟨b, off, rfl, hcc⟩ := HC.out.resolve_left (by intro h; rw [h] at hlt; simp at hlt)
      have c0 := (hb.cell (World.block_lt_of_cell? w _ (hcc j hlt).1)).trans (hcc j hlt).1
      have c1 := (hb.cell (World.block_lt_of_cell? w _ (hcc j hlt).2)).trans (hcc j hlt).2
      have hnext : l.take (j + 1) = l.take j ++ [l[j]] := List.take_succ_eq_append_getElem hlt
      have hxl := HS.out l[j] (List.getElem_mem hlt)
      have hfa := putT_at l j hlt HN.out
      have hal : ((l.take j).flatMap thB).length ≤ 148300000 := by
        have : (l.take j).length ≤ 100000 := by simp; omega
        omega
      obtain ⟨A, hA⟩ : ∃ A, (l.take j).flatMap thB = A := ⟨_, rfl⟩
      rw [hA] at hown hal
      obtain ⟨x, hx⟩ : ∃ x, l[j] = x := ⟨_, rfl⟩
      rw [hx] at c0 c1 hnext hfa hxl
      unfold maxLen at hxl
      have hsx := bs_size x.2
      have hA2 : (l.take (j + 1)).flatMap thB = A ++ x.1 :: (be 2 (x.2.length : Int) ++ x.2) := by
        rw [hnext, List.flatMap_append, hA]; simp [thB]
      obtain ⟨x0, hx0⟩ : ∃ x0, (x.1.toNat : Int) = x0 := ⟨_, rfl⟩
      rw [hx0] at c0
      have hx01 : 0 ≤ x0 ∧ x0 < 256 := by have := x.1.toNat_lt; omega
      have hx1 : UInt8.ofNat x0.toNat = x.1 := by apply UInt8.toNat_inj.1; simp; omega
      have HNX := Lib.hid hnext
      have HF := Lib.hid hfa
      have HA2 := Lib.hid hA2
      have HX1 := Lib.hid hx1
      have HX0 := Lib.hid hx0
      have HB := Lib.hid hb
      have HO := Lib.hid hown
      clear hcc hx HC hnext hfa hx0 hx1 hb hown hacc hA hA2
      by_cases h0 : x0 = 0
      · have d0 : (x0 == 0) = true := by simpa using h0
        have hok : okT x = 2 := by
          unfold okT; rw [if_pos (by rw [← HX1.out, h0]; rfl)]
        have hRR := HR.out.symm.trans (HF.out (by rw [hok]; decide))
        rw [hok] at hRR
        have HRR := Lib.hid hRR
        clear h0 hok hRR
        go_wp2
        refine bodyPost_ret (v := .tuple #[.string (bs []), .int .i64 2]) (by simp [results, Tryz.results86, go_sem]; rfl) rfl ⟨by rw [HRR.out], HB.out.alloc HB.out.size _⟩
      have d0 : (x0 == 0) = false := by simpa using h0
      have hne : x.1 ≠ 0 := fun h => h0 (by rw [← HX0.out, h]; rfl)
      by_cases h1 : 1480 < x.2.length
      · have d1 : decide ((1480 : Int) < (x.2.length : Int)) = true := decide_eq_true (by omega)
        have hok : okT x = 5 := by unfold okT; rw [if_neg hne, if_pos h1]
        have hRR := HR.out.symm.trans (HF.out (by rw [hok]; decide))
        rw [hok] at hRR
        have HRR := Lib.hid hRR
        clear h0 h1 hok hRR hne
        go_wp2
        refine bodyPost_ret (v := .tuple #[.string (bs []), .int .i64 5]) (by simp [results, Tryz.results86, go_sem]; rfl) rfl ⟨by rw [HRR.out], HB.out.alloc HB.out.size _⟩
      have d1 : decide ((1480 : Int) < (x.2.length : Int)) = false := decide_eq_false (by omega)
      have hok : okT x = 0 := by unfold okT; rw [if_neg hne, if_neg h1]
      have HOK := Lib.hid hok
      have hw16 : IntKind.u16.wrap (x.2.length : Int) = (x.2.length : Int) := IntWalk.u16_in _ (by omega)
      have hn16 : (0 : Int) ≤ (x.2.length : Int) ∧ (x.2.length : Int) < 65536 := by omega
      have HN16 := Lib.hid hn16
      obtain ⟨X2, hX2⟩ : ∃ X2, x.2 = X2 := ⟨_, rfl⟩
      have HX2 := Lib.hid hX2
      rw [hX2] at c1 hsx hw16 hxl d1 HN16
      have h1480 : X2.length ≤ 1480 := by rw [← hX2]; omega
      clear h0 h1 hok hne hX2 hn16
      go_upto_region 9 with fail
      have hNB : NB (.cells #[.int .u8 x0, .string (bs X2)] 182 (0, 0)) := fun cs fr h => by simp at h
      have HNB := Lib.hid hNB
      have HAL : Hid (A.length ≤ 148300000) := hal
      have HXL : Hid (X2.length ≤ 1480) := h1480
      clear hNB
      refine forget (fun W => W.heap[wr.heap.size]? = some (.cells #[.int .u8 x0, .string (bs X2)] 182 (0, 0)) ∧ Bys W w.heap.size u4 A ∧ Below w.heap.size w W ∧ wr.heap.size < W.heap.size)
        ⟨heap_alloc_new _ _, HO.out.alloc _, HB.out.alloc HB.out.size _, by simp⟩ ?_
      rintro W ⟨hq, hoW, hbW, hqW⟩
      obtain ⟨q, hqq⟩ : ∃ q, wr.heap.size = q := ⟨_, rfl⟩
      rw [hqq] at hq hqW ⊢
      have cq0 : W.cell? ⟨q, 0, none⟩ = some (.int .u8 x0) := by simp [World.cell?, hq]
      have cq1 : W.cell? ⟨q, 1, none⟩ = some (.string (bs X2)) := by simp [World.cell?, hq]
      have SRC : Src (W.alloc (.cells #[.int .u8 x0] 5)).drew (.slice (some ⟨W.heap.size, 0, none⟩) 1 1) [x.1] := by
        rw [← HX1.out]; exact (src_one W x0 hx01 5).later (Below.refl _ _).drew
      have OW : Bys (W.alloc (.cells #[.int .u8 x0] 5)).drew w.heap.size u4 A := (hoW.alloc _).later (Below.refl _ _).drew
      have QW : (W.alloc (.cells #[.int .u8 x0] 5)).drew.heap[q]? = some (.cells #[.int .u8 x0, .string (bs X2)] 182 (0, 0)) := (Below.heap_alloc W _ q hqW).trans hq
      have cw0 : (W.alloc (.cells #[.int .u8 x0] 5)).cell? ⟨q, 0, none⟩ = some (.int .u8 x0) := by simp only [World.cell?]; rw [Below.heap_alloc W _ q hqW, hq]; rfl
      have cw1 : (W.alloc (.cells #[.int .u8 x0] 5)).cell? ⟨q, 1, none⟩ = some (.string (bs X2)) := by simp only [World.cell?]; rw [Below.heap_alloc W _ q hqW, hq]; rfl
      have BW : Below w.heap.size w (W.alloc (.cells #[.int .u8 x0] 5)).drew := (hbW.alloc hbW.size _).drew
      have HSRC := Lib.hid SRC
      have HOW := Lib.hid OW
      have HQW := Lib.hid QW
      have HBW := Lib.hid BW
      clear SRC OW QW BW hq hoW hbW hqW hqq c0 c1 HO HB hal h1480
      have HP : Hid (∀ v1 w1, Bys w1 w.heap.size v1 (A ++ [x.1]) → w.heap.size ≤ w1.heap.size → Calls Tryz.prog 78 #[v1, .int .u16 (X2.length : Int)] w1 fun en w2 => ∃ v2, en = .returned v2 ∧ Bys w2 w.heap.size v2 ((A ++ [x.1]) ++ be 2 (X2.length : Int)) ∧ Below w.heap.size w1 w2 ∧ Kp w1 w2) :=
        fun v1 w1 h1 h2 => put_uint16K w.heap.size v1 (A ++ [x.1]) (X2.length : Int) w1 h2 h1 HN16.out.1 HN16.out.2 (by have := HAL.out; simp; omega)
      go_region_law (first
        | (refine step_append_srcK rfl _ _ rfl w.heap.size _ A (by rfl) (by exact HOW.out) _ [x.1] (by rfl) (by exact HSRC.out) (by have := HAL.out; simp; omega) (by exact HBW.out.size) ?_; intro v1 w1 hown1 hb1 hk1; have hq1 := hk1 q _ HQW.out HNB.out; have cx1 : w1.cell? ⟨q, 1, none⟩ = some (.string (bs X2)) := (by simp [World.cell?, hq1]); have hz1 := (HBW.out.trans hb1).size)
        | (go_simp; go_at_call 78; refine (HP.out _ _ hown1 hz1).mono ?_; rintro en w2 ⟨v2, rfl, hown2, hb2, hk2⟩; have hq2 := hk2 q _ hq1 HNB.out; have cx2 : w2.cell? ⟨q, 1, none⟩ = some (.string (bs X2)) := (by simp [World.cell?, hq2]); have hz2 := ((HBW.out.trans hb1).trans hb2).size)
        | (refine step_append_strK rfl _ _ rfl w.heap.size _ _ (by rfl) (by exact hown2) X2 (by rfl) (by have := HAL.out; have := HXL.out; simp [be2_len]; omega) (by exact hz2) ?_; intro v3 w3 hown3 hb3 hk3))
      all_goals
        have HB3 := Lib.hid (((HBW.out.trans hb1).trans hb2).trans hb3)
        have HO3 := Lib.hid hown3
        clear hown1 hown2 hown3 hb1 hb2 hb3 hk1 hk2 hk3 hq1 hq2 hz1 hz2
      all_goals go_wp2
      all_goals exact ⟨⟨j + 1, by omega, by go_num, fun y hy => by
          rw [HNX.out, List.mem_append] at hy
          rcases hy with hy | hy
          · exact HN.out y hy
          · simp at hy; subst hy; exact HOK.out, by rw [HA2.out, HX2.out]; simpa using HO3.out, HB3.out⟩, by simp [intOf]; omega⟩
    · have dk : decide ((j : Int) < (l.length : Int)) = false := decide_eq_false (by omega)
      have hall : l.take j = l := List.take_of_length_le (by omega)
      have hRR := HR.out.symm.trans (putT_all l (by have h := HN.out; rw [hall] at h; exact h))
      rw [hall] at hown hacc
      obtain ⟨A, hA⟩ : ∃ A, l.flatMap thB = A := ⟨_, rfl⟩
      rw [hA] at hown hacc hRR
      have hz := hb.size
      have HRR := Lib.hid hRR
      have HAC := Lib.hid hacc
      have HB := Lib.hid hb
      have HO := Lib.hid hown
      clear hown hall hA hRR hacc HN hb
      go_wp2_with (at_builtin; refine wpList_append_byte rfl (.tmp 36) (.tmp 37) rfl w.heap.size _ A wr 0 rfl rfl HO.out rfl (by omega) (by omega) ?_ ?_ ?_)
      · have := HAC.out; omega
      · exact hz
      · intro v1 w1 hown1 hb1
        have hstr := run_string_bys hown1
        have HB1 := Lib.hid (HB.out.trans hb1)
        clear hown1 hb1
        go_wp2
        refine bodyPost_ret (v := .tuple #[.string (bs (A ++ [0])), .int .i64 0]) (by simp [results, Tryz.results86, go_sem]) rfl ⟨by rw [HRR.out], HB1.out⟩
end Go.Proofs.YtlkdfofpnmpidaaGreat

/- tlv: the reference's Put, walked. -/
set_option linter.unusedVariables false
namespace Go.Proofs.YtlkdfofpnmpidaaGreat
open Go.RowKit

set_option maxRecDepth 100000 in
set_option maxHeartbeats 4000000 in
theorem refPut11_any (v : Value) (l : List Th) (w : World) (hv : Tls w v l) (hl : l.length ≤ 100000) (hs : ∀ x ∈ l, x.2.length ≤ maxLen) : Calls Tryz.prog 117 #[v] w fun en w' => en = .returned (.tuple #[.string (bs (putT l).1), .int .i64 (putT l).2]) ∧ Below w.heap.size w w' := by
  obtain ⟨a, c, rfl, hc⟩ := hv.shape
  have HC := Lib.hid hc
  have HS := Lib.hid hs
  clear hc hv hs
  obtain ⟨R, hR⟩ : ∃ R, putT l = R := ⟨_, rfl⟩
  have HR := Lib.hid hR
  rw [hR]; clear hR
  go_enter Tryz.func117, Tryz.ntmps117
  go_wp2_with fail
  go_loopw [4, 5] (fun s i wr => ∃ j : Nat, j ≤ l.length ∧ i = .int .i64 j ∧ (∀ x ∈ l.take j, okT x = 0) ∧ s = .string (bs ((l.take j).flatMap thB)) ∧ Below w.heap.size w wr) (fun _ i _ => l.length - (intOf i).toNat)
  case atStart => exact ⟨0, by omega, rfl, by simp, rfl, Below.refl _ _⟩
  case round =>
    obtain ⟨j, hj, rfl, hno, rfl, hb⟩ := hrel
    have hacc := thBs_len _ hno
    have HN := Lib.hid hno; clear hno
    by_cases hlt : j < l.length
    · have dk : decide ((j : Int) < (l.length : Int)) = true := decide_eq_true (by omega)
      obtain ⟨b, off, rfl, hcc⟩ := HC.out.resolve_left (by intro h; rw [h] at hlt; simp at hlt)
      have c0 := (hb.cell (World.block_lt_of_cell? w _ (hcc j hlt).1)).trans (hcc j hlt).1
      have c1 := (hb.cell (World.block_lt_of_cell? w _ (hcc j hlt).2)).trans (hcc j hlt).2
      have hnext : l.take (j + 1) = l.take j ++ [l[j]] := List.take_succ_eq_append_getElem hlt
      have hxl := HS.out l[j] (List.getElem_mem hlt)
      have hfa := putT_at l j hlt HN.out
      have hal : ((l.take j).flatMap thB).length ≤ 148300000 := by
        have : (l.take j).length ≤ 100000 := by simp; omega
        omega
      obtain ⟨A, hA⟩ : ∃ A, (l.take j).flatMap thB = A := ⟨_, rfl⟩
      rw [hA] at hal ⊢
      obtain ⟨x, hx⟩ : ∃ x, l[j] = x := ⟨_, rfl⟩
      rw [hx] at c0 c1 hnext hfa hxl
      unfold maxLen at hxl
      have hsx := bs_size x.2
      have hA2 : (l.take (j + 1)).flatMap thB = A ++ x.1 :: (be 2 (x.2.length : Int) ++ x.2) := by
        rw [hnext, List.flatMap_append, hA]; simp [thB]
      obtain ⟨x0, hx0⟩ : ∃ x0, (x.1.toNat : Int) = x0 := ⟨_, rfl⟩
      rw [hx0] at c0
      have hx01 : 0 ≤ x0 ∧ x0 < 256 := by have := x.1.toNat_lt; omega
      have hx1 : UInt8.ofNat x0.toNat = x.1 := by apply UInt8.toNat_inj.1; simp; omega
      have HNX := Lib.hid hnext
      have HF := Lib.hid hfa
      have HA2 := Lib.hid hA2
      have HX1 := Lib.hid hx1
      have HX0 := Lib.hid hx0
      have HB := Lib.hid hb
      clear hcc hx HC hnext hfa hx0 hx1 hb hacc hA hA2
      by_cases h0 : x0 = 0
      · have d0 : (x0 == 0) = true := by simpa using h0
        have hok : okT x = 2 := by
          unfold okT; rw [if_pos (by rw [← HX1.out, h0]; rfl)]
        have hRR := HR.out.symm.trans (HF.out (by rw [hok]; decide))
        rw [hok] at hRR
        have HRR := Lib.hid hRR
        clear h0 hok hRR
        go_wp2
        refine bodyPost_ret (v := .tuple #[.string (bs []), .int .i64 2]) (by simp [results, Tryz.results117, go_sem]; rfl) rfl ⟨by rw [HRR.out], HB.out⟩
      have d0 : (x0 == 0) = false := by simpa using h0
      have hne : x.1 ≠ 0 := fun h => h0 (by rw [← HX0.out, h]; rfl)
      by_cases h1 : 1480 < x.2.length
      · have d1 : decide ((1480 : Int) < (x.2.length : Int)) = true := decide_eq_true (by omega)
        have hok : okT x = 5 := by unfold okT; rw [if_neg hne, if_pos h1]
        have hRR := HR.out.symm.trans (HF.out (by rw [hok]; decide))
        rw [hok] at hRR
        have HRR := Lib.hid hRR
        clear h0 h1 hok hRR hne
        go_wp2
        refine bodyPost_ret (v := .tuple #[.string (bs []), .int .i64 5]) (by simp [results, Tryz.results117, go_sem]; rfl) rfl ⟨by rw [HRR.out], HB.out⟩
      have d1 : decide ((1480 : Int) < (x.2.length : Int)) = false := decide_eq_false (by omega)
      have hok : okT x = 0 := by unfold okT; rw [if_neg hne, if_neg h1]
      have HOK := Lib.hid hok
      obtain ⟨X2, hX2⟩ : ∃ X2, x.2 = X2 := ⟨_, rfl⟩
      have HX2 := Lib.hid hX2
      rw [hX2] at c1 hsx hxl d1
      have h1480 : X2.length ≤ 1480 := by rw [← hX2]; omega
      have l0 := Later.cell c0
      have l1 := Later.cell c1
      have wx : IntKind.u64.wrap x0 = x0 := IntWalk.u64_in _ (by omega)
      have wy : IntKind.u64.wrap (X2.length : Int) = (X2.length : Int) := IntWalk.u64_in _ (by omega)
      have hbe1 : be 1 x0 = [x.1] := by rw [← HX1.out]; simp [be, beB, List.range_succ, show x0 % 256 = x0 by omega]
      have P1 : Hid (∀ w, Calls Tryz.prog 84 #[.int .u64 x0, .int .i64 1] w fun en w' => en = .returned (.string (bs [x.1])) ∧ Below w.heap.size w w') := by
        rw [← hbe1]; exact fun w => num_be 1 x0 w hx01.1 (by omega) (by omega)
      have P2 : Hid (∀ w, Calls Tryz.prog 84 #[.int .u64 (X2.length : Int), .int .i64 2] w fun en w' => en = .returned (.string (bs (be 2 (X2.length : Int)))) ∧ Below w.heap.size w w') := fun w => num_be 2 (X2.length : Int) w (by omega) (by omega) (by omega)
      have a1 := run_add_bs A [x.1] (by simp; omega)
      have a2 := run_add_bs (A ++ [x.1]) (be 2 (X2.length : Int)) (by simp [be2_len]; omega)
      have a3 := run_add_bs (A ++ [x.1] ++ be 2 (X2.length : Int)) X2 (by simp [be2_len]; omega)
      simp only [List.append_assoc, List.cons_append, List.nil_append] at a2 a3
      clear h0 h1 hok hne hX2 hbe1
      go_wp2_with fail
      refine wp_region_later (by kernel_rfl) (by kernel_rfl) ?_
      repeat (go_big_quiet_step (first | (go_at_call 84; first | (with_reducible exact Calls.later (P1.out _)) | (with_reducible exact Calls.later (P2.out _)))))
      refine wpQuiet_nil ?_
      rintro _ ⟨K, rfl⟩
      go_wp2
      exact ⟨⟨j + 1, by omega, by go_num, fun y hy => by
          rw [HNX.out, List.mem_append] at hy
          rcases hy with hy | hy
          · exact HN.out y hy
          · simp at hy; subst hy; exact HOK.out, by rw [HA2.out, HX2.out], Later.bel HB.out K⟩, by simp [intOf]; omega⟩
    · have dk : decide ((j : Int) < (l.length : Int)) = false := decide_eq_false (by omega)
      have hall : l.take j = l := List.take_of_length_le (by omega)
      have hRR := HR.out.symm.trans (putT_all l (by have h := HN.out; rw [hall] at h; exact h))
      rw [hall] at hacc ⊢
      obtain ⟨A, hA⟩ : ∃ A, l.flatMap thB = A := ⟨_, rfl⟩
      rw [hA] at hacc hRR ⊢
      have a4 : ∀ W : World, (Op.stringOp .add (bs A) ({ data := #[0] } : ByteArray)).run Tryz.prog W = .ok (.string (bs (A ++ [0]))) W := run_add_bs A [0] (by simp; omega)
      have HRR := Lib.hid hRR
      have HB := Lib.hid hb
      clear hall hA hRR hacc HN hb
      go_wp2
      refine bodyPost_ret (v := .tuple #[.string (bs (A ++ [0])), .int .i64 0]) (by simp [results, Tryz.results117, go_sem]) rfl ⟨by rw [HRR.out], HB.out⟩
end Go.Proofs.YtlkdfofpnmpidaaGreat
