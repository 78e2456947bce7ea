/- wire: the walk of WirePuts. -/
import Derived.Test.YtknahemnmboidaaW5
import Derived.Test.YtknahemnmboidaaK2
import Derived.Deep.DeepCutAuto
set_option linter.unusedVariables false
namespace Go.Proofs.Ytknahemnmboidaa
open Go.RowKit

theorem num_be (k : Nat) (n : Int) (w : World) (h0 : 0 ≤ n) (h1 : n < 18446744073709551616) (hk : k ≤ 8) :
    Calls Try.prog 30 #[.int .u64 n, .int .i64 k] w fun e w' => e = .returned (.string (bs (be k n))) ∧ Below w.heap.size w w' := by
  rw [← numR_be]; exact num_any k n w h0 h1 hk
theorem wrap_u8 (n : Int) (h0 : 0 ≤ n) : IntKind.u8.wrap n = n % 256 := by
  rw [← IntWalk.u8_in (n % 256) (by omega)]
  simp [IntKind.wrap, IntKind.signed, IntKind.bits]
theorem wrap_u16 (n : Int) (h0 : 0 ≤ n) : IntKind.u16.wrap n = n % 65536 := by
  rw [← IntWalk.u16_in (n % 65536) (by omega)]
  simp [IntKind.wrap, IntKind.signed, IntKind.bits]
theorem wrap_u32 (n : Int) (h0 : 0 ≤ n) : IntKind.u32.wrap n = n % 4294967296 := by
  rw [← IntWalk.u32_in (n % 4294967296) (by omega)]
  simp [IntKind.wrap, IntKind.signed, IntKind.bits]
set_option maxRecDepth 100000 in
set_option maxHeartbeats 4000000 in
theorem WirePuts_walk (a : Option Addr) (len cap : Nat) (l : List UInt8) (n : Int) (w : World) (hA : Src w (.slice a len cap) l ∧ len = l.length ∧ len ≤ maxLen) (hn : (Lit.int .u64 n).wf = true) :
    Calls Try.prog 6 #[.slice a len cap, .int .u64 n] w fun e w' => e = .returned (.bool true) ∧ Below w.heap.size w w' := by
  obtain ⟨hS, hlen, hmax⟩ := hA
  obtain ⟨n0, n1⟩ := bounds_u64 hn
  unfold maxLen at hmax
  clear hn
  have HL := Lib.hid hlen
  clear hlen
  by_cases h1000 : 1000 < len
  · go_enter Try.func6, Try.ntmps6
    go_wp2_with (go_at_call 28; refine (wakesW_any _).mono ?_; rintro en w' ⟨rfl, hb⟩)
    go_ret
    exact ⟨rfl, hb⟩
  have hstr := run_string_src hS
  have HS := Lib.hid hS
  clear hS
  have HB : Hid (Below w.heap.size w w) := Below.refl _ _
  go_enter Try.func6, Try.ntmps6
  go_upto_region 4 with fail
  obtain ⟨wr, hwr, HS, HB⟩ : ∃ wr, wr = w ∧ Hid (Src wr (.slice a len cap) l) ∧ Hid (Below w.heap.size w wr) := ⟨w, rfl, HS, HB⟩
  rw [← hwr]
  clear hstr hwr
  go_upto_region 4 with fail
  go_cut [6] (fun s wx => s = .bool true ∧ Hid (Src wx (.slice a len cap) l) ∧ Hid (Below w.heap.size w wx))
  case first =>
    have e1 : IntKind.u8.wrap n = n % 256 := wrap_u8 n n0
    have e2 : n.tmod 256 = n % 256 := Int.tmod_eq_emod_of_nonneg n0
    have hadd := run_add_bs l (be 1 (n % 256)) (by have := HL.out; simp [be_length]; omega)
    have hx : 0 ≤ (n % 256) ∧ (n % 256) < 256 := by omega
    have HX := Lib.hid hx
    clear hx
    go_region_law (first
      | (refine step_append_src rfl _ _ rfl wr.heap.size _ [] (by rfl) (Bys.none _ _) _ l (by rfl) HS.out (by have := HL.out; simp; omega) (Nat.le_refl _) ?_; intro v1 w1 hown1 hb1)
      | (go_simp; go_at_call 29; refine (put_uint8 wr.heap.size _ _ (n % 256) _ (hb1.size) hown1 HX.out.1 HX.out.2 (by have := HL.out; simp; omega)).mono ?_; rintro en w2 ⟨v2, rfl, hown2, hb2⟩; have hstr2 := run_string_bys hown2)
      | (go_simp; go_at_call 30; refine (num_be 1 (n % 256) _ HX.out.1 (by have := HX.out; omega) (by omega)).mono ?_; rintro en w3 ⟨rfl, hb3⟩; have hstr3 := run_string_bys (hown2.later hb3)))
    all_goals go_wp2_with fail
    all_goals go_meet
    all_goals
      have hw3 : Below wr.heap.size wr w3 := (((Below.refl wr.heap.size wr).drew.trans hb1).trans hb2).trans (hb3.mono (((Below.refl wr.heap.size wr).drew.trans hb1).trans hb2).size)
      exact ⟨rfl, HS.out.later hw3, HB.out.trans (hw3.mono HB.out.size)⟩
  clear HS HB
  obtain ⟨rfl, HS, HB⟩ := hcut
  go_upto_region 5 with fail
  go_cut [7] (fun s wx => s = .bool true ∧ Hid (Src wx (.slice a len cap) l) ∧ Hid (Below w.heap.size w wx))
  case first =>
    have e1 : IntKind.u16.wrap n = n % 65536 := wrap_u16 n n0
    have e2 : n.tmod 65536 = n % 65536 := Int.tmod_eq_emod_of_nonneg n0
    have hadd := run_add_bs l (be 2 (n % 65536)) (by have := HL.out; simp [be_length]; omega)
    have hx : 0 ≤ (n % 65536) ∧ (n % 65536) < 65536 := by omega
    have HX := Lib.hid hx
    clear hx
    go_region_law (first
      | (refine step_append_src rfl _ _ rfl wc.heap.size _ [] (by rfl) (Bys.none _ _) _ l (by rfl) HS.out (by have := HL.out; simp; omega) (Nat.le_refl _) ?_; intro v1 w1 hown1 hb1)
      | (go_simp; go_at_call 31; refine (put_uint16 wc.heap.size _ _ (n % 65536) _ (hb1.size) hown1 HX.out.1 HX.out.2 (by have := HL.out; simp; omega)).mono ?_; rintro en w2 ⟨v2, rfl, hown2, hb2⟩; have hstr2 := run_string_bys hown2)
      | (go_simp; go_at_call 30; refine (num_be 2 (n % 65536) _ HX.out.1 (by have := HX.out; omega) (by omega)).mono ?_; rintro en w3 ⟨rfl, hb3⟩; have hstr3 := run_string_bys (hown2.later hb3)))
    all_goals go_wp2_with fail
    all_goals go_meet
    all_goals
      have hw3 : Below wc.heap.size wc w3 := (((Below.refl wc.heap.size wc).drew.trans hb1).trans hb2).trans (hb3.mono (((Below.refl wc.heap.size wc).drew.trans hb1).trans hb2).size)
      exact ⟨rfl, HS.out.later hw3, HB.out.trans (hw3.mono HB.out.size)⟩
  clear HS HB
  obtain ⟨rfl, HS, HB⟩ := hcut
  go_upto_region 6 with fail
  go_cut [8] (fun s wx => s = .bool true ∧ Hid (Src wx (.slice a len cap) l) ∧ Hid (Below w.heap.size w wx))
  case first =>
    have e1 : IntKind.u32.wrap n = n % 4294967296 := wrap_u32 n n0
    have e2 : n.tmod 4294967296 = n % 4294967296 := Int.tmod_eq_emod_of_nonneg n0
    have hadd := run_add_bs l (be 4 (n % 4294967296)) (by have := HL.out; simp [be_length]; omega)
    have hx : 0 ≤ (n % 4294967296) ∧ (n % 4294967296) < 4294967296 := by omega
    have HX := Lib.hid hx
    clear hx
    go_region_law (first
      | (refine step_append_src rfl _ _ rfl wc.heap.size _ [] (by rfl) (Bys.none _ _) _ l (by rfl) HS.out (by have := HL.out; simp; omega) (Nat.le_refl _) ?_; intro v1 w1 hown1 hb1)
      | (go_simp; go_at_call 32; refine (put_uint32 wc.heap.size _ _ (n % 4294967296) _ (hb1.size) hown1 HX.out.1 HX.out.2 (by have := HL.out; simp; omega)).mono ?_; rintro en w2 ⟨v2, rfl, hown2, hb2⟩; have hstr2 := run_string_bys hown2)
      | (go_simp; go_at_call 30; refine (num_be 4 (n % 4294967296) _ HX.out.1 (by have := HX.out; omega) (by omega)).mono ?_; rintro en w3 ⟨rfl, hb3⟩; have hstr3 := run_string_bys (hown2.later hb3)))
    all_goals go_wp2_with fail
    all_goals go_meet
    all_goals
      have hw3 : Below wc.heap.size wc w3 := (((Below.refl wc.heap.size wc).drew.trans hb1).trans hb2).trans (hb3.mono (((Below.refl wc.heap.size wc).drew.trans hb1).trans hb2).size)
      exact ⟨rfl, HS.out.later hw3, HB.out.trans (hw3.mono HB.out.size)⟩
  clear HS HB
  obtain ⟨rfl, HS, HB⟩ := hcut
  go_upto_region 7 with fail
  go_cut [9] (fun s wx => s = .bool true ∧ Hid (Src wx (.slice a len cap) l) ∧ Hid (Below w.heap.size w wx))
  case first =>
    have e1 : True := trivial
    have e2 : n.tmod 18446744073709551616 = n % 18446744073709551616 := Int.tmod_eq_emod_of_nonneg n0
    have hadd := run_add_bs l (be 8 n) (by have := HL.out; simp [be_length]; omega)
    have hx : 0 ≤ n ∧ n < 18446744073709551616 := by omega
    have HX := Lib.hid hx
    clear hx
    go_region_law (first
      | (refine step_append_src rfl _ _ rfl wc.heap.size _ [] (by rfl) (Bys.none _ _) _ l (by rfl) HS.out (by have := HL.out; simp; omega) (Nat.le_refl _) ?_; intro v1 w1 hown1 hb1)
      | (go_simp; go_at_call 33; refine (put_uint64 wc.heap.size _ _ n _ (hb1.size) hown1 HX.out.1 HX.out.2 (by have := HL.out; simp; omega)).mono ?_; rintro en w2 ⟨v2, rfl, hown2, hb2⟩; have hstr2 := run_string_bys hown2)
      | (go_simp; go_at_call 30; refine (num_be 8 n _ HX.out.1 (by have := HX.out; omega) (by omega)).mono ?_; rintro en w3 ⟨rfl, hb3⟩; have hstr3 := run_string_bys (hown2.later hb3)))
    all_goals go_wp2_with fail
    all_goals go_meet
    all_goals
      have hw3 : Below wc.heap.size wc w3 := (((Below.refl wc.heap.size wc).drew.trans hb1).trans hb2).trans (hb3.mono (((Below.refl wc.heap.size wc).drew.trans hb1).trans hb2).size)
      exact ⟨rfl, HS.out.later hw3, HB.out.trans (hw3.mono HB.out.size)⟩
  clear HS HB
  obtain ⟨rfl, HS, HB⟩ := hcut
  go_wp2_with (go_at_call 28; refine (wakesW_any _).mono ?_; rintro en w' ⟨rfl, hb⟩)
  go_ret
  exact ⟨rfl, HB.out.trans (hb.mono HB.out.size)⟩
end Go.Proofs.Ytknahemnmboidaa
