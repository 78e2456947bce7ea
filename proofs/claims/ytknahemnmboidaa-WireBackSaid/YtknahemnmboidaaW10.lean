/- wire: the walk of WireBack. -/
import Derived.Test.YtknahemnmboidaaW10a
import Derived.Deep.LoopGhost
import Derived.Deep.DeepCutAuto
set_option linter.unusedVariables false
namespace Go.Proofs.Ytknahemnmboidaa
open Go.RowKit

set_option maxRecDepth 100000 in
set_option maxHeartbeats 4000000 in
theorem WireBack_walk (v : Value) (ps : List (Int × Int)) (w : World) (hA : Pairs .u8 .u64 w v ps) :
    Calls Try.prog 10 #[v] w fun e w' => e = .returned (.bool true) ∧ Below w.heap.size w w' := by
  obtain ⟨a, len, cap, rfl, hlen, hmax, hwf, hP⟩ := hA
  unfold maxLen at hmax
  by_cases h0 : len = 0
  · subst h0
    clear hP hwf hlen
    go_enter Try.func10, Try.ntmps10
    go_wp2_with (go_at_call 28; refine (wakesW_any _).mono ?_; rintro en w' ⟨rfl, hb⟩)
    go_ret
    exact ⟨rfl, hb⟩
  have h0' : ((len : Int) == 0) = false := by simp; omega
  by_cases h1 : 100 < len
  · clear hP hwf hlen
    go_enter Try.func10, Try.ntmps10
    go_wp2_with (go_at_call 28; refine (wakesW_any _).mono ?_; rintro en w' ⟨rfl, hb⟩)
    go_ret
    exact ⟨rfl, hb⟩
  obtain ⟨b, off, rfl, hc⟩ := hP.resolve_left (by intro h; rw [h] at hlen; simp at hlen; omega)
  have hpos : 0 < len := by omega
  have HL := Lib.hid hlen
  have HC := Lib.hid hc
  have HW := Lib.hid hwf
  have hbw := World.block_lt_of_cell? w _ (hc 0 (by omega)).1
  clear hlen hc hwf hP h0
  go_enter Try.func10, Try.ntmps10
  go_wp2_with fail
  go_loopw [3, 4] (fun v i wr => ∃ k : Nat, k ≤ len ∧ i = .int .i64 k ∧ Bys wr w.heap.size v (cat (ps.take k)) ∧ Below w.heap.size w wr) (fun _ i _ => len - (intOf i).toNat)
  case atStart => exact ⟨0, by omega, rfl, Bys.none _ _, Below.refl _ _⟩
  case round =>
    obtain ⟨k, hk, rfl, hown, hb⟩ := hrel
    by_cases hlt : k < len
    · have hkl : k < ps.length := by have := HL.out; omega
      have c0 := (hb.cell (p := ⟨b, off + k * 2, none⟩) hbw).trans (HC.out k hkl).1
      have c1 := (hb.cell (p := ⟨b, off + k * 2 + 1, none⟩) hbw).trans (HC.out k hkl).2
      have hw := HW.out _ (List.getElem_mem hkl)
      have hlc : (cat (ps.take k)).length ≤ 8 * k := by have := (cat_len (ps.take k)).2; simp at this; omega
      have hsn := cat_snoc ps k hkl
      generalize ps[k].1 = d at *
      generalize ps[k].2 = N at *
      obtain ⟨n0, n1⟩ := bounds_u64 hw.2
      have HS := Lib.hid hsn
      have HO := Lib.hid hown
      have HB := Lib.hid hb
      clear hsn hown hb hw hkl
      go_wp2_with fail
      refine (lput_any w.heap.size _ _ d N _ HB.out.size HO.out n0 (by omega) (by omega)).mono ?_
      rintro en w1 ⟨v1, rfl, ho1, hb1⟩
      rw [HS.out] at ho1
      have HO1 := Lib.hid ho1
      have HB1 := Lib.hid (HB.out.trans hb1)
      clear ho1 hb1
      go_wp2_with fail
      go_roundw
      case rel => exact ⟨k + 1, by omega, by go_num, HO1.out, HB1.out⟩
      case measure => simp [intOf]; omega
    · obtain rfl : len = k := by omega
      have hpl : ps.take len = ps := List.take_of_length_le (by have := HL.out; omega)
      rw [hpl] at hown
      clear hpl
      have hcl := cat_len ps
      have hLL := HL.out
      obtain ⟨g, cp, rfl, hg1, hg2, hcp, hcm⟩ := hown.shape.resolve_left (by rintro ⟨_, h⟩; have hz : (cat ps).length = 0 := (by rw [h]; rfl); omega)
      unfold maxLen at hcm
      generalize hcat : cat ps = C at *
      have HCat := Lib.hid hcat
      clear hcat hLL
      obtain ⟨hC1, hC2⟩ := hcl
      have hCne : ((C.length : Int) == 0) = false := by rw [beq_eq_false_iff_ne]; have := HL.out; omega
      have hsrc := hown.src
      have hsrc2 : Src wr (.slice (some ⟨g, 0, none⟩) (C.length - 1) cp) C.dropLast := by
        refine .inr ⟨_, cp, by rw [List.length_dropLast], fun j hj => ?_⟩
        have hj' : j < C.length := by rw [List.length_dropLast] at hj; omega
        have h2 : (⟨g, 0, none⟩ : Addr).add j = ⟨g, j, none⟩ := by cases j <;> simp [Addr.add]
        rw [h2, hown.cell j hj', List.getElem_dropLast]
      have HB := Lib.hid hb
      have HS1 := Lib.hid hsrc
      have HS2 := Lib.hid hsrc2
      clear hb hsrc hsrc2 hown
      have str1 : ∀ W, Below wr.heap.size wr W → (convert 41 9 (.slice (some ⟨g, 0, none⟩) C.length cp)).run Try.prog W = .ok (.string (bs C)) W := fun W h => run_string_src (HS1.out.later h)
      have str2 : ∀ W, Below wr.heap.size wr W → (convert 41 9 (.slice (some ⟨g, 0, none⟩) (C.length - 1) cp)).run Try.prog W = .ok (.string (bs C.dropLast)) W := fun W h => run_string_src (HS2.out.later h)
      have hlen1 : 1 ≤ C.length := by have := HL.out; omega
      have hsl := bs_size C
      have STR1 := Lib.hid str1
      have STR2 := Lib.hid str2
      have sA := str1 wr.drew (Below.refl _ _).drew
      have sB := str2 wr.drew (Below.refl _ _).drew
      clear str1 str2
      have hC8 : C.length ≤ 800 := by have := HL.out; omega
      have q1 : IntKind.i64.wrap ((C.length : Int) - 1) = (C.length : Int) - 1 := IntWalk.i64_in _ (by omega)
      have q2 : (0 : Int) ≤ (C.length : Int) - 1 := by omega
      have q3 : (C.length : Int) - 1 ≤ (cp : Int) := by omega
      have q4 : ((C.length : Int) - 1).toNat = C.length - 1 := by omega
      clear hlen1
      go_upto_region 10 with fail
      go_cut [5, 6] (fun s5 s6 wc => ∃ p1 p2 : Nat, s5 = .pointer (some ⟨p1, 0, none⟩) ∧ s6 = .pointer (some ⟨p2, 0, none⟩) ∧ Rd wc p1 C 0 ∧ Rd wc p2 C.dropLast 0 ∧ p1 < p2 ∧ w.heap.size ≤ p1 ∧ Below w.heap.size w wc)
      case first =>
        go_region_with (first
          | (go_at_call_of 40 (Value.string (bs C)); refine (of_any C _).mono ?_; rintro en w1 ⟨rfl, hr1, hb1, hz1⟩; have sB1 := STR2.out w1 ((Below.refl wr.heap.size wr).drew.trans hb1))
          | (go_at_call_of 40 (Value.string (bs C.dropLast)); refine (of_any C.dropLast _).mono ?_; rintro en w2 ⟨rfl, hr2, hb2, hz2⟩))
        all_goals go_wp2_with fail
        all_goals go_meet
        all_goals
          have hw1 : Below wr.heap.size wr w1 := (Below.refl wr.heap.size wr).drew.trans hb1
          exact ⟨_, _, rfl, rfl, hr1.later hb2, hr2, hz1, HB.out.size, HB.out.trans ((hw1.trans (hb2.mono hw1.size)).mono HB.out.size)⟩
      case rest =>
        clear sA sB STR1 STR2 HS1 HS2 HB hsl q1 q2 q3 q4
        obtain ⟨p1, p2, rfl, rfl, hr1, hr2, hpp, hp1, hB⟩ := hcut
        go_wp2_with fail
        have HB := Lib.hid hB
        have HR1 := Lib.hid hr1
        have HR2 := Lib.hid hr2
        clear hB hr1 hr2
        go_loopg [7] len (fun g i wx => ∃ k : Nat, k ≤ len ∧ g = len - k ∧ i = .int .i64 k ∧ Rd wx p1 (cat (ps.drop k)) 0 ∧ Rd wx p2 (shortAt ps k).1 (shortAt ps k).2 ∧ Below w.heap.size w wx)
        case atStart =>
          refine ⟨0, by omega, by omega, rfl, ?_, ?_, HB.out⟩
          · rw [List.drop_zero, HCat.out]; exact HR1.out
          · have e : shortAt ps 0 = (C.dropLast, 0) := by unfold shortAt; rw [if_pos (by have := HL.out; omega), List.drop_zero, HCat.out]
            rw [e]; exact HR2.out
        case round =>
          clear HB HR1 HR2
          obtain ⟨k, hk, rfl, rfl, hr1, hr2, hB⟩ := hrel
          by_cases hlt : k < len
          · have hkl : k < ps.length := by have := HL.out; omega
            have c0 := (hB.cell (p := ⟨b, off + k * 2, none⟩) hbw).trans (HC.out k hkl).1
            have hw := HW.out _ (List.getElem_mem hkl)
            have hdl := (cat_len (ps.drop k)).2
            rw [List.length_drop] at hdl
            have hdl2 : (cat (ps.drop k)).length ≤ 800 := by have := HL.out; omega
            have hsl : (shortAt ps k).1.length ≤ 800 := by have := shortAt_len ps k; have := HL.out; omega
            have hT1 := rdText_app _ (cat (ps.drop (k + 1))) _ (be_length (wid ps[k].1) ps[k].2) (wid_le ps[k].1).1
            rw [← cat_drop ps k hkl] at hT1
            by_cases hlast : k + 1 < len
            · have hT2 := short_more ps k (by have := HL.out; omega)
              have C0 := Lib.hid (HC.out k hkl).1
              have C1 := Lib.hid (HC.out k hkl).2
              generalize ps[k].1 = d at *
              generalize ps[k].2 = N at *
              obtain ⟨n0, n1⟩ := bounds_u64 hw.2
              have T1 := Lib.hid hT1
              have T2 := Lib.hid hT2
              have HR1 := Lib.hid hr1
              have HR2 := Lib.hid hr2
              have HB := Lib.hid hB
              have hnum := numOf_be (wid d) N
              have hand := and_most d N n0 (by omega)
              have HN := Lib.hid hnum
              clear hT1 hT2 hr1 hr2 hB hw hkl hdl hnum
              go_wp2_with fail
              refine (lread_any p1 _ 0 d _ HR1.out (by omega)).mono ?_
              rw [T1.out]
              rintro en w1 ⟨rfl, hr1, ho1⟩
              have c0b := ((HB.out.trans (ho1.below hp1 HB.out.size)).cell (p := ⟨b, off + k * 2, none⟩) hbw).trans ((HB.out.cell (p := ⟨b, off + k * 2, none⟩) hbw).symm.trans c0)
              have HA1 := Lib.hid (HB.out.trans (ho1.below hp1 HB.out.size))
              have HR2' := Lib.hid (ho1.rd (show p2 ≠ p1 by omega) HR2.out)
              have HR1' := Lib.hid hr1
              clear hr1 ho1 HB HR2 HR1 c0
              go_wp2_with fail
              refine (lread_any p2 _ _ d _ HR2'.out (by omega)).mono ?_
              rw [T2.out]
              rintro en w2 ⟨rfl, hr2, ho2⟩
              have HA2 := Lib.hid (HA1.out.trans (ho2.below (by omega) HA1.out.size))
              have HR1b := Lib.hid (ho2.rd (show p1 ≠ p2 by omega) HR1'.out)
              have HR2b := Lib.hid hr2
              clear hr2 ho2 HR1' HR2' HA1
              clear c0b
              have l0 := Later.cell ((HA2.out.cell (p := ⟨b, off + k * 2, none⟩) hbw).trans C0.out)
              have l1 := Later.cell ((HA2.out.cell (p := ⟨b, off + k * 2 + 1, none⟩) hbw).trans C1.out)
              have hne : (numOf (be (wid d) N) != modV d N) = false := by rw [HN.out]; simp [modV]
              have hw1 : IntKind.i64.wrap ((len : Int) - 1) = (len : Int) - 1 := IntWalk.i64_in _ (by omega)
              have hlt3 : decide ((k : Int) < (len : Int) - 1) = true := by simp; omega
              clear HN
              go_wp2_with fail
              refine wp_region_later (by kernel_rfl) (by kernel_rfl) ?_
              repeat (go_big_quiet_step (first | (go_at_call 45; exact Calls.later_same (most_any d _))))
              refine wpQuiet_nil ?_
              rintro _ ⟨K, rfl⟩
              have HK1 := Lib.hid (HR1b.out.later K.h)
              have HK2 := Lib.hid (HR2b.out.later K.h)
              have HK3 := Lib.hid (Later.bel HA2.out K)
              clear HR1b HR2b HA2 l0 l1 hand hne hw1 hlt3
              go_wp2_with fail
              go_roundg (len - (k + 1))
              case measure => omega
              case rel => exact ⟨k + 1, by omega, rfl, by go_num, HK1.out, HK2.out, HK3.out⟩
            · have hT2 := short_last ps k (by have := HL.out; omega)
              have C0 := Lib.hid (HC.out k hkl).1
              have C1 := Lib.hid (HC.out k hkl).2
              generalize ps[k].1 = d at *
              generalize ps[k].2 = N at *
              obtain ⟨n0, n1⟩ := bounds_u64 hw.2
              have T1 := Lib.hid hT1
              have T2 := Lib.hid hT2
              have HR1 := Lib.hid hr1
              have HR2 := Lib.hid hr2
              have HB := Lib.hid hB
              have hnum := numOf_be (wid d) N
              have hand := and_most d N n0 (by omega)
              have HN := Lib.hid hnum
              clear hT1 hT2 hr1 hr2 hB hw hkl hdl hnum
              go_wp2_with fail
              refine (lread_any p1 _ 0 d _ HR1.out (by omega)).mono ?_
              rw [T1.out]
              rintro en w1 ⟨rfl, hr1, ho1⟩
              have c0b := ((HB.out.trans (ho1.below hp1 HB.out.size)).cell (p := ⟨b, off + k * 2, none⟩) hbw).trans ((HB.out.cell (p := ⟨b, off + k * 2, none⟩) hbw).symm.trans c0)
              have HA1 := Lib.hid (HB.out.trans (ho1.below hp1 HB.out.size))
              have HR2' := Lib.hid (ho1.rd (show p2 ≠ p1 by omega) HR2.out)
              have HR1' := Lib.hid hr1
              clear hr1 ho1 HB HR2 HR1 c0
              go_wp2_with fail
              refine (lread_any p2 _ _ d _ HR2'.out (by omega)).mono ?_
              rw [T2.out]
              rintro en w2 ⟨rfl, hr2, ho2⟩
              have HA2 := Lib.hid (HA1.out.trans (ho2.below (by omega) HA1.out.size))
              have HR1b := Lib.hid (ho2.rd (show p1 ≠ p2 by omega) HR1'.out)
              have HR2b := Lib.hid hr2
              clear hr2 ho2 HR1' HR2' HA1
              clear c0b
              have l0 := Later.cell ((HA2.out.cell (p := ⟨b, off + k * 2, none⟩) hbw).trans C0.out)
              have l1 := Later.cell ((HA2.out.cell (p := ⟨b, off + k * 2 + 1, none⟩) hbw).trans C1.out)
              have hne : (numOf (be (wid d) N) != modV d N) = false := by rw [HN.out]; simp [modV]
              have hw1 : IntKind.i64.wrap ((len : Int) - 1) = (len : Int) - 1 := IntWalk.i64_in _ (by omega)
              have hlt3 : decide ((k : Int) < (len : Int) - 1) = false := by simp; omega
              clear HN
              go_wp2_with fail
              refine wp_region_later (by kernel_rfl) (by kernel_rfl) ?_
              repeat (go_big_quiet_step (first | (go_at_call 45; exact Calls.later_same (most_any d _))))
              refine wpQuiet_nil ?_
              rintro _ ⟨K, rfl⟩
              have HK1 := Lib.hid (HR1b.out.later K.h)
              have HK2 := Lib.hid (HR2b.out.later K.h)
              have HK3 := Lib.hid (Later.bel HA2.out K)
              clear HR1b HR2b HA2 l0 l1 hand hne hw1 hlt3
              go_wp2_with fail
              go_roundg (len - (k + 1))
              case measure => omega
              case rel => exact ⟨k + 1, by omega, rfl, by go_num, HK1.out, HK2.out, HK3.out⟩
          · obtain rfl : len = k := by omega
            have hd : cat (ps.drop len) = [] := by rw [List.drop_of_length_le (by have := HL.out; omega)]; rfl
            have hs : shortAt ps len = ([], 3) := by unfold shortAt; rw [if_neg (by have := HL.out; omega)]
            rw [hd] at hr1
            rw [hs] at hr2
            have HR1 := Lib.hid hr1
            have HR2 := Lib.hid hr2
            have HB := Lib.hid hB
            clear hr1 hr2 hB hd hs
            have he : rdEnd [] 0 = ([], 0) := by decide
            go_wp2_with fail
            refine (end_any p1 [] 0 _ HR1.out (by simp)).mono ?_
            rw [he]
            rintro en w3 ⟨rfl, hr, ho⟩
            have HB3 := Lib.hid (HB.out.trans (ho.below hp1 HB.out.size))
            have HR3 := Lib.hid (ho.rd (show p2 ≠ p1 by omega) HR2.out)
            clear hr ho HB HR2 HR1 he
            go_wp2_with fail
            refine (err_any p2 [] 3 _ HR3.out).mono ?_
            rintro en w4 ⟨rfl, rfl⟩
            go_wp2_with (go_at_call 28; refine (wakesW_any _).mono ?_; rintro en w' ⟨rfl, hb⟩)
            go_ret
            exact ⟨rfl, HB3.out.trans (hb.mono HB3.out.size)⟩
end Go.Proofs.Ytknahemnmboidaa
