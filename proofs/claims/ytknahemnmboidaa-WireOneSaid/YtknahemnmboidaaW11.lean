/- wire: the walk of WireOne. -/
import Derived.Test.YtknahemnmboidaaW9
import Derived.Deep.LoopGhost
import Derived.Deep.CutBlock
import Derived.Deep.DeepCutAuto
set_option linter.unusedVariables false
namespace Go.Proofs.Ytknahemnmboidaa
open Go.RowKit

/-- What is read of a width: the bytes ahead, or the end. -/
theorem rdText_cases (l : List UInt8) (k : Nat) (hk : 1 ≤ k) : (∃ a r, l = a ++ r ∧ a.length = k ∧ rdText l 0 k = (a, r, 0)) ∨ (l.length < k ∧ rdText l 0 k = ([], [], 3)) := by
  by_cases h : l.length < k
  · exact .inr ⟨h, by unfold rdText; rw [if_neg (by simp; omega), if_pos (by omega)]⟩
  · exact .inl ⟨l.take k, l.drop k, (List.take_append_drop k l).symm, by simp; omega, by unfold rdText; rw [if_neg (by simp; omega), if_neg (by omega)]; simp⟩

set_option maxRecDepth 100000 in
set_option maxHeartbeats 4000000 in
theorem WireOne_walk (s : ByteArray) (a : Option Addr) (len cap : Nat) (wd : List UInt8) (w : World) (hs : s.size ≤ maxLen) (hA : Src w (.slice a len cap) wd ∧ len = wd.length ∧ len ≤ maxLen) :
    Calls Try.prog 9 #[.string s, .slice a len cap] w fun e w' => e = .returned (.bool true) ∧ Below w.heap.size w w' := by
  obtain ⟨hS, hlen, hmax⟩ := hA
  unfold maxLen at hmax hs
  by_cases h1 : 1000 < s.size
  · clear hS hlen
    go_enter Try.func9, Try.ntmps9
    go_wp2_with (go_at_call 28; refine (wakesW_any _).mono ?_; rintro en w' ⟨rfl, hb⟩)
    go_ret
    exact ⟨rfl, hb⟩
  by_cases h2 : 300 < len
  · clear hS hlen
    go_enter Try.func9, Try.ntmps9
    go_wp2_with (go_at_call 28; refine (wakesW_any _).mono ?_; rintro en w' ⟨rfl, hb⟩)
    go_ret
    exact ⟨rfl, hb⟩
  have HL := Lib.hid hlen
  have hcells : ∀ k, (hk : k < wd.length) → ∃ b off, a = some ⟨b, off, none⟩ ∧ b < w.heap.size ∧ w.cell? ⟨b, off + k, none⟩ = some (byteV wd[k]) := by
    intro k hk
    rcases hS with ⟨_, h⟩ | ⟨ad, c, h, hc⟩
    · rw [h] at hk; simp at hk
    · simp only [Value.slice.injEq] at h
      obtain ⟨b, off, spot⟩ := ad
      have h0 := hc 0 (by omega)
      have hsp : spot = none := by simpa [Addr.add] using World.cell?_spot h0
      subst hsp
      have h3 := hc k hk
      rw [Go.WideShapes.add_plain] at h3
      exact ⟨b, off, h.1, World.block_lt_of_cell? w _ h3, h3⟩
  have HC := Lib.hid hcells
  clear hS hlen hcells
  obtain ⟨S, rfl⟩ : ∃ sl, s = bs sl := ⟨_, bs_of s⟩
  rw [bs_size] at h1 hs
  have hsz := bs_size S
  go_enter Try.func9, Try.ntmps9
  go_wp2_with fail
  refine (of_any S w).mono ?_
  rintro en w1 ⟨rfl, hr, hb, hlt⟩
  have HR := Lib.hid hr
  have HB := Lib.hid hb
  have hlt1 : w.heap.size + 1 ≤ w1.heap.size := hlt
  clear hr hb hlt
  go_upto_block 0 with fail
  go_cut [6, 7, 8] (fun s6 s7 s8 wc => ∃ (pre rest : List UInt8) (e : Int), Bys wc (w.heap.size + 1) s6 pre ∧ (∃ more, S = pre ++ more ∧ (e = 0 → rest = more)) ∧ Rd wc w.heap.size rest e ∧ rest.length ≤ 1000 ∧ Below w.heap.size w wc)
  case first =>
    go_wp2_with fail
    go_loopg [6, 7, 8] len (fun g v i n wx => ∃ k : Nat, k ≤ len ∧ g = len - k ∧ i = .int .i64 k ∧ ∃ pre rest, S = pre ++ rest ∧ Bys wx (w.heap.size + 1) v pre ∧ Rd wx w.heap.size rest 0 ∧ Below w.heap.size w wx ∧ w.heap.size + 1 ≤ wx.heap.size)
    case atStart => exact ⟨0, by omega, by omega, rfl, [], S, rfl, Bys.none _ _, HR.out, HB.out, hlt1⟩
    case round =>
      clear HR HB hlt1
      obtain ⟨k, hk, rfl, rfl, pre, rest, hS, hown, hr, hB, hz⟩ := hrel
      have hSl : pre.length + rest.length = S.length := by rw [hS]; simp
      have HS := Lib.hid hS
      by_cases hlt : k < len
      · have hkl : k < wd.length := by have := HL.out; omega
        obtain ⟨b, off, rfl, hbw, hcw⟩ := HC.out k hkl
        have hd0 : 0 ≤ (wd[k].toNat : Int) ∧ (wd[k].toNat : Int) < 256 := by have := wd[k].toNat_lt; omega
        have c0 := (hB.cell (p := ⟨b, off + k, none⟩) hbw).trans hcw
        unfold byteV at c0 hcw
        generalize (wd[k].toNat : Int) = d at *
        have CW := Lib.hid hcw
        have hw1 := wid_le d
        have HO := Lib.hid hown
        have HR := Lib.hid hr
        have HB := Lib.hid hB
        clear hS hown hr hB hcw hkl
        rcases rdText_cases rest (wid d) hw1.1 with ⟨a, r, hrest, hal, ht⟩ | ⟨hshort, ht⟩
        · have HT := Lib.hid ht
          have hN0 := (numOf_bd a).1
          have hN1 : numOf a < 18446744073709551616 := numOf_lt a 8 _ (by omega) (by decide)
          have HA := Lib.hid (And.intro hrest hal)
          have hrl : a.length + r.length = rest.length := by rw [hrest]; simp
          clear ht hrest hal
          go_wp2_with fail
          refine (lread_any w.heap.size rest 0 d _ HR.out (by omega)).mono ?_
          rw [HT.out]
          rintro en w2 ⟨rfl, hr2, ho2⟩
          have HB2 := Lib.hid (HB.out.trans (ho2.below (Nat.le_refl _) HB.out.size))
          have c2 := (HB2.out.cell (p := ⟨b, off + k, none⟩) hbw).trans CW.out
          have HR2 := Lib.hid hr2
          have HO2 : Hid (Bys w2 (w.heap.size + 1) _ pre) := World.ownsRow.kept HO.out ho2 (by
            rcases HO.out.shape with ⟨h, _⟩ | ⟨g, cp, h, hg, _⟩
            · left; rw [h]; rfl
            · right; rw [h]; show some g ≠ some w.heap.size; simp; omega)
          have hz2 : w.heap.size + 1 ≤ w2.heap.size := Nat.le_trans hz ho2.size
          clear hr2 ho2 HR HB HO c0 hz
          go_wp2_with fail
          refine (err_any w.heap.size r 0 _ HR2.out).mono ?_
          rintro en w3 ⟨rfl, rfl⟩
          go_wp2_with fail
          refine (lput_any (w.heap.size + 1) _ pre d (numOf a) _ hz2 HO2.out hN0 hN1 (by omega)).mono ?_
          rw [be_numOf a (wid d) HA.out.2]
          rintro en w4 ⟨v4, rfl, ho4, hb4⟩
          have HO4 := Lib.hid ho4
          have HB4 := Lib.hid (HB2.out.trans (hb4.mono (by omega)))
          have HR4 : Hid (Rd w4 w.heap.size r 0) := by
            show Rd w4 w.heap.size r 0
            unfold Rd; rw [hb4.block w.heap.size (by omega)]; exact HR2.out
          have hz4 : w.heap.size + 1 ≤ w4.heap.size := Nat.le_trans hz2 hb4.size
          have HS4 : Hid (S = (pre ++ a) ++ r) := by show _ = _; rw [List.append_assoc, ← HA.out.1]; exact HS.out
          clear ho4 hb4 HO2 HB2 HR2
          go_wp2_with fail
          go_roundg (len - (k + 1))
          case measure => omega
          case rel => exact ⟨k + 1, by omega, rfl, by go_num, pre ++ a, r, HS4.out, HO4.out, HR4.out, HB4.out, hz4⟩
        · have HT := Lib.hid ht
          clear ht
          go_wp2_with fail
          refine (lread_any w.heap.size rest 0 d _ HR.out (by omega)).mono ?_
          rw [HT.out]
          rintro en w2 ⟨rfl, hr2, ho2⟩
          have HB2 := Lib.hid (HB.out.trans (ho2.below (Nat.le_refl _) HB.out.size))
          have HR2 := Lib.hid hr2
          have HO2 : Hid (Bys w2 (w.heap.size + 1) _ pre) := World.ownsRow.kept HO.out ho2 (by
            rcases HO.out.shape with ⟨h, _⟩ | ⟨g, cp, h, hg, _⟩
            · left; rw [h]; rfl
            · right; rw [h]; show some g ≠ some w.heap.size; simp; omega)
          clear hr2 ho2 HR HB HO c0
          go_wp2_with fail
          refine (err_any w.heap.size [] 3 _ HR2.out).mono ?_
          rintro en w3 ⟨rfl, rfl⟩
          go_wp2_with fail
          go_meet
          exact ⟨pre, [], 3, HO2.out, ⟨rest, HS.out, fun h => by cases h⟩, HR2.out, by simp, HB2.out⟩
      · obtain rfl : len = k := by omega
        have HO := Lib.hid hown
        have HR := Lib.hid hr
        have HB := Lib.hid hB
        clear hS hown hr hB
        go_wp2_with fail
        go_meet
        exact ⟨pre, rest, 0, HO.out, ⟨rest, HS.out, fun _ => rfl⟩, HR.out, by omega, HB.out⟩
  case rest =>
    clear HR HB hlt1
    obtain ⟨pre, rest, e, hown, ⟨more, hS, hmore⟩, hr, hrl, hB⟩ := hcut
    have hpl : pre.length + more.length = S.length := by rw [hS]; simp
    have htk : (bs S).extract 0 pre.length = bs pre := by rw [bs_take, hS, List.take_left]
    have hlen2 : pre.length ≤ 1000 := by omega
    have hst := fun k : Later wc => run_string_bys (hown.later k.h)
    have hle : e = 0 → rest.length + pre.length = S.length := by intro h; rw [hmore h]; omega
    have HLE := Lib.hid hle
    have HR := Lib.hid hr
    have HB := Lib.hid hB
    have hsh := hown.shape
    have hple : pre.length ≤ S.length := by omega
    have hg : decide (S.length < pre.length) = false := by simp; omega
    have heq : e = 0 → ((rest.length : Int) == (S.length : Int) - (pre.length : Int)) = true := by intro h; have := hle h; rw [beq_iff_eq]; omega
    have HEQ := Lib.hid heq
    clear heq
    have hwr : IntKind.i64.wrap ((S.length : Int) - (pre.length : Int)) = (S.length : Int) - (pre.length : Int) := IntWalk.i64_in _ (by omega)
    have hg0 : decide ((S.length : Int) < 0) = false := by simp
    have hb0 : (bs []) = ⟨#[]⟩ := rfl
    clear hown hr hB hS hmore hle hpl
    rcases hsh with ⟨rfl, rfl⟩ | ⟨g, cp, rfl, _, _, _, _⟩
    all_goals
      go_upto_region 11 with fail
      refine wp_region_later (by kernel_rfl) (by kernel_rfl) ?_
      repeat (go_big_quiet_step (fail))
      refine wpQuiet_nil ?_
      rintro _ ⟨K, rfl⟩
      have HR2 := Lib.hid (HR.out.later K.h)
      have HB2 := Lib.hid (Later.bel HB.out K)
      clear HR HB hst
      by_cases he : e = 0
      · subst he
        have hl := HLE.out rfl
        have heq := HEQ.out rfl
        clear hl
        try simp only [List.length_nil, Int.natCast_zero, Int.sub_zero] at heq
        go_wp2_with (first | (go_at_call 42; refine (err_any w.heap.size rest 0 _ HR2.out).mono ?_; rintro en w3 ⟨rfl, rfl⟩) | (go_at_call 44; refine (left_any w.heap.size rest 0 _ HR2.out (by omega)).mono ?_; rintro en w3 ⟨rfl, rfl⟩) | (go_at_call 28; refine (wakesW_any _).mono ?_; rintro en w' ⟨rfl, hb⟩))
        go_ret
        exact ⟨rfl, HB2.out.trans (hb.mono HB2.out.size)⟩
      · have he' : (e != 0) = true := by simp [he]
        clear he
        go_wp2_with (first | (go_at_call 42; refine (err_any w.heap.size rest e _ HR2.out).mono ?_; rintro en w3 ⟨rfl, rfl⟩) | (go_at_call 28; refine (wakesW_any _).mono ?_; rintro en w' ⟨rfl, hb⟩))
        go_ret
        exact ⟨rfl, HB2.out.trans (hb.mono HB2.out.size)⟩
end Go.Proofs.Ytknahemnmboidaa
