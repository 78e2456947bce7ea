/- Layer 17: the reference's fate. -/
import Derived.Test.YtknahemnmboidaaLv2
set_option linter.unusedVariables false
namespace Go.Proofs.Ytknahemnmboidaa
open Go.RowKit

/-- Those that face it, from a level on: 2 taken, 0 dropped, 1 neither. -/
def look1 (d l : Int) : Nat → Nat → Int
  | 0, _ => 1
  | n + 1, k => if hasB d k then (if (k : Int) < l then look1 d l n (k + 1) else if l = k then 2 else 0) else look1 d l n (k + 1)
/-- Those that do not, from a level on. -/
def look2 (u l : Int) : Nat → Nat → Int
  | 0, _ => 1
  | n + 1, k => if hasB u k ∧ ¬ (k : Int) < l then 0 else look2 u l n (k + 1)
theorem look1_eq : ∀ d : Fin 256, ∀ l : Fin 8, look1 d.val l.val 8 0 = if hasB d.val l.val then 2 else if fromB d.val l.val then 0 else 1 := by decide +kernel
theorem look2_eq : ∀ d : Fin 256, ∀ l : Fin 8, look2 d.val l.val 8 0 = if fromB d.val l.val then 0 else 1 := by decide +kernel
theorem look1_is (d l : Int) (hd : 0 ≤ d) (hd2 : d < 256) (hl : 0 ≤ l) (hl2 : l ≤ 7) : look1 d l 8 0 = if hasB d l then 2 else if fromB d l then 0 else 1 := by
  have := look1_eq ⟨d.toNat, by omega⟩ ⟨l.toNat, by omega⟩
  simp only [Int.toNat_of_nonneg hd, Int.toNat_of_nonneg hl] at this
  exact this
theorem look2_is (d l : Int) (hd : 0 ≤ d) (hd2 : d < 256) (hl : 0 ≤ l) (hl2 : l ≤ 7) : look2 d l 8 0 = if fromB d l then 0 else 1 := by
  have := look2_eq ⟨d.toNat, by omega⟩ ⟨l.toNat, by omega⟩
  simp only [Int.toNat_of_nonneg hd, Int.toNat_of_nonneg hl] at this
  exact this
def aggB (d : Int) : Value := .agg #[.bool (hasB d 0), .bool (hasB d 1), .bool (hasB d 2), .bool (hasB d 3), .bool (hasB d 4), .bool (hasB d 5), .bool (hasB d 6), .bool (hasB d 7)]
def fateV (d u m l : Int) : Int := if 7 < l then 0 else if look1 d l 8 0 = 1 then (if look2 u l 8 0 = 1 then (if m = l then 3 else 1) else 0) else look1 d l 8 0
theorem fate_goes (d u m l : Int) (hd : 0 ≤ d) (hd2 : d < 256) (hu : 0 ≤ u) (hu2 : u < 256) (hl : 0 ≤ l) : fateV d u m l = goesV d u m l := by
  unfold fateV goesV
  by_cases h : 7 < l
  · rw [if_pos h, if_pos h]
  rw [if_neg h, if_neg h, look1_is d l hd hd2 hl (by omega), look2_is u l hu hu2 hl (by omega)]
  cases hasB d l <;> cases fromB d l <;> cases fromB u l <;> simp

/-- The cells of a set. -/
def CellsB (W : World) (b : Nat) (d : Int) : Prop := ∀ k : Nat, k < 8 → W.cell? ⟨b, k, none⟩ = some (.bool (hasB d k))
theorem cellsB_first (w : World) (d : Int) (o : Obj) : CellsB ((w.alloc (.cells #[.bool (hasB d 0), .bool (hasB d 1), .bool (hasB d 2), .bool (hasB d 3), .bool (hasB d 4), .bool (hasB d 5), .bool (hasB d 6), .bool (hasB d 7)] 24)).alloc o) w.heap.size d := by
  intro k hk
  match k, hk with
  | 0, _ | 1, _ | 2, _ | 3, _ | 4, _ | 5, _ | 6, _ | 7, _ => simp [go_sem, World.cell?_alloc_past]
theorem cellsB_second (w : World) (d : Int) (o : Obj) : CellsB ((w.alloc o).alloc (.cells #[.bool (hasB d 0), .bool (hasB d 1), .bool (hasB d 2), .bool (hasB d 3), .bool (hasB d 4), .bool (hasB d 5), .bool (hasB d 6), .bool (hasB d 7)] 24)) (w.heap.size + 1) d := by
  intro k hk
  match k, hk with
  | 0, _ | 1, _ | 2, _ | 3, _ | 4, _ | 5, _ | 6, _ | 7, _ => simp [go_sem]

set_option maxRecDepth 100000 in
set_option maxHeartbeats 2000000 in
theorem fate_any (d u m l : Int) (w : World) (hd : 0 ≤ d) (hd2 : d < 256) (hu : 0 ≤ u) (hu2 : u < 256) (hl : 0 ≤ l) (hl2 : l < 256) :
    Calls Try.prog 17 #[.agg #[.bool (hasB d 0), .bool (hasB d 1), .bool (hasB d 2), .bool (hasB d 3), .bool (hasB d 4), .bool (hasB d 5), .bool (hasB d 6), .bool (hasB d 7)], .agg #[.bool (hasB u 0), .bool (hasB u 1), .bool (hasB u 2), .bool (hasB u 3), .bool (hasB u 4), .bool (hasB u 5), .bool (hasB u 6), .bool (hasB u 7)], .int .i64 m, .int .i64 l] w fun e w' => e = .returned (.int .i64 (fateV d u m l)) ∧ Below w.heap.size w w' := by
  have hnot : ∀ (x : Bool) (w : World), (Op.unary .not (.bool x)).run Try.prog w = .ok (.bool (!x)) w := fun _ _ => rfl
  by_cases h7 : 7 < l
  · have e : fateV d u m l = 0 := by unfold fateV; rw [if_pos h7]
    have E := Lib.hid e; clear e
    go_enter Try.func17, Try.ntmps17
    go_wp2
    go_ret
    exact ⟨by rw [E.out]; rfl, ((Below.refl _ _).alloc (by simp) _).alloc (by simp) _⟩
  have e : fateV d u m l = if look1 d l 8 0 = 1 then (if look2 u l 8 0 = 1 then (if m = l then 3 else 1) else 0) else look1 d l 8 0 := by unfold fateV; rw [if_neg h7]
  have E := Lib.hid e; clear e
  go_enter Try.func17, Try.ntmps17
  go_wp2
  refine forget (fun W => CellsB W w.heap.size d ∧ CellsB W (w.heap.size + 1) u ∧ Below w.heap.size w W) ⟨cellsB_first _ _ _, cellsB_second _ _ _, ((Below.refl _ _).alloc (by simp) _).alloc (by simp) _⟩ ?_
  intro W ⟨hc1, hc2, hb⟩
  go_loop [9] (fun i => ∃ k : Nat, k ≤ 8 ∧ i = .int .i64 k ∧ look1 d l (8 - k) k = look1 d l 8 0) (fun i => 8 - (intOf i).toNat)
  case atStart => exact ⟨0, by omega, rfl, rfl⟩
  case round =>
    obtain ⟨k, hk, rfl, hlk⟩ := hrel
    have HK := Lib.hid hlk; clear hlk
    by_cases hlt : k < 8
    · have hcell := hc1 k hlt
      obtain ⟨n, hn⟩ : ∃ n, 8 - k = n + 1 := ⟨7 - k, by omega⟩
      by_cases hf : hasB d k = true
      · by_cases hkl : (k : Int) < l
        · have hp : passesV k l true = 2 := by unfold passesV; rw [if_pos hkl]
          have HN : Hid (look1 d l (8 - (k + 1)) (k + 1) = look1 d l 8 0) := by
            have h1 := HK.out
            rw [hn, look1, if_pos hf, if_pos hkl] at h1
            rw [show 8 - (k + 1) = n by omega]; exact h1
          clear hn
          go_wp2_with (go_at_call 65; refine (passes_any _ _ _ _).mono ?_; rintro e w' ⟨rfl, rfl⟩)
          go_round
          case rel => exact ⟨k + 1, by omega, by go_num, HN.out⟩
          case measure => simp [intOf]; omega
        · have hv : look1 d l 8 0 = if l = k then 2 else 0 := by
            have h1 := HK.out
            rw [hn, look1, if_pos hf, if_neg hkl] at h1
            exact h1.symm
          by_cases hkl2 : l = k
          · have hp : passesV k l true = 1 := by unfold passesV; rw [if_neg hkl, if_pos ⟨hkl2, rfl⟩]
            have hv2 : fateV d u m l = 2 := by rw [E.out, hv, if_pos hkl2]; rfl
            have HV := Lib.hid hv2; clear hv2 hv hn hkl2
            go_wp2_with (go_at_call 65; refine (passes_any _ _ _ _).mono ?_; rintro e w' ⟨rfl, rfl⟩)
            go_ret
            exact ⟨by rw [HV.out]; rfl, hb⟩
          · have hp : passesV k l true = 0 := by unfold passesV; rw [if_neg hkl, if_neg (fun h => hkl2 h.1)]
            have hv2 : fateV d u m l = 0 := by rw [E.out, hv, if_neg hkl2]; rfl
            have HV := Lib.hid hv2; clear hv2 hv hn hkl2
            go_wp2_with (go_at_call 65; refine (passes_any _ _ _ _).mono ?_; rintro e w' ⟨rfl, rfl⟩)
            go_ret
            exact ⟨by rw [HV.out]; rfl, hb⟩
      · have hf' : hasB d k = false := by simpa using hf
        have HN : Hid (look1 d l (8 - (k + 1)) (k + 1) = look1 d l 8 0) := by
          have h1 := HK.out
          rw [hn, look1, if_neg hf] at h1
          rw [show 8 - (k + 1) = n by omega]; exact h1
        clear hn hf
        go_wp2
        go_round
        case rel => exact ⟨k + 1, by omega, by go_num, HN.out⟩
        case measure => simp [intOf]; omega
    · obtain rfl : k = 8 := by omega
      have hv : look1 d l 8 0 = 1 := HK.out.symm
      have E2 : Hid (fateV d u m l = if look2 u l 8 0 = 1 then (if m = l then 3 else 1) else 0) := by
        show _ = _
        rw [E.out, if_pos hv]
      clear E HK hv
      go_wp2
      go_loop [11] (fun i => ∃ k : Nat, k ≤ 8 ∧ i = .int .i64 k ∧ look2 u l (8 - k) k = look2 u l 8 0) (fun i => 8 - (intOf i).toNat)
      case atStart => exact ⟨0, by omega, rfl, rfl⟩
      case round =>
        obtain ⟨k, hk, rfl, hlk⟩ := hrel
        have HK := Lib.hid hlk; clear hlk
        by_cases hlt : k < 8
        · have hcell := hc2 k hlt
          obtain ⟨n, hn⟩ : ∃ n, 8 - k = n + 1 := ⟨7 - k, by omega⟩
          by_cases hf : hasB u k = true
          · by_cases hkl : (k : Int) < l
            · have hp : passesV k l false = 2 := by unfold passesV; rw [if_pos hkl]
              have HN : Hid (look2 u l (8 - (k + 1)) (k + 1) = look2 u l 8 0) := by
                have h1 := HK.out
                rw [hn, look2, if_neg (fun h => h.2 hkl)] at h1
                rw [show 8 - (k + 1) = n by omega]; exact h1
              clear hn
              go_wp2_with (go_at_call 65; refine (passes_any _ _ _ _).mono ?_; rintro e w' ⟨rfl, rfl⟩)
              go_round
              case rel => exact ⟨k + 1, by omega, by go_num, HN.out⟩
              case measure => simp [intOf]; omega
            · have hp : passesV k l false = 0 := by unfold passesV; rw [if_neg hkl, if_neg (by simp)]
              have hv : look2 u l 8 0 = 0 := by
                have h1 := HK.out
                rw [hn, look2, if_pos ⟨hf, hkl⟩] at h1
                exact h1.symm
              have hv2 : fateV d u m l = 0 := by rw [E2.out, hv]; rfl
              have HV := Lib.hid hv2; clear hv2 hv hn
              go_wp2_with (go_at_call 65; refine (passes_any _ _ _ _).mono ?_; rintro e w' ⟨rfl, rfl⟩)
              go_ret
              exact ⟨by rw [HV.out]; rfl, hb⟩
          · have hf' : hasB u k = false := by simpa using hf
            have HN : Hid (look2 u l (8 - (k + 1)) (k + 1) = look2 u l 8 0) := by
              have h1 := HK.out
              rw [hn, look2, if_neg (fun h => hf h.1)] at h1
              rw [show 8 - (k + 1) = n by omega]; exact h1
            clear hn hf
            go_wp2
            go_round
            case rel => exact ⟨k + 1, by omega, by go_num, HN.out⟩
            case measure => simp [intOf]; omega
        · obtain rfl : k = 8 := by omega
          have hv : look2 u l 8 0 = 1 := HK.out.symm
          have E3 : Hid (fateV d u m l = if m = l then 3 else 1) := by
            show _ = _
            rw [E2.out, if_pos hv]
          clear E2 HK hv
          by_cases hm : m = l
          · have hm' : (m == l) = true := by simp [hm]
            have HV : Hid (fateV d u m l = 3) := by show _ = _; rw [E3.out, if_pos hm]
            clear hm E3
            go_wp2
            go_ret
            exact ⟨by rw [HV.out]; rfl, hb⟩
          · have hm' : (m == l) = false := by simp [hm]
            have HV : Hid (fateV d u m l = 1) := by show _ = _; rw [E3.out, if_neg hm]
            clear hm E3
            go_wp2
            go_ret
            exact ⟨by rw [HV.out]; rfl, hb⟩
end Go.Proofs.Ytknahemnmboidaa
