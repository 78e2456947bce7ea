/- ZB17: the texts V2 as one. -/
import Derived.Test.YtpkkjbmgbgakdaaGreatDoorZB16
/- vlan: Members, member, In, Out. -/
set_option linter.unusedVariables false
namespace Go.Proofs.YtpkkjbmgbgakdaaGreatDoor
open Go.RowKit

theorem run_ports0 (a b : Int) : ∀ W : World, (Instr.field 218 (.agg #[.int .u8 a, .int .u8 b]) 0).run Tryz.prog W = .ok (.int .u8 a) W := fun W => by kernel_rfl
theorem run_ports1 (a b : Int) : ∀ W : World, (Instr.field 218 (.agg #[.int .u8 a, .int .u8 b]) 1).run Tryz.prog W = .ok (.int .u8 b) W := fun W => by kernel_rfl
set_option maxRecDepth 100000 in
set_option maxHeartbeats 4000000 in
theorem vmembers_any (q m : Nat) (n : Int) (o : List Int) (V : List Vn) (k : Int) (w : World) (hs : TS w q n m o V) (hk : 0 ≤ k ∧ k < 65536) :
    Calls Tryz.prog 191 #[.pointer (some ⟨q, 0, none⟩), .int .u16 k] w fun en w' => en = .returned (.int .u8 (vGet V k).1) ∧ w = w' := by
  have c1 := hs.tb.c1
  have lk := hs.vm.look1 k hk
  obtain ⟨a, ha⟩ : ∃ a, (vGet V k).1 = a := ⟨_, rfl⟩
  obtain ⟨b, hb⟩ : ∃ b, (vGet V k).2 = b := ⟨_, rfl⟩
  rw [ha, hb] at lk
  rw [ha]
  have f0 := run_ports0 a b
  clear ha hb hs
  go_enter Tryz.func191, Tryz.ntmps191
  go_wp2
  go_ret
  exact ⟨rfl, rfl⟩
set_option maxRecDepth 100000 in
set_option maxHeartbeats 4000000 in
theorem vmember_any (q m : Nat) (n : Int) (o : List Int) (V : List Vn) (p : Nat) (k : Int) (w : World) (hs : TS w q n m o V) (hp : p < 256) (hk : 0 ≤ k ∧ k < 65536) :
    Calls Tryz.prog 130 #[.pointer (some ⟨q, 0, none⟩), .int .u8 (p : Int), .int .u16 k] w fun en w' => en = .returned (.bool (memB (vGet V k).1 p)) ∧ w = w' := by
  have M1 := Lib.hid (vmembers_any q m n o V k w hs hk)
  obtain ⟨a, ha⟩ : ∃ a, (vGet V k).1 = a := ⟨_, rfl⟩
  have hb := (vGet_wf2 hs.vm.wf k).1
  rw [ha] at hb M1 ⊢
  have bb := and_shr a p hb
  clear hs ha hb
  go_enter Tryz.func130, Tryz.ntmps130
  by_cases h8 : p < 8
  · have d8 : decide ((p : Int) < 8) = true := decide_eq_true (by omega)
    have e8 : memB a p = decide (a / 2 ^ p % 2 = 1) := by unfold memB; rw [decide_eq_true h8, Bool.true_and]
    have p0 : (0 : Int) ≤ (p : Int) := by omega
    have p8 : (p : Int) ≤ 8 := by omega
    have HE := Lib.hid e8
    clear e8
    go_wp2_with fail
    with_reducible refine M1.out.mono ?_
    rintro en _ ⟨rfl, rfl⟩
    go_wp2
    go_ret
    exact ⟨by rw [HE.out]; rfl, rfl⟩
  · have d8 : decide ((p : Int) < 8) = false := decide_eq_false (by omega)
    have e8 : memB a p = false := by unfold memB; rw [decide_eq_false h8, Bool.false_and]
    have HE := Lib.hid e8
    clear e8
    go_wp2
    go_ret
    exact ⟨by rw [HE.out]; rfl, rfl⟩
/-- In: the VLAN, and whether it is one. -/
def inF (n : Int) (o : List Int) (V : List Vn) (p : Nat) (t : Bool) (v : Int) : Int × Bool :=
  if n ≤ (p : Int) then (0, false)
  else if memB (vGet V (if t = true ∧ v ≠ 0 then v else o.getD p 0)).1 p = true then ((if t = true ∧ v ≠ 0 then v else o.getD p 0), true) else (0, false)
set_option maxRecDepth 100000 in
set_option maxHeartbeats 8000000 in
theorem vin_A (A : Array Value) (q m : Nat) (n : Int) (o : List Int) (V : List Vn) (p : Nat) (t : Bool) (v : Int) (w : World) (h12 : A[12]? = some (.bool t)) (h14 : A[14]? = some (.int .u16 v)) (hs : TS w q n m o V) (hp : p < 256) (hv : 0 ≤ v ∧ v < 65536) :
    Calls Tryz.prog 64 #[.pointer (some ⟨q, 0, none⟩), .int .u8 (p : Int), .agg A] w fun en w' => en = .returned (.tuple #[.int .u16 (inF n o V p t v).1, .bool (inF n o V p t v).2]) ∧ Below w.heap.size w w' := by
  obtain ⟨R, hR⟩ : ∃ R, inF n o V p t v = R := ⟨_, rfl⟩
  rw [hR]
  have HR := Lib.hid hR
  clear hR
  go_enter Tryz.func64, Tryz.ntmps64
  go_upto_region 1 with fail
  have fb := FB.new w A
  have bb : Below w.heap.size w (w.alloc (.cells A 68)) := (Below.refl _ _).alloc (Nat.le_refl _) _
  have TS0 := Lib.hid (hs.later bb)
  obtain ⟨w0, hw0⟩ : ∃ x, w.alloc (.cells A 68) = x := ⟨_, rfl⟩
  rw [hw0] at fb bb TS0 ⊢
  have c12 := fb.c 12 _ h12
  have c14 := fb.c 14 _ h14
  have c0 := TS0.out.tb.c0
  have HB := Lib.hid bb
  clear hw0 fb bb hs
  by_cases h1 : n ≤ (p : Int)
  · have d1 : decide (n ≤ (p : Int)) = true := decide_eq_true h1
    have hR0 : R = (0, false) := by rw [← HR.out]; unfold inF; rw [if_pos h1]
    have HR0 := Lib.hid hR0
    clear h1 hR0
    go_wp2
    refine bodyPost_ret (v := .tuple #[.int .u16 0, .bool false]) (by simp [results, Tryz.results64, go_sem]) rfl ⟨by rw [HR0.out], HB.out⟩
  have d1 : decide (n ≤ (p : Int)) = false := decide_eq_false h1
  have hp8 : p < 8 := by have := TS0.out.n1; omega
  obtain ⟨x, hx, hx0, hx1⟩ := TS0.out.own p hp8
  have hox : o.getD p 0 = x := by rw [List.getD_eq_getElem?_getD, hx]; rfl
  obtain ⟨K, hK⟩ : ∃ K, (if t = true ∧ v ≠ 0 then v else x) = K := ⟨_, rfl⟩
  have hKb : 0 ≤ K ∧ K < 65536 := by rw [← hK]; split <;> omega
  have HRR : Hid (R = if memB (vGet V K).1 p = true then (K, true) else (0, false)) := Lib.hid (by rw [← HR.out]; unfold inF; rw [if_neg h1, hox, hK])
  have cp := TS0.out.tb.co p x hx
  have p0 : (0 : Int) ≤ (p : Int) := by omega
  have p8 : (p : Int) < 8 := by omega
  have MB := Lib.hid (vmember_any q m n o V p K w0 TS0.out hp hKb)
  obtain ⟨Bm, hBm⟩ : ∃ b, memB (vGet V K).1 p = b := ⟨_, rfl⟩
  rw [hBm] at HRR MB
  have HK := Lib.hid hK
  clear hK hKb HR h1 hox hx hBm
  by_cases hg : t = true ∧ v ≠ 0
  · have hKv : K = v := by rw [← HK.out, if_pos hg]
    have tt : t = true := hg.1
    have dv : (v == 0) = false := by rw [beq_eq_false_iff_ne]; exact hg.2
    subst tt
    subst hKv
    clear hg HK
    go_wp2_with fail
    with_reducible refine MB.out.mono ?_
    rintro en _ ⟨rfl, rfl⟩
    cases Bm with
    | true =>
      go_wp2
      refine bodyPost_ret (v := .tuple #[.int .u16 K, .bool true]) (by simp [results, Tryz.results64, go_sem]) rfl ⟨by rw [HRR.out]; rfl, HB.out⟩
    | false =>
      go_wp2
      refine bodyPost_ret (v := .tuple #[.int .u16 0, .bool false]) (by simp [results, Tryz.results64, go_sem]) rfl ⟨by rw [HRR.out]; rfl, HB.out⟩
  · have hKx : K = x := by rw [← HK.out, if_neg hg]
    subst hKx
    clear HK
    cases t with
    | false =>
      clear hg
      go_wp2_with fail
      with_reducible refine MB.out.mono ?_
      rintro en _ ⟨rfl, rfl⟩
      cases Bm with
      | true =>
        go_wp2
        refine bodyPost_ret (v := .tuple #[.int .u16 K, .bool true]) (by simp [results, Tryz.results64, go_sem]) rfl ⟨by rw [HRR.out]; rfl, HB.out⟩
      | false =>
        go_wp2
        refine bodyPost_ret (v := .tuple #[.int .u16 0, .bool false]) (by simp [results, Tryz.results64, go_sem]) rfl ⟨by rw [HRR.out]; rfl, HB.out⟩
    | true =>
      have hv0 : v = 0 := by
        by_cases h : v = 0
        · exact h
        · exact absurd ⟨rfl, h⟩ hg
      subst hv0
      clear hg
      go_wp2_with fail
      with_reducible refine MB.out.mono ?_
      rintro en _ ⟨rfl, rfl⟩
      cases Bm with
      | true =>
        go_wp2
        refine bodyPost_ret (v := .tuple #[.int .u16 K, .bool true]) (by simp [results, Tryz.results64, go_sem]) rfl ⟨by rw [HRR.out]; rfl, HB.out⟩
      | false =>
        go_wp2
        refine bodyPost_ret (v := .tuple #[.int .u16 0, .bool false]) (by simp [results, Tryz.results64, go_sem]) rfl ⟨by rw [HRR.out]; rfl, HB.out⟩
end Go.Proofs.YtpkkjbmgbgakdaaGreatDoor
