/- ZB16: the texts V1 as one. -/
import Derived.Test.YtpkkjbmgbgakdaaGreatDoorZB10
import Derived.Test.YtpkkjbmgbgakdaaGreatDoorZB15
import Derived.Test.YtpkkjbmgbgakdaaGreatDoorZB06
/- vlan: New, Set, SetOwn. -/
set_option linter.unusedVariables false
namespace Go.Proofs.YtpkkjbmgbgakdaaGreatDoor
open Go.RowKit

theorem vDel_lt : ∀ {V : List Vn} {k : Int}, (vFind V k).isSome = true → (vDel V k).length + 1 ≤ V.length
  | [], _, h => by cases h
  | x :: r, k, h => by
    unfold vFind at h
    unfold vDel
    rw [List.filter_cons]
    by_cases e : x.1 = k
    · rw [decide_eq_true e]
      show (List.filter _ r).length + 1 ≤ r.length + 1
      exact Nat.succ_le_succ (List.length_filter_le _ _)
    · rw [if_neg e] at h
      have ih := vDel_lt h
      rw [decide_eq_false e]
      show (List.filter _ r).length + 1 + 1 ≤ r.length + 1
      exact Nat.succ_le_succ ih
theorem vPut_len8 {V : List Vn} {k a b : Int} (hv : V.length ≤ 8) (h : ¬ ((vFind V k).isSome = false ∧ 8 ≤ V.length)) : (vPut V (k, a, b)).length ≤ 8 := by
  by_cases hs : (vFind V k).isSome = true
  · have := vDel_lt hs
    unfold vPut
    rw [vIns_len]
    show (vDel V k).length + 1 ≤ 8
    omega
  · have h2 : (vFind V k).isSome = false := by simpa using hs
    have : ¬ 8 ≤ V.length := fun h3 => h ⟨h2, h3⟩
    have := vPut_len V (k, a, b)
    omega
/-- Set: the error; the VLANs. -/
def setErr (n : Int) (V : List Vn) (k a b : Int) : Int :=
  if ¬ (1 ≤ k ∧ k ≤ 4094) then 2 else if a / 2 ^ n.toNat ≠ 0 then 2 else if bits .andNot .u8 b a ≠ 0 then 2 else if (vFind V k).isSome = false ∧ 8 ≤ V.length then 6 else 0
def setV (n : Int) (V : List Vn) (k a b : Int) : List Vn := if setErr n V k a b = 0 then vPut V (k, a, b) else V
theorem Only.alloc {p : Nat} {w W : World} (h : Only p w W) (o : Obj) : Only p w (W.alloc o) :=
  h.trans (World.grownBy_alloc W o (some p))
theorem below_only {w W : World} {p : Nat} (hb : Below w.heap.size w W) : Only p w W := ⟨hb.os, hb.tape, hb.output, hb.size, fun i hi _ => hb.block i hi⟩
set_option maxRecDepth 100000 in
set_option maxHeartbeats 4000000 in
theorem vmay_any (k : Int) (w : World) : Calls Tryz.prog 104 #[.int .u16 k] w fun en w' => en = .returned (.bool (decide (1 ≤ k ∧ k ≤ 4094))) ∧ Below w.heap.size w w' := by
  obtain ⟨R, hR⟩ : ∃ R, decide (1 ≤ k ∧ k ≤ 4094) = R := ⟨_, rfl⟩
  rw [hR]
  have HR := Lib.hid hR
  clear hR
  go_enter Tryz.func104, Tryz.ntmps104
  by_cases h1 : 1 ≤ k
  · have d1 : decide ((1 : Int) ≤ k) = true := decide_eq_true h1
    have HRR : Hid (R = decide (k ≤ 4094)) := Lib.hid (by rw [← HR.out]; simp [h1])
    clear h1
    go_wp2
    go_ret
    exact ⟨by rw [HRR.out]; rfl, Below.refl _ _⟩
  · have d1 : decide ((1 : Int) ≤ k) = false := decide_eq_false h1
    have HRR : Hid (R = false) := Lib.hid (by rw [← HR.out]; simp [h1])
    clear h1
    go_wp2
    go_ret
    exact ⟨by rw [HRR.out]; rfl, Below.refl _ _⟩
set_option maxRecDepth 100000 in
set_option maxHeartbeats 4000000 in
theorem vthere_any (a : Int) (b q m : Nat) (n : Int) (o : List Int) (w : World) (hc : w.cell? ⟨b, 0, none⟩ = some (.pointer (some ⟨q, 0, none⟩))) (ht : TB w q n m o) (hn : 1 ≤ n ∧ n ≤ 8) (ha : 0 ≤ a ∧ a < 256) :
    Calls Tryz.prog 103 #[.int .u8 a, .pointer (some ⟨b, 0, none⟩)] w fun en w' => en = .returned (.bool (a / 2 ^ n.toNat == 0)) ∧ w = w' := by
  have c0 := ht.c0
  have n0 : (0 : Int) ≤ n := by omega
  have n64 : n ≤ 64 := by omega
  go_enter Tryz.func103, Tryz.ntmps103
  go_wp2
  go_ret
  exact ⟨rfl, rfl⟩
set_option maxRecDepth 100000 in
set_option maxHeartbeats 4000000 in
theorem vnew_any (n : Int) (w : World) (hn : 1 ≤ n ∧ n ≤ 8) : Calls Tryz.prog 9 #[.int .i64 n] w fun en w' =>
    ∃ q m : Nat, en = .returned (.tuple #[.pointer (some ⟨q, 0, none⟩), .int .i64 0]) ∧ TS w' q n m [0, 0, 0, 0, 0, 0, 0, 0] [] ∧ Below w.heap.size w w' ∧ w.heap.size ≤ q ∧ w.heap.size ≤ m := by
  have d1 : decide (n < 1) = false := decide_eq_false (by omega)
  have d8 : decide ((8 : Int) < n) = false := decide_eq_false (by omega)
  have run0 : (Instr.makeMap 111 none).run Tryz.prog w = .ok (.map (some w.heap.size)) (w.alloc (.map #[] 0)) := rfl
  have hb : Below w.heap.size w ((w.alloc (.map #[] 0)).alloc (.cells (tabA n w.heap.size [0, 0, 0, 0, 0, 0, 0, 0]) 114)) := ((Below.refl _ _).alloc (Nat.le_refl _) _).alloc (by simp) _
  have ht : TB ((w.alloc (.map #[] 0)).alloc (.cells (tabA n w.heap.size [0, 0, 0, 0, 0, 0, 0, 0]) 114)) (w.heap.size + 1) n w.heap.size [0, 0, 0, 0, 0, 0, 0, 0] := by
    have := heap_alloc_new (w.alloc (.map #[] 0)) (.cells (tabA n w.heap.size [0, 0, 0, 0, 0, 0, 0, 0]) 114)
    rw [show (w.alloc (.map #[] 0)).heap.size = w.heap.size + 1 by simp] at this
    exact this
  have hm : VM ((w.alloc (.map #[] 0)).alloc (.cells (tabA n w.heap.size [0, 0, 0, 0, 0, 0, 0, 0]) 114)) w.heap.size [] := (VM.made w).later ((Below.refl _ _).alloc (Nat.le_refl _) _)
  have HX := Lib.hid (And.intro hb (TS.mk ht hm (by omega) rfl hn (by simp) (by simp)))
  clear hb ht hm
  go_enter Tryz.func9, Tryz.ntmps9
  go_wp2
  refine bodyPost_ret (v := .tuple #[.pointer (some ⟨w.heap.size + 1, 0, none⟩), .int .i64 0]) (by simp [results, Tryz.results9, go_sem]) rfl ⟨_, _, rfl, HX.out.2, HX.out.1, by omega, by omega⟩
set_option maxRecDepth 100000 in
set_option maxHeartbeats 8000000 in
theorem vset_any (q m : Nat) (n : Int) (o : List Int) (V : List Vn) (k a b : Int) (w : World) (hs : TS w q n m o V) (hk : 0 ≤ k ∧ k < 65536) (ha : 0 ≤ a ∧ a < 256) (hb : 0 ≤ b ∧ b < 256) :
    Calls Tryz.prog 42 #[.pointer (some ⟨q, 0, none⟩), .int .u16 k, .int .u8 a, .int .u8 b] w fun en w' => en = .returned (.int .i64 (setErr n V k a b)) ∧ TS w' q n m o (setV n V k a b) ∧ Only m w w' := by
  obtain ⟨R, hR⟩ : ∃ R, setErr n V k a b = R := ⟨_, rfl⟩
  obtain ⟨V', hV⟩ : ∃ X, setV n V k a b = X := ⟨_, rfl⟩
  rw [hR, hV]
  unfold setV at hV
  rw [hR] at hV
  unfold setErr at hR
  have HV := Lib.hid hV
  have HR := Lib.hid hR
  have HN := Lib.hid hs.n1
  have HA := Lib.hid (And.intro hk (And.intro ha hb))
  clear hV hR
  have MY : Hid (∀ w, Calls Tryz.prog 104 #[.int .u16 k] w fun en w' => en = .returned (.bool (decide (1 ≤ k ∧ k ≤ 4094))) ∧ Below w.heap.size w w') := Lib.hid fun w => vmay_any k w
  go_enter Tryz.func42, Tryz.ntmps42
  go_upto_region 1 with fail
  have TS0 := Lib.hid (hs.later ((Below.refl _ _).alloc (Nat.le_refl _) (.cells #[.pointer (some ⟨q, 0, none⟩)] 34)))
  have bb : Below w.heap.size w (w.alloc (.cells #[.pointer (some ⟨q, 0, none⟩)] 34)) := (Below.refl _ _).alloc (Nat.le_refl _) _
  have cb : (w.alloc (.cells #[.pointer (some ⟨q, 0, none⟩)] 34)).cell? ⟨w.heap.size, 0, none⟩ = some (.pointer (some ⟨q, 0, none⟩)) := by simp only [World.cell?, heap_alloc_new]; rfl
  obtain ⟨w0, hw0⟩ : ∃ x, w.alloc (.cells #[.pointer (some ⟨q, 0, none⟩)] 34) = x := ⟨_, rfl⟩
  rw [hw0] at TS0 bb cb ⊢
  have HB0 := Lib.hid bb
  have HLT := Lib.hid (show w.heap.size < w0.heap.size by rw [← hw0]; simp)
  clear hw0 hs bb
  go_wp2_with fail
  with_reducible refine (MY.out _).mono ?_
  rintro en w1 ⟨rfl, hb1⟩
  have TS1 := Lib.hid (TS0.out.later hb1)
  have HB1 := Lib.hid (HB0.out.trans (hb1.mono HB0.out.size))
  have cb1 : w1.cell? ⟨w.heap.size, 0, none⟩ = some (.pointer (some ⟨q, 0, none⟩)) := (hb1.cell (p := ⟨w.heap.size, 0, none⟩) HLT.out).trans cb
  clear hb1 cb TS0 HB0
  by_cases h1 : 1 ≤ k ∧ k ≤ 4094
  rotate_left
  · have d1 : decide (1 ≤ k ∧ k ≤ 4094) = false := decide_eq_false h1
    have hR2 : R = 2 := by rw [← HR.out, if_pos h1]
    have hV2 : V' = V := by rw [← HV.out, hR2]; rfl
    have HR2 := Lib.hid hR2
    have HV2 := Lib.hid hV2
    clear h1 hR2 hV2
    go_wp2
    go_ret
    exact ⟨by rw [HR2.out]; rfl, by rw [HV2.out]; exact TS1.out, below_only HB1.out⟩
  have d1 : decide (1 ≤ k ∧ k ≤ 4094) = true := decide_eq_true h1
  have HR1 := Lib.hid (by have h := HR.out; rw [if_neg (not_not_intro h1)] at h; exact h)
  clear h1 HR
  go_wp2_with fail
  with_reducible refine (vthere_any a w.heap.size q m n o w1 cb1 TS1.out.tb HN.out HA.out.2.1).mono ?_
  rintro en _ ⟨rfl, rfl⟩
  by_cases h2 : a / 2 ^ n.toNat = 0
  rotate_left
  · have d2 : (a / 2 ^ n.toNat == 0) = false := by rw [beq_eq_false_iff_ne]; exact h2
    have hR2 : R = 2 := by rw [← HR1.out, if_pos h2]
    have hV2 : V' = V := by rw [← HV.out, hR2]; rfl
    have HR2 := Lib.hid hR2
    have HV2 := Lib.hid hV2
    clear h2 hR2 hV2
    go_wp2
    go_ret
    exact ⟨by rw [HR2.out]; rfl, by rw [HV2.out]; exact TS1.out, below_only HB1.out⟩
  have d2 : (a / 2 ^ n.toNat == 0) = true := by rw [h2]; rfl
  have HR3 := Lib.hid (by have h := HR1.out; rw [if_neg (not_not_intro h2)] at h; exact h)
  clear h2 HR1
  by_cases h3 : bits .andNot .u8 b a = 0
  rotate_left
  · have d3 : (bits .andNot .u8 b a != 0) = true := by rw [bne_iff_ne]; exact h3
    have hR2 : R = 2 := by rw [← HR3.out, if_pos h3]
    have hV2 : V' = V := by rw [← HV.out, hR2]; rfl
    have HR2 := Lib.hid hR2
    have HV2 := Lib.hid hV2
    clear h3 hR2 hV2
    go_wp2
    go_ret
    exact ⟨by rw [HR2.out]; rfl, by rw [HV2.out]; exact TS1.out, below_only HB1.out⟩
  have d3 : (bits .andNot .u8 b a != 0) = false := by rw [h3]; rfl
  have HR4 := Lib.hid (by have h := HR3.out; rw [if_neg (not_not_intro h3)] at h; exact h)
  clear h3 HR3
  obtain ⟨S, hS⟩ : ∃ S, (vFind V k).isSome = S := ⟨_, rfl⟩
  have lk := TS1.out.vm.look k HA.out.1
  rw [hS] at lk
  obtain ⟨e1, he1⟩ : ∃ x, (vGet V k).1 = x := ⟨_, rfl⟩
  obtain ⟨e2, he2⟩ : ∃ x, (vGet V k).2 = x := ⟨_, rfl⟩
  rw [he1, he2] at lk
  have HSS := Lib.hid hS
  have c1 := TS1.out.tb.c1
  clear he1 he2 hS
  go_upto_region 7 with fail
  have bb : Below w1.heap.size w1 (w1.alloc (.cells #[.int .u8 e1, .int .u8 e2] 218)) := (Below.refl _ _).alloc (Nat.le_refl _) _
  have TS2 := Lib.hid (TS1.out.later bb)
  have HB2 := Lib.hid (HB1.out.trans (bb.mono HB1.out.size))
  have cb2 : (w1.alloc (.cells #[.int .u8 e1, .int .u8 e2] 218)).cell? ⟨w.heap.size, 0, none⟩ = some (.pointer (some ⟨q, 0, none⟩)) := (bb.cell (p := ⟨w.heap.size, 0, none⟩) (World.block_lt_of_cell? _ _ cb1)).trans cb1
  obtain ⟨w2, hw2⟩ : ∃ x, w1.alloc (.cells #[.int .u8 e1, .int .u8 e2] 218) = x := ⟨_, rfl⟩
  rw [hw2] at TS2 HB2 cb2 ⊢
  clear bb hw2 c1 lk cb1 TS1 HB1 d1 d2 d3
  have c1 := TS2.out.tb.c1
  have ln := fun ty => TS2.out.vm.len ty
  obtain ⟨w3, run, vm3, hg⟩ := TS2.out.vm.update (by have := TS2.out.vl; omega) k a b HA.out.1 HA.out.2.1 HA.out.2.2
  have HZ : Hid (R = 0 → TS w3 q n m o V' ∧ Only m w w3) := Lib.hid fun hR0 => by
    have h4 := HR4.out
    rw [hR0] at h4
    have hc : ¬ ((vFind V k).isSome = false ∧ 8 ≤ V.length) := fun hc => by rw [if_pos hc] at h4; exact absurd h4 (by decide)
    have hv := HV.out
    rw [if_pos hR0] at hv
    have t := TS2.out
    refine ⟨⟨t.tb.blk (hg.block q t.tb.lt (by intro e; injection e with e; exact t.ne e)), by rw [← hv]; exact vm3, t.ne, t.ol, t.n1, by rw [← hv]; exact vPut_len8 t.vl hc, t.ow⟩, (below_only HB2.out).trans hg⟩
  cases S with
  | true =>
    have hR0 : R = 0 := by rw [← HR4.out, if_neg (by rw [HSS.out]; rintro ⟨h, _⟩; cases h)]
    have HR0 := Lib.hid hR0
    clear hR0 hg vm3
    go_wp2
    go_ret
    exact ⟨by rw [HR0.out]; rfl, (HZ.out HR0.out).1, (HZ.out HR0.out).2⟩
  | false =>
    by_cases h8 : 8 ≤ V.length
    · have d8 : decide ((8 : Int) ≤ (V.length : Int)) = true := decide_eq_true (by omega)
      have hR6 : R = 6 := by rw [← HR4.out, if_pos ⟨HSS.out, h8⟩]
      have hV2 : V' = V := by rw [← HV.out, hR6]; rfl
      have HR6 := Lib.hid hR6
      have HV2 := Lib.hid hV2
      clear h8 hR6 hV2 hg vm3
      go_wp2
      go_ret
      exact ⟨by rw [HR6.out]; rfl, by rw [HV2.out]; exact TS2.out, below_only HB2.out⟩
    · have d8 : decide ((8 : Int) ≤ (V.length : Int)) = false := decide_eq_false (by omega)
      have hR0 : R = 0 := by rw [← HR4.out, if_neg (fun h => h8 h.2)]
      have HR0 := Lib.hid hR0
      clear h8 hR0 hg vm3
      go_wp2
      go_ret
      exact ⟨by rw [HR0.out]; rfl, (HZ.out HR0.out).1, (HZ.out HR0.out).2⟩
/-- SetOwn: the error; the ports' own ones. -/
def ownErr (n : Int) (p : Nat) (k : Int) : Int := if n ≤ (p : Int) then 2 else if 4094 < k then 2 else 0
def ownO (n : Int) (o : List Int) (p : Nat) (k : Int) : List Int := if ownErr n p k = 0 then o.set p k else o
set_option maxRecDepth 100000 in
set_option maxHeartbeats 8000000 in
theorem vsetOwn_any (q m : Nat) (n : Int) (o : List Int) (V : List Vn) (p : Nat) (k : Int) (w : World) (hs : TS w q n m o V) (hp : p < 256) (hk : 0 ≤ k ∧ k < 65536) :
    Calls Tryz.prog 44 #[.pointer (some ⟨q, 0, none⟩), .int .u8 (p : Int), .int .u16 k] w fun en w' => en = .returned (.int .i64 (ownErr n p k)) ∧ TS w' q n m (ownO n o p k) V ∧ Only q w w' := by
  obtain ⟨R, hR⟩ : ∃ R, ownErr n p k = R := ⟨_, rfl⟩
  obtain ⟨o', ho⟩ : ∃ X, ownO n o p k = X := ⟨_, rfl⟩
  rw [hR, ho]
  unfold ownO at ho
  rw [hR] at ho
  unfold ownErr at hR
  have HO := Lib.hid ho
  have HR := Lib.hid hR
  have TS0 := Lib.hid hs
  have HK := Lib.hid hk
  have c0 := hs.tb.c0
  clear hR ho hs hk
  go_enter Tryz.func44, Tryz.ntmps44
  by_cases h1 : n ≤ (p : Int)
  · have d1 : decide (n ≤ (p : Int)) = true := decide_eq_true h1
    have hR2 : R = 2 := by rw [← HR.out, if_pos h1]
    have hO2 : o' = o := by rw [← HO.out, hR2]; rfl
    have HR2 := Lib.hid hR2
    have HO2 := Lib.hid hO2
    clear h1 hR2 hO2
    go_wp2
    go_ret
    exact ⟨by rw [HR2.out]; rfl, by rw [HO2.out]; exact TS0.out, Only.refl _ _⟩
  have d1 : decide (n ≤ (p : Int)) = false := decide_eq_false h1
  have hp8 : p < 8 := by have := TS0.out.n1; omega
  have HR1 := Lib.hid (by have h := HR.out; rw [if_neg h1] at h; exact h)
  clear h1 HR
  by_cases h2 : 4094 < k
  · have d2 : decide ((4094 : Int) < k) = true := decide_eq_true h2
    have hR2 : R = 2 := by rw [← HR1.out, if_pos h2]
    have hO2 : o' = o := by rw [← HO.out, hR2]; rfl
    have HR2 := Lib.hid hR2
    have HO2 := Lib.hid hO2
    clear h2 hR2 hO2
    go_wp2
    go_ret
    exact ⟨by rw [HR2.out]; rfl, by rw [HO2.out]; exact TS0.out, Only.refl _ _⟩
  have d2 : decide ((4094 : Int) < k) = false := decide_eq_false h2
  have hR0 : R = 0 := by rw [← HR1.out, if_neg h2]
  have hO2 : o' = o.set p k := by rw [← HO.out, if_pos hR0]
  have HR0 := Lib.hid hR0
  have HO2 := Lib.hid hO2
  clear h2 hR0 hO2 HR1
  obtain ⟨x, hx, _, _⟩ := TS0.out.own p hp8
  have cp := TS0.out.tb.co p x hx
  have fp := TS0.out.tb.fr (2 + p)
  have p0 : (0 : Int) ≤ (p : Int) := by omega
  have p8 : (p : Int) < 8 := by omega
  clear hx
  go_wp2
  go_ret
  refine ⟨by rw [HR0.out]; rfl, ?_, Only.set q w (2 + p) _⟩
  have t := TS0.out
  refine ⟨by rw [HO2.out]; exact t.tb.set p k, t.vm.blk (Below.heap_setCell _ _ _ _ (by intro e; simp at e; exact t.ne e.symm)), t.ne, by rw [HO2.out, List.length_set]; exact t.ol, t.n1, t.vl, fun x hx => ?_⟩
  rw [HO2.out] at hx
  rcases List.mem_or_eq_of_mem_set hx with h | h
  · exact t.ow x h
  · rw [h]; exact HK.out
end Go.Proofs.YtpkkjbmgbgakdaaGreatDoor
