/- ZP31: the texts T2, T3, E5 as one. -/
import Derived.Test.YtlkdfofpnmpidaaGreatZP08
import Derived.Test.YtlkdfofpnmpidaaGreatZP30
import Derived.Test.YtlkdfofpnmpidaaGreatZP28
/- tlv: Find. -/
set_option linter.unusedVariables false
namespace Go.Proofs.YtlkdfofpnmpidaaGreat
open Go.RowKit

/-- Find: the first value of a type. -/
def findT : List Th → UInt8 → List UInt8 × Bool
  | [], _ => ([], false)
  | x :: l, k => if x.1 = k then (x.2, true) else findT l k
theorem findT_at : ∀ (l : List Th) (k : UInt8) (i : Nat) (hi : i < l.length), (∀ x ∈ l.take i, x.1 ≠ k) → l[i].1 = k → findT l k = (l[i].2, true)
  | x :: l, k, 0, _, _, h => by
    have h' : x.1 = k := h
    unfold findT; rw [if_pos h']; rfl
  | x :: l, k, i + 1, hi, hn, h => by
    have ih := findT_at l k i (by simpa using hi) (fun y hy => hn y (by simp [hy])) h
    unfold findT; rw [if_neg (hn x (by simp)), ih]; rfl
theorem findT_no : ∀ (l : List Th) (k : UInt8), (∀ x ∈ l, x.1 ≠ k) → findT l k = ([], false)
  | [], _, _ => rfl
  | x :: l, k, h => by
    unfold findT; rw [if_neg (h x (by simp)), findT_no l k (fun y hy => h y (by simp [hy]))]

set_option maxRecDepth 100000 in
set_option maxHeartbeats 4000000 in
theorem refFind_any (v : Value) (l : List Th) (k : UInt8) (w : World) (hv : Tls w v l) (hl : l.length ≤ 100000) : Calls Tryz.prog 102 #[v, .int .u8 (k.toNat : Int)] w fun en w' => en = .returned (.tuple #[.string (bs (findT l k).1), .bool (findT l k).2]) ∧ w = w' := by
  obtain ⟨a, c, rfl, hc⟩ := hv.shape
  have HC := Lib.hid hc
  clear hc hv
  obtain ⟨R, hR⟩ : ∃ R, findT l k = R := ⟨_, rfl⟩
  have HR := Lib.hid hR
  rw [hR]; clear hR
  obtain ⟨k0, hk0⟩ : ∃ k0, (k.toNat : Int) = k0 := ⟨_, rfl⟩
  have HK0 := Lib.hid hk0
  rw [hk0]; clear hk0
  go_enter Tryz.func102, Tryz.ntmps102
  go_wp2_with fail
  go_loop [6] (fun i => ∃ j : Nat, j ≤ l.length ∧ i = .int .i64 j ∧ ∀ x ∈ l.take j, x.1 ≠ k) (fun i => l.length - (intOf i).toNat)
  case atStart => exact ⟨0, by omega, rfl, by simp⟩
  case round =>
    obtain ⟨j, hj, rfl, hno⟩ := hrel
    have HN := Lib.hid hno; clear hno
    by_cases hlt : j < l.length
    · have dk : decide ((j : Int) < (l.length : Int)) = true := decide_eq_true (by omega)
      obtain ⟨b, off, rfl, hcc⟩ := HC.out.resolve_left (by intro h; rw [h] at hlt; simp at hlt)
      have c0 := (hcc j hlt).1
      have c1 := (hcc j hlt).2
      have hnext : l.take (j + 1) = l.take j ++ [l[j]] := List.take_succ_eq_append_getElem hlt
      have hfa := findT_at l k j hlt HN.out
      obtain ⟨x, hx⟩ : ∃ x, l[j] = x := ⟨_, rfl⟩
      rw [hx] at c0 c1 hnext hfa
      obtain ⟨x0, hx0⟩ : ∃ x0, (x.1.toNat : Int) = x0 := ⟨_, rfl⟩
      rw [hx0] at c0
      have HNX := Lib.hid hnext
      have HF := Lib.hid hfa
      have HX0 := Lib.hid hx0
      clear hcc hx HC hnext hfa hx0
      by_cases he : x0 = k0
      · have de : (x0 == k0) = true := by simpa using he
        have hxk : x.1 = k := UInt8.toNat_inj.1 (by have := HX0.out; have := HK0.out; omega)
        have hRR := HR.out.symm.trans (HF.out hxk)
        have HRR := Lib.hid hRR
        clear he hxk hRR
        go_wp2
        refine bodyPost_ret (v := .tuple #[.string (bs x.2), .bool true]) (by simp [results, Tryz.results102, go_sem]) rfl ⟨by rw [HRR.out], rfl⟩
      · have de : (x0 == k0) = false := by simpa using he
        have hxk : x.1 ≠ k := fun h => he (by rw [← HX0.out, ← HK0.out, h])
        have HXK := Lib.hid hxk
        clear he hxk
        go_wp2
        exact ⟨⟨j + 1, by omega, by go_num, fun y hy => by
          rw [HNX.out, List.mem_append] at hy
          rcases hy with hy | hy
          · exact HN.out y hy
          · simp at hy; subst hy; exact HXK.out⟩, by simp [intOf]; omega⟩
    · have dk : decide ((j : Int) < (l.length : Int)) = false := decide_eq_false (by omega)
      have hRR := HR.out.symm.trans (findT_no l k (by have h := HN.out; rw [List.take_of_length_le (by omega)] at h; exact h))
      have HRR := Lib.hid hRR
      clear hRR
      go_wp2
      refine bodyPost_ret (v := .tuple #[.string (bs []), .bool false]) (by simp [results, Tryz.results102, go_sem]; rfl) rfl ⟨by rw [HRR.out], rfl⟩

set_option maxRecDepth 100000 in
set_option maxHeartbeats 4000000 in
theorem find1_any (x : Th) (k0 : Int) (q : Nat) (w : World) (hq : w.cell? ⟨q, 0, none⟩ = some (.int .u8 k0)) : Calls Tryz.prog 155 #[.agg #[.int .u8 (x.1.toNat : Int), .string (bs x.2)], .pointer (some ⟨q, 0, none⟩)] w fun en w' => en = .returned (.bool ((x.1.toNat : Int) == k0)) ∧ Below w.heap.size w w' := by
  have hlt := World.block_lt_of_cell? w _ hq
  have hlt' : q < w.heap.size := hlt
  go_enter Tryz.func155, Tryz.ntmps155
  go_wp2
  go_ret
  exact ⟨rfl, (Below.refl _ _).alloc (Nat.le_refl _) _⟩
end Go.Proofs.YtlkdfofpnmpidaaGreat

/- tlv: Find, walked. -/
set_option linter.unusedVariables false
namespace Go.Proofs.YtlkdfofpnmpidaaGreat
open Go.RowKit

set_option maxRecDepth 100000 in
set_option maxHeartbeats 4000000 in
theorem idx_any (v : Value) (l : List Th) (k : UInt8) (q : Nat) (w : World) (hv : Tls w v l) (hl : l.length ≤ 100000) (hq : w.cell? ⟨q, 0, none⟩ = some (.int .u8 (k.toNat : Int))) :
    Calls Tryz.prog 154 #[v, .func (Fn.func 155) #[] #[.pointer (some ⟨q, 0, none⟩)]] w fun en w' =>
      ((∃ (i : Nat) (hi : i < l.length), en = .returned (.int .i64 i) ∧ findT l k = (l[i].2, true)) ∨ (en = .returned (.int .i64 (-1)) ∧ findT l k = ([], false))) ∧ Below w.heap.size w w' := by
  obtain ⟨a, c, rfl, hc⟩ := hv.shape
  have HC := Lib.hid hc
  clear hc hv
  obtain ⟨k0, hk0⟩ : ∃ k0, (k.toNat : Int) = k0 := ⟨_, rfl⟩
  rw [hk0] at hq
  have HK0 := Lib.hid hk0
  have HQ := Lib.hid hq
  clear hk0 hq
  go_enter Tryz.func154, Tryz.ntmps154
  go_wp2_with fail
  go_loopw [8] (fun i wr => ∃ j : Nat, j ≤ l.length ∧ i = .int .i64 j ∧ (∀ x ∈ l.take j, x.1 ≠ k) ∧ Below w.heap.size w wr) (fun i _ => l.length - (intOf i).toNat)
  case atStart => exact ⟨0, by omega, rfl, by simp, Below.refl _ _⟩
  case round =>
    obtain ⟨j, hj, rfl, hno, hb⟩ := hrel
    have HN := Lib.hid hno; clear hno
    by_cases hlt : j < l.length
    · have dk : decide ((j : Int) < (l.length : Int)) = true := decide_eq_true (by omega)
      obtain ⟨b, off, rfl, hcc⟩ := HC.out.resolve_left (by intro h; rw [h] at hlt; simp at hlt)
      have c0 := (hb.cell (World.block_lt_of_cell? w _ (hcc j hlt).1)).trans (hcc j hlt).1
      have c1 := (hb.cell (World.block_lt_of_cell? w _ (hcc j hlt).2)).trans (hcc j hlt).2
      have hq1 := (hb.cell (World.block_lt_of_cell? w _ HQ.out)).trans HQ.out
      have hnext : l.take (j + 1) = l.take j ++ [l[j]] := List.take_succ_eq_append_getElem hlt
      have hfa := findT_at l k j hlt HN.out
      have HF0 : Hid (findT l k = (l[j].2, true) → ∃ (i : Nat) (hi : i < l.length), (Ending.returned (.int .i64 j)) = .returned (.int .i64 i) ∧ findT l k = (l[i].2, true)) := fun h => ⟨j, hlt, rfl, h⟩
      obtain ⟨x, hx⟩ : ∃ x, l[j] = x := ⟨_, rfl⟩
      rw [hx] at c0 c1 hnext hfa HF0
      have hx0 : (x.1.toNat : Int) = k0 → x.1 = k := fun h => UInt8.toNat_inj.1 (by have := HK0.out; omega)
      have hx1 : ¬ (x.1.toNat : Int) = k0 → x.1 ≠ k := fun h e => h (by rw [e]; exact HK0.out)
      have HNX := Lib.hid hnext
      have HF := Lib.hid hfa
      have HX0 := Lib.hid hx0
      have HX1 := Lib.hid hx1
      have HB := Lib.hid hb
      have HQ1 := Lib.hid hq1
      clear hcc hx HC hnext hfa hx0 hx1 hb hq1
      have C := Lib.hid (find1_any x k0 q wr HQ1.out)
      obtain ⟨x0, hx0⟩ : ∃ x0, (x.1.toNat : Int) = x0 := ⟨_, rfl⟩
      rw [hx0] at c0 C HX0 HX1
      clear hx0
      go_wp2_with fail
      with_reducible refine C.out.mono ?_
      rintro en w1 ⟨rfl, hb1⟩
      have HB1 := Lib.hid (HB.out.trans (hb1.mono HB.out.size))
      clear hb1
      by_cases he : x0 = k0
      · have de : (x0 == k0) = true := by simpa using he
        have hr := HF0.out (HF.out (HX0.out he))
        have HRR := Lib.hid hr
        clear he hr
        go_wp2
        go_ret
        exact ⟨.inl HRR.out, HB1.out⟩
      · have de : (x0 == k0) = false := by simpa using he
        have hxk := HX1.out he
        have HXK := Lib.hid hxk
        clear he hxk
        go_wp2
        exact ⟨⟨j + 1, by omega, by go_num, fun y hy => by
          rw [HNX.out, List.mem_append] at hy
          rcases hy with hy | hy
          · exact HN.out y hy
          · simp at hy; subst hy; exact HXK.out, HB1.out⟩, by simp [intOf]; omega⟩
    · have dk : decide ((j : Int) < (l.length : Int)) = false := decide_eq_false (by omega)
      have hRR := findT_no l k (by have h := HN.out; rw [List.take_of_length_le (by omega)] at h; exact h)
      have HRR := Lib.hid hRR
      have HB := Lib.hid hb
      clear hRR hb
      go_wp2
      go_ret
      exact ⟨.inr ⟨rfl, HRR.out⟩, HB.out⟩

set_option maxRecDepth 100000 in
set_option maxHeartbeats 4000000 in
theorem find_any (v : Value) (l : List Th) (k : UInt8) (w : World) (hv : Tls w v l) (hl : l.length ≤ 100000) : Calls Tryz.prog 142 #[v, .int .u8 (k.toNat : Int)] w fun en w' => en = .returned (.tuple #[.string (bs (findT l k).1), .bool (findT l k).2]) ∧ Below w.heap.size w w' := by
  obtain ⟨R, hR⟩ : ∃ R, findT l k = R := ⟨_, rfl⟩
  rw [hR]
  have kk : Below w.heap.size w (w.alloc (.cells #[.int .u8 (k.toNat : Int)] 5)) := (Below.refl _ _).alloc (Nat.le_refl _) _
  have C := Lib.hid (idx_any v l k w.heap.size _ (hv.later kk) hl (by simp [go_sem]))
  have KK := Lib.hid kk
  have HV := Lib.hid hv
  obtain ⟨a, c, rfl, hc⟩ := hv.shape
  have HC := Lib.hid hc
  clear hc hv kk
  go_enter Tryz.func142, Tryz.ntmps142
  go_wp2_with fail
  with_reducible refine C.out.mono ?_
  rintro en w1 ⟨(⟨i, hi, rfl, hf⟩ | ⟨rfl, hf⟩), hb1⟩
  · obtain ⟨b, off, rfl, hcc⟩ := HC.out.resolve_left (by intro h; rw [h] at hi; simp at hi)
    have hb := KK.out.trans (hb1.mono KK.out.size)
    have c1 := (hb.cell (World.block_lt_of_cell? w _ (hcc i hi).2)).trans (hcc i hi).2
    have HB := Lib.hid hb
    obtain ⟨x, hx⟩ : ∃ x, l[i] = x := ⟨_, rfl⟩
    rw [hx] at c1 hf
    have HRR := Lib.hid (hR.symm.trans hf)
    clear hcc hb hb1 hx hf hR C HC HV KK
    have d0 : decide ((i : Int) < 0) = false := decide_eq_false (by omega)
    go_wp2
    refine bodyPost_ret (v := .tuple #[.string (bs x.2), .bool true]) (by simp [results, Tryz.results142, go_sem]) rfl ⟨by rw [HRR.out], HB.out⟩
  · have HB := Lib.hid (KK.out.trans (hb1.mono KK.out.size))
    have HRR := Lib.hid (hR.symm.trans hf)
    clear hb1 hf hR C HC HV KK
    go_wp2
    refine bodyPost_ret (v := .tuple #[.string (bs []), .bool false]) (by simp [results, Tryz.results142, go_sem]; rfl) rfl ⟨by rw [HRR.out], HB.out⟩
end Go.Proofs.YtlkdfofpnmpidaaGreat

/- lbm: Take. -/
set_option linter.unusedVariables false
namespace Go.Proofs.YtlkdfofpnmpidaaGreat
open Go.RowKit

/-- Take's steps. -/
def lm1 (f : List UInt8) := rdText f 0 4
def lmE (f : List UInt8) : Int := (rdEnd (lm1 f).2.1 (lm1 f).2.2).2
/-- A message's loop, and the error. -/
def tkL (a b : Int) (f : List UInt8) (l : List Th) : Int × Bool × Int × List UInt8 × Int :=
  if (b = 2 ∨ b = 3) ∧ lmE f = 0 then (a, decide (b = 2), numOf (lm1 f).1, (findT l 3).1, 0) else (0, false, 0, [], 4)
/-- Take's state: the message's block, the result's block, the things. -/
structure KT (w W : World) (a b c : Int) (f : List UInt8) (v : Value) : Prop where
  pb : PB 103 W w.heap.size a b c f v
  pz : LB 125 W (w.heap.size + 1) 0 false 0 []
  bel : Below w.heap.size w W
theorem LB.only {T : TypeId} {W W' : World} {q : Nat} {xlv : Int} {xrp : Bool} {xnm : Int} {xdt : List UInt8} {p : Nat} (h : LB T W q xlv xrp xnm xdt) (ho : Only p W W') (hne : q ≠ p) : LB T W' q xlv xrp xnm xdt := by
  unfold LB; rw [ho.block q h.lt (by intro e; injection e with e; exact hne e)]; exact h
section
variable {w W W' : World} {a b c : Int} {f : List UInt8} {v : Value}
theorem KT.later (h : KT w W a b c f v) (hb : Below W.heap.size W W') : KT w W' a b c f v := ⟨h.pb.later hb, h.pz.later hb, h.bel.trans (hb.mono h.bel.size)⟩
theorem KT.drew (h : KT w W a b c f v) : KT w W.drew a b c f v := h.later (Below.refl _ _).drew
theorem KT.lt (h : KT w W a b c f v) : w.heap.size + 1 < W.heap.size := h.pz.lt
theorem KT.only {p : Nat} (h : KT w W a b c f v) (ho : Only p W W') (hp : w.heap.size + 1 < p) : KT w W' a b c f v := by
  have hs := h.lt
  exact ⟨h.pb.only ho (by omega), h.pz.only ho (by omega), h.bel.trans (ho.below (by omega) (by omega))⟩
end
set_option maxRecDepth 100000 in
set_option maxHeartbeats 8000000 in
theorem lbtake_any (v : Value) (l : List Th) (a b c : Int) (f : List UInt8) (w : World) (hf : f.length ≤ 1000) (hb : 0 ≤ b ∧ b < 256) (hv : Tls w v l) (hl : l.length ≤ 1000) : Calls Tryz.prog 126 #[.agg #[.int .u8 a, .int .u8 b, .int .u8 c, .string (bs f), v]] w fun en w' =>
    en = .returned (.tuple #[.agg #[.int .u8 (tkL a b f l).1, .bool (tkL a b f l).2.1, .int .u32 (tkL a b f l).2.2.1, .string (bs (tkL a b f l).2.2.2.1)], .int .i64 (tkL a b f l).2.2.2.2]) ∧ Below w.heap.size w w' := by
  obtain ⟨vx, vk, hvv, -⟩ := hv.shape
  obtain ⟨vn, hvn⟩ : ∃ n, l.length = n := ⟨_, rfl⟩
  rw [hvn] at hvv
  subst hvv
  obtain ⟨R, hR⟩ : ∃ R, tkL a b f l = R := ⟨_, rfl⟩
  rw [hR]
  obtain ⟨nm, l1, e1, h1⟩ : ∃ y l e, numOf (lm1 f).1 = y ∧ (lm1 f).2.1 = l ∧ (lm1 f).2.2 = e := ⟨_, _, _, rfl, rfl, rfl⟩
  have n1 : l1.length ≤ f.length := by have := rd_le f 0 4; rw [show rdText f 0 4 = lm1 f from rfl, h1.2.1] at this; exact this
  obtain ⟨l5, E, h5⟩ : ∃ l e, (rdEnd l1 e1).1 = l ∧ (rdEnd l1 e1).2 = e := ⟨_, _, rfl, rfl⟩
  have hE : lmE f = E := by unfold lmE; rw [h1.2.1, h1.2.2, h5.2]
  obtain ⟨dt, hdt⟩ : ∃ y, (findT l 3).1 = y := ⟨_, rfl⟩
  obtain ⟨dk, hdk⟩ : ∃ y, (findT l 3).2 = y := ⟨_, rfl⟩
  have U1 : Hid (∀ w p, Rd w p f 0 → Calls Tryz.prog 139 #[.pointer (some ⟨p, 0, none⟩)] w fun en w' => en = .returned (.int .u32 nm) ∧ Rd w' p l1 e1 ∧ Only p w w') := fun w p hr => by
    have h := U32_any p f 0 w hr (by omega)
    rw [show rdText f 0 4 = lm1 f from rfl, h1.1, h1.2.1, h1.2.2] at h; exact h
  have U5 : Hid (∀ w p, Rd w p l1 e1 → Calls Tryz.prog 140 #[.pointer (some ⟨p, 0, none⟩)] w fun en w' => en = .returned (.int .i64 E) ∧ Rd w' p l5 E ∧ Only p w w') := fun w p hr => by
    have h := end_any p l1 e1 w hr (by omega)
    rw [h5.1, h5.2] at h; exact h
  have F1 : Hid (∀ w, Tls w (.slice vx vn vk) l → Calls Tryz.prog 142 #[.slice vx vn vk, .int .u8 3] w fun en w' => en = .returned (.tuple #[.string (bs dt), .bool dk]) ∧ Below w.heap.size w w') := fun w hv => by
    have h := find_any (.slice vx vn vk) l 3 w hv (by omega)
    rw [hdt, hdk] at h; exact h
  have hRR : R = if (b = 2 ∨ b = 3) ∧ E = 0 then (a, decide (b = 2), nm, dt, 0) else (0, false, 0, [], 4) := by
    rw [← hR]; unfold tkL; rw [hE, h1.1, hdt]
  have HRR := Lib.hid hRR
  have HB := Lib.hid hb
  obtain ⟨Q, hQ⟩ : ∃ y, decide (b = 2) = y := ⟨_, rfl⟩
  obtain ⟨I, hI⟩ : ∃ y, decide (b = 2 ∨ b = 3) = y := ⟨_, rfl⟩
  have LK1 : Hid (∀ W q, RMap W q → (Instr.lookup 245 (.map (some q)) (.int .u8 b) true).run Tryz.prog W = .ok (.tuple #[.bool Q, .bool I]) W) := fun W q h => by
    rw [← hQ, ← hI]; exact rmap_look h b hb
  have HQ := Lib.hid hQ
  have HI := Lib.hid hI
  clear hQ hI
  clear hRR hR h1 n1 h5 hE hdt hdk hf hb hl hvn
  go_enter Tryz.func126, Tryz.ntmps126
  go_upto_region 1 with fail
  have pb0 := (PB.new 103 w a b c f (.slice vx vn vk)).later ((Below.refl _ _).alloc (Nat.le_refl _) (.cells #[.int .u8 0, .bool false, .int .u32 0, .string { data := #[] }] 125))
  have pz : LB 125 ((w.alloc (.cells #[.int .u8 a, .int .u8 b, .int .u8 c, .string (bs f), .slice vx vn vk] 103)).alloc (.cells #[.int .u8 0, .bool false, .int .u32 0, .string { data := #[] }] 125)) (w.heap.size + 1) 0 false 0 [] := by
    have := LB.new 125 (w.alloc (.cells #[.int .u8 a, .int .u8 b, .int .u8 c, .string (bs f), .slice vx vn vk] 103)) 0 false 0 []
    rw [show (w.alloc (.cells #[.int .u8 a, .int .u8 b, .int .u8 c, .string (bs f), .slice vx vn vk] 103)).heap.size = w.heap.size + 1 by simp] at this
    exact this
  have hb0 : Below w.heap.size w ((w.alloc (.cells #[.int .u8 a, .int .u8 b, .int .u8 c, .string (bs f), .slice vx vn vk] 103)).alloc (.cells #[.int .u8 0, .bool false, .int .u32 0, .string { data := #[] }] 125)) := ((Below.refl _ _).alloc (Nat.le_refl _) _).alloc (by simp) _
  obtain ⟨w0, hw0⟩ : ∃ k, (w.alloc (.cells #[.int .u8 a, .int .u8 b, .int .u8 c, .string (bs f), .slice vx vn vk] 103)).alloc (.cells #[.int .u8 0, .bool false, .int .u32 0, .string { data := #[] }] 125) = k := ⟨_, rfl⟩
  have HV := Lib.hid hv
  rw [hw0] at pb0 pz hb0 ⊢
  have KT0 := Lib.hid (KT.mk pb0 pz hb0)
  clear hw0 pb0 pz hb0 hv
  go_cut [4, 5] (fun s4 s5 wx => s4 = .bool Q ∧ s5 = .bool I ∧ Hid (KT w wx a b c f (.slice vx vn vk)))
  case first =>
    have KTd := Lib.hid KT0.out.drew
    have f1 := KTd.out.pb.c1
    go_region_law
      (first
        | (go_simp; go_at_call 141; (with_reducible refine (replies_any _).mono ?_); rintro en wx ⟨qm, rfl, hmx, hbx⟩; have KTx := Lib.hid (KTd.out.later hbx); have f1x := KTx.out.pb.c1; have hlk := LK1.out _ _ hmx))
    all_goals go_wp2_with fail
    all_goals go_meet
    all_goals exact ⟨rfl, rfl, KTx⟩
  case rest =>
    obtain ⟨rfl, rfl, KT1⟩ := hcut
    clear KT0
    have c3 := KT1.out.pb.c3
    go_wp2_with fail
    with_reducible refine (of_any f wc).mono ?_
    rintro en w1 ⟨rfl, hr1, hb1, hlt⟩
    have KT2 := Lib.hid (KT1.out.later hb1)
    have HP := Lib.hid KT1.out.lt
    obtain ⟨p, hp⟩ : ∃ p, wc.heap.size = p := ⟨_, rfl⟩
    rw [hp] at hr1 HP ⊢
    clear hb1 hlt c3 KT1 hp
    go_wp2_with fail
    with_reducible refine (U1.out _ _ hr1).mono ?_
    rintro en w2 ⟨rfl, hr2, ho2⟩
    have KT3 := Lib.hid (KT2.out.only ho2 HP.out)
    clear hr1 ho2 KT2
    have z0 := KT3.out.pz.c0
    have z1 := KT3.out.pz.c1
    have z2 := KT3.out.pz.c2
    have z3 := KT3.out.pz.c3
    have y0 := KT3.out.pz.fr 0
    have y1 := KT3.out.pz.fr 1
    have y2 := KT3.out.pz.fr 2
    have y3 := KT3.out.pz.fr 3
    cases I with
    | false =>
      have hR2 : R = (0, false, 0, [], 4) := by rw [HRR.out, if_neg (fun h => of_decide_eq_false HI.out h.1)]
      have HR2 := Lib.hid hR2
      clear hR2
      go_wp2_with fail
      refine bodyPost_ret (v := .tuple #[.agg #[.int .u8 0, .bool false, .int .u32 0, .string (bs [])], .int .i64 4]) (by simp [results, Tryz.results126, go_sem, z0, z1, z2, z3]; rfl) rfl ⟨by rw [HR2.out], below_set (below_set (below_set (below_set KT3.out.bel (by omega) _) (by omega) _) (by omega) _) (by omega) _⟩
    | true =>
      clear z0 z1 z2 z3 y0 y1 y2 y3
      go_wp2_with fail
      with_reducible refine (U5.out _ _ hr2).mono ?_
      rintro en w3 ⟨rfl, hr3, ho3⟩
      have KT4 := Lib.hid (KT3.out.only ho3 HP.out)
      clear hr2 hr3 ho3 KT3
      have z0 := KT4.out.pz.c0
      have z1 := KT4.out.pz.c1
      have z2 := KT4.out.pz.c2
      have z3 := KT4.out.pz.c3
      have y0 := KT4.out.pz.fr 0
      have y1 := KT4.out.pz.fr 1
      have y2 := KT4.out.pz.fr 2
      have y3 := KT4.out.pz.fr 3
      by_cases hE : E = 0
      · have dE : (E != 0) = false := by rw [hE]; rfl
        have hR2 : R = (a, Q, nm, dt, 0) := by rw [HRR.out, if_pos ⟨of_decide_eq_true HI.out, hE⟩, HQ.out]
        have HR2 := Lib.hid hR2
        clear hR2 hE z0 z1 z2 z3 y0 y1 y2 y3
        have c4 := KT4.out.pb.c4
        go_wp2_with fail
        with_reducible refine (F1.out _ (HV.out.later KT4.out.bel)).mono ?_
        rintro en w4 ⟨rfl, hb4⟩
        have KT5 := Lib.hid (KT4.out.later hb4)
        clear hb4 c4 KT4
        have c0 := KT5.out.pb.c0
        have z0 := KT5.out.pz.c0
        have z1 := KT5.out.pz.c1
        have z2 := KT5.out.pz.c2
        have z3 := KT5.out.pz.c3
        have y0 := KT5.out.pz.fr 0
        have y1 := KT5.out.pz.fr 1
        have y2 := KT5.out.pz.fr 2
        have y3 := KT5.out.pz.fr 3
        go_wp2_with fail
        refine bodyPost_ret (v := .tuple #[.agg #[.int .u8 a, .bool Q, .int .u32 nm, .string (bs dt)], .int .i64 0]) (by simp [results, Tryz.results126, go_sem, z0, z1, z2, z3]) rfl ⟨by rw [HR2.out], below_set (below_set (below_set (below_set KT5.out.bel (by omega) _) (by omega) _) (by omega) _) (by omega) _⟩
      · have dE : (E != 0) = true := by rw [bne_iff_ne]; exact hE
        have hR2 : R = (0, false, 0, [], 4) := by rw [HRR.out, if_neg (fun h => hE h.2)]
        have HR2 := Lib.hid hR2
        clear hR2 hE
        go_wp2_with fail
        refine bodyPost_ret (v := .tuple #[.agg #[.int .u8 0, .bool false, .int .u32 0, .string (bs [])], .int .i64 4]) (by simp [results, Tryz.results126, go_sem, z0, z1, z2, z3]; rfl) rfl ⟨by rw [HR2.out], below_set (below_set (below_set (below_set KT4.out.bel (by omega) _) (by omega) _) (by omega) _) (by omega) _⟩
end Go.Proofs.YtlkdfofpnmpidaaGreat
