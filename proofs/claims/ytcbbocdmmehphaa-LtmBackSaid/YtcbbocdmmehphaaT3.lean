/- tlv: Find, walked. -/
import Derived.Test.YtcbbocdmmehphaaT2
set_option linter.unusedVariables false
namespace Go.Proofs.Ytcbbocdmmehphaa
open Go.RowKit

set_option maxRecDepth 100000 in
set_option maxHeartbeats 4000000 in
theorem idx_any (v : Value) (l : List Th) (k : UInt8) (q : Nat) (w : World) (hv : Tls w v l) (hl : l.length ≤ 100000) (hq : w.cell? ⟨q, 0, none⟩ = some (.int .u8 (k.toNat : Int))) :
    Calls Try.prog 92 #[v, .func (Fn.func 93) #[] #[.pointer (some ⟨q, 0, none⟩)]] w fun en w' =>
      ((∃ (i : Nat) (hi : i < l.length), en = .returned (.int .i64 i) ∧ findT l k = (l[i].2, true)) ∨ (en = .returned (.int .i64 (-1)) ∧ findT l k = ([], false))) ∧ Below w.heap.size w w' := by
  obtain ⟨a, c, rfl, hc⟩ := hv.shape
  have HC := Lib.hid hc
  clear hc hv
  obtain ⟨k0, hk0⟩ : ∃ k0, (k.toNat : Int) = k0 := ⟨_, rfl⟩
  rw [hk0] at hq
  have HK0 := Lib.hid hk0
  have HQ := Lib.hid hq
  clear hk0 hq
  go_enter Try.func92, Try.ntmps92
  go_wp2_with fail
  go_loopw [8] (fun i wr => ∃ j : Nat, j ≤ l.length ∧ i = .int .i64 j ∧ (∀ x ∈ l.take j, x.1 ≠ k) ∧ Below w.heap.size w wr) (fun i _ => l.length - (intOf i).toNat)
  case atStart => exact ⟨0, by omega, rfl, by simp, Below.refl _ _⟩
  case round =>
    obtain ⟨j, hj, rfl, hno, hb⟩ := hrel
    have HN := Lib.hid hno; clear hno
    by_cases hlt : j < l.length
    · have dk : decide ((j : Int) < (l.length : Int)) = true := decide_eq_true (by omega)
      obtain ⟨b, off, rfl, hcc⟩ := HC.out.resolve_left (by intro h; rw [h] at hlt; simp at hlt)
      have c0 := (hb.cell (World.block_lt_of_cell? w _ (hcc j hlt).1)).trans (hcc j hlt).1
      have c1 := (hb.cell (World.block_lt_of_cell? w _ (hcc j hlt).2)).trans (hcc j hlt).2
      have hq1 := (hb.cell (World.block_lt_of_cell? w _ HQ.out)).trans HQ.out
      have hnext : l.take (j + 1) = l.take j ++ [l[j]] := List.take_succ_eq_append_getElem hlt
      have hfa := findT_at l k j hlt HN.out
      have HF0 : Hid (findT l k = (l[j].2, true) → ∃ (i : Nat) (hi : i < l.length), (Ending.returned (.int .i64 j)) = .returned (.int .i64 i) ∧ findT l k = (l[i].2, true)) := fun h => ⟨j, hlt, rfl, h⟩
      obtain ⟨x, hx⟩ : ∃ x, l[j] = x := ⟨_, rfl⟩
      rw [hx] at c0 c1 hnext hfa HF0
      have hx0 : (x.1.toNat : Int) = k0 → x.1 = k := fun h => UInt8.toNat_inj.1 (by have := HK0.out; omega)
      have hx1 : ¬ (x.1.toNat : Int) = k0 → x.1 ≠ k := fun h e => h (by rw [e]; exact HK0.out)
      have HNX := Lib.hid hnext
      have HF := Lib.hid hfa
      have HX0 := Lib.hid hx0
      have HX1 := Lib.hid hx1
      have HB := Lib.hid hb
      have HQ1 := Lib.hid hq1
      clear hcc hx HC hnext hfa hx0 hx1 hb hq1
      have C := Lib.hid (find1_any x k0 q wr HQ1.out)
      obtain ⟨x0, hx0⟩ : ∃ x0, (x.1.toNat : Int) = x0 := ⟨_, rfl⟩
      rw [hx0] at c0 C HX0 HX1
      clear hx0
      go_wp2_with fail
      with_reducible refine C.out.mono ?_
      rintro en w1 ⟨rfl, hb1⟩
      have HB1 := Lib.hid (HB.out.trans (hb1.mono HB.out.size))
      clear hb1
      by_cases he : x0 = k0
      · have de : (x0 == k0) = true := by simpa using he
        have hr := HF0.out (HF.out (HX0.out he))
        have HRR := Lib.hid hr
        clear he hr
        go_wp2
        go_ret
        exact ⟨.inl HRR.out, HB1.out⟩
      · have de : (x0 == k0) = false := by simpa using he
        have hxk := HX1.out he
        have HXK := Lib.hid hxk
        clear he hxk
        go_wp2
        exact ⟨⟨j + 1, by omega, by go_num, fun y hy => by
          rw [HNX.out, List.mem_append] at hy
          rcases hy with hy | hy
          · exact HN.out y hy
          · simp at hy; subst hy; exact HXK.out, HB1.out⟩, by simp [intOf]; omega⟩
    · have dk : decide ((j : Int) < (l.length : Int)) = false := decide_eq_false (by omega)
      have hRR := findT_no l k (by have h := HN.out; rw [List.take_of_length_le (by omega)] at h; exact h)
      have HRR := Lib.hid hRR
      have HB := Lib.hid hb
      clear hRR hb
      go_wp2
      go_ret
      exact ⟨.inr ⟨rfl, HRR.out⟩, HB.out⟩

set_option maxRecDepth 100000 in
set_option maxHeartbeats 4000000 in
theorem find_any (v : Value) (l : List Th) (k : UInt8) (w : World) (hv : Tls w v l) (hl : l.length ≤ 100000) : Calls Try.prog 74 #[v, .int .u8 (k.toNat : Int)] w fun en w' => en = .returned (.tuple #[.string (bs (findT l k).1), .bool (findT l k).2]) ∧ Below w.heap.size w w' := by
  obtain ⟨R, hR⟩ : ∃ R, findT l k = R := ⟨_, rfl⟩
  rw [hR]
  have kk : Below w.heap.size w (w.alloc (.cells #[.int .u8 (k.toNat : Int)] 5)) := (Below.refl _ _).alloc (Nat.le_refl _) _
  have C := Lib.hid (idx_any v l k w.heap.size _ (hv.later kk) hl (by simp [go_sem]))
  have KK := Lib.hid kk
  have HV := Lib.hid hv
  obtain ⟨a, c, rfl, hc⟩ := hv.shape
  have HC := Lib.hid hc
  clear hc hv kk
  go_enter Try.func74, Try.ntmps74
  go_wp2_with fail
  with_reducible refine C.out.mono ?_
  rintro en w1 ⟨(⟨i, hi, rfl, hf⟩ | ⟨rfl, hf⟩), hb1⟩
  · obtain ⟨b, off, rfl, hcc⟩ := HC.out.resolve_left (by intro h; rw [h] at hi; simp at hi)
    have hb := KK.out.trans (hb1.mono KK.out.size)
    have c1 := (hb.cell (World.block_lt_of_cell? w _ (hcc i hi).2)).trans (hcc i hi).2
    have HB := Lib.hid hb
    obtain ⟨x, hx⟩ : ∃ x, l[i] = x := ⟨_, rfl⟩
    rw [hx] at c1 hf
    have HRR := Lib.hid (hR.symm.trans hf)
    clear hcc hb hb1 hx hf hR C HC HV KK
    have d0 : decide ((i : Int) < 0) = false := decide_eq_false (by omega)
    go_wp2
    refine bodyPost_ret (v := .tuple #[.string (bs x.2), .bool true]) (by simp [results, Try.results74, go_sem]) rfl ⟨by rw [HRR.out], HB.out⟩
  · have HB := Lib.hid (KK.out.trans (hb1.mono KK.out.size))
    have HRR := Lib.hid (hR.symm.trans hf)
    clear hb1 hf hR C HC HV KK
    go_wp2
    refine bodyPost_ret (v := .tuple #[.string (bs []), .bool false]) (by simp [results, Try.results74, go_sem]; rfl) rfl ⟨by rw [HRR.out], HB.out⟩
end Go.Proofs.Ytcbbocdmmehphaa
