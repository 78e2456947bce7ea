/- ZB26: the texts N7 as one. -/
import Derived.Test.YtpkkjbmgbgakdaaGreatDoorZB25
import Derived.Test.YtpkkjbmgbgakdaaGreatDoorZB16
/- tree: New, of hosts' ports. -/
set_option linter.unusedVariables false
namespace Go.Proofs.YtpkkjbmgbgakdaaGreatDoor
open Go.RowKit

theorem Ow.setB {α : Type} {k : Nat} {f : α → List Value} {E : TypeId} {w : World} {B : Nat} {v : Value} {l : List α} (h : Ow k f E w B v l) {q : Nat} (hq : q < B) (o : Nat) (u : Value) : Ow k f E (w.setCell ⟨q, o, Option.none⟩ u) B v l := by
  obtain ⟨h1, h2⟩ := h
  refine ⟨h1, ?_⟩
  rcases h2 with h2 | ⟨g, cap, cur, hv, hg, hh, r⟩
  · exact .inl h2
  · exact .inr ⟨g, cap, cur, hv, hg, by rw [Below.heap_setCell _ _ _ _ (by intro e; simp at e; omega)]; exact hh, r⟩
/-- A row that is not empty: its block. -/
theorem Ow.ne {α : Type} {k : Nat} {f : α → List Value} {E : TypeId} {w : World} {B : Nat} {v : Value} {l : List α} (h : Ow k f E w B v l) (hl : 0 < l.length) : ∃ g cap t, v = .slice (some ⟨g, 0, Option.none⟩) l.length cap ∧ B ≤ g ∧ l.length ≤ cap ∧ w.heap[g]? = some (.cells (l.flatMap f ++ t).toArray E (0, 0)) := by
  obtain ⟨h1, h2⟩ := h
  rcases h2 with h2 | ⟨g, cap, cur, hv, hg, hh, h3, h4, h5, h6⟩
  · omega
  · refine ⟨g, cap, cur.toList.drop (l.length * k), hv, hg, h3, ?_⟩
    rw [← h6, List.take_append_drop, Array.toArray_toList]
    exact hh
theorem info_port : (Tryz.prog.info? 175).map (fun i => (i.zero, i.size, i.bytes)) = some (some (.agg #[.int .u32 0, .bool false, .int .u64 0, .int .u32 0, .int .u64 0, .int .u8 0, .int .u8 0, .int .u64 0, .int .u8 0, .bool false, .bool false, .bool false, .int .u64 0, .int .i64 0, .bool false, .int .i64 0]), 16, 96) := by kernel_rfl
theorem tpC_one (x : TP) : ∀ u ∈ tpC x, u.oneCell' = true := by
  intro u hu
  simp [tpC] at hu
  rcases hu with rfl | rfl | rfl | rfl | rfl | rfl | rfl | rfl | rfl | rfl | rfl | rfl | rfl | rfl | rfl | rfl <;> rfl
set_option maxRecDepth 100000 in
set_option maxHeartbeats 4000000 in
theorem tnew_host (n c b off : Nat) (w : World) (hn : 1 ≤ n ∧ n ≤ 8) (hc : n ≤ c) (hz : ∀ j, j < n → w.cell? ⟨b, off + j, none⟩ = some (.int .u32 0)) :
    Calls Tryz.prog 28 #[.int .u64 16, .slice (some ⟨b, off, none⟩) n c] w fun en w' => ∃ (m g cap : Nat) (t : List Value), en = .returned (.tuple #[.pointer (some ⟨m, 0, none⟩), .int .i64 0]) ∧ TR w' m g cap t (hm 16 (List.replicate n false)) ∧ Below w.heap.size w w' ∧ w.heap.size ≤ m ∧ w.heap.size ≤ g := by
  have d1 : decide ((n : Int) < 1) = false := decide_eq_false (by omega)
  have d8 : decide ((8 : Int) < (n : Int)) = false := decide_eq_false (by omega)
  have hbb : b < w.heap.size := World.block_lt_of_cell? w _ (hz 0 (by omega))
  have HZ := Lib.hid hz
  have HN := Lib.hid hn
  clear hz hn
  have hb0 := (Below.refl w.heap.size w).alloc (Nat.le_refl _) (.cells #[.int .u64 16, .slice none 0 0, .int .u64 16, .int .u32 0, .int .i64 (-1), .int .u8 0, .int .u64 1, .int .u8 0] 169)
  have g0 := GB.new 169 w #[.int .u64 16, .slice none 0 0, .int .u64 16, .int .u32 0, .int .i64 (-1), .int .u8 0, .int .u64 1, .int .u8 0]
  obtain ⟨w0, hw0⟩ : ∃ z, w.alloc (.cells #[.int .u64 16, .slice none 0 0, .int .u64 16, .int .u32 0, .int .i64 (-1), .int .u8 0, .int .u64 1, .int .u8 0] 169) = z := ⟨_, rfl⟩
  rw [hw0] at hb0 g0
  have hz0 : w0.heap.size = w.heap.size + 1 := by rw [← hw0]; simp
  have G0 := Lib.hid g0
  have HB0 := Lib.hid hb0
  clear g0 hb0
  go_enter Tryz.func28, Tryz.ntmps28
  go_upto_region 4 with fail
  clear hw0
  go_wp2_with fail
  go_loopw [24] (fun i wr => ∃ (k : Nat) (v : Value), k ≤ n ∧ i = .int .i64 k ∧ GB 169 wr w.heap.size #[.int .u64 16, v, .int .u64 16, .int .u32 0, .int .i64 (-1), .int .u8 0, .int .u64 1, .int .u8 0] ∧ Ow 16 tpC 175 wr (w.heap.size + 1) v (List.replicate k (hp false)) ∧ Below w.heap.size w wr) (fun i _ => n - (intOf i).toNat)
  case atStart => exact ⟨0, _, by omega, rfl, G0.out, Ow.none _ _, HB0.out⟩
  case round =>
    obtain ⟨k, v, hk, rfl, gq, ho, hb⟩ := hrel
    by_cases hlt : k < n
    · have dk : decide ((k : Int) < (n : Int)) = true := decide_eq_true (by omega)
      have ck : wr.cell? ⟨b, off + k, none⟩ = some (.int .u32 0) := (hb.cell (p := ⟨b, off + k, none⟩) hbb).trans (HZ.out k hlt)
      have HG := Lib.hid gq
      have HO := Lib.hid ho
      have HB := Lib.hid hb
      have q1 : wr.cell? ⟨w.heap.size, 1, none⟩ = some v := gq.c 1 _ rfl
      have qf := gq.fr 1
      have hql := gq.lt
      clear gq ho hb
      have hlit : Rw 16 tpC (wr.alloc (.cells #[.int .u32 0, .bool false, .int .u64 0, .int .u32 0, .int .u64 0, .int .u8 0, .int .u8 0, .int .u64 0, .int .u8 0, .bool false, .bool false, .bool false, .int .u64 0, .int .i64 0, .bool false, .int .i64 0] 175)) (.slice (some ⟨wr.heap.size, 0, none⟩) 1 1) [hp false] := (Ow.lit (E := 175) tpC_len wr 0 (hp false) #[.int .u32 0, .bool false, .int .u64 0, .int .u32 0, .int .u64 0, .int .u8 0, .int .u8 0, .int .u64 0, .int .u8 0, .bool false, .bool false, .bool false, .int .u64 0, .int .i64 0, .bool false, .int .i64 0] rfl (Nat.zero_le _)).rw tpC_len
      have HL := Lib.hid hlit
      have hn8 := HN.out.2
      have hbz := HB.out.size
      have hol := HO.out.later ((Below.refl _ _).alloc (Nat.le_refl _) (.cells #[.int .u32 0, .bool false, .int .u64 0, .int .u32 0, .int .u64 0, .int .u8 0, .int .u8 0, .int .u64 0, .int .u8 0, .bool false, .bool false, .bool false, .int .u64 0, .int .i64 0, .bool false, .int .i64 0] 175))
      have HOL := Lib.hid hol
      clear hlit hol
      go_upto_region 9 with fail
      go_wp2_with (at_builtin; refine wpList_append_rw tpC_len tpC_one 175 167 _ 96 Tryz.underlying167 info_port rfl (by decide) (by decide) rfl (.tmp 34) (.tmp 37) rfl (w.heap.size + 1) _ _ rfl HOL.out _ _ rfl HL.out (by simp; omega) (by simp; omega) ?_; intro v1 w1 ho1 hb1; obtain ⟨g1, cap1, t1, rfl, hg1, hc1, -⟩ := ho1.ne (by simp); have qz : w1.cell? ⟨w.heap.size, 1, none⟩ = some v := (hb1.cell (p := ⟨w.heap.size, 1, none⟩) (by show w.heap.size < w.heap.size + 1; omega)).trans (by exact (((Below.refl _ _).alloc (Nat.le_refl _) _).cell (p := ⟨w.heap.size, 1, none⟩) hql).trans q1); have qzf : w1.frozen? ⟨w.heap.size, 1, none⟩ = false := (hb1.frozen (p := ⟨w.heap.size, 1, none⟩) (by show w.heap.size < w.heap.size + 1; omega)).trans (by exact (((Below.refl _ _).alloc (Nat.le_refl _) _).frozen (p := ⟨w.heap.size, 1, none⟩) hql).trans qf))
      have hrep : List.replicate (k + 1) (hp false) = List.replicate k (hp false) ++ [hp false] := List.replicate_succ'
      have hlen : (List.replicate k (hp false) ++ [hp false]).length = k + 1 := by simp
      rw [hlen] at ho1
      refine ⟨⟨k + 1, _, by omega, by go_num, ((HG.out.later ((Below.refl _ _).alloc (Nat.le_refl _) _)).below (Nat.lt_succ_self _) hb1).set 1 _, ?_, ?_⟩, by simp [intOf]; omega⟩
      · rw [hrep]; exact ho1.setB (Nat.lt_succ_self _) 1 _
      · exact below_set ((HB.out.alloc HB.out.size _).trans (hb1.mono (Nat.le_succ _))) (Nat.le_refl _) _
    · have dk : decide ((k : Int) < (n : Int)) = false := decide_eq_false (by omega)
      obtain rfl : k = n := by omega
      obtain ⟨g, cap, t, rfl, hg, hcp, hr⟩ := ho.ne (by simp; have := HN.out.1; omega)
      have hlr : (List.replicate k (hp false)).length = k := by simp
      have hT : TR wr w.heap.size g cap t (hm 16 (List.replicate k false)) := by
        have e1 : (hm 16 (List.replicate k false)).P = List.replicate k (hp false) := by simp [hm]
        refine ⟨?_, ?_, by omega, by rw [e1, hlr]; exact HN.out, by rw [e1]; exact hcp, by show (0 : Int) ≤ 16 ∧ (16 : Int) < _; decide⟩
        · rw [e1]; exact gq
        · unfold RowP; rw [e1]; exact hr
      have HT := Lib.hid hT
      have HB := Lib.hid hb
      clear hT hb gq ho hr
      go_wp2
      refine bodyPost_ret (v := .tuple #[.pointer (some ⟨w.heap.size, 0, none⟩), .int .i64 0]) (by simp [results, Tryz.results28, go_sem]) rfl ⟨_, _, _, _, rfl, HT.out, HB.out, Nat.le_refl _, by omega⟩
end Go.Proofs.YtpkkjbmgbgakdaaGreatDoor
