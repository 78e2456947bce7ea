/- ZB30: the texts N3, N5 as one. -/
import Derived.Test.YtpkkjbmgbgakdaaGreatDoorZB25
import Derived.Test.YtpkkjbmgbgakdaaGreatDoorZB16
import Derived.Deep.RegionLaw
/- tree: machines of hosts' ports: path, choose, power, Up, New. -/
set_option linter.unusedVariables false
namespace Go.Proofs.YtpkkjbmgbgakdaaGreatDoor
open Go.RowKit

/-- A path's cells, noughts. -/
def pathZ : Array Value := #[.int .u64 0, .int .u32 0, .int .u64 0, .int .u8 0, .int .u8 0]
set_option maxRecDepth 100000 in
set_option maxHeartbeats 4000000 in
theorem vleast_nil (w : World) : Calls Tryz.prog 148 #[.slice none 0 0] w fun en w' => en = .returned (.tuple #[.agg #[.int .u64 0, .int .u32 0, .int .u64 0, .int .u8 0, .int .u8 0], .bool false]) ∧ Below w.heap.size w w' := by
  have hb : Below w.heap.size w (w.alloc (.cells pathZ 263)) := (Below.refl _ _).alloc (Nat.le_refl _) _
  have HB := Lib.hid hb
  clear hb
  go_enter Tryz.func148, Tryz.ntmps148
  go_wp2
  exact bodyPost_ret (v := .tuple #[.agg pathZ, .bool false]) (res_two (p := 2) (u := 3) (d := _) rfl rfl Tryz.underlying263 _ _ w.heap.size _ rfl (GB.new _ _ _) (by kernel_rfl)) rfl ⟨rfl, HB.out⟩
theorem hostR {w : World} {m g cap : Nat} {t : List Value} {id : Int} {U : List Bool} (h : TR w m g cap t (hm id U)) (i : Nat) (hi : i < U.length) : w.rangeAt g (i * 16 + 2) (bpC bp0) := fun j v hv => by
  have hj : j < 11 := by have := (List.getElem?_eq_some_iff.1 hv).1; simpa [bpC] using this
  rw [Nat.add_assoc]
  refine hostC h i hi (2 + j) (by omega) v ?_
  rw [← hv]
  have : tpC (hp (upH U i)) = [.int .u32 0, .bool (upH U i)] ++ (bpC bp0 ++ [.int .i64 0, .bool false, .int .i64 0]) := rfl
  rw [this, Nat.add_comm, List.getElem?_append_right (by simp)]
  simp only [List.length_cons, List.length_nil, Nat.add_sub_cancel]
  rw [List.getElem?_append_left (by simpa [bpC] using hj)]
theorem info_bpdu : (Tryz.prog.info? 173).map (·.size) = some (List.length ([.int .u64 0, .int .u32 0, .int .u64 0, .int .u8 0, .int .u8 0, .int .u64 0, .int .u8 0, .bool false, .bool false, .bool false, .int .u64 0] : List Value)) := by kernel_rfl
set_option maxRecDepth 100000 in
set_option maxHeartbeats 4000000 in
theorem tpath_host (m g cap : Nat) (t : List Value) (id : Int) (U : List Bool) (i : Nat) (hi : i < U.length) (w : World) (h : TR w m g cap t (hm id U)) : Calls Tryz.prog 147 #[.pointer (some ⟨m, 0, none⟩), .int .i64 i] w fun en w' => en = .returned (.tuple #[.agg #[.int .u64 0, .int .u32 0, .int .u64 0, .int .u8 0, .int .u8 0], .bool false]) ∧ Below w.heap.size w w' := by
  have hl : (hm id U).P.length = U.length := by simp [hm]
  have HN : Hid (i < U.length ∧ U.length ≤ 8 ∧ U.length ≤ cap) := Lib.hid ⟨hi, by have := h.n1.2; rw [hl] at this; exact this, by have := h.cp; rw [hl] at this; exact this⟩
  have hb := (Below.refl w.heap.size w).alloc (Nat.le_refl _) (.cells pathZ 263)
  have hp0 := GB.new 263 w pathZ
  obtain ⟨w0, hw0⟩ : ∃ z, w.alloc (.cells pathZ 263) = z := ⟨_, rfl⟩
  have hw0' : w.alloc (.cells #[.int .u64 0, .int .u32 0, .int .u64 0, .int .u8 0, .int .u8 0] 263) = w0 := hw0
  rw [hw0] at hb hp0
  have hz : w0.heap.size = w.heap.size + 1 := by rw [← hw0]; simp
  have T0 := h.later hb
  have c1 := T0.c1
  rw [hl] at c1
  have R0 : Hid (w0.rangeAt g (i * 16 + 2) [.int .u64 0, .int .u32 0, .int .u64 0, .int .u8 0, .int .u8 0, .int .u64 0, .int .u8 0, .bool false, .bool false, .bool false, .int .u64 0]) := Lib.hid (hostR T0 i hi)
  have k0 : w0.cell? ⟨g, i * 16, none⟩ = some (.int .u32 0) := hostC T0 i hi 0 (by decide) _ rfl
  have k1 : w0.cell? ⟨g, i * 16 + 1, none⟩ = some (.bool (upH U i)) := hostC T0 i hi 1 (by decide) _ rfl
  have hi' := HN.out.1
  have hn8 := HN.out.2.1
  have hnc := HN.out.2.2
  have HB := Lib.hid hb
  have HP := Lib.hid hp0
  clear h T0 hb hp0 hw0
  go_enter Tryz.func147, Tryz.ntmps147
  go_upto_region 1 with fail
  clear hw0'
  go_upto_region 2 with fail
  go_upto_region 3 with ((with_reducible refine wpList_load_mid rfl 173 (.tmp 18) rfl g (i * 16 + 2) ?hx [.int .u64 0, .int .u32 0, .int .u64 0, .int .u8 0, .int .u8 0, .int .u64 0, .int .u8 0, .bool false, .bool false, .bool false, .int .u64 0] _ R0.out Tryz.underlying173 ?hu info_bpdu ?_); (case hx => rfl); (case hu => rfl))
  have hb1 : Below w.heap.size w (w0.alloc (.cells #[.int .u64 0, .int .u32 0, .int .u64 0, .int .u8 0, .int .u8 0, .int .u64 0, .int .u8 0, .bool false, .bool false, .bool false, .int .u64 0] 173)) := HB.out.alloc HB.out.size _
  have hb2 : Below w0.heap.size w0 (w0.alloc (.cells #[.int .u64 0, .int .u32 0, .int .u64 0, .int .u8 0, .int .u8 0, .int .u64 0, .int .u8 0, .bool false, .bool false, .bool false, .int .u64 0] 173)) := (Below.refl _ _).alloc (Nat.le_refl _) _
  have gp := HP.out.later hb2
  have e0 := (hb2.cell (World.block_lt_of_cell? _ _ k0)).trans k0
  have e1 := (hb2.cell (World.block_lt_of_cell? _ _ k1)).trans k1
  obtain ⟨w1, hw1⟩ : ∃ z, w0.alloc (.cells #[.int .u64 0, .int .u32 0, .int .u64 0, .int .u8 0, .int .u8 0, .int .u64 0, .int .u8 0, .bool false, .bool false, .bool false, .int .u64 0] 173) = z := ⟨_, rfl⟩
  rw [hw1] at hb1 gp e0 e1 ⊢
  have LK : Hid (∀ K : Later w1, Calls Tryz.prog 83 #[.pointer (some ⟨g, i * 16, none⟩)] K.out fun en w' => en = .returned (.bool false) ∧ K.out = w') := Lib.hid fun K => (tlink_host g (i * 16) (upH U i) K.out (Later.cell e0 K) (Later.cell e1 K)).mono (by rintro e w' ⟨rfl, rfl⟩; exact ⟨rfl, rfl⟩)
  have HB1 := Lib.hid hb1
  have HG := Lib.hid gp
  have HI : Hid ((Tryz.prog.info? 263).map (·.size) = some (Array.size #[Value.int .u64 0, .int .u32 0, .int .u64 0, .int .u8 0, .int .u8 0])) := Lib.hid (by kernel_rfl)
  have HO1 : Hid ((#[.int .u64 0, .int .u32 0, .int .u64 0, .int .u8 0, .int .u8 0] : Array Value).all (·.oneCell') = true) := Lib.hid (by kernel_rfl)
  clear hb1 hb2 gp e0 e1 k0 k1 c1 R0 hw1
  refine wp_region_later (by kernel_rfl) (by kernel_rfl) ?_
  repeat (go_big_quiet_step (first | (go_at_call 83; exact Calls.later_same (LK.out _))))
  refine wpQuiet_nil ?_
  rintro _ ⟨K, rfl⟩
  have gk := HG.out.later K.h
  have TH : Hid (K.out.there w.heap.size 0 (Array.size #[Value.int .u64 0, .int .u32 0, .int .u64 0, .int .u8 0, .int .u8 0])) := Lib.hid (gk.there (Nat.le_refl _))
  have HGK := Lib.hid gk
  clear gk
  go_wp2_with ((with_reducible refine wpList_store_mid rfl 263 (.tmp 4) (.tmp 50) rfl w.heap.size 0 #[Value.int .u64 0, .int .u32 0, .int .u64 0, .int .u8 0, .int .u8 0] ?hx ?hy TH.out HI.out HO1.out ?_); (case hx => rfl); (case hy => rfl))
  exact bodyPost_ret (v := .tuple #[.agg pathZ, .bool false]) (res_two (p := 4) (u := 5) (d := _) rfl rfl Tryz.underlying263 _ _ w.heap.size _ rfl (HGK.out.store rfl HO1.out) (by kernel_rfl)) rfl ⟨rfl, below_cellsG (Nat.le_refl _) _ _ _ (HB1.out.trans (K.h.mono HB1.out.size))⟩
end Go.Proofs.YtpkkjbmgbgakdaaGreatDoor

/- tree: machines of hosts' ports: choose, power, Up. -/
set_option linter.unusedVariables false
namespace Go.Proofs.YtpkkjbmgbgakdaaGreatDoor
open Go.RowKit

/-- Two blocks. -/
def D2 (a b : Nat) (k : Nat) : Prop := k = a ∨ k = b
set_option maxRecDepth 100000 in
set_option maxHeartbeats 4000000 in
theorem tchoose_host (m g cap : Nat) (t : List Value) (U : List Bool) (w : World) (h : TR w m g cap t (hm 16 U)) : Calls Tryz.prog 82 #[.pointer (some ⟨m, 0, none⟩)] w fun en w' => en = .returned (.tuple #[]) ∧ Below w.heap.size w w' := by
  have hl : (hm 16 U).P.length = U.length := by simp [hm]
  have HN : Hid (1 ≤ U.length ∧ U.length ≤ 8 ∧ U.length ≤ cap) := Lib.hid ⟨by have := h.n1.1; rw [hl] at this; exact this, by have := h.n1.2; rw [hl] at this; exact this, by have := h.cp; rw [hl] at this; exact this⟩
  have HT := Lib.hid h
  have c1 := h.c1
  rw [hl] at c1
  clear h
  go_enter Tryz.func82, Tryz.ntmps82
  go_wp2_with fail
  clear c1
  go_loopw [2, 15] (fun l i wr => l = .slice none 0 0 ∧ ∃ k : Nat, k ≤ U.length ∧ i = .int .i64 k ∧ Below w.heap.size w wr) (fun _ i _ => U.length - (intOf i).toNat)
  case atStart => exact ⟨rfl, 0, by omega, rfl, Below.refl _ _⟩
  case round =>
    obtain ⟨rfl, k, hk, rfl, hb⟩ := hrel
    have hn8 := HN.out.2.1
    by_cases hlt : k < U.length
    · have dk : decide ((k : Int) < (U.length : Int)) = true := decide_eq_true (by omega)
      have PT := Lib.hid (tpath_host m g cap t 16 U k hlt wr (HT.out.later hb))
      have HB := Lib.hid hb
      clear hb
      go_wp2_with (go_at_call 147; with_reducible refine PT.out.mono ?_; rintro e w1 ⟨rfl, hb1⟩; have HB1 := Lib.hid (HB.out.trans (hb1.mono HB.out.size)); clear hb1)
      go_roundw
      case rel => exact ⟨rfl, k + 1, by omega, by go_num, HB1.out.alloc HB1.out.size _⟩
      case measure => simp [intOf]; omega
    · have dk : decide ((k : Int) < (U.length : Int)) = false := decide_eq_false (by omega)
      have TRr := HT.out.later hb
      have c0 : wr.cell? ⟨m, 0, none⟩ = some (.int .u64 16) := TRr.c0
      have c2 : wr.cell? ⟨m, 2, none⟩ = some (.int .u64 16) := TRr.c2
      have c3 : wr.cell? ⟨m, 3, none⟩ = some (.int .u32 0) := TRr.c3
      have c4 : wr.cell? ⟨m, 4, none⟩ = some (.int .i64 (-1)) := TRr.c4
      have hbw := (Below.refl wr.heap.size wr).alloc (Nat.le_refl _) (.cells #[.int .u64 16, .int .u32 0, .int .i64 (-1)] 166)
      have gw := GB.new 166 wr #[.int .u64 16, .int .u32 0, .int .i64 (-1)]
      obtain ⟨w1, hw1⟩ : ∃ z, wr.alloc (.cells #[.int .u64 16, .int .u32 0, .int .i64 (-1)] 166) = z := ⟨_, rfl⟩
      rw [hw1] at hbw gw
      have hz1 : w1.heap.size = wr.heap.size + 1 := by rw [← hw1]; simp
      have HB := Lib.hid (hb.trans (hbw.mono hb.size))
      have TR1 := TRr.later hbw
      have HM := Lib.hid (And.intro TRr.tm.lt TRr.row.lt)
      clear hb TRr hbw
      go_upto_region 9 with fail

      clear hw1 c0 c2 c3 c4
      have c0 : w1.cell? ⟨m, 0, none⟩ = some (.int .u64 16) := TR1.c0
      have c2 : w1.cell? ⟨m, 2, none⟩ = some (.int .u64 16) := TR1.c2
      have c3 : w1.cell? ⟨m, 3, none⟩ = some (.int .u32 0) := TR1.c3
      have c4 : w1.cell? ⟨m, 4, none⟩ = some (.int .i64 (-1)) := TR1.c4
      have c5 : w1.cell? ⟨m, 5, none⟩ = some (.int .u8 0) := TR1.c5
      have f2 := TR1.tm.fr 2
      have f3 := TR1.tm.fr 3
      have f4 := TR1.tm.fr 4
      have f5 := TR1.tm.fr 5
      have HTR := Lib.hid TR1
      have HG := Lib.hid gw
      clear TR1 gw
      have s2 := setCell_id c2
      have s3 := setCell_id c3
      have s4 := setCell_id c4
      have s5 := setCell_id c5
      go_upto_region 10 with fail
      clear s2 s3 s4 s5
      go_upto_region 11 with (go_at_call 148; refine (vleast_nil _).mono ?_; rintro e w2 ⟨rfl, hb2⟩)
      have hb3 : Below w1.heap.size w1 (w2.alloc (.cells #[.int .u64 0, .int .u32 0, .int .u64 0, .int .u8 0, .int .u8 0] 263)) := hb2.alloc hb2.size _
      generalize w2.alloc (.cells #[.int .u64 0, .int .u32 0, .int .u64 0, .int .u8 0, .int .u8 0] 263) = w3 at *
      clear hb2
      have HB3 := Lib.hid hb3
      clear hb3 c0 c2 c3 c4 c5 f2 f3 f4 f5
      refine wp_region_later (by kernel_rfl) (by kernel_rfl) ?_
      repeat (go_big_quiet_step (fail))
      refine wpQuiet_nil ?_
      rintro _ ⟨K, rfl⟩
      go_upto_region 14 with fail
      have hbK : Below w1.heap.size w1 K.out := HB3.out.trans (K.h.mono HB3.out.size)
      have TRK := HTR.out.later hbK
      have GK := HG.out.later hbK
      have a2 : K.out.cell? ⟨m, 2, none⟩ = some (.int .u64 16) := TRK.c2
      have a3 : K.out.cell? ⟨m, 3, none⟩ = some (.int .u32 0) := TRK.c3
      have a4 : K.out.cell? ⟨m, 4, none⟩ = some (.int .i64 (-1)) := TRK.c4
      have b0 : K.out.cell? ⟨wr.heap.size, 0, none⟩ = some (.int .u64 16) := GK.c 0 _ rfl
      have b1 : K.out.cell? ⟨wr.heap.size, 1, none⟩ = some (.int .u32 0) := GK.c 1 _ rfl
      have b2 : K.out.cell? ⟨wr.heap.size, 2, none⟩ = some (.int .i64 (-1)) := GK.c 2 _ rfl
      have HTK := Lib.hid TRK
      have HBK := Lib.hid (HB.out.trans (hbK.mono HB.out.size))
      obtain ⟨w4, hw4⟩ : ∃ z, K.out = z := ⟨_, rfl⟩
      rw [hw4] at a2 a3 a4 b0 b1 b2 HTK HBK ⊢
      clear TRK GK hbK hw4
      have l2 := Later.cell a2
      have l3 := Later.cell a3
      have l4 := Later.cell a4
      have m0 := Later.cell b0
      have m1 := Later.cell b1
      have m2 := Later.cell b2
      clear a2 a3 a4 b0 b1 b2
      refine wp_region_later (by kernel_rfl) (by kernel_rfl) ?_
      repeat (go_big_quiet_step (fail))
      refine wpQuiet_nil ?_
      rintro _ ⟨K2, rfl⟩
      clear l2 l3 l4 m0 m1 m2
      have hbK : Below w4.heap.size w4 K2.out := K2.h
      have HTK2 := Lib.hid (HTK.out.later hbK)
      have HBK2 := Lib.hid (HBK.out.trans (hbK.mono HBK.out.size))
      obtain ⟨w5, hw5⟩ : ∃ z, K2.out = z := ⟨_, rfl⟩
      rw [hw5] at HTK2 HBK2 ⊢
      clear hbK hw5 K2 HTK HBK
      have c1 : w5.cell? ⟨m, 1, none⟩ = some (.slice (some ⟨g, 0, none⟩) U.length cap) := by have := HTK2.out.c1; rw [hl] at this; exact this
      go_wp2_with fail
      clear c1
      go_loopw [101] (fun i wr => ∃ k : Nat, k ≤ U.length ∧ i = .int .i64 k ∧ Below w5.heap.size w5 wr) (fun i _ => U.length - (intOf i).toNat)
      case atStart => exact ⟨0, by omega, rfl, Below.refl _ _⟩
      case round =>
        obtain ⟨k2, hk2, rfl, hb⟩ := hrel
        have T5 := HTK2.out.later hb
        have c1 : wr.cell? ⟨m, 1, none⟩ = some (.slice (some ⟨g, 0, none⟩) U.length cap) := by have := T5.c1; rw [hl] at this; exact this
        have hn8 := HN.out.2.1
        have hnc := HN.out.2.2
        by_cases hl2 : k2 < U.length
        · have dk2 : decide ((k2 : Int) < (U.length : Int)) = true := decide_eq_true (by omega)
          have a1 : wr.cell? ⟨g, k2 * 16 + 14, none⟩ = some (.bool false) := hostC T5 k2 hl2 14 (by decide) _ rfl
          have fa := T5.row.fr (k2 * 16 + 14)
          have sa := setCell_id (show wr.drew.cell? ⟨g, k2 * 16 + 14, none⟩ = some (.bool false) from a1)
          have HB5 := Lib.hid hb
          clear hb T5
          go_wp2_with (go_region_with (fail))
          all_goals exact ⟨⟨k2 + 1, by omega, by go_num, HB5.out.drew⟩, by simp [intOf]; omega⟩
        · have dk2 : decide ((k2 : Int) < (U.length : Int)) = false := decide_eq_false (by omega)
          have HB5 := Lib.hid hb
          clear hb T5 c1
          go_wp2
          go_end0
          exact ⟨rfl, HBK2.out.trans (HB5.out.mono HBK2.out.size)⟩
end Go.Proofs.YtpkkjbmgbgakdaaGreatDoor
