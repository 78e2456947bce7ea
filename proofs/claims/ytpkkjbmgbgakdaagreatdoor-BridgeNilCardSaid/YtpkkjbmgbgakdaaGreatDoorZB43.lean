/- ZB43: the texts NW as one. -/
import Derived.Test.YtpkkjbmgbgakdaaGreatDoorZB40
import Derived.Test.YtpkkjbmgbgakdaaGreatDoorZB42
/- bridge: the reader of a command; the walk of BridgeNil. -/
set_option linter.unusedVariables false
set_option linter.unusedSimpArgs false
namespace Go.Proofs.YtpkkjbmgbgakdaaGreatDoor
open Go.ChangeShapes Go.WideShapes Go.ChangeAt Go.RowKit

theorem list27 {α : Type} (l : List α) (h : l.length = 27) : ∃ c0 c1 c2 c3 c4 c5 c6 c7 c8 c9 c10 c11 c12 c13 c14 c15 c16 c17 c18 c19 c20 c21 c22 c23 c24 c25 c26, l = [c0, c1, c2, c3, c4, c5, c6, c7, c8, c9, c10, c11, c12, c13, c14, c15, c16, c17, c18, c19, c20, c21, c22, c23, c24, c25, c26] := by
  match l, h with
  | [c0, c1, c2, c3, c4, c5, c6, c7, c8, c9, c10, c11, c12, c13, c14, c15, c16, c17, c18, c19, c20, c21, c22, c23, c24, c25, c26], _ => exact ⟨c0, c1, c2, c3, c4, c5, c6, c7, c8, c9, c10, c11, c12, c13, c14, c15, c16, c17, c18, c19, c20, c21, c22, c23, c24, c25, c26, rfl⟩
theorem cell_int {P : Program} {w : World} {r : Reach} {b : Nat} {t : TypeId} {v : Value} {k : IntKind} (ht : P.underlying t = some (.int k)) (h : Cell.okWide P w r b t v) : ∃ n, v = .int k n := okWide_int ht (by simp only [Value.okWide, ht]; exact h)
theorem cell_bool {P : Program} {w : World} {r : Reach} {b : Nat} {t : TypeId} {v : Value} (ht : P.underlying t = some .bool) (h : Cell.okWide P w r b t v) : ∃ n, v = .bool n := okWide_bool ht (by simp only [Value.okWide, ht]; exact h)
theorem cell_string {P : Program} {w : World} {r : Reach} {b : Nat} {t : TypeId} {v : Value} (ht : P.underlying t = some .string) (h : Cell.okWide P w r b t v) : ∃ n, v = .string n := okWide_string ht (by simp only [Value.okWide, ht]; exact h)
theorem cell_slice {P : Program} {w : World} {r : Reach} {b : Nat} {t e : TypeId} {v : Value} (ht : P.underlying t = some (.slice e)) (h : Cell.okWide P w r b t v) : ∃ a n c, v = .slice a n c := okWide_slice ht (by simp only [Value.okWide, ht]; exact h)
set_option maxRecDepth 100000 in
set_option maxHeartbeats 4000000 in
theorem rd_cmd {w : World} {r : Reach} {b0 : Nat} {v : Value} (hv : Value.okWide Tryz.prog w r b0 50 v) : ∃ c : Cm, v = .agg c.a := by
  simp only [Value.okWide, Tryz.underlying50] at hv
  obtain ⟨cs, rfl, hsz, ts, hts, _, hi⟩ := hv
  rw [show Tryz.prog.cellsOf 50 = 27 by kernel_rfl] at hsz
  rw [show Tryz.prog.cellTypes Tryz.prog.depth 50 = some ([5, 5, 39, 5, 5, 5, 5, 5, 5, 5, 5, 5, 9, 9, 39, 5, 42, 3, 39, 5, 4, 5, 5, 39, 5, 9, 5] : List TypeId) by kernel_rfl] at hts
  injection hts with hts
  subst hts
  obtain ⟨c0, c1, c2, c3, c4, c5, c6, c7, c8, c9, c10, c11, c12, c13, c14, c15, c16, c17, c18, c19, c20, c21, c22, c23, c24, c25, c26, hcs⟩ := list27 cs.toList (by rw [Array.length_toList, hsz])
  have g : ∀ (i : Nat) (v : Value), cs.toList[i]? = some v → ∃ u, ([5, 5, 39, 5, 5, 5, 5, 5, 5, 5, 5, 5, 9, 9, 39, 5, 42, 3, 39, 5, 4, 5, 5, 39, 5, 9, 5] : List TypeId)[i % 27]? = some u ∧ Cell.okWide Tryz.prog w r b0 u v := fun i v h => hi i v (by simpa using h)
  rw [hcs] at g
  obtain ⟨u, hu, hc⟩ := g 0 _ rfl
  obtain rfl : 5 = u := Option.some.inj hu
  obtain ⟨n0, rfl⟩ := cell_int Tryz.underlying5 hc
  clear hu hc
  obtain ⟨u, hu, hc⟩ := g 1 _ rfl
  obtain rfl : 5 = u := Option.some.inj hu
  obtain ⟨n1, rfl⟩ := cell_int Tryz.underlying5 hc
  clear hu hc
  obtain ⟨u, hu, hc⟩ := g 2 _ rfl
  obtain rfl : 39 = u := Option.some.inj hu
  obtain ⟨n2, rfl⟩ := cell_int Tryz.underlying39 hc
  clear hu hc
  obtain ⟨u, hu, hc⟩ := g 3 _ rfl
  obtain rfl : 5 = u := Option.some.inj hu
  obtain ⟨n3, rfl⟩ := cell_int Tryz.underlying5 hc
  clear hu hc
  obtain ⟨u, hu, hc⟩ := g 4 _ rfl
  obtain rfl : 5 = u := Option.some.inj hu
  obtain ⟨n4, rfl⟩ := cell_int Tryz.underlying5 hc
  clear hu hc
  obtain ⟨u, hu, hc⟩ := g 5 _ rfl
  obtain rfl : 5 = u := Option.some.inj hu
  obtain ⟨n5, rfl⟩ := cell_int Tryz.underlying5 hc
  clear hu hc
  obtain ⟨u, hu, hc⟩ := g 6 _ rfl
  obtain rfl : 5 = u := Option.some.inj hu
  obtain ⟨n6, rfl⟩ := cell_int Tryz.underlying5 hc
  clear hu hc
  obtain ⟨u, hu, hc⟩ := g 7 _ rfl
  obtain rfl : 5 = u := Option.some.inj hu
  obtain ⟨n7, rfl⟩ := cell_int Tryz.underlying5 hc
  clear hu hc
  obtain ⟨u, hu, hc⟩ := g 8 _ rfl
  obtain rfl : 5 = u := Option.some.inj hu
  obtain ⟨n8, rfl⟩ := cell_int Tryz.underlying5 hc
  clear hu hc
  obtain ⟨u, hu, hc⟩ := g 9 _ rfl
  obtain rfl : 5 = u := Option.some.inj hu
  obtain ⟨n9, rfl⟩ := cell_int Tryz.underlying5 hc
  clear hu hc
  obtain ⟨u, hu, hc⟩ := g 10 _ rfl
  obtain rfl : 5 = u := Option.some.inj hu
  obtain ⟨n10, rfl⟩ := cell_int Tryz.underlying5 hc
  clear hu hc
  obtain ⟨u, hu, hc⟩ := g 11 _ rfl
  obtain rfl : 5 = u := Option.some.inj hu
  obtain ⟨n11, rfl⟩ := cell_int Tryz.underlying5 hc
  clear hu hc
  obtain ⟨u, hu, hc⟩ := g 12 _ rfl
  obtain rfl : 9 = u := Option.some.inj hu
  obtain ⟨n12, rfl⟩ := cell_string Tryz.underlying9 hc
  clear hu hc
  obtain ⟨u, hu, hc⟩ := g 13 _ rfl
  obtain rfl : 9 = u := Option.some.inj hu
  obtain ⟨n13, rfl⟩ := cell_string Tryz.underlying9 hc
  clear hu hc
  obtain ⟨u, hu, hc⟩ := g 14 _ rfl
  obtain rfl : 39 = u := Option.some.inj hu
  obtain ⟨n14, rfl⟩ := cell_int Tryz.underlying39 hc
  clear hu hc
  obtain ⟨u, hu, hc⟩ := g 15 _ rfl
  obtain rfl : 5 = u := Option.some.inj hu
  obtain ⟨n15, rfl⟩ := cell_int Tryz.underlying5 hc
  clear hu hc
  obtain ⟨u, hu, hc⟩ := g 16 _ rfl
  obtain rfl : 42 = u := Option.some.inj hu
  obtain ⟨n16, n16b, n16c, rfl⟩ := cell_slice Tryz.underlying42 hc
  clear hu hc
  obtain ⟨u, hu, hc⟩ := g 17 _ rfl
  obtain rfl : 3 = u := Option.some.inj hu
  obtain ⟨n17, rfl⟩ := cell_int Tryz.underlying3 hc
  clear hu hc
  obtain ⟨u, hu, hc⟩ := g 18 _ rfl
  obtain rfl : 39 = u := Option.some.inj hu
  obtain ⟨n18, rfl⟩ := cell_int Tryz.underlying39 hc
  clear hu hc
  obtain ⟨u, hu, hc⟩ := g 19 _ rfl
  obtain rfl : 5 = u := Option.some.inj hu
  obtain ⟨n19, rfl⟩ := cell_int Tryz.underlying5 hc
  clear hu hc
  obtain ⟨u, hu, hc⟩ := g 20 _ rfl
  obtain rfl : 4 = u := Option.some.inj hu
  obtain ⟨n20, rfl⟩ := cell_bool Tryz.underlying4 hc
  clear hu hc
  obtain ⟨u, hu, hc⟩ := g 21 _ rfl
  obtain rfl : 5 = u := Option.some.inj hu
  obtain ⟨n21, rfl⟩ := cell_int Tryz.underlying5 hc
  clear hu hc
  obtain ⟨u, hu, hc⟩ := g 22 _ rfl
  obtain rfl : 5 = u := Option.some.inj hu
  obtain ⟨n22, rfl⟩ := cell_int Tryz.underlying5 hc
  clear hu hc
  obtain ⟨u, hu, hc⟩ := g 23 _ rfl
  obtain rfl : 39 = u := Option.some.inj hu
  obtain ⟨n23, rfl⟩ := cell_int Tryz.underlying39 hc
  clear hu hc
  obtain ⟨u, hu, hc⟩ := g 24 _ rfl
  obtain rfl : 5 = u := Option.some.inj hu
  obtain ⟨n24, rfl⟩ := cell_int Tryz.underlying5 hc
  clear hu hc
  obtain ⟨u, hu, hc⟩ := g 25 _ rfl
  obtain rfl : 9 = u := Option.some.inj hu
  obtain ⟨n25, rfl⟩ := cell_string Tryz.underlying9 hc
  clear hu hc
  obtain ⟨u, hu, hc⟩ := g 26 _ rfl
  obtain rfl : 5 = u := Option.some.inj hu
  obtain ⟨n26, rfl⟩ := cell_int Tryz.underlying5 hc
  clear hu hc
  refine ⟨⟨n0, n1, n2, n3, n4, n5, n6, n7, n8, n9, n10, n11, n12, n13, n14, n15, n16, n16b, n16c, n17, n18, n19, n20, n21, n22, n23, n24, n25, n26⟩, ?_⟩
  rw [show cs = cs.toList.toArray from rfl, hcs]
  rfl
theorem atE (c : Cm) (s : ByteArray) (j : Nat) (v : Value) (h : c.a.toList[j]? = some v) : (#[.int .u8 0, .int .u8 0, .int .u8 c.a0, .int .u8 c.a1, .int .u16 c.a2, .int .u8 c.a3, .int .u8 c.a4, .int .u8 c.m0, .int .u8 c.m1, .int .u8 c.m2, .int .u8 c.m3, .int .u8 c.m4, .int .u8 c.m5, .int .u8 c.lv, .string c.dom, .string c.nam, .int .u16 c.avid, .int .u8 c.aiv, .slice c.mq c.mn c.mc, .int .i64 c.mas, .int .u16 c.mid, .int .u8 c.mpt, .bool c.mup, .int .u8 c.low, .int .u8 c.ip, .int .u16 c.iv, .int .u8 c.il, .string c.data, .int .u8 c.ttl, .string s] : Array Value)[2 + j]? = some v := by
  have hl : j < 27 := by
    rcases Nat.lt_or_ge j 27 with h1 | h1
    · exact h1
    · rw [List.getElem?_eq_none (show c.a.toList.length ≤ j from h1)] at h; cases h
  rw [show (2 + j) = j + 2 by omega]
  have : (#[Value.int .u8 0, .int .u8 0, .int .u8 c.a0, .int .u8 c.a1, .int .u16 c.a2, .int .u8 c.a3, .int .u8 c.a4, .int .u8 c.m0, .int .u8 c.m1, .int .u8 c.m2, .int .u8 c.m3, .int .u8 c.m4, .int .u8 c.m5, .int .u8 c.lv, .string c.dom, .string c.nam, .int .u16 c.avid, .int .u8 c.aiv, .slice c.mq c.mn c.mc, .int .i64 c.mas, .int .u16 c.mid, .int .u8 c.mpt, .bool c.mup, .int .u8 c.low, .int .u8 c.ip, .int .u16 c.iv, .int .u8 c.il, .string c.data, .int .u8 c.ttl, .string s] : Array Value) = ([Value.int .u8 0, Value.int .u8 0] ++ c.a.toList ++ [Value.string s]).toArray := rfl
  rw [this, List.getElem?_toArray, List.append_assoc]
  simp only [List.cons_append, List.nil_append, List.getElem?_cons_succ]
  rw [List.getElem?_append_left (show j < c.a.toList.length from hl)]
  exact h
set_option maxRecDepth 100000 in
set_option maxHeartbeats 8000000 in
theorem BridgeNil_walk (p : Int) (s : ByteArray) (c : Cm) (w : World) : Calls Tryz.prog 4 #[.int .u8 p, .string s, .agg c.a] w fun en w' => en = .returned (.bool true) ∧ Below w.heap.size w w' := by
  go_enter Tryz.func4, Tryz.ntmps4
  have g0 := GB.new 50 w c.a
  have hb := (Below.refl w.heap.size w).alloc (Nat.le_refl _) (.cells c.a 50)
  obtain ⟨w0, hw0⟩ : ∃ z, w.alloc (.cells c.a 50) = z := ⟨_, rfl⟩
  rw [hw0] at g0 hb
  have hz0 : w0.heap.size = w.heap.size + 1 := by rw [← hw0]; simp
  have IC : Hid ((Tryz.prog.info? 50).map (·.size) = some ([.int .u8 c.a0, .int .u8 c.a1, .int .u16 c.a2, .int .u8 c.a3, .int .u8 c.a4, .int .u8 c.m0, .int .u8 c.m1, .int .u8 c.m2, .int .u8 c.m3, .int .u8 c.m4, .int .u8 c.m5, .int .u8 c.lv, .string c.dom, .string c.nam, .int .u16 c.avid, .int .u8 c.aiv, .slice c.mq c.mn c.mc, .int .i64 c.mas, .int .u16 c.mid, .int .u8 c.mpt, .bool c.mup, .int .u8 c.low, .int .u8 c.ip, .int .u16 c.iv, .int .u8 c.il, .string c.data, .int .u8 c.ttl] : List Value).length) := Lib.hid (show _ = some 27 by kernel_rfl)
  have R0 : Hid (w0.rangeAt w.heap.size 0 [.int .u8 c.a0, .int .u8 c.a1, .int .u16 c.a2, .int .u8 c.a3, .int .u8 c.a4, .int .u8 c.m0, .int .u8 c.m1, .int .u8 c.m2, .int .u8 c.m3, .int .u8 c.m4, .int .u8 c.m5, .int .u8 c.lv, .string c.dom, .string c.nam, .int .u16 c.avid, .int .u8 c.aiv, .slice c.mq c.mn c.mc, .int .i64 c.mas, .int .u16 c.mid, .int .u8 c.mpt, .bool c.mup, .int .u8 c.low, .int .u8 c.ip, .int .u16 c.iv, .int .u8 c.il, .string c.data, .int .u8 c.ttl]) := Lib.hid g0.range
  have G0 := Lib.hid g0
  have B0 := Lib.hid hb
  clear g0 hb
  go_upto_region 1 with fail
  clear hw0
  go_wp2_with ((with_reducible refine wpList_load_mid rfl 50 (.tmp 5) rfl w.heap.size 0 ?hx [.int .u8 c.a0, .int .u8 c.a1, .int .u16 c.a2, .int .u8 c.a3, .int .u8 c.a4, .int .u8 c.m0, .int .u8 c.m1, .int .u8 c.m2, .int .u8 c.m3, .int .u8 c.m4, .int .u8 c.m5, .int .u8 c.lv, .string c.dom, .string c.nam, .int .u16 c.avid, .int .u8 c.aiv, .slice c.mq c.mn c.mc, .int .i64 c.mas, .int .u16 c.mid, .int .u8 c.mpt, .bool c.mup, .int .u8 c.low, .int .u8 c.ip, .int .u16 c.iv, .int .u8 c.il, .string c.data, .int .u8 c.ttl] _ R0.out Tryz.underlying50 ?hu IC.out ?_); (case hx => rfl); (case hu => rfl))
  have gE := GB.new 52 w0 #[.int .u8 0, .int .u8 0, .int .u8 c.a0, .int .u8 c.a1, .int .u16 c.a2, .int .u8 c.a3, .int .u8 c.a4, .int .u8 c.m0, .int .u8 c.m1, .int .u8 c.m2, .int .u8 c.m3, .int .u8 c.m4, .int .u8 c.m5, .int .u8 c.lv, .string c.dom, .string c.nam, .int .u16 c.avid, .int .u8 c.aiv, .slice c.mq c.mn c.mc, .int .i64 c.mas, .int .u16 c.mid, .int .u8 c.mpt, .bool c.mup, .int .u8 c.low, .int .u8 c.ip, .int .u16 c.iv, .int .u8 c.il, .string c.data, .int .u8 c.ttl, .string s]
  have hE := B0.out.alloc (by omega) (.cells #[.int .u8 0, .int .u8 0, .int .u8 c.a0, .int .u8 c.a1, .int .u16 c.a2, .int .u8 c.a3, .int .u8 c.a4, .int .u8 c.m0, .int .u8 c.m1, .int .u8 c.m2, .int .u8 c.m3, .int .u8 c.m4, .int .u8 c.m5, .int .u8 c.lv, .string c.dom, .string c.nam, .int .u16 c.avid, .int .u8 c.aiv, .slice c.mq c.mn c.mc, .int .i64 c.mas, .int .u16 c.mid, .int .u8 c.mpt, .bool c.mup, .int .u8 c.low, .int .u8 c.ip, .int .u16 c.iv, .int .u8 c.il, .string c.data, .int .u8 c.ttl, .string s] 52)
  have g0 := G0.out.later ((Below.refl _ _).alloc (Nat.le_refl _) (.cells #[.int .u8 0, .int .u8 0, .int .u8 c.a0, .int .u8 c.a1, .int .u16 c.a2, .int .u8 c.a3, .int .u8 c.a4, .int .u8 c.m0, .int .u8 c.m1, .int .u8 c.m2, .int .u8 c.m3, .int .u8 c.m4, .int .u8 c.m5, .int .u8 c.lv, .string c.dom, .string c.nam, .int .u16 c.avid, .int .u8 c.aiv, .slice c.mq c.mn c.mc, .int .i64 c.mas, .int .u16 c.mid, .int .u8 c.mpt, .bool c.mup, .int .u8 c.low, .int .u8 c.ip, .int .u16 c.iv, .int .u8 c.il, .string c.data, .int .u8 c.ttl, .string s] 52))
  rw [hz0] at gE
  obtain ⟨w1, hw1⟩ : ∃ z, w0.alloc (.cells #[.int .u8 0, .int .u8 0, .int .u8 c.a0, .int .u8 c.a1, .int .u16 c.a2, .int .u8 c.a3, .int .u8 c.a4, .int .u8 c.m0, .int .u8 c.m1, .int .u8 c.m2, .int .u8 c.m3, .int .u8 c.m4, .int .u8 c.m5, .int .u8 c.lv, .string c.dom, .string c.nam, .int .u16 c.avid, .int .u8 c.aiv, .slice c.mq c.mn c.mc, .int .i64 c.mas, .int .u16 c.mid, .int .u8 c.mpt, .bool c.mup, .int .u8 c.low, .int .u8 c.ip, .int .u16 c.iv, .int .u8 c.il, .string c.data, .int .u8 c.ttl, .string s] 52) = z := ⟨_, rfl⟩
  rw [hw1] at gE hE g0 ⊢
  have GR := Lib.hid (great_any c s w1 (w.heap.size + 1) (fun j v hv => gE.c (2 + j) v (atE c s j v hv)) (gE.c 29 _ rfl))
  have G1 := Lib.hid g0
  have B1 := Lib.hid hE
  clear gE hE g0 hw1 hz0 G0 B0 R0
  with_reducible refine GR.out.mono ?_
  rintro en w2 ⟨⟨q, rfl⟩, hb2⟩
  have G2 := Lib.hid (G1.out.later hb2)
  have B2 := Lib.hid (B1.out.trans (hb2.mono B1.out.size))
  clear hb2 G1 B1 GR
  have WK := wakes22_any
  cases q
  case true =>
    go_wp2_with (go_at_call 6; refine (WK _).mono ?_; rintro e w3 ⟨rfl, hb3⟩)
    go_ret
    exact ⟨rfl, B2.out.trans (hb3.mono B2.out.size)⟩
  go_upto_region 6 with (first
    | (go_at_call 10; refine (nil_bridge_Bridge_Up _ _).mono ?_; rintro e wx ⟨rfl, rfl⟩)
    | (go_at_call 11; refine (nil_bridge_Bridge_Down _ _).mono ?_; rintro e wx ⟨rfl, rfl⟩))
  go_upto_region 7 with (go_at_call 12; refine (nil_tick _).mono ?_; rintro e w3 ⟨rfl, hb3⟩)
  have G3 := Lib.hid (G2.out.later hb3)
  have B3 := Lib.hid (B2.out.trans (hb3.mono B2.out.size))
  have R3 : Hid (w3.rangeAt w.heap.size 0 [.int .u8 c.a0, .int .u8 c.a1, .int .u16 c.a2, .int .u8 c.a3, .int .u8 c.a4, .int .u8 c.m0, .int .u8 c.m1, .int .u8 c.m2, .int .u8 c.m3, .int .u8 c.m4, .int .u8 c.m5, .int .u8 c.lv, .string c.dom, .string c.nam, .int .u16 c.avid, .int .u8 c.aiv, .slice c.mq c.mn c.mc, .int .i64 c.mas, .int .u16 c.mid, .int .u8 c.mpt, .bool c.mup, .int .u8 c.low, .int .u8 c.ip, .int .u16 c.iv, .int .u8 c.il, .string c.data, .int .u8 c.ttl]) := Lib.hid G3.out.range
  clear hb3 G2 B2
  go_upto_region 8 with (first
    | ((with_reducible refine wpList_load_mid rfl 50 (.tmp 5) rfl w.heap.size 0 ?hx [.int .u8 c.a0, .int .u8 c.a1, .int .u16 c.a2, .int .u8 c.a3, .int .u8 c.a4, .int .u8 c.m0, .int .u8 c.m1, .int .u8 c.m2, .int .u8 c.m3, .int .u8 c.m4, .int .u8 c.m5, .int .u8 c.lv, .string c.dom, .string c.nam, .int .u16 c.avid, .int .u8 c.aiv, .slice c.mq c.mn c.mc, .int .i64 c.mas, .int .u16 c.mid, .int .u8 c.mpt, .bool c.mup, .int .u8 c.low, .int .u8 c.ip, .int .u16 c.iv, .int .u8 c.il, .string c.data, .int .u8 c.ttl] _ R3.out Tryz.underlying50 ?hu IC.out ?_); (case hx => rfl); (case hu => rfl))
    | (go_at_call 14; refine (cof_any c _).mono ?_; rintro e w4 ⟨rfl, hb4⟩)
    | (go_at_call 13; refine (nil_do _ _).mono ?_; rintro e w5 ⟨rfl, hb5⟩))
  have G5 := Lib.hid ((G3.out.later hb4).later hb5)
  have B5 := Lib.hid ((B3.out.trans (hb4.mono B3.out.size)).trans (hb5.mono (Nat.le_trans B3.out.size hb4.size)))
  have c18 : w5.cell? ⟨w.heap.size, 18, none⟩ = some (.int .u16 c.mid) := G5.out.c 18 _ rfl
  clear hb4 hb5 R3 G3 B3 IC
  go_upto_region 9 with (go_at_call 20; refine (nil_mep _ _ _).mono ?_; rintro e w6 ⟨rfl, hb6⟩)
  have B6 := Lib.hid (B5.out.trans (hb6.mono B5.out.size))
  have hb7 := B6.out.alloc B6.out.size (.cells #[.slice none 0 0, .slice none 0 0, .int .u8 0, .int .u8 0, .int .u64 0, .int .u32 0, .int .i64 0, .int .i64 0, .int .u32 0, .slice none 0 0] 78)
  obtain ⟨w7, hw7⟩ : ∃ z, w6.alloc (.cells #[.slice none 0 0, .slice none 0 0, .int .u8 0, .int .u8 0, .int .u64 0, .int .u32 0, .int .i64 0, .int .i64 0, .int .u32 0, .slice none 0 0] 78) = z := ⟨_, rfl⟩
  rw [hw7] at hb7 ⊢
  have B7 := Lib.hid hb7
  clear hb7 hb6 hw7 B6 B5 G5 c18
  go_upto_region 10 with (go_at_call 21; refine (nil_root _).mono ?_; rintro e wx ⟨rfl, rfl⟩)
  have EM : ∀ W : World, (binOp .eql 41 (.agg #[.int .u8 0, .int .u8 0, .int .u8 0, .int .u8 0, .int .u8 0, .int .u8 0]) (.agg #[.int .u8 0, .int .u8 0, .int .u8 0, .int .u8 0, .int .u8 0, .int .u8 0])).run Tryz.prog W = .ok (.bool true) W := fun W => by kernel_rfl
  have EC : ∀ W : World, (binOp .eql 89 (.agg #[.int .u64 0, .int .u64 0]) (.agg #[.int .u64 0, .int .u64 0])).run Tryz.prog W = .ok (.bool true) W := fun W => by kernel_rfl
  have RC := nil_recv p
  have EN := nil_entries
  have RL := nil_role p
  have FW := nil_forwards p
  have MA := nil_mac p
  have CO := nil_counts
  go_wp2_with (first
    | (go_at_call 17; refine (RC _ _).mono ?_; rintro e w8 ⟨rfl, hb8⟩)
    | (go_at_call 22; refine (EN _).mono ?_; rintro e wx ⟨rfl, rfl⟩)
    | (go_at_call 23; refine (RL _).mono ?_; rintro e wx ⟨rfl, rfl⟩)
    | (go_at_call 24; refine (FW _).mono ?_; rintro e wx ⟨rfl, rfl⟩)
    | (go_at_call 25; refine (MA _).mono ?_; rintro e w9 ⟨rfl, hb9⟩)
    | (go_at_call 26; refine (CO _).mono ?_; rintro e w10 ⟨rfl, hb10⟩)
    | (go_at_call 6; refine (WK _).mono ?_; rintro e w11 ⟨rfl, hb11⟩))
  go_ret
  have b8 := B7.out.trans (hb8.mono B7.out.size)
  have b9 := b8.trans (hb9.mono b8.size)
  have b10 := b9.trans (hb10.mono b9.size)
  exact ⟨rfl, b10.trans (hb11.mono b10.size)⟩
end Go.Proofs.YtpkkjbmgbgakdaaGreatDoor
