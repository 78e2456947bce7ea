/- vlan: no table; the walk of VlanNil. -/
import Derived.Test.YtecoomkpkdapdaaV4
import Derived.Test.YtecoomkpkdapdaaRFV
set_option linter.unusedVariables false
namespace Go.Proofs.Ytecoomkpkdapdaa
open Go.RowKit

set_option maxRecDepth 100000 in
set_option maxHeartbeats 4000000 in
theorem nil_vlan_Table_Set (p k : Int) (w : World) : Calls Try.prog 13 #[.pointer none, .int .u16 k, .int .u8 1, .int .u8 1] w fun en w' => en = .returned (.int .i64 1) ∧ Below w.heap.size w w' := by
  go_enter Try.func13, Try.ntmps13
  go_wp2
  go_ret
  exact ⟨rfl, by first | exact Below.refl _ _ | exact (Below.refl _ _).alloc (Nat.le_refl _) _⟩
set_option maxRecDepth 100000 in
set_option maxHeartbeats 4000000 in
theorem nil_vlan_Table_Drop (p k : Int) (w : World) : Calls Try.prog 23 #[.pointer none, .int .u16 k] w fun en w' => en = .returned (.int .i64 1) ∧ Below w.heap.size w w' := by
  go_enter Try.func23, Try.ntmps23
  go_wp2
  go_ret
  exact ⟨rfl, by first | exact Below.refl _ _ | exact (Below.refl _ _).alloc (Nat.le_refl _) _⟩
set_option maxRecDepth 100000 in
set_option maxHeartbeats 4000000 in
theorem nil_vlan_Table_SetOwn (p k : Int) (w : World) : Calls Try.prog 14 #[.pointer none, .int .u8 p, .int .u16 k] w fun en w' => en = .returned (.int .i64 1) ∧ Below w.heap.size w w' := by
  go_enter Try.func14, Try.ntmps14
  go_wp2
  go_ret
  exact ⟨rfl, by first | exact Below.refl _ _ | exact (Below.refl _ _).alloc (Nat.le_refl _) _⟩
set_option maxRecDepth 100000 in
set_option maxHeartbeats 4000000 in
theorem nil_vlan_Table_Members (p k : Int) (w : World) : Calls Try.prog 19 #[.pointer none, .int .u16 k] w fun en w' => en = .returned (.int .u8 0) ∧ Below w.heap.size w w' := by
  go_enter Try.func19, Try.ntmps19
  go_wp2
  go_ret
  exact ⟨rfl, by first | exact Below.refl _ _ | exact (Below.refl _ _).alloc (Nat.le_refl _) _⟩
set_option maxRecDepth 100000 in
set_option maxHeartbeats 4000000 in
theorem nil_vlans (w : World) : Calls Try.prog 18 #[.pointer none] w fun en w' => en = .returned (.slice none 0 0) ∧ Below w.heap.size w w' := by
  go_enter Try.func18, Try.ntmps18
  go_wp2
  go_ret
  exact ⟨rfl, Below.refl _ _⟩
set_option maxRecDepth 100000 in
set_option maxHeartbeats 4000000 in
theorem nil_in (p : Int) (A : Array Value) (w : World) : Calls Try.prog 16 #[.pointer none, .int .u8 p, .agg A] w fun en w' => en = .returned (.tuple #[.int .u16 0, .bool false]) ∧ Below w.heap.size w w' := by
  go_enter Try.func16, Try.ntmps16
  go_wp2
  refine bodyPost_ret (v := .tuple #[.int .u16 0, .bool false]) (by simp [results, Try.results16, go_sem]) rfl ⟨rfl, (Below.refl _ _).alloc (Nat.le_refl _) _⟩
set_option maxRecDepth 100000 in
set_option maxHeartbeats 4000000 in
theorem nil_out (p k : Int) (A : Array Value) (w : World) : Calls Try.prog 15 #[.pointer none, .int .u8 p, .int .u16 k, .agg A] w fun en w' => en = .returned (.tuple #[.agg frZ, .bool false]) ∧ Below w.heap.size w w' := by
  have iZ := Lib.hid (frame_info isFr_Z)
  have oZ := Lib.hid isFr_Z.one
  go_enter Try.func15, Try.ntmps15
  go_upto_region 1 with fail
  have fz0 : FB ((w.alloc (.cells A 26)).alloc (.cells #[.int .u8 0, .int .u8 0, .int .u8 0, .int .u8 0, .int .u8 0, .int .u8 0, .int .u8 0, .int .u8 0, .int .u8 0, .int .u8 0, .int .u8 0, .int .u8 0, .bool false, .int .u8 0, .int .u16 0, .int .u16 0, .string { data := #[] }] 26)) (w.heap.size + 1) frZ := by
    have := FB.new (w.alloc (.cells A 26)) frZ
    rw [show (w.alloc (.cells A 26)).heap.size = w.heap.size + 1 by simp] at this
    exact this
  have hb0 : Below w.heap.size w ((w.alloc (.cells A 26)).alloc (.cells #[.int .u8 0, .int .u8 0, .int .u8 0, .int .u8 0, .int .u8 0, .int .u8 0, .int .u8 0, .int .u8 0, .int .u8 0, .int .u8 0, .int .u8 0, .int .u8 0, .bool false, .int .u8 0, .int .u16 0, .int .u16 0, .string { data := #[] }] 26)) := ((Below.refl _ _).alloc (Nat.le_refl _) _).alloc (by simp) _
  obtain ⟨w0, hw0⟩ : ∃ x, (w.alloc (.cells A 26)).alloc (.cells #[.int .u8 0, .int .u8 0, .int .u8 0, .int .u8 0, .int .u8 0, .int .u8 0, .int .u8 0, .int .u8 0, .int .u8 0, .int .u8 0, .int .u8 0, .int .u8 0, .bool false, .int .u8 0, .int .u16 0, .int .u16 0, .string { data := #[] }] 26) = x := ⟨_, rfl⟩
  rw [hw0] at fz0 hb0 ⊢
  have HB := Lib.hid hb0
  have TH := Lib.hid (fz0.there (n := frZ.size) (Nat.le_refl _))
  have G1 := Lib.hid (fz0.store (A := frZ) rfl oZ.out)
  clear hw0 fz0 hb0
  go_wp2_with ((with_reducible refine wpList_store_mid rfl 26 (.tmp 8) (.tmp 21) rfl (w.heap.size + 1) 0 frZ ?hx ?hy TH.out iZ.out oZ.out ?_); (case hx => rfl); (case hy => rfl))
  exact bodyPost_ret (v := .tuple #[.agg frZ, .bool false]) (res_out _ _ (w.heap.size + 1) _ rfl G1.out rfl) rfl ⟨rfl, below_cells (by omega) _ _ _ HB.out⟩
set_option maxRecDepth 100000 in
set_option maxHeartbeats 8000000 in
theorem VlanNil_walk (p k : Int) (FA : Array Value) (w : World) (hp : (Lit.int .u8 p).wf = true) (hk : (Lit.int .u16 k).wf = true) (hA : Fr FA) :
    Calls Try.prog 5 #[.int .u8 p, .int .u16 k, .agg FA] w fun en w' => en = .returned (.bool true) ∧ Below w.heap.size w w' := by
  have WK := Lib.hid wakes07_any
  have iAL := Lib.hid (frame_infoL hA.is)
  have iZ := Lib.hid (frame_info isFr_Z)
  have oZ := Lib.hid isFr_Z.one
  have C1 := Lib.hid (nil_in p FA)
  have C2 := Lib.hid (nil_out p k FA)
  have C3 := Lib.hid (nil_vlan_Table_Set p k)
  have C4 := Lib.hid (nil_vlan_Table_Drop p k)
  have C5 := Lib.hid (nil_vlan_Table_SetOwn p k)
  have C6 := Lib.hid (nil_vlan_Table_Members p k)
  have C7 := Lib.hid nil_vlans
  clear hp hk hA
  go_enter Try.func5, Try.ntmps5
  go_upto_region 1 with fail
  have fb0 := FB.new w FA
  have hb0 : Below w.heap.size w (w.alloc (.cells FA 26)) := (Below.refl _ _).alloc (Nat.le_refl _) _
  obtain ⟨w0, hw0⟩ : ∃ x, w.alloc (.cells FA 26) = x := ⟨_, rfl⟩
  rw [hw0] at fb0 hb0 ⊢
  have FB0 := Lib.hid fb0
  have HB0 := Lib.hid hb0
  clear hw0 fb0 hb0
  go_wp2_with ((with_reducible refine wpList_load_mid rfl 26 (.tmp 5) rfl w.heap.size 0 ?hx FA.toList _ FB0.out.range Try.underlying26 ?hu iAL.out ?_); (case hx => rfl); (case hu => rfl))
  with_reducible refine (C1.out _).mono ?_
  rintro en w1 ⟨rfl, hb1⟩
  have FB1 := Lib.hid (FB0.out.later hb1)
  have HB1 := Lib.hid (HB0.out.trans (hb1.mono HB0.out.size))
  clear hb1 FB0 HB0 C1
  go_wp2_with ((with_reducible refine wpList_load_mid rfl 26 (.tmp 5) rfl w.heap.size 0 ?hx FA.toList _ FB1.out.range Try.underlying26 ?hu iAL.out ?_); (case hx => rfl); (case hu => rfl))
  with_reducible refine (C2.out _).mono ?_
  rintro en w2 ⟨rfl, hb2⟩
  have HB2 := Lib.hid (HB1.out.trans (hb2.mono HB1.out.size))
  clear hb2 FB1 HB1 C2
  have TH := Lib.hid (fr_there w2 isFr_Z)
  go_upto_region 4 with ((with_reducible refine wpList_store_mid rfl 26 (.tmp 10) (.tmp 25) rfl w2.heap.size 0 frZ ?hx ?hy TH.out iZ.out oZ.out ?_); (case hx => rfl); (case hy => rfl))
  have hbz : Below w2.heap.size w2 ((w2.alloc (.cells #[.int .u8 0, .int .u8 0, .int .u8 0, .int .u8 0, .int .u8 0, .int .u8 0, .int .u8 0, .int .u8 0, .int .u8 0, .int .u8 0, .int .u8 0, .int .u8 0, .bool false, .int .u8 0, .int .u16 0, .int .u16 0, .string { data := #[] }] 26)).setCells w2.heap.size 0 frZ.toList) := below_cells (Nat.le_refl _) _ _ _ ((Below.refl _ _).alloc (Nat.le_refl _) _)
  obtain ⟨w3, hw3⟩ : ∃ k, (w2.alloc (.cells #[.int .u8 0, .int .u8 0, .int .u8 0, .int .u8 0, .int .u8 0, .int .u8 0, .int .u8 0, .int .u8 0, .int .u8 0, .int .u8 0, .int .u8 0, .int .u8 0, .bool false, .int .u8 0, .int .u16 0, .int .u16 0, .string { data := #[] }] 26)).setCells w2.heap.size 0 frZ.toList = k := ⟨_, rfl⟩
  have HB3 := Lib.hid (HB2.out.trans (hbz.mono HB2.out.size))
  rw [hw3] at HB3 ⊢
  clear hbz hw3 TH HB2
  go_wp2_with fail
  with_reducible refine (C3.out _).mono ?_
  rintro en w4 ⟨rfl, hb4⟩
  have HB4 := Lib.hid (HB3.out.trans (hb4.mono HB3.out.size))
  clear hb4 HB3 C3
  go_wp2_with fail
  with_reducible refine (C4.out _).mono ?_
  rintro en w5 ⟨rfl, hb5⟩
  have HB5 := Lib.hid (HB4.out.trans (hb5.mono HB4.out.size))
  clear hb5 HB4 C4
  go_wp2_with fail
  with_reducible refine (C5.out _).mono ?_
  rintro en w6 ⟨rfl, hb6⟩
  have HB6 := Lib.hid (HB5.out.trans (hb6.mono HB5.out.size))
  clear hb6 HB5 C5
  go_wp2_with fail
  with_reducible refine (C6.out _).mono ?_
  rintro en w7 ⟨rfl, hb7⟩
  have HB7 := Lib.hid (HB6.out.trans (hb7.mono HB6.out.size))
  clear hb7 HB6 C6
  go_wp2_with fail
  with_reducible refine (C7.out _).mono ?_
  rintro en w8 ⟨rfl, hb8⟩
  have HB8 := Lib.hid (HB7.out.trans (hb8.mono HB7.out.size))
  clear hb8 HB7 C7
  go_wp2_with fail
  with_reducible refine (WK.out _).mono ?_
  rintro en w9 ⟨rfl, hb9⟩
  have HB9 := Lib.hid (HB8.out.trans (hb9.mono HB8.out.size))
  clear hb9 HB8 WK
  go_wp2
  go_ret
  exact ⟨rfl, HB9.out⟩
end Go.Proofs.Ytecoomkpkdapdaa
