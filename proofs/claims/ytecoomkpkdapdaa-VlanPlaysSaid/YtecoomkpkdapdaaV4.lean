/- vlan: the law's known table. -/
import Derived.Test.YtecoomkpkdapdaaV3
set_option linter.unusedVariables false
namespace Go.Proofs.Ytecoomkpkdapdaa
open Go.RowKit

/-- A guarded load of a whole variable, its guard met. -/
theorem wpList_load_gV {P : Program} {ops : Array Oper} {rest : List Oper} {op : Oper} {a : Act} {w : World} {Q : Exit → Act → World → Prop} (hw : Region.wanted op (yielded ops a.tmps) = true) (ty : TypeId) (x : Operand) (ho : op.op = .load ty x)
    (b o : Nat) (hx : a.eval x = .pointer (some ⟨b, o, none⟩)) (cs : List Value) (d : TypeDesc) (hc : w.rangeAt b o cs)
    (hu : P.underlying ty = some d) (hd : d.isRow = true) (hi : (P.info? ty).map (·.size) = some cs.length)
    (h : wpList P ops Q rest (a.put op.dst (.agg cs.toArray)) w) : wpList P ops Q (op :: rest) a w :=
  wpList_step fun _ hK => by rw [if_pos hw]; exact wp_load_mid ty x ho b o hx cs d hc hu hd hi (hK _ _ h)
theorem wf0 (p v y : Int) (hp : 0 ≤ p ∧ p < 256) (hv : 0 ≤ v ∧ v < 65536) (hy : 0 ≤ y ∧ y < 65536) : wfF 0 0 0 0 0 0 0 0 0 0 0 0 p v y := by
  unfold wfF wfM; exact ⟨by decide, by decide, hp, hv, hy⟩
set_option maxRecDepth 100000 in
set_option maxHeartbeats 8000000 in
theorem wakes07_any (w : World) : Calls Try.prog 11 #[] w fun en w' => en = .returned (.bool true) ∧ Below w.heap.size w w' := by
  have N1 : Hid (∀ w, Calls Try.prog 12 #[.int .i64 4] w fun en w' => ∃ q m : Nat, en = .returned (.tuple #[.pointer (some ⟨q, 0, none⟩), .int .i64 0]) ∧ TS w' q 4 m [0, 0, 0, 0, 0, 0, 0, 0] [] ∧ Below w.heap.size w w' ∧ w.heap.size ≤ q ∧ w.heap.size ≤ m) := Lib.hid fun w => vnew_any 4 w (by decide)
  have S1 : Hid (∀ q m w, TS w q 4 m [0, 0, 0, 0, 0, 0, 0, 0] [] → Calls Try.prog 13 #[.pointer (some ⟨q, 0, none⟩), .int .u16 2, .int .u8 7, .int .u8 2] w fun en w' => en = .returned (.int .i64 0) ∧ TS w' q 4 m [0, 0, 0, 0, 0, 0, 0, 0] [(2, 7, 2)] ∧ Only m w w') := Lib.hid fun q m w h => by
    have h := vset_any q m 4 _ [] 2 7 2 w h (by decide) (by decide) (by decide)
    rw [show setErr 4 [] 2 7 2 = 0 by decide, show setV 4 [] 2 7 2 = [(2, 7, 2)] by unfold setV; rw [show setErr 4 [] 2 7 2 = 0 by decide]; rfl] at h; exact h
  have S2 : Hid (∀ q m w, TS w q 4 m [0, 0, 0, 0, 0, 0, 0, 0] [(2, 7, 2)] → Calls Try.prog 14 #[.pointer (some ⟨q, 0, none⟩), .int .u8 1, .int .u16 2] w fun en w' => en = .returned (.int .i64 0) ∧ TS w' q 4 m [0, 2, 0, 0, 0, 0, 0, 0] [(2, 7, 2)] ∧ Only q w w') := Lib.hid fun q m w h => vsetOwn_any q m 4 _ _ 1 2 w h (by decide) (by decide)
  have I1 : Hid (∀ q m w, TS w q 4 m [0, 2, 0, 0, 0, 0, 0, 0] [(2, 7, 2)] → Calls Try.prog 16 #[.pointer (some ⟨q, 0, none⟩), .int .u8 1, .agg #[.int .u8 0, .int .u8 0, .int .u8 0, .int .u8 0, .int .u8 0, .int .u8 0, .int .u8 0, .int .u8 0, .int .u8 0, .int .u8 0, .int .u8 0, .int .u8 0, .bool false, .int .u8 0, .int .u16 0, .int .u16 0, .string { data := #[] }]] w fun en w' => en = .returned (.tuple #[.int .u16 2, .bool true]) ∧ Below w.heap.size w w') := Lib.hid fun q m w h => by
    have h := vin_A #[.int .u8 0, .int .u8 0, .int .u8 0, .int .u8 0, .int .u8 0, .int .u8 0, .int .u8 0, .int .u8 0, .int .u8 0, .int .u8 0, .int .u8 0, .int .u8 0, .bool false, .int .u8 0, .int .u16 0, .int .u16 0, .string { data := #[] }] q m 4 _ _ 1 false 0 w rfl rfl h (by decide) (by decide)
    rw [show inF 4 [0, 2, 0, 0, 0, 0, 0, 0] [(2, 7, 2)] 1 false 0 = (2, true) by decide] at h; exact h
  have I2 : Hid (∀ q m w, TS w q 4 m [0, 2, 0, 0, 0, 0, 0, 0] [(2, 7, 2)] → Calls Try.prog 16 #[.pointer (some ⟨q, 0, none⟩), .int .u8 0, .agg #[.int .u8 0, .int .u8 0, .int .u8 0, .int .u8 0, .int .u8 0, .int .u8 0, .int .u8 0, .int .u8 0, .int .u8 0, .int .u8 0, .int .u8 0, .int .u8 0, .bool true, .int .u8 0, .int .u16 2, .int .u16 0, .string { data := #[] }]] w fun en w' => en = .returned (.tuple #[.int .u16 2, .bool true]) ∧ Below w.heap.size w w') := Lib.hid fun q m w h => by
    have h := vin_A #[.int .u8 0, .int .u8 0, .int .u8 0, .int .u8 0, .int .u8 0, .int .u8 0, .int .u8 0, .int .u8 0, .int .u8 0, .int .u8 0, .int .u8 0, .int .u8 0, .bool true, .int .u8 0, .int .u16 2, .int .u16 0, .string { data := #[] }] q m 4 _ _ 0 true 2 w rfl rfl h (by decide) (by decide)
    rw [show inF 4 [0, 2, 0, 0, 0, 0, 0, 0] [(2, 7, 2)] 0 true 2 = (2, true) by decide] at h; exact h
  have I3 : Hid (∀ q m w, TS w q 4 m [0, 2, 0, 0, 0, 0, 0, 0] [(2, 7, 2)] → Calls Try.prog 16 #[.pointer (some ⟨q, 0, none⟩), .int .u8 3, .agg #[.int .u8 0, .int .u8 0, .int .u8 0, .int .u8 0, .int .u8 0, .int .u8 0, .int .u8 0, .int .u8 0, .int .u8 0, .int .u8 0, .int .u8 0, .int .u8 0, .bool true, .int .u8 0, .int .u16 2, .int .u16 0, .string { data := #[] }]] w fun en w' => en = .returned (.tuple #[.int .u16 0, .bool false]) ∧ Below w.heap.size w w') := Lib.hid fun q m w h => by
    have h := vin_A #[.int .u8 0, .int .u8 0, .int .u8 0, .int .u8 0, .int .u8 0, .int .u8 0, .int .u8 0, .int .u8 0, .int .u8 0, .int .u8 0, .int .u8 0, .int .u8 0, .bool true, .int .u8 0, .int .u16 2, .int .u16 0, .string { data := #[] }] q m 4 _ _ 3 true 2 w rfl rfl h (by decide) (by decide)
    rw [show inF 4 [0, 2, 0, 0, 0, 0, 0, 0] [(2, 7, 2)] 3 true 2 = (0, false) by decide] at h; exact h
  have I4 : Hid (∀ q m w, TS w q 4 m [0, 2, 0, 0, 0, 0, 0, 0] [(2, 7, 2)] → Calls Try.prog 16 #[.pointer (some ⟨q, 0, none⟩), .int .u8 0, .agg #[.int .u8 0, .int .u8 0, .int .u8 0, .int .u8 0, .int .u8 0, .int .u8 0, .int .u8 0, .int .u8 0, .int .u8 0, .int .u8 0, .int .u8 0, .int .u8 0, .bool false, .int .u8 0, .int .u16 0, .int .u16 0, .string { data := #[] }]] w fun en w' => en = .returned (.tuple #[.int .u16 0, .bool false]) ∧ Below w.heap.size w w') := Lib.hid fun q m w h => by
    have h := vin_A #[.int .u8 0, .int .u8 0, .int .u8 0, .int .u8 0, .int .u8 0, .int .u8 0, .int .u8 0, .int .u8 0, .int .u8 0, .int .u8 0, .int .u8 0, .int .u8 0, .bool false, .int .u8 0, .int .u16 0, .int .u16 0, .string { data := #[] }] q m 4 _ _ 0 false 0 w rfl rfl h (by decide) (by decide)
    rw [show inF 4 [0, 2, 0, 0, 0, 0, 0, 0] [(2, 7, 2)] 0 false 0 = (0, false) by decide] at h; exact h
  obtain ⟨ZA, hZA⟩ : ∃ A : Array Value, A = frZ := ⟨_, rfl⟩
  obtain ⟨YA, hYA⟩ : ∃ A : Array Value, A = frA 0 0 0 0 0 0 0 0 0 0 0 0 true 3 2 0 [] := ⟨_, rfl⟩
  have O1 : Hid (∀ q m w, TS w q 4 m [0, 2, 0, 0, 0, 0, 0, 0] [(2, 7, 2)] → Calls Try.prog 15 #[.pointer (some ⟨q, 0, none⟩), .int .u8 1, .int .u16 2, .agg #[.int .u8 0, .int .u8 0, .int .u8 0, .int .u8 0, .int .u8 0, .int .u8 0, .int .u8 0, .int .u8 0, .int .u8 0, .int .u8 0, .int .u8 0, .int .u8 0, .bool true, .int .u8 3, .int .u16 9, .int .u16 0, .string { data := #[] }]] w fun en w' => en = .returned (.tuple #[.agg ZA, .bool true]) ∧ Below w.heap.size w w') := Lib.hid fun q m w h => by
    have h := vout_any q m 4 _ _ 1 2 0 0 0 0 0 0 0 0 0 0 0 0 true 3 9 0 [] w h (by decide) (by decide) (wf0 _ _ _ (by decide) (by decide) (by decide)) (by decide)
    rw [show outF [(2, 7, 2)] 1 2 0 0 0 0 0 0 0 0 0 0 0 0 true 3 9 0 [] = (frA 0 0 0 0 0 0 0 0 0 0 0 0 false 0 0 0 [], true) from rfl] at h; rw [hZA]; exact h
  have O2 : Hid (∀ q m w, TS w q 4 m [0, 2, 0, 0, 0, 0, 0, 0] [(2, 7, 2)] → Calls Try.prog 15 #[.pointer (some ⟨q, 0, none⟩), .int .u8 0, .int .u16 2, .agg #[.int .u8 0, .int .u8 0, .int .u8 0, .int .u8 0, .int .u8 0, .int .u8 0, .int .u8 0, .int .u8 0, .int .u8 0, .int .u8 0, .int .u8 0, .int .u8 0, .bool false, .int .u8 3, .int .u16 0, .int .u16 0, .string { data := #[] }]] w fun en w' => en = .returned (.tuple #[.agg YA, .bool true]) ∧ Below w.heap.size w w') := Lib.hid fun q m w h => by
    have h := vout_any q m 4 _ _ 0 2 0 0 0 0 0 0 0 0 0 0 0 0 false 3 0 0 [] w h (by decide) (by decide) (wf0 _ _ _ (by decide) (by decide) (by decide)) (by decide)
    rw [show outF [(2, 7, 2)] 0 2 0 0 0 0 0 0 0 0 0 0 0 0 false 3 0 0 [] = (frA 0 0 0 0 0 0 0 0 0 0 0 0 true 3 2 0 [], true) from rfl] at h; rw [hYA]; exact h
  have O3 : Hid (∀ q m w, TS w q 4 m [0, 2, 0, 0, 0, 0, 0, 0] [(2, 7, 2)] → Calls Try.prog 15 #[.pointer (some ⟨q, 0, none⟩), .int .u8 3, .int .u16 2, .agg #[.int .u8 0, .int .u8 0, .int .u8 0, .int .u8 0, .int .u8 0, .int .u8 0, .int .u8 0, .int .u8 0, .int .u8 0, .int .u8 0, .int .u8 0, .int .u8 0, .bool false, .int .u8 0, .int .u16 0, .int .u16 0, .string { data := #[] }]] w fun en w' => en = .returned (.tuple #[.agg ZA, .bool false]) ∧ Below w.heap.size w w') := Lib.hid fun q m w h => by
    have h := vout_any q m 4 _ _ 3 2 0 0 0 0 0 0 0 0 0 0 0 0 false 0 0 0 [] w h (by decide) (by decide) (wf0 _ _ _ (by decide) (by decide) (by decide)) (by decide)
    rw [show outF [(2, 7, 2)] 3 2 0 0 0 0 0 0 0 0 0 0 0 0 false 0 0 0 [] = (frZ, false) from rfl] at h; rw [hZA]; exact h
  have isZ : isFr ZA := by rw [hZA]; exact isFr_Z
  have isY : isFr YA := by rw [hYA]; exact frA_is ..
  have eqZ : ∀ w : World, (binOp .eql 26 (.agg ZA) (.agg #[.int .u8 0, .int .u8 0, .int .u8 0, .int .u8 0, .int .u8 0, .int .u8 0, .int .u8 0, .int .u8 0, .int .u8 0, .int .u8 0, .int .u8 0, .int .u8 0, .bool false, .int .u8 0, .int .u16 0, .int .u16 0, .string { data := #[] }])).run Try.prog w = .ok (.bool true) w := by rw [hZA]; exact run_eql_frame frZ isFr_Z
  have eqY : ∀ w : World, (binOp .eql 26 (.agg YA) (.agg #[.int .u8 0, .int .u8 0, .int .u8 0, .int .u8 0, .int .u8 0, .int .u8 0, .int .u8 0, .int .u8 0, .int .u8 0, .int .u8 0, .int .u8 0, .int .u8 0, .bool true, .int .u8 3, .int .u16 2, .int .u16 0, .string { data := #[] }])).run Try.prog w = .ok (.bool true) w := by rw [hYA]; exact run_eql_frame _ (frA_is ..)
  have hg := eqGuard_fr
  have iZ := Lib.hid (frame_info isZ)
  have iZL := Lib.hid (frame_infoL isZ)
  have iY := Lib.hid (frame_info isY)
  have iYL := Lib.hid (frame_infoL isY)
  have oZ := Lib.hid isZ.one
  have oY := Lib.hid isY.one
  have fZ := Lib.hid isZ
  have fY := Lib.hid isY
  clear hZA hYA isZ isY
  go_enter Try.func11, Try.ntmps11
  go_wp2_with fail
  with_reducible refine (N1.out _).mono ?_
  rintro en w1 ⟨q, m, rfl, ts1, hb1, hq, hm⟩
  have T1 := Lib.hid ts1
  have HB1 := Lib.hid hb1
  have HQ := Lib.hid (And.intro hq hm)
  clear ts1 hb1 hq hm N1
  go_wp2_with fail
  with_reducible refine (S1.out _ _ _ T1.out).mono ?_
  rintro en w2 ⟨rfl, ts2, ho2⟩
  have T2 := Lib.hid ts2
  have HB2 := Lib.hid (HB1.out.trans (ho2.below HQ.out.2 HB1.out.size))
  clear ts2 ho2 T1 HB1 S1
  go_wp2_with fail
  with_reducible refine (S2.out _ _ _ T2.out).mono ?_
  rintro en w3 ⟨rfl, ts3, ho3⟩
  have T3 := Lib.hid ts3
  have HB3 := Lib.hid (HB2.out.trans (ho3.below HQ.out.1 HB2.out.size))
  clear ts3 ho3 T2 HB2 S2
  go_wp2_with fail
  with_reducible refine (I1.out _ _ _ T3.out).mono ?_
  rintro en w4 ⟨rfl, hb4⟩
  have T4 := Lib.hid (T3.out.later hb4)
  have HB4 := Lib.hid (HB3.out.trans (hb4.mono HB3.out.size))
  clear hb4 T3 HB3 I1
  go_wp2_with fail
  with_reducible refine (I2.out _ _ _ T4.out).mono ?_
  rintro en w5 ⟨rfl, hb5⟩
  have T5 := Lib.hid (T4.out.later hb5)
  have HB5 := Lib.hid (HB4.out.trans (hb5.mono HB4.out.size))
  clear hb5 T4 HB4 I2
  go_wp2_with fail
  with_reducible refine (I3.out _ _ _ T5.out).mono ?_
  rintro en w6 ⟨rfl, hb6⟩
  have T6 := Lib.hid (T5.out.later hb6)
  have HB6 := Lib.hid (HB5.out.trans (hb6.mono HB5.out.size))
  clear hb6 T5 HB5 I3
  go_wp2_with fail
  with_reducible refine (I4.out _ _ _ T6.out).mono ?_
  rintro en w7 ⟨rfl, hb7⟩
  have T7 := Lib.hid (T6.out.later hb7)
  have HB7 := Lib.hid (HB6.out.trans (hb7.mono HB6.out.size))
  clear hb7 T6 HB6 I4
  go_wp2_with fail
  with_reducible refine (O1.out _ _ _ T7.out).mono ?_
  rintro en w8 ⟨rfl, hb8⟩
  have T8 := Lib.hid (T7.out.later hb8)
  have HB8 := Lib.hid (HB7.out.trans (hb8.mono HB7.out.size))
  clear hb8 T7 HB7 O1 
  have th := fr_there w8 fZ.out
  have TH := Lib.hid th
  clear th
  go_upto_region 11 with ((with_reducible refine wpList_store_mid rfl 26 (.tmp 13) (.tmp 61) rfl w8.heap.size 0 ZA ?hx ?hy TH.out iZ.out oZ.out ?_); (case hx => rfl); (case hy => rfl))
  have fs := fr_stored w8 fZ.out
  have hbz : Below w8.heap.size w8 ((w8.alloc (.cells #[.int .u8 0, .int .u8 0, .int .u8 0, .int .u8 0, .int .u8 0, .int .u8 0, .int .u8 0, .int .u8 0, .int .u8 0, .int .u8 0, .int .u8 0, .int .u8 0, .bool false, .int .u8 0, .int .u16 0, .int .u16 0, .string { data := #[] }] 26)).setCells w8.heap.size 0 ZA.toList) := below_cells (Nat.le_refl _) _ _ _ ((Below.refl _ _).alloc (Nat.le_refl _) _)
  obtain ⟨b0, hbb⟩ : ∃ k, w8.heap.size = k := ⟨_, rfl⟩
  obtain ⟨w9, hww⟩ : ∃ k, (w8.alloc (.cells #[.int .u8 0, .int .u8 0, .int .u8 0, .int .u8 0, .int .u8 0, .int .u8 0, .int .u8 0, .int .u8 0, .int .u8 0, .int .u8 0, .int .u8 0, .int .u8 0, .bool false, .int .u8 0, .int .u16 0, .int .u16 0, .string { data := #[] }] 26)).setCells w8.heap.size 0 ZA.toList = k := ⟨_, rfl⟩
  have T9 := Lib.hid (T8.out.later hbz)
  have HB9 := Lib.hid (HB8.out.trans (hbz.mono HB8.out.size))
  rw [hbb] at hww
  rw [hbb, hww] at fs
  rw [hbb, hww] at T9 HB9 ⊢
  have F0_9 := Lib.hid fs
  clear fs hbz hww hbb TH T8 HB8 
  go_wp2_with fail
  with_reducible refine (O2.out _ _ _ T9.out).mono ?_
  rintro en w10 ⟨rfl, hb10⟩
  have T10 := Lib.hid (T9.out.later hb10)
  have HB10 := Lib.hid (HB9.out.trans (hb10.mono HB9.out.size))
  have F0_10 := Lib.hid (F0_9.out.later hb10)
  clear hb10 T9 HB9 O2 F0_9
  have th := fr_there w10 fY.out
  have TH := Lib.hid th
  clear th
  go_upto_region 12 with ((with_reducible refine wpList_store_mid rfl 26 (.tmp 15) (.tmp 67) rfl w10.heap.size 0 YA ?hx ?hy TH.out iY.out oY.out ?_); (case hx => rfl); (case hy => rfl))
  have fs := fr_stored w10 fY.out
  have hbz : Below w10.heap.size w10 ((w10.alloc (.cells #[.int .u8 0, .int .u8 0, .int .u8 0, .int .u8 0, .int .u8 0, .int .u8 0, .int .u8 0, .int .u8 0, .int .u8 0, .int .u8 0, .int .u8 0, .int .u8 0, .bool false, .int .u8 0, .int .u16 0, .int .u16 0, .string { data := #[] }] 26)).setCells w10.heap.size 0 YA.toList) := below_cells (Nat.le_refl _) _ _ _ ((Below.refl _ _).alloc (Nat.le_refl _) _)
  obtain ⟨b1, hbb⟩ : ∃ k, w10.heap.size = k := ⟨_, rfl⟩
  obtain ⟨w11, hww⟩ : ∃ k, (w10.alloc (.cells #[.int .u8 0, .int .u8 0, .int .u8 0, .int .u8 0, .int .u8 0, .int .u8 0, .int .u8 0, .int .u8 0, .int .u8 0, .int .u8 0, .int .u8 0, .int .u8 0, .bool false, .int .u8 0, .int .u16 0, .int .u16 0, .string { data := #[] }] 26)).setCells w10.heap.size 0 YA.toList = k := ⟨_, rfl⟩
  have T11 := Lib.hid (T10.out.later hbz)
  have HB11 := Lib.hid (HB10.out.trans (hbz.mono HB10.out.size))
  have F0_11 := Lib.hid (F0_10.out.later hbz)
  rw [hbb] at hww
  rw [hbb, hww] at fs
  rw [hbb, hww] at T11 HB11 F0_11 ⊢
  have F1_11 := Lib.hid fs
  clear fs hbz hww hbb TH T10 HB10 F0_10
  go_wp2_with fail
  with_reducible refine (O3.out _ _ _ T11.out).mono ?_
  rintro en w12 ⟨rfl, hb12⟩
  have T12 := Lib.hid (T11.out.later hb12)
  have HB12 := Lib.hid (HB11.out.trans (hb12.mono HB11.out.size))
  have F0_12 := Lib.hid (F0_11.out.later hb12)
  have F1_12 := Lib.hid (F1_11.out.later hb12)
  clear hb12 T11 HB11 O3 F0_11 F1_11
  have th := fr_there w12 fZ.out
  have TH := Lib.hid th
  clear th
  go_upto_region 13 with ((with_reducible refine wpList_store_mid rfl 26 (.tmp 17) (.tmp 73) rfl w12.heap.size 0 ZA ?hx ?hy TH.out iZ.out oZ.out ?_); (case hx => rfl); (case hy => rfl))
  have fs := fr_stored w12 fZ.out
  have hbz : Below w12.heap.size w12 ((w12.alloc (.cells #[.int .u8 0, .int .u8 0, .int .u8 0, .int .u8 0, .int .u8 0, .int .u8 0, .int .u8 0, .int .u8 0, .int .u8 0, .int .u8 0, .int .u8 0, .int .u8 0, .bool false, .int .u8 0, .int .u16 0, .int .u16 0, .string { data := #[] }] 26)).setCells w12.heap.size 0 ZA.toList) := below_cells (Nat.le_refl _) _ _ _ ((Below.refl _ _).alloc (Nat.le_refl _) _)
  obtain ⟨b2, hbb⟩ : ∃ k, w12.heap.size = k := ⟨_, rfl⟩
  obtain ⟨w13, hww⟩ : ∃ k, (w12.alloc (.cells #[.int .u8 0, .int .u8 0, .int .u8 0, .int .u8 0, .int .u8 0, .int .u8 0, .int .u8 0, .int .u8 0, .int .u8 0, .int .u8 0, .int .u8 0, .int .u8 0, .bool false, .int .u8 0, .int .u16 0, .int .u16 0, .string { data := #[] }] 26)).setCells w12.heap.size 0 ZA.toList = k := ⟨_, rfl⟩
  have T13 := Lib.hid (T12.out.later hbz)
  have HB13 := Lib.hid (HB12.out.trans (hbz.mono HB12.out.size))
  have F0_13 := Lib.hid (F0_12.out.later hbz)
  have F1_13 := Lib.hid (F1_12.out.later hbz)
  rw [hbb] at hww
  rw [hbb, hww] at fs
  rw [hbb, hww] at T13 HB13 F0_13 F1_13 ⊢
  have F2_13 := Lib.hid fs
  clear fs hbz hww hbb TH T12 HB12 F0_12 F1_12
  go_wp2_with (first | ((with_reducible refine wpList_load_gV ?hw 26 (.tmp 13) rfl b0 0 ?hx ZA.toList _ F0_13.out.range Try.underlying26 ?hu iZL.out ?_); (case hw => rfl); (case hx => rfl); (case hu => rfl)) | ((with_reducible refine wpList_load_gV ?hw 26 (.tmp 15) rfl b1 0 ?hx YA.toList _ F1_13.out.range Try.underlying26 ?hu iYL.out ?_); (case hw => rfl); (case hx => rfl); (case hu => rfl)))
  go_ret
  exact ⟨rfl, HB13.out⟩
end Go.Proofs.Ytecoomkpkdapdaa
