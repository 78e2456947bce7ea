/- ltm: the law's known trace and reply. -/
import Derived.Test.YtcbbocdmmehphaaG9
import Derived.Test.YtcbbocdmmehphaaG10
set_option linter.unusedVariables false
namespace Go.Proofs.Ytcbbocdmmehphaa
open Go.RowKit

/-- A guarded load of a whole variable, its guard met. -/
theorem wpList_load_gG {P : Program} {ops : Array Oper} {rest : List Oper} {op : Oper} {a : Act} {w : World} {Q : Exit → Act → World → Prop} (hw : Region.wanted op (yielded ops a.tmps) = true) (ty : TypeId) (x : Operand) (ho : op.op = .load ty x)
    (b o : Nat) (hx : a.eval x = .pointer (some ⟨b, o, none⟩)) (cs : List Value) (d : TypeDesc) (hc : w.rangeAt b o cs)
    (hu : P.underlying ty = some d) (hd : d.isRow = true) (hi : (P.info? ty).map (·.size) = some cs.length)
    (h : wpList P ops Q rest (a.put op.dst (.agg cs.toArray)) w) : wpList P ops Q (op :: rest) a w :=
  wpList_step fun _ hK => by rw [if_pos hw]; exact wp_load_mid ty x ho b o hx cs d hc hu hd hi (hK _ _ h)
set_option maxRecDepth 100000 in
set_option maxHeartbeats 8000000 in
theorem wakes15_any (w : World) : Calls Try.prog 39 #[] w fun en w' => en = .returned (.bool true) ∧ Below w.heap.size w w' := by
  have z8 : (0 : Int) ≤ 0 ∧ (0 : Int) < 256 := by decide
  obtain ⟨A, hA⟩ : ∃ A : Array Value, A = #[.int .u8 1, .int .u32 9, .int .u8 63, .bool true, .bool false, .int .u8 6, .int .u8 0, .int .u8 0, .int .u8 0, .int .u8 0, .int .u8 0, .int .u8 0, .int .u8 0, .int .u8 0, .int .u8 0, .int .u8 0, .int .u8 0] := ⟨_, rfl⟩
  have P1 : Hid (∀ w, Calls Try.prog 33 #[.agg #[.int .u8 1, .int .u32 9, .int .u8 64, .int .u8 2, .int .u8 0, .int .u8 0, .int .u8 0, .int .u8 0, .int .u8 0, .int .u8 4, .int .u8 0, .int .u8 0, .int .u8 0, .int .u8 0, .int .u8 0]] w fun en w' => en = .returned (.tuple #[.agg #[.int .u8 1, .int .u8 5, .int .u8 128, .string { data := #[0, 0, 0, 9, 64, 2, 0, 0, 0, 0, 0, 4, 0, 0, 0, 0, 0] }, .slice none 0 0], .int .i64 0]) ∧ Below w.heap.size w w') :=
    fun w => ltput_any ⟨1, 9, 64, ⟨2, 0, 0, 0, 0, 0⟩, ⟨4, 0, 0, 0, 0, 0⟩⟩ w ⟨by decide, by decide, by decide, ⟨by decide, z8, z8, z8, z8, z8⟩, ⟨by decide, z8, z8, z8, z8, z8⟩⟩
  have P2 : Hid (∀ w, Calls Try.prog 36 #[.agg A] w fun en w' => ∃ v', en = .returned (.tuple #[.agg #[.int .u8 1, .int .u8 4, .int .u8 64, .string { data := #[0, 0, 0, 9, 63, 2] }, v'], .int .i64 0]) ∧ TlT w' w.heap.size v' [(5, [1, 6, 0, 0, 0, 0, 0])] ∧ Below w.heap.size w w') := by
    rw [hA]
    exact fun w => ltputR_any ⟨1, 9, 63, true, false, ⟨6, 0, 0, 0, 0, 0⟩, mc0⟩ w ⟨by decide, by decide, by decide, ⟨by decide, z8, z8, z8, z8, z8⟩, ⟨z8, z8, z8, z8, z8, z8⟩⟩
  have T1 : Hid (∀ v w, Tls w v [(5, [1, 6, 0, 0, 0, 0, 0])] → Calls Try.prog 41 #[.agg #[.int .u8 1, .int .u8 4, .int .u8 64, .string { data := #[0, 0, 0, 9, 63, 2] }, v]] w fun en w' => en = .returned (.tuple #[.agg A, .int .i64 0]) ∧ Below w.heap.size w w') := by
    rw [hA]
    exact fun v w hv => lttakeR_any v [(5, [1, 6, 0, 0, 0, 0, 0])] 1 4 64 [0, 0, 0, 9, 63, 2] w (by decide) (by decide) hv (by decide) (by decide)
  have eqA : ∀ w : World, (binOp .eql 76 (.agg A) (.agg A)).run Try.prog w = .ok (.bool true) w := by
    rw [hA]
    exact run_eql_rp ⟨1, 9, 63, true, false, ⟨6, 0, 0, 0, 0, 0⟩, mc0⟩
  have hg := eqGuard_rp
  have hs : A.size = 17 := by rw [hA]; rfl
  have o1 : A.all (·.oneCell') = true := by rw [hA]; simp [Value.oneCell']
  have HI : Hid ((Try.prog.info? 76).map (·.size) = some A.size) := Lib.hid (by rw [hs]; kernel_rfl)
  have HIL : Hid ((Try.prog.info? 76).map (·.size) = some A.toList.length) := Lib.hid (by rw [Array.length_toList]; exact HI.out)
  have O1 := Lib.hid o1
  have HS := Lib.hid hs
  have HA := Lib.hid hA
  clear hA hs o1 z8
  go_enter Try.func39, Try.ntmps39
  go_wp2_with fail
  with_reducible refine (P1.out _).mono ?_
  rintro en w1 ⟨rfl, hb1⟩
  have HB1 := Lib.hid hb1
  clear hb1 P1
  go_upto_region 2 with fail
  have pb := PB.new 32 w1 1 5 128 [0, 0, 0, 9, 64, 2, 0, 0, 0, 0, 0, 4, 0, 0, 0, 0, 0] (.slice none 0 0)
  have aa := (Below.refl w1.heap.size w1).alloc (Nat.le_refl _) (.cells #[.int .u8 1, .int .u8 5, .int .u8 128, .string { data := #[0, 0, 0, 9, 64, 2, 0, 0, 0, 0, 0, 4, 0, 0, 0, 0, 0] }, .slice none 0 0] 32)
  obtain ⟨q, hq⟩ : ∃ k, w1.heap.size = k := ⟨_, rfl⟩
  obtain ⟨w2, hw2⟩ : ∃ k, w1.alloc (.cells #[.int .u8 1, .int .u8 5, .int .u8 128, .string { data := #[0, 0, 0, 9, 64, 2, 0, 0, 0, 0, 0, 4, 0, 0, 0, 0, 0] }, .slice none 0 0] 32) = k := ⟨_, rfl⟩
  have pb2 : PB 32 w2 q 1 5 128 [0, 0, 0, 9, 64, 2, 0, 0, 0, 0, 0, 4, 0, 0, 0, 0, 0] (.slice none 0 0) := by rw [← hw2, ← hq]; exact pb
  rw [hw2] at aa ⊢
  rw [hq]
  have PB2 := Lib.hid pb2
  have HB2 := Lib.hid (HB1.out.trans (aa.mono HB1.out.size))
  clear pb pb2 aa hw2 hq HB1
  have gz := GB.new 76 w2 #[.int .u8 0, .int .u32 0, .int .u8 0, .bool false, .bool false, .int .u8 0, .int .u8 0, .int .u8 0, .int .u8 0, .int .u8 0, .int .u8 0, .int .u8 0, .int .u8 0, .int .u8 0, .int .u8 0, .int .u8 0, .int .u8 0]
  have th := gz.there (n := A.size) (Nat.le_of_eq HS.out)
  have TH := Lib.hid th
  clear th
  go_upto_region 3 with ((with_reducible refine wpList_store_mid rfl 76 (.tmp 3) (.tmp 16) rfl w2.heap.size 0 A ?hx ?hy TH.out HI.out O1.out ?_); (case hx => rfl); (case hy => (rw [HA.out]; rfl)))
  have g3 := gz.store (A := A) HS.out.symm O1.out
  have hbz : Below w2.heap.size w2 ((w2.alloc (.cells #[.int .u8 0, .int .u32 0, .int .u8 0, .bool false, .bool false, .int .u8 0, .int .u8 0, .int .u8 0, .int .u8 0, .int .u8 0, .int .u8 0, .int .u8 0, .int .u8 0, .int .u8 0, .int .u8 0, .int .u8 0, .int .u8 0] 76)).setCells w2.heap.size 0 A.toList) := below_cellsG (Nat.le_refl _) _ _ _ ((Below.refl _ _).alloc (Nat.le_refl _) _)
  obtain ⟨r, hr⟩ : ∃ k, w2.heap.size = k := ⟨_, rfl⟩
  obtain ⟨w3, hw3⟩ : ∃ k, (w2.alloc (.cells #[.int .u8 0, .int .u32 0, .int .u8 0, .bool false, .bool false, .int .u8 0, .int .u8 0, .int .u8 0, .int .u8 0, .int .u8 0, .int .u8 0, .int .u8 0, .int .u8 0, .int .u8 0, .int .u8 0, .int .u8 0, .int .u8 0] 76)).setCells w2.heap.size 0 A.toList = k := ⟨_, rfl⟩
  have PB3 := Lib.hid (PB2.out.later hbz)
  have HB3 := Lib.hid (HB2.out.trans (hbz.mono HB2.out.size))
  rw [hr] at hw3
  rw [hr, hw3] at g3 PB3 HB3 ⊢
  have G3 := Lib.hid g3
  clear gz g3 hbz hw3 PB2 HB2 TH hr
  go_wp2_with ((with_reducible refine wpList_load_mid rfl 76 (.tmp 3) rfl r 0 ?hx A.toList _ G3.out.range Try.underlying76 ?hu HIL.out ?_); (case hx => rfl); (case hu => rfl))
  with_reducible refine (P2.out _).mono ?_
  rintro en w4 ⟨v1, rfl, ho4, hb4⟩
  have HB4 := Lib.hid (HB3.out.trans (hb4.mono HB3.out.size))
  have PB4 := Lib.hid (PB3.out.later hb4)
  have G4 := Lib.hid (G3.out.later hb4)
  obtain ⟨s1, k1, rfl, -⟩ := ho4.tls.shape
  have HT4 : Hid (Tls w4 (.slice s1 1 k1) [(5, [1, 6, 0, 0, 0, 0, 0])]) := Lib.hid ho4.tls
  clear hb4 ho4 HB3 PB3 G3
  go_upto_region 4 with fail
  have pb := PB.new 32 w4 1 4 64 [0, 0, 0, 9, 63, 2] (.slice s1 1 k1)
  have aa := (Below.refl w4.heap.size w4).alloc (Nat.le_refl _) (.cells #[.int .u8 1, .int .u8 4, .int .u8 64, .string { data := #[0, 0, 0, 9, 63, 2] }, .slice s1 1 k1] 32)
  obtain ⟨t, ht⟩ : ∃ k, w4.heap.size = k := ⟨_, rfl⟩
  obtain ⟨w5, hw5⟩ : ∃ k, w4.alloc (.cells #[.int .u8 1, .int .u8 4, .int .u8 64, .string { data := #[0, 0, 0, 9, 63, 2] }, .slice s1 1 k1] 32) = k := ⟨_, rfl⟩
  have pb5 : PB 32 w5 t 1 4 64 [0, 0, 0, 9, 63, 2] (.slice s1 1 k1) := by rw [← hw5, ← ht]; exact pb
  rw [hw5] at aa ⊢
  rw [ht] at ⊢
  have HB5 := Lib.hid (HB4.out.trans (aa.mono HB4.out.size))
  have HT5 := Lib.hid (HT4.out.later aa)
  have PB5 := Lib.hid (PB4.out.later aa)
  have G5 := Lib.hid (G4.out.later aa)
  have PC5 := Lib.hid pb5
  have c0 := pb5.c0
  have c1 := pb5.c1
  have c2 := pb5.c2
  have c3 : w5.cell? ⟨t, 3, none⟩ = some (.string { data := #[0, 0, 0, 9, 63, 2] }) := pb5.c3
  have c4 := pb5.c4
  clear pb pb5 aa hw5 ht HB4 HT4 PB4 G4
  go_wp2_with fail
  with_reducible refine (T1.out _ _ HT5.out).mono ?_
  rintro en w6 ⟨rfl, hb6⟩
  have HB6 := Lib.hid (HB5.out.trans (hb6.mono HB5.out.size))
  have PB6 := Lib.hid (PB5.out.later hb6)
  have PC6 := Lib.hid (PC5.out.later hb6)
  have G6 := Lib.hid (G5.out.later hb6)
  clear hb6 HB5 PB5 PC5 G5 HT5 c0 c1 c2 c3 c4
  have gz := GB.new 76 w6 #[.int .u8 0, .int .u32 0, .int .u8 0, .bool false, .bool false, .int .u8 0, .int .u8 0, .int .u8 0, .int .u8 0, .int .u8 0, .int .u8 0, .int .u8 0, .int .u8 0, .int .u8 0, .int .u8 0, .int .u8 0, .int .u8 0]
  have TH := Lib.hid (gz.there (n := A.size) (Nat.le_of_eq HS.out))
  go_upto_region 5 with ((with_reducible refine wpList_store_mid rfl 76 (.tmp 6) (.tmp 25) rfl w6.heap.size 0 A ?hx ?hy TH.out HI.out O1.out ?_); (case hx => rfl); (case hy => rfl))
  have g7 := gz.store (A := A) HS.out.symm O1.out
  have hbz : Below w6.heap.size w6 ((w6.alloc (.cells #[.int .u8 0, .int .u32 0, .int .u8 0, .bool false, .bool false, .int .u8 0, .int .u8 0, .int .u8 0, .int .u8 0, .int .u8 0, .int .u8 0, .int .u8 0, .int .u8 0, .int .u8 0, .int .u8 0, .int .u8 0, .int .u8 0] 76)).setCells w6.heap.size 0 A.toList) := below_cellsG (Nat.le_refl _) _ _ _ ((Below.refl _ _).alloc (Nat.le_refl _) _)
  obtain ⟨u, hu⟩ : ∃ k, w6.heap.size = k := ⟨_, rfl⟩
  obtain ⟨w7, hw7⟩ : ∃ k, (w6.alloc (.cells #[.int .u8 0, .int .u32 0, .int .u8 0, .bool false, .bool false, .int .u8 0, .int .u8 0, .int .u8 0, .int .u8 0, .int .u8 0, .int .u8 0, .int .u8 0, .int .u8 0, .int .u8 0, .int .u8 0, .int .u8 0, .int .u8 0] 76)).setCells w6.heap.size 0 A.toList = k := ⟨_, rfl⟩
  have pb7 := PB6.out.later hbz
  have pc7 := PC6.out.later hbz
  have HB7 := Lib.hid (HB6.out.trans (hbz.mono HB6.out.size))
  have G7 := Lib.hid (G6.out.later hbz)
  rw [hu] at hw7
  rw [hu, hw7] at g7 pb7 pc7 HB7 G7 ⊢
  have GU7 := Lib.hid g7
  have d1 := pb7.c1
  have d2 := pb7.c2
  have d3 : w7.cell? ⟨q, 3, none⟩ = some (.string { data := #[0, 0, 0, 9, 64, 2, 0, 0, 0, 0, 0, 4, 0, 0, 0, 0, 0] }) := pb7.c3
  have e2 := pc7.c2
  have e3 : w7.cell? ⟨t, 3, none⟩ = some (.string { data := #[0, 0, 0, 9, 63, 2] }) := pc7.c3
  have e4 := pc7.c4
  clear gz g7 hbz hw7 pb7 pc7 HB6 PB6 PC6 G6 TH hu
  go_wp2_with (first | ((with_reducible refine wpList_load_gG ?hw 76 (.tmp 6) rfl u 0 ?hx A.toList _ GU7.out.range Try.underlying76 ?hu HIL.out ?_); (case hw => rfl); (case hx => rfl); (case hu => rfl)) | ((with_reducible refine wpList_load_gG ?hw 76 (.tmp 3) rfl r 0 ?hx A.toList _ G7.out.range Try.underlying76 ?hu HIL.out ?_); (case hw => rfl); (case hx => rfl); (case hu => rfl)))
  go_ret
  exact ⟨rfl, HB7.out⟩
end Go.Proofs.Ytcbbocdmmehphaa
