/- ccm: a check equals itself; the known check. -/
import Derived.Test.YtcbbocdmmehphaaD3
import Derived.Test.YtcbbocdmmehphaaP3
import Derived.Laws.StructEq
set_option linter.unusedVariables false
namespace Go.Proofs.Ytcbbocdmmehphaa
open Go.RowKit

theorem run_part_one (t : TypeId) (hs : ∀ w : World, (isAgg t).run Try.prog w = .ok false w) (cs : Array Value) (k : Nat) (v : Value) (w : World) (h : cs[k]? = some v) : (part t cs k).run Try.prog w = .ok v w := by
  simp [part, hs, h]
theorem eqF_step (d : Nat) (xs ys : Array Value) (f : Field) (fs : List Field) (w : World) (u v : Value) (hn : f.name ≠ "_") (h1 : (part f.type xs f.offset).run Try.prog w = .ok u w) (h2 : (part f.type ys f.offset).run Try.prog w = .ok v w)
    (h3 : (Op.equalIn d f.type u v).run Try.prog w = .ok true w) : (Op.eqFields d xs ys (f :: fs)).run Try.prog w = (Op.eqFields d xs ys fs).run Try.prog w := by
  rw [Op.eqFields, if_pos hn]
  simp [Sem.run_bind, h1, h2, h3, Sem.run_ite]
set_option maxRecDepth 100000 in
theorem run_equalIn_check (d : Nat) (xlv : Int) (xrd : Bool) (xiv xsq xme : Int) (xm : List UInt8) (w : World) : (Op.equalIn (d + 4) 88 (.agg #[.int .u8 xlv, .bool xrd, .int .u8 xiv, .int .u32 xsq, .int .u16 xme, .string (bs xm)]) (.agg #[.int .u8 xlv, .bool xrd, .int .u8 xiv, .int .u32 xsq, .int .u16 xme, .string (bs xm)])).run Try.prog w = .ok true w := by
  have hb : ∀ w, (isAgg 4).run Try.prog w = .ok false w := fun w => by kernel_rfl
  have h8 : ∀ w, (isAgg 5).run Try.prog w = .ok false w := fun w => by kernel_rfl
  have h16 : ∀ w, (isAgg 35).run Try.prog w = .ok false w := fun w => by kernel_rfl
  have h32 : ∀ w, (isAgg 50).run Try.prog w = .ok false w := fun w => by kernel_rfl
  have hst : ∀ w, (isAgg 9).run Try.prog w = .ok false w := fun w => by kernel_rfl
  have p0 : (part 5 #[.int .u8 xlv, .bool xrd, .int .u8 xiv, .int .u32 xsq, .int .u16 xme, .string (bs xm)] 0).run Try.prog w = .ok (.int .u8 xlv) w := run_part_one _ h8 _ 0 _ w rfl
  have p1 : (part 4 #[.int .u8 xlv, .bool xrd, .int .u8 xiv, .int .u32 xsq, .int .u16 xme, .string (bs xm)] 1).run Try.prog w = .ok (.bool xrd) w := run_part_one _ hb _ 1 _ w rfl
  have p2 : (part 5 #[.int .u8 xlv, .bool xrd, .int .u8 xiv, .int .u32 xsq, .int .u16 xme, .string (bs xm)] 2).run Try.prog w = .ok (.int .u8 xiv) w := run_part_one _ h8 _ 2 _ w rfl
  have p3 : (part 50 #[.int .u8 xlv, .bool xrd, .int .u8 xiv, .int .u32 xsq, .int .u16 xme, .string (bs xm)] 3).run Try.prog w = .ok (.int .u32 xsq) w := run_part_one _ h32 _ 3 _ w rfl
  have p4 : (part 35 #[.int .u8 xlv, .bool xrd, .int .u8 xiv, .int .u32 xsq, .int .u16 xme, .string (bs xm)] 4).run Try.prog w = .ok (.int .u16 xme) w := run_part_one _ h16 _ 4 _ w rfl
  have p5 : (part 9 #[.int .u8 xlv, .bool xrd, .int .u8 xiv, .int .u32 xsq, .int .u16 xme, .string (bs xm)] 5).run Try.prog w = .ok (.string (bs xm)) w := run_part_one _ hst _ 5 _ w rfl
  rw [run_equalIn_struct w (d + 3) 88 _ _ (by kernel_rfl) (by kernel_rfl)]
  simp only [Program.fieldsOf, Try.underlying88]
  refine Eq.trans (eqF_step _ _ _ _ _ w ?u0 ?v0 ?n0 ?a0 ?b0 ?c0) ?_
  case a0 => exact p0
  case b0 => exact p0
  case c0 => exact (run_equalIn_int w _ _ .u8 .u8 xlv xlv Try.underlying5).trans (by simp)
  case n0 => decide
  refine Eq.trans (eqF_step _ _ _ _ _ w ?u1 ?v1 ?n1 ?a1 ?b1 ?c1) ?_
  case a1 => exact p1
  case b1 => exact p1
  case c1 => exact (run_equalIn_bool' w _ _ xrd xrd Try.underlying4).trans (by simp)
  case n1 => decide
  refine Eq.trans (eqF_step _ _ _ _ _ w ?u2 ?v2 ?n2 ?a2 ?b2 ?c2) ?_
  case a2 => exact p2
  case b2 => exact p2
  case c2 => exact (run_equalIn_int w _ _ .u8 .u8 xiv xiv Try.underlying5).trans (by simp)
  case n2 => decide
  refine Eq.trans (eqF_step _ _ _ _ _ w ?u3 ?v3 ?n3 ?a3 ?b3 ?c3) ?_
  case a3 => exact p3
  case b3 => exact p3
  case c3 => exact (run_equalIn_int w _ _ .u32 .u32 xsq xsq Try.underlying50).trans (by simp)
  case n3 => decide
  refine Eq.trans (eqF_step _ _ _ _ _ w ?u4 ?v4 ?n4 ?a4 ?b4 ?c4) ?_
  case a4 => exact p4
  case b4 => exact p4
  case c4 => exact (run_equalIn_int w _ _ .u16 .u16 xme xme Try.underlying35).trans (by simp)
  case n4 => decide
  refine Eq.trans (eqF_step _ _ _ _ _ w ?u5 ?v5 ?n5 ?a5 ?b5 ?c5) ?_
  case a5 => exact p5
  case b5 => exact p5
  case c5 => exact (run_equalIn_string w _ _ (bs xm) (bs xm) Try.underlying9).trans (by simp)
  case n5 => decide
  rfl
theorem run_eql_check (xlv : Int) (xrd : Bool) (xiv xsq xme : Int) (xm : List UInt8) (w : World) : (binOp .eql 88 (.agg #[.int .u8 xlv, .bool xrd, .int .u8 xiv, .int .u32 xsq, .int .u16 xme, .string (bs xm)]) (.agg #[.int .u8 xlv, .bool xrd, .int .u8 xiv, .int .u32 xsq, .int .u16 xme, .string (bs xm)])).run Try.prog w = .ok (.bool true) w := by
  rw [run_eql_struct, run_equalIn_check 9996]; rfl
theorem run_neq_check (xlv : Int) (xrd : Bool) (xiv xsq xme : Int) (xm : List UInt8) (w : World) : (binOp .neq 88 (.agg #[.int .u8 xlv, .bool xrd, .int .u8 xiv, .int .u32 xsq, .int .u16 xme, .string (bs xm)]) (.agg #[.int .u8 xlv, .bool xrd, .int .u8 xiv, .int .u32 xsq, .int .u16 xme, .string (bs xm)])).run Try.prog w = .ok (.bool false) w := by
  rw [run_neq_struct, run_equalIn_check 9996]; rfl
theorem eqGuard_ck : Try.prog.eqGuardType Try.prog.depth 88 = false := by kernel_rfl

set_option maxRecDepth 100000 in
set_option maxHeartbeats 4000000 in
theorem wakes13_any (w : World) : Calls Try.prog 42 #[] w fun en w' => en = .returned (.bool true) ∧ Below w.heap.size w w' := by
  obtain ⟨M, hM, lM⟩ : ∃ M, mPut [] [97] = (M, 0) ∧ M.length = 48 := ⟨_, rfl, rfl⟩
  have tM := takeR_of hM
  have may : mayC 3 4 2 M = true := by unfold mayC; rw [tM]; rfl
  have R1 : Hid (∀ w, Calls Try.prog 80 #[.string { data := #[] }, .string { data := #[97] }] w fun en w' => en = .returned (.tuple #[.string (bs M), .int .i64 0]) ∧ Below w.heap.size w w') := fun w => by
    have h := refPut10_any [] [97] w (by decide) (by decide)
    rw [hM] at h; exact h
  obtain ⟨X, hX⟩ : ∃ X, fxC 1 2 M = X := ⟨_, rfl⟩
  have sX : (bs X).size = 70 := by rw [bs_size, ← hX]; simp [fxC, be_length, lM]
  have cX : (bs X).extract 0 6 = { data := #[0, 0, 0, 1, 0, 2] } := by
    rw [bs_take, ← hX]
    have e : fxC 1 2 M = [0, 0, 0, 1, 0, 2] ++ (M ++ List.replicate 16 0) := by
      unfold fxC
      rw [show be 4 1 = [0, 0, 0, 1] by decide, show be 2 2 = [0, 2] by decide]; simp
    rw [e, List.take_append_of_le_length (by decide)]; rfl
  have P1 : Hid (∀ w, Calls Try.prog 43 #[.agg #[.int .u8 3, .bool true, .int .u8 4, .int .u32 1, .int .u16 2, .string (bs M)]] w fun en w' => en = .returned (.tuple #[.agg #[.int .u8 3, .int .u8 1, .int .u8 132, .string (bs X), .slice none 0 0], .int .i64 0]) ∧ Below w.heap.size w w') := fun w => by
    have h := ccput_any 3 true 4 1 2 M w (by omega) (by omega) (by omega)
    rw [show putC 3 true 4 1 2 M = (3, 1, 132, X, 0) by unfold putC; rw [may, if_pos rfl, hX]; rfl] at h; exact h
  have T1 : Hid (∀ w, Calls Try.prog 47 #[.agg #[.int .u8 3, .int .u8 1, .int .u8 132, .string (bs X), .slice none 0 0]] w fun en w' => en = .returned (.tuple #[.agg #[.int .u8 3, .bool true, .int .u8 4, .int .u32 1, .int .u16 2, .string (bs M)], .int .i64 0]) ∧ Below w.heap.size w w') := fun w => by
    have h := cctake_any (.slice none 0 0) 3 1 132 X w (by rw [← bs_size, sX]; decide) (by omega) (by omega) ⟨_, _, _, rfl⟩
    have k := cput_take (rd := true) (sq := 1) may (by omega)
    rw [show (4 : Int) + (if true = true then 128 else 0) = 132 from rfl, hX] at k
    rw [k] at h; exact h
  have K1 : Hid (∀ w, Calls Try.prog 46 #[.int .u8 5] w fun en w' => en = .returned (.int .i64 10) ∧ w = w') := fun w => ticks_any 5 w
  have eqC : ∀ w : World, (binOp .eql 88 (.agg #[.int .u8 3, .bool true, .int .u8 4, .int .u32 1, .int .u16 2, .string (bs M)]) (.agg #[.int .u8 3, .bool true, .int .u8 4, .int .u32 1, .int .u16 2, .string (bs M)])).run Try.prog w = .ok (.bool true) w := run_eql_check 3 true 4 1 2 M
  have hg := eqGuard_ck
  clear hM lM tM may hX
  go_enter Try.func42, Try.ntmps42
  go_wp2_with fail
  with_reducible refine (R1.out _).mono ?_
  rintro en w1 ⟨rfl, hb1⟩
  have HB1 := Lib.hid hb1
  clear hb1
  go_upto_region 3 with fail
  have cb := CB.new 88 w1 3 true 4 1 2 M
  have aa := (Below.refl w1.heap.size w1).alloc (Nat.le_refl _) (.cells #[.int .u8 3, .bool true, .int .u8 4, .int .u32 1, .int .u16 2, .string (bs M)] 88)
  obtain ⟨q, hq⟩ : ∃ k, w1.heap.size = k := ⟨_, rfl⟩
  obtain ⟨w2, hw2⟩ : ∃ k, w1.alloc (.cells #[.int .u8 3, .bool true, .int .u8 4, .int .u32 1, .int .u16 2, .string (bs M)] 88) = k := ⟨_, rfl⟩
  rw [hw2] at cb aa ⊢
  have HB2 := Lib.hid (HB1.out.trans (aa.mono HB1.out.size))
  rw [hq] at cb ⊢
  have CB2 := Lib.hid cb
  have c0 := cb.c0
  have c1 := cb.c1
  have c2 := cb.c2
  have c3 := cb.c3
  have c4 := cb.c4
  have c5 := cb.c5
  clear cb aa hw2 hq HB1
  go_wp2_with fail
  with_reducible refine (P1.out _).mono ?_
  rintro en w3 ⟨rfl, hb3⟩
  have CB3 := Lib.hid (CB2.out.later hb3)
  have HB3 := Lib.hid (HB2.out.trans (hb3.mono HB2.out.size))
  clear hb3 CB2 HB2 c0 c1 c2 c3 c4 c5
  go_upto_region 4 with fail
  have pb := PB.new 32 w3 3 1 132 X (.slice none 0 0)
  have aa := (Below.refl w3.heap.size w3).alloc (Nat.le_refl _) (.cells #[.int .u8 3, .int .u8 1, .int .u8 132, .string (bs X), .slice none 0 0] 32)
  obtain ⟨r, hr⟩ : ∃ k, w3.heap.size = k := ⟨_, rfl⟩
  obtain ⟨w4, hw4⟩ : ∃ k, w3.alloc (.cells #[.int .u8 3, .int .u8 1, .int .u8 132, .string (bs X), .slice none 0 0] 32) = k := ⟨_, rfl⟩
  rw [hw4] at pb aa ⊢
  have CB4 := Lib.hid (CB3.out.later aa)
  have HB4 := Lib.hid (HB3.out.trans (aa.mono HB3.out.size))
  rw [hr] at pb ⊢
  have PB4 := Lib.hid pb
  have c0 := pb.c0
  have c1 := pb.c1
  have c2 := pb.c2
  have c3 := pb.c3
  have c4 := pb.c4
  clear pb aa hw4 hr CB3 HB3
  go_wp2_with fail
  with_reducible refine (T1.out _).mono ?_
  rintro en w5 ⟨rfl, hb5⟩
  have CB5 := Lib.hid (CB4.out.later hb5)
  have PB5 := Lib.hid (PB4.out.later hb5)
  have HB5 := Lib.hid (HB4.out.trans (hb5.mono HB4.out.size))
  clear hb5 CB4 PB4 HB4 c0 c1 c2 c3 c4
  go_upto_region 5 with fail
  have cn := CB.new 88 w5 3 true 4 1 2 M
  have aa := (Below.refl w5.heap.size w5).alloc (Nat.le_refl _) (.cells #[.int .u8 3, .bool true, .int .u8 4, .int .u32 1, .int .u16 2, .string (bs M)] 88)
  obtain ⟨t, ht⟩ : ∃ k, w5.heap.size = k := ⟨_, rfl⟩
  obtain ⟨w6, hw6⟩ : ∃ k, w5.alloc (.cells #[.int .u8 3, .bool true, .int .u8 4, .int .u32 1, .int .u16 2, .string (bs M)] 88) = k := ⟨_, rfl⟩
  rw [hw6] at cn aa ⊢
  have cb6 := CB5.out.later aa
  have pb6 := PB5.out.later aa
  have HB6 := Lib.hid (HB5.out.trans (aa.mono HB5.out.size))
  rw [ht] at cn ⊢
  have c0 := cb6.c0
  have c1 := cb6.c1
  have c2 := cb6.c2
  have c3 := cb6.c3
  have c4 := cb6.c4
  have c5 := cb6.c5
  have d0 := cn.c0
  have d1 := cn.c1
  have d2 := cn.c2
  have d3 := cn.c3
  have d4 := cn.c4
  have d5 := cn.c5
  have e0 := pb6.c0
  have e1 := pb6.c1
  have e2 := pb6.c2
  have e3 := pb6.c3
  clear cn aa hw6 ht cb6 pb6 CB5 PB5 HB5
  go_wp2_with fail
  with_reducible refine (K1.out _).mono ?_
  rintro en _ ⟨rfl, rfl⟩
  go_wp2
  go_ret
  exact ⟨rfl, HB6.out⟩
end Go.Proofs.Ytcbbocdmmehphaa
