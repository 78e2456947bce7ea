/- lbm: a loop equals itself; the known loop. -/
import Derived.Test.YtcbbocdmmehphaaE7
import Derived.Laws.StructEq
set_option linter.unusedVariables false
namespace Go.Proofs.Ytcbbocdmmehphaa
open Go.RowKit

theorem lp_part (t : TypeId) (hs : ∀ w : World, (isAgg t).run Try.prog w = .ok false w) (cs : Array Value) (k : Nat) (v : Value) (w : World) (h : cs[k]? = some v) : (part t cs k).run Try.prog w = .ok v w := by
  simp [part, hs, h]
theorem lp_step (d : Nat) (xs ys : Array Value) (f : Field) (fs : List Field) (w : World) (u v : Value) (hn : f.name ≠ "_") (h1 : (part f.type xs f.offset).run Try.prog w = .ok u w) (h2 : (part f.type ys f.offset).run Try.prog w = .ok v w)
    (h3 : (Op.equalIn d f.type u v).run Try.prog w = .ok true w) : (Op.eqFields d xs ys (f :: fs)).run Try.prog w = (Op.eqFields d xs ys fs).run Try.prog w := by
  rw [Op.eqFields, if_pos hn]
  simp [Sem.run_bind, h1, h2, h3, Sem.run_ite]
set_option maxRecDepth 100000 in
theorem run_equalIn_loop (d : Nat) (xlv : Int) (xrp : Bool) (xnm : Int) (xdt : List UInt8) (w : World) : (Op.equalIn (d + 4) 54 (.agg #[.int .u8 xlv, .bool xrp, .int .u32 xnm, .string (bs xdt)]) (.agg #[.int .u8 xlv, .bool xrp, .int .u32 xnm, .string (bs xdt)])).run Try.prog w = .ok true w := by
  have hb : ∀ w, (isAgg 4).run Try.prog w = .ok false w := fun w => by kernel_rfl
  have h8 : ∀ w, (isAgg 5).run Try.prog w = .ok false w := fun w => by kernel_rfl
  have h32 : ∀ w, (isAgg 50).run Try.prog w = .ok false w := fun w => by kernel_rfl
  have hst : ∀ w, (isAgg 9).run Try.prog w = .ok false w := fun w => by kernel_rfl
  have p0 : (part 5 #[.int .u8 xlv, .bool xrp, .int .u32 xnm, .string (bs xdt)] 0).run Try.prog w = .ok (.int .u8 xlv) w := lp_part _ h8 _ 0 _ w rfl
  have p1 : (part 4 #[.int .u8 xlv, .bool xrp, .int .u32 xnm, .string (bs xdt)] 1).run Try.prog w = .ok (.bool xrp) w := lp_part _ hb _ 1 _ w rfl
  have p2 : (part 50 #[.int .u8 xlv, .bool xrp, .int .u32 xnm, .string (bs xdt)] 2).run Try.prog w = .ok (.int .u32 xnm) w := lp_part _ h32 _ 2 _ w rfl
  have p3 : (part 9 #[.int .u8 xlv, .bool xrp, .int .u32 xnm, .string (bs xdt)] 3).run Try.prog w = .ok (.string (bs xdt)) w := lp_part _ hst _ 3 _ w rfl
  rw [run_equalIn_struct w (d + 3) 54 _ _ (by kernel_rfl) (by kernel_rfl)]
  simp only [Program.fieldsOf, Try.underlying54]
  refine Eq.trans (lp_step _ _ _ _ _ w ?u0 ?v0 ?n0 ?a0 ?b0 ?c0) ?_
  case a0 => exact p0
  case b0 => exact p0
  case c0 => exact (run_equalIn_int w _ _ .u8 .u8 xlv xlv Try.underlying5).trans (by simp)
  case n0 => decide
  refine Eq.trans (lp_step _ _ _ _ _ w ?u1 ?v1 ?n1 ?a1 ?b1 ?c1) ?_
  case a1 => exact p1
  case b1 => exact p1
  case c1 => exact (run_equalIn_bool' w _ _ xrp xrp Try.underlying4).trans (by simp)
  case n1 => decide
  refine Eq.trans (lp_step _ _ _ _ _ w ?u2 ?v2 ?n2 ?a2 ?b2 ?c2) ?_
  case a2 => exact p2
  case b2 => exact p2
  case c2 => exact (run_equalIn_int w _ _ .u32 .u32 xnm xnm Try.underlying50).trans (by simp)
  case n2 => decide
  refine Eq.trans (lp_step _ _ _ _ _ w ?u3 ?v3 ?n3 ?a3 ?b3 ?c3) ?_
  case a3 => exact p3
  case b3 => exact p3
  case c3 => exact (run_equalIn_string w _ _ (bs xdt) (bs xdt) Try.underlying9).trans (by simp)
  case n3 => decide
  rfl
theorem run_eql_loop (xlv : Int) (xrp : Bool) (xnm : Int) (xdt : List UInt8) (w : World) : (binOp .eql 54 (.agg #[.int .u8 xlv, .bool xrp, .int .u32 xnm, .string (bs xdt)]) (.agg #[.int .u8 xlv, .bool xrp, .int .u32 xnm, .string (bs xdt)])).run Try.prog w = .ok (.bool true) w := by
  rw [run_eql_struct, run_equalIn_loop 9996]; rfl
theorem run_neq_loop (xlv : Int) (xrp : Bool) (xnm : Int) (xdt : List UInt8) (w : World) : (binOp .neq 54 (.agg #[.int .u8 xlv, .bool xrp, .int .u32 xnm, .string (bs xdt)]) (.agg #[.int .u8 xlv, .bool xrp, .int .u32 xnm, .string (bs xdt)])).run Try.prog w = .ok (.bool false) w := by
  rw [run_neq_struct, run_equalIn_loop 9996]; rfl
theorem eqGuard_lp : Try.prog.eqGuardType Try.prog.depth 54 = false := by kernel_rfl

set_option maxRecDepth 100000 in
set_option maxHeartbeats 8000000 in
theorem wakes14_any (w : World) : Calls Try.prog 26 #[] w fun en w' => en = .returned (.bool true) ∧ Below w.heap.size w w' := by
  have P1 : Hid (∀ w, Calls Try.prog 27 #[.agg #[.int .u8 2, .bool false, .int .u32 7, .string { data := #[97, 98] }]] w fun en w' => ∃ v', en = .returned (.tuple #[.agg #[.int .u8 2, .int .u8 3, .int .u8 0, .string { data := #[0, 0, 0, 7] }, v'], .int .i64 0]) ∧ TlT w' w.heap.size v' [(3, [97, 98])] ∧ Below w.heap.size w w') := fun w => lbput_any 2 false 7 [97, 98] w (by decide) (by decide)
  have A1 : Hid (∀ v w, Tls w v [(3, [97, 98])] → Calls Try.prog 32 #[.agg #[.int .u8 2, .int .u8 3, .int .u8 0, .string { data := #[0, 0, 0, 7] }, v]] w fun en w' => ∃ v', en = .returned (.tuple #[.agg #[.int .u8 2, .int .u8 2, .int .u8 0, .string { data := #[0, 0, 0, 7] }, v'], .int .i64 0]) ∧ TlT w' w.heap.size v' [(3, [97, 98])] ∧ Below w.heap.size w w') := fun v w hv => lbanswer_any v [(3, [97, 98])] 2 3 0 [0, 0, 0, 7] w (by decide) (by decide) hv (by decide)
  have T1 : Hid (∀ v w, Tls w v [(3, [97, 98])] → Calls Try.prog 30 #[.agg #[.int .u8 2, .int .u8 2, .int .u8 0, .string { data := #[0, 0, 0, 7] }, v]] w fun en w' => en = .returned (.tuple #[.agg #[.int .u8 2, .bool true, .int .u32 7, .string { data := #[97, 98] }], .int .i64 0]) ∧ Below w.heap.size w w') := fun v w hv => lbtake_any v [(3, [97, 98])] 2 2 0 [0, 0, 0, 7] w (by decide) (by decide) hv (by decide)
  have eqC : ∀ w : World, (binOp .eql 54 (.agg #[.int .u8 2, .bool true, .int .u32 7, .string { data := #[97, 98] }]) (.agg #[.int .u8 2, .bool true, .int .u32 7, .string { data := #[97, 98] }])).run Try.prog w = .ok (.bool true) w := run_eql_loop 2 true 7 [97, 98]
  have hg := eqGuard_lp
  go_enter Try.func26, Try.ntmps26
  go_upto_region 2 with fail
  have cb := LB.new 54 w 2 false 7 [97, 98]
  have aa := (Below.refl w.heap.size w).alloc (Nat.le_refl _) (.cells #[.int .u8 2, .bool false, .int .u32 7, .string { data := #[97, 98] }] 54)
  obtain ⟨w2, hw2⟩ : ∃ k, w.alloc (.cells #[.int .u8 2, .bool false, .int .u32 7, .string { data := #[97, 98] }] 54) = k := ⟨_, rfl⟩
  have cb2 : LB 54 w2 w.heap.size 2 false 7 [97, 98] := by rw [← hw2]; exact cb
  rw [hw2] at aa ⊢
  have HB2 := Lib.hid aa
  have c0 := cb2.c0
  have c1 := cb2.c1
  have c2 := cb2.c2
  have c3 : w2.cell? ⟨w.heap.size, 3, none⟩ = some (.string { data := #[97, 98] }) := cb2.c3
  clear cb cb2 aa hw2
  go_wp2_with fail
  with_reducible refine (P1.out _).mono ?_
  rintro en w3 ⟨v1, rfl, ho3, hb3⟩
  have HB3 := Lib.hid (HB2.out.trans (hb3.mono HB2.out.size))
  obtain ⟨s1, k1, rfl, -⟩ := ho3.tls.shape
  have HT3 : Hid (Tls w3 (.slice s1 1 k1) [(3, [97, 98])]) := Lib.hid ho3.tls
  clear hb3 ho3 HB2 c0 c1 c2 c3
  go_upto_region 3 with fail
  have pb := PB.new 32 w3 2 3 0 [0, 0, 0, 7] (.slice s1 1 k1)
  have aa := (Below.refl w3.heap.size w3).alloc (Nat.le_refl _) (.cells #[.int .u8 2, .int .u8 3, .int .u8 0, .string { data := #[0, 0, 0, 7] }, .slice s1 1 k1] 32)
  obtain ⟨q, hq⟩ : ∃ k, w3.heap.size = k := ⟨_, rfl⟩
  obtain ⟨w4, hw4⟩ : ∃ k, w3.alloc (.cells #[.int .u8 2, .int .u8 3, .int .u8 0, .string { data := #[0, 0, 0, 7] }, .slice s1 1 k1] 32) = k := ⟨_, rfl⟩
  have pb4 : PB 32 w4 q 2 3 0 [0, 0, 0, 7] (.slice s1 1 k1) := by rw [← hw4, ← hq]; exact pb
  rw [hw4] at aa ⊢
  rw [hq] at ⊢
  have HB4 := Lib.hid (HB3.out.trans (aa.mono HB3.out.size))
  have HT4 := Lib.hid (HT3.out.later aa)
  have PB4 := Lib.hid pb4
  have c0 := pb4.c0
  have c1 := pb4.c1
  have c2 := pb4.c2
  have c3 : w4.cell? ⟨q, 3, none⟩ = some (.string { data := #[0, 0, 0, 7] }) := pb4.c3
  have c4 := pb4.c4
  clear pb pb4 aa hw4 hq HB3 HT3
  go_wp2_with fail
  with_reducible refine (A1.out _ _ HT4.out).mono ?_
  rintro en w5 ⟨v2, rfl, ho5, hb5⟩
  have HB5 := Lib.hid (HB4.out.trans (hb5.mono HB4.out.size))
  have HT5 := Lib.hid (HT4.out.later hb5)
  have PB5 := Lib.hid (PB4.out.later hb5)
  obtain ⟨s2, k2, rfl, -⟩ := ho5.tls.shape
  have HA5 : Hid (Tls w5 (.slice s2 1 k2) [(3, [97, 98])]) := Lib.hid ho5.tls
  clear hb5 ho5 HB4 HT4 PB4 c0 c1 c2 c3 c4
  go_upto_region 4 with fail
  have pb := PB.new 32 w5 2 2 0 [0, 0, 0, 7] (.slice s2 1 k2)
  have aa := (Below.refl w5.heap.size w5).alloc (Nat.le_refl _) (.cells #[.int .u8 2, .int .u8 2, .int .u8 0, .string { data := #[0, 0, 0, 7] }, .slice s2 1 k2] 32)
  obtain ⟨r, hr⟩ : ∃ k, w5.heap.size = k := ⟨_, rfl⟩
  obtain ⟨w6, hw6⟩ : ∃ k, w5.alloc (.cells #[.int .u8 2, .int .u8 2, .int .u8 0, .string { data := #[0, 0, 0, 7] }, .slice s2 1 k2] 32) = k := ⟨_, rfl⟩
  have pb6 : PB 32 w6 r 2 2 0 [0, 0, 0, 7] (.slice s2 1 k2) := by rw [← hw6, ← hr]; exact pb
  rw [hw6] at aa ⊢
  rw [hr] at ⊢
  have HB6 := Lib.hid (HB5.out.trans (aa.mono HB5.out.size))
  have HT6 := Lib.hid (HT5.out.later aa)
  have PB6 := Lib.hid (PB5.out.later aa)
  have HA6 := Lib.hid (HA5.out.later aa)
  have c0 := pb6.c0
  have c1 := pb6.c1
  have c2 := pb6.c2
  have c3 : w6.cell? ⟨r, 3, none⟩ = some (.string { data := #[0, 0, 0, 7] }) := pb6.c3
  have c4 := pb6.c4
  clear pb pb6 aa hw6 hr HB5 HT5 PB5 HA5
  go_wp2_with fail
  with_reducible refine (T1.out _ _ HA6.out).mono ?_
  rintro en w7 ⟨rfl, hb7⟩
  have HB7 := Lib.hid (HB6.out.trans (hb7.mono HB6.out.size))
  have HT7 := Lib.hid (HT6.out.later hb7)
  have PB7 := Lib.hid (PB6.out.later hb7)
  clear hb7 HB6 HT6 PB6 HA6 c0 c1 c2 c3 c4
  go_upto_region 5 with fail
  have lb := LB.new 54 w7 2 true 7 [97, 98]
  have aa := (Below.refl w7.heap.size w7).alloc (Nat.le_refl _) (.cells #[.int .u8 2, .bool true, .int .u32 7, .string { data := #[97, 98] }] 54)
  obtain ⟨t, ht⟩ : ∃ k, w7.heap.size = k := ⟨_, rfl⟩
  obtain ⟨w8, hw8⟩ : ∃ k, w7.alloc (.cells #[.int .u8 2, .bool true, .int .u32 7, .string { data := #[97, 98] }] 54) = k := ⟨_, rfl⟩
  have lb8 : LB 54 w8 t 2 true 7 [97, 98] := by rw [← hw8, ← ht]; exact lb
  rw [hw8] at aa ⊢
  rw [ht] at ⊢
  have HB8 := Lib.hid (HB7.out.trans (aa.mono HB7.out.size))
  have pb8 := PB7.out.later aa
  have c1 := pb8.c1
  have c3 : w8.cell? ⟨q, 3, none⟩ = some (.string { data := #[0, 0, 0, 7] }) := pb8.c3
  have c4 := pb8.c4
  have d0 := lb8.c0
  have d1 := lb8.c1
  have d2 := lb8.c2
  have d3 : w8.cell? ⟨t, 3, none⟩ = some (.string { data := #[97, 98] }) := lb8.c3
  obtain ⟨_, _, hsh, hc⟩ := (HT7.out.later aa).shape
  injection hsh with e1 e2 e3
  subst e1
  obtain ⟨b, off, rfl, hcell⟩ := hc.resolve_left (by simp)
  have x1 : w8.cell? ⟨b, off + 1, none⟩ = some (.string { data := #[97, 98] }) := by
    have := (hcell 0 (by decide)).2
    rw [show off + 0 * 2 + 1 = off + 1 by omega] at this
    exact this
  clear lb lb8 aa hw8 ht HB7 pb8 HT7 PB7 hc hcell e2 e3
  go_wp2
  go_ret
  exact ⟨rfl, HB8.out⟩
end Go.Proofs.Ytcbbocdmmehphaa
