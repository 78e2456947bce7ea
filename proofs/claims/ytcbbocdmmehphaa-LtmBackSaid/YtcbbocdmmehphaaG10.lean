/- ltm: a trace, a reply, equals itself. -/
import Derived.Test.YtcbbocdmmehphaaG3
import Derived.Laws.StructEq
set_option linter.unusedVariables false
namespace Go.Proofs.Ytcbbocdmmehphaa
open Go.RowKit

theorem gp_part (t : TypeId) (hs : ∀ w : World, (isAgg t).run Try.prog w = .ok false w) (cs : Array Value) (k : Nat) (v : Value) (w : World) (h : cs[k]? = some v) : (part t cs k).run Try.prog w = .ok v w := by
  simp [part, hs, h]
theorem gp_step (d : Nat) (xs ys : Array Value) (f : Field) (fs : List Field) (w : World) (u v : Value) (hn : f.name ≠ "_") (h1 : (part f.type xs f.offset).run Try.prog w = .ok u w) (h2 : (part f.type ys f.offset).run Try.prog w = .ok v w)
    (h3 : (Op.equalIn d f.type u v).run Try.prog w = .ok true w) : (Op.eqFields d xs ys (f :: fs)).run Try.prog w = (Op.eqFields d xs ys fs).run Try.prog w := by
  rw [Op.eqFields, if_pos hn]
  simp [Sem.run_bind, h1, h2, h3, Sem.run_ite]
theorem equalIn_macS (d : Nat) (m : Mc) (w : World) : (Op.equalIn (d + 2) 46 (.agg #[.int .u8 m.a, .int .u8 m.b, .int .u8 m.c, .int .u8 m.d, .int .u8 m.e, .int .u8 m.f]) (.agg #[.int .u8 m.a, .int .u8 m.b, .int .u8 m.c, .int .u8 m.d, .int .u8 m.e, .int .u8 m.f])).run Try.prog w = .ok true w := by
  rw [equalIn_macG]; simp
set_option maxRecDepth 100000 in
theorem run_equalIn_rp (d : Nat) (x : Rp) (w : World) : (Op.equalIn (d + 5) 76 (.agg #[.int .u8 x.lv, .int .u32 x.nm, .int .u8 x.tl, .bool x.st, .bool x.en, .int .u8 x.mi.a, .int .u8 x.mi.b, .int .u8 x.mi.c, .int .u8 x.mi.d, .int .u8 x.mi.e, .int .u8 x.mi.f, .int .u8 x.mo.a, .int .u8 x.mo.b, .int .u8 x.mo.c, .int .u8 x.mo.d, .int .u8 x.mo.e, .int .u8 x.mo.f]) (.agg #[.int .u8 x.lv, .int .u32 x.nm, .int .u8 x.tl, .bool x.st, .bool x.en, .int .u8 x.mi.a, .int .u8 x.mi.b, .int .u8 x.mi.c, .int .u8 x.mi.d, .int .u8 x.mi.e, .int .u8 x.mi.f, .int .u8 x.mo.a, .int .u8 x.mo.b, .int .u8 x.mo.c, .int .u8 x.mo.d, .int .u8 x.mo.e, .int .u8 x.mo.f])).run Try.prog w = .ok true w := by
  have hb : ∀ w, (isAgg 4).run Try.prog w = .ok false w := fun w => by kernel_rfl
  have h8 : ∀ w, (isAgg 5).run Try.prog w = .ok false w := fun w => by kernel_rfl
  have h32 : ∀ w, (isAgg 50).run Try.prog w = .ok false w := fun w => by kernel_rfl
  have p0 : (part 5 #[.int .u8 x.lv, .int .u32 x.nm, .int .u8 x.tl, .bool x.st, .bool x.en, .int .u8 x.mi.a, .int .u8 x.mi.b, .int .u8 x.mi.c, .int .u8 x.mi.d, .int .u8 x.mi.e, .int .u8 x.mi.f, .int .u8 x.mo.a, .int .u8 x.mo.b, .int .u8 x.mo.c, .int .u8 x.mo.d, .int .u8 x.mo.e, .int .u8 x.mo.f] 0).run Try.prog w = .ok (.int .u8 x.lv) w := gp_part _ h8 _ 0 _ w rfl
  have p1 : (part 50 #[.int .u8 x.lv, .int .u32 x.nm, .int .u8 x.tl, .bool x.st, .bool x.en, .int .u8 x.mi.a, .int .u8 x.mi.b, .int .u8 x.mi.c, .int .u8 x.mi.d, .int .u8 x.mi.e, .int .u8 x.mi.f, .int .u8 x.mo.a, .int .u8 x.mo.b, .int .u8 x.mo.c, .int .u8 x.mo.d, .int .u8 x.mo.e, .int .u8 x.mo.f] 1).run Try.prog w = .ok (.int .u32 x.nm) w := gp_part _ h32 _ 1 _ w rfl
  have p2 : (part 5 #[.int .u8 x.lv, .int .u32 x.nm, .int .u8 x.tl, .bool x.st, .bool x.en, .int .u8 x.mi.a, .int .u8 x.mi.b, .int .u8 x.mi.c, .int .u8 x.mi.d, .int .u8 x.mi.e, .int .u8 x.mi.f, .int .u8 x.mo.a, .int .u8 x.mo.b, .int .u8 x.mo.c, .int .u8 x.mo.d, .int .u8 x.mo.e, .int .u8 x.mo.f] 2).run Try.prog w = .ok (.int .u8 x.tl) w := gp_part _ h8 _ 2 _ w rfl
  have p3 : (part 4 #[.int .u8 x.lv, .int .u32 x.nm, .int .u8 x.tl, .bool x.st, .bool x.en, .int .u8 x.mi.a, .int .u8 x.mi.b, .int .u8 x.mi.c, .int .u8 x.mi.d, .int .u8 x.mi.e, .int .u8 x.mi.f, .int .u8 x.mo.a, .int .u8 x.mo.b, .int .u8 x.mo.c, .int .u8 x.mo.d, .int .u8 x.mo.e, .int .u8 x.mo.f] 3).run Try.prog w = .ok (.bool x.st) w := gp_part _ hb _ 3 _ w rfl
  have p4 : (part 4 #[.int .u8 x.lv, .int .u32 x.nm, .int .u8 x.tl, .bool x.st, .bool x.en, .int .u8 x.mi.a, .int .u8 x.mi.b, .int .u8 x.mi.c, .int .u8 x.mi.d, .int .u8 x.mi.e, .int .u8 x.mi.f, .int .u8 x.mo.a, .int .u8 x.mo.b, .int .u8 x.mo.c, .int .u8 x.mo.d, .int .u8 x.mo.e, .int .u8 x.mo.f] 4).run Try.prog w = .ok (.bool x.en) w := gp_part _ hb _ 4 _ w rfl
  have p5 : (part 46 #[.int .u8 x.lv, .int .u32 x.nm, .int .u8 x.tl, .bool x.st, .bool x.en, .int .u8 x.mi.a, .int .u8 x.mi.b, .int .u8 x.mi.c, .int .u8 x.mi.d, .int .u8 x.mi.e, .int .u8 x.mi.f, .int .u8 x.mo.a, .int .u8 x.mo.b, .int .u8 x.mo.c, .int .u8 x.mo.d, .int .u8 x.mo.e, .int .u8 x.mo.f] 5).run Try.prog w = .ok (.agg #[.int .u8 x.mi.a, .int .u8 x.mi.b, .int .u8 x.mi.c, .int .u8 x.mi.d, .int .u8 x.mi.e, .int .u8 x.mi.f]) w := by kernel_rfl
  have p6 : (part 46 #[.int .u8 x.lv, .int .u32 x.nm, .int .u8 x.tl, .bool x.st, .bool x.en, .int .u8 x.mi.a, .int .u8 x.mi.b, .int .u8 x.mi.c, .int .u8 x.mi.d, .int .u8 x.mi.e, .int .u8 x.mi.f, .int .u8 x.mo.a, .int .u8 x.mo.b, .int .u8 x.mo.c, .int .u8 x.mo.d, .int .u8 x.mo.e, .int .u8 x.mo.f] 11).run Try.prog w = .ok (.agg #[.int .u8 x.mo.a, .int .u8 x.mo.b, .int .u8 x.mo.c, .int .u8 x.mo.d, .int .u8 x.mo.e, .int .u8 x.mo.f]) w := by kernel_rfl
  rw [run_equalIn_struct w (d + 4) 76 _ _ (by kernel_rfl) (by kernel_rfl)]
  simp only [Program.fieldsOf, Try.underlying76]
  refine Eq.trans (gp_step _ _ _ _ _ w ?u0 ?v0 ?n0 ?a0 ?b0 ?c0) ?_
  case a0 => exact p0
  case b0 => exact p0
  case c0 => exact (run_equalIn_int w _ _ .u8 .u8 x.lv x.lv Try.underlying5).trans (by simp)
  case n0 => decide
  refine Eq.trans (gp_step _ _ _ _ _ w ?u1 ?v1 ?n1 ?a1 ?b1 ?c1) ?_
  case a1 => exact p1
  case b1 => exact p1
  case c1 => exact (run_equalIn_int w _ _ .u32 .u32 x.nm x.nm Try.underlying50).trans (by simp)
  case n1 => decide
  refine Eq.trans (gp_step _ _ _ _ _ w ?u2 ?v2 ?n2 ?a2 ?b2 ?c2) ?_
  case a2 => exact p2
  case b2 => exact p2
  case c2 => exact (run_equalIn_int w _ _ .u8 .u8 x.tl x.tl Try.underlying5).trans (by simp)
  case n2 => decide
  refine Eq.trans (gp_step _ _ _ _ _ w ?u3 ?v3 ?n3 ?a3 ?b3 ?c3) ?_
  case a3 => exact p3
  case b3 => exact p3
  case c3 => exact (run_equalIn_bool' w _ _ x.st x.st Try.underlying4).trans (by simp)
  case n3 => decide
  refine Eq.trans (gp_step _ _ _ _ _ w ?u4 ?v4 ?n4 ?a4 ?b4 ?c4) ?_
  case a4 => exact p4
  case b4 => exact p4
  case c4 => exact (run_equalIn_bool' w _ _ x.en x.en Try.underlying4).trans (by simp)
  case n4 => decide
  refine Eq.trans (gp_step _ _ _ _ _ w ?u5 ?v5 ?n5 ?a5 ?b5 ?c5) ?_
  case a5 => exact p5
  case b5 => exact p5
  case c5 => exact equalIn_macS _ x.mi w
  case n5 => decide
  refine Eq.trans (gp_step _ _ _ _ _ w ?u6 ?v6 ?n6 ?a6 ?b6 ?c6) ?_
  case a6 => exact p6
  case b6 => exact p6
  case c6 => exact equalIn_macS _ x.mo w
  case n6 => decide
  rfl
theorem run_eql_rp (x : Rp) (w : World) : (binOp .eql 76 (.agg #[.int .u8 x.lv, .int .u32 x.nm, .int .u8 x.tl, .bool x.st, .bool x.en, .int .u8 x.mi.a, .int .u8 x.mi.b, .int .u8 x.mi.c, .int .u8 x.mi.d, .int .u8 x.mi.e, .int .u8 x.mi.f, .int .u8 x.mo.a, .int .u8 x.mo.b, .int .u8 x.mo.c, .int .u8 x.mo.d, .int .u8 x.mo.e, .int .u8 x.mo.f]) (.agg #[.int .u8 x.lv, .int .u32 x.nm, .int .u8 x.tl, .bool x.st, .bool x.en, .int .u8 x.mi.a, .int .u8 x.mi.b, .int .u8 x.mi.c, .int .u8 x.mi.d, .int .u8 x.mi.e, .int .u8 x.mi.f, .int .u8 x.mo.a, .int .u8 x.mo.b, .int .u8 x.mo.c, .int .u8 x.mo.d, .int .u8 x.mo.e, .int .u8 x.mo.f])).run Try.prog w = .ok (.bool true) w := by
  rw [run_eql_struct, run_equalIn_rp 9995]; rfl
theorem run_neq_rp (x : Rp) (w : World) : (binOp .neq 76 (.agg #[.int .u8 x.lv, .int .u32 x.nm, .int .u8 x.tl, .bool x.st, .bool x.en, .int .u8 x.mi.a, .int .u8 x.mi.b, .int .u8 x.mi.c, .int .u8 x.mi.d, .int .u8 x.mi.e, .int .u8 x.mi.f, .int .u8 x.mo.a, .int .u8 x.mo.b, .int .u8 x.mo.c, .int .u8 x.mo.d, .int .u8 x.mo.e, .int .u8 x.mo.f]) (.agg #[.int .u8 x.lv, .int .u32 x.nm, .int .u8 x.tl, .bool x.st, .bool x.en, .int .u8 x.mi.a, .int .u8 x.mi.b, .int .u8 x.mi.c, .int .u8 x.mi.d, .int .u8 x.mi.e, .int .u8 x.mi.f, .int .u8 x.mo.a, .int .u8 x.mo.b, .int .u8 x.mo.c, .int .u8 x.mo.d, .int .u8 x.mo.e, .int .u8 x.mo.f])).run Try.prog w = .ok (.bool false) w := by
  rw [run_neq_struct, run_equalIn_rp 9995]; rfl
theorem eqGuard_rp : Try.prog.eqGuardType Try.prog.depth 76 = false := by kernel_rfl
set_option maxRecDepth 100000 in
theorem run_equalIn_tr (d : Nat) (x : Tr) (w : World) : (Op.equalIn (d + 5) 72 (.agg #[.int .u8 x.lv, .int .u32 x.nm, .int .u8 x.tl, .int .u8 x.fr.a, .int .u8 x.fr.b, .int .u8 x.fr.c, .int .u8 x.fr.d, .int .u8 x.fr.e, .int .u8 x.fr.f, .int .u8 x.tt.a, .int .u8 x.tt.b, .int .u8 x.tt.c, .int .u8 x.tt.d, .int .u8 x.tt.e, .int .u8 x.tt.f]) (.agg #[.int .u8 x.lv, .int .u32 x.nm, .int .u8 x.tl, .int .u8 x.fr.a, .int .u8 x.fr.b, .int .u8 x.fr.c, .int .u8 x.fr.d, .int .u8 x.fr.e, .int .u8 x.fr.f, .int .u8 x.tt.a, .int .u8 x.tt.b, .int .u8 x.tt.c, .int .u8 x.tt.d, .int .u8 x.tt.e, .int .u8 x.tt.f])).run Try.prog w = .ok true w := by
  have h8 : ∀ w, (isAgg 5).run Try.prog w = .ok false w := fun w => by kernel_rfl
  have h32 : ∀ w, (isAgg 50).run Try.prog w = .ok false w := fun w => by kernel_rfl
  have p0 : (part 5 #[.int .u8 x.lv, .int .u32 x.nm, .int .u8 x.tl, .int .u8 x.fr.a, .int .u8 x.fr.b, .int .u8 x.fr.c, .int .u8 x.fr.d, .int .u8 x.fr.e, .int .u8 x.fr.f, .int .u8 x.tt.a, .int .u8 x.tt.b, .int .u8 x.tt.c, .int .u8 x.tt.d, .int .u8 x.tt.e, .int .u8 x.tt.f] 0).run Try.prog w = .ok (.int .u8 x.lv) w := gp_part _ h8 _ 0 _ w rfl
  have p1 : (part 50 #[.int .u8 x.lv, .int .u32 x.nm, .int .u8 x.tl, .int .u8 x.fr.a, .int .u8 x.fr.b, .int .u8 x.fr.c, .int .u8 x.fr.d, .int .u8 x.fr.e, .int .u8 x.fr.f, .int .u8 x.tt.a, .int .u8 x.tt.b, .int .u8 x.tt.c, .int .u8 x.tt.d, .int .u8 x.tt.e, .int .u8 x.tt.f] 1).run Try.prog w = .ok (.int .u32 x.nm) w := gp_part _ h32 _ 1 _ w rfl
  have p2 : (part 5 #[.int .u8 x.lv, .int .u32 x.nm, .int .u8 x.tl, .int .u8 x.fr.a, .int .u8 x.fr.b, .int .u8 x.fr.c, .int .u8 x.fr.d, .int .u8 x.fr.e, .int .u8 x.fr.f, .int .u8 x.tt.a, .int .u8 x.tt.b, .int .u8 x.tt.c, .int .u8 x.tt.d, .int .u8 x.tt.e, .int .u8 x.tt.f] 2).run Try.prog w = .ok (.int .u8 x.tl) w := gp_part _ h8 _ 2 _ w rfl
  have p3 : (part 46 #[.int .u8 x.lv, .int .u32 x.nm, .int .u8 x.tl, .int .u8 x.fr.a, .int .u8 x.fr.b, .int .u8 x.fr.c, .int .u8 x.fr.d, .int .u8 x.fr.e, .int .u8 x.fr.f, .int .u8 x.tt.a, .int .u8 x.tt.b, .int .u8 x.tt.c, .int .u8 x.tt.d, .int .u8 x.tt.e, .int .u8 x.tt.f] 3).run Try.prog w = .ok (.agg #[.int .u8 x.fr.a, .int .u8 x.fr.b, .int .u8 x.fr.c, .int .u8 x.fr.d, .int .u8 x.fr.e, .int .u8 x.fr.f]) w := by kernel_rfl
  have p4 : (part 46 #[.int .u8 x.lv, .int .u32 x.nm, .int .u8 x.tl, .int .u8 x.fr.a, .int .u8 x.fr.b, .int .u8 x.fr.c, .int .u8 x.fr.d, .int .u8 x.fr.e, .int .u8 x.fr.f, .int .u8 x.tt.a, .int .u8 x.tt.b, .int .u8 x.tt.c, .int .u8 x.tt.d, .int .u8 x.tt.e, .int .u8 x.tt.f] 9).run Try.prog w = .ok (.agg #[.int .u8 x.tt.a, .int .u8 x.tt.b, .int .u8 x.tt.c, .int .u8 x.tt.d, .int .u8 x.tt.e, .int .u8 x.tt.f]) w := by kernel_rfl
  rw [run_equalIn_struct w (d + 4) 72 _ _ (by kernel_rfl) (by kernel_rfl)]
  simp only [Program.fieldsOf, Try.underlying72]
  refine Eq.trans (gp_step _ _ _ _ _ w ?u0 ?v0 ?n0 ?a0 ?b0 ?c0) ?_
  case a0 => exact p0
  case b0 => exact p0
  case c0 => exact (run_equalIn_int w _ _ .u8 .u8 x.lv x.lv Try.underlying5).trans (by simp)
  case n0 => decide
  refine Eq.trans (gp_step _ _ _ _ _ w ?u1 ?v1 ?n1 ?a1 ?b1 ?c1) ?_
  case a1 => exact p1
  case b1 => exact p1
  case c1 => exact (run_equalIn_int w _ _ .u32 .u32 x.nm x.nm Try.underlying50).trans (by simp)
  case n1 => decide
  refine Eq.trans (gp_step _ _ _ _ _ w ?u2 ?v2 ?n2 ?a2 ?b2 ?c2) ?_
  case a2 => exact p2
  case b2 => exact p2
  case c2 => exact (run_equalIn_int w _ _ .u8 .u8 x.tl x.tl Try.underlying5).trans (by simp)
  case n2 => decide
  refine Eq.trans (gp_step _ _ _ _ _ w ?u3 ?v3 ?n3 ?a3 ?b3 ?c3) ?_
  case a3 => exact p3
  case b3 => exact p3
  case c3 => exact equalIn_macS _ x.fr w
  case n3 => decide
  refine Eq.trans (gp_step _ _ _ _ _ w ?u4 ?v4 ?n4 ?a4 ?b4 ?c4) ?_
  case a4 => exact p4
  case b4 => exact p4
  case c4 => exact equalIn_macS _ x.tt w
  case n4 => decide
  rfl
theorem run_eql_tr (x : Tr) (w : World) : (binOp .eql 72 (.agg #[.int .u8 x.lv, .int .u32 x.nm, .int .u8 x.tl, .int .u8 x.fr.a, .int .u8 x.fr.b, .int .u8 x.fr.c, .int .u8 x.fr.d, .int .u8 x.fr.e, .int .u8 x.fr.f, .int .u8 x.tt.a, .int .u8 x.tt.b, .int .u8 x.tt.c, .int .u8 x.tt.d, .int .u8 x.tt.e, .int .u8 x.tt.f]) (.agg #[.int .u8 x.lv, .int .u32 x.nm, .int .u8 x.tl, .int .u8 x.fr.a, .int .u8 x.fr.b, .int .u8 x.fr.c, .int .u8 x.fr.d, .int .u8 x.fr.e, .int .u8 x.fr.f, .int .u8 x.tt.a, .int .u8 x.tt.b, .int .u8 x.tt.c, .int .u8 x.tt.d, .int .u8 x.tt.e, .int .u8 x.tt.f])).run Try.prog w = .ok (.bool true) w := by
  rw [run_eql_struct, run_equalIn_tr 9995]; rfl
theorem run_neq_tr (x : Tr) (w : World) : (binOp .neq 72 (.agg #[.int .u8 x.lv, .int .u32 x.nm, .int .u8 x.tl, .int .u8 x.fr.a, .int .u8 x.fr.b, .int .u8 x.fr.c, .int .u8 x.fr.d, .int .u8 x.fr.e, .int .u8 x.fr.f, .int .u8 x.tt.a, .int .u8 x.tt.b, .int .u8 x.tt.c, .int .u8 x.tt.d, .int .u8 x.tt.e, .int .u8 x.tt.f]) (.agg #[.int .u8 x.lv, .int .u32 x.nm, .int .u8 x.tl, .int .u8 x.fr.a, .int .u8 x.fr.b, .int .u8 x.fr.c, .int .u8 x.fr.d, .int .u8 x.fr.e, .int .u8 x.fr.f, .int .u8 x.tt.a, .int .u8 x.tt.b, .int .u8 x.tt.c, .int .u8 x.tt.d, .int .u8 x.tt.e, .int .u8 x.tt.f])).run Try.prog w = .ok (.bool false) w := by
  rw [run_neq_struct, run_equalIn_tr 9995]; rfl
theorem eqGuard_tr : Try.prog.eqGuardType Try.prog.depth 72 = false := by kernel_rfl
end Go.Proofs.Ytcbbocdmmehphaa
