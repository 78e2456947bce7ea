/- bpdu: words compared. -/
import Derived.Test.YtecoomkpkdapdaaDoorHG
set_option linter.unusedVariables false
namespace Go.Proofs.YtecoomkpkdapdaaDoor
open Go.RowKit

theorem hb_part (t : TypeId) (hs : ∀ w : World, (isAgg t).run Tryd.prog w = .ok false w) (cs : Array Value) (k : Nat) (v : Value) (w : World) (h : cs[k]? = some v) : (part t cs k).run Tryd.prog w = .ok v w := by
  simp [part, hs, h]
theorem hb_step (d : Nat) (xs ys : Array Value) (f : Field) (fs : List Field) (w : World) (u v : Value) (c e : Bool) (hn : f.name ≠ "_") (h1 : (part f.type xs f.offset).run Tryd.prog w = .ok u w) (h2 : (part f.type ys f.offset).run Tryd.prog w = .ok v w)
    (h3 : (Op.equalIn d f.type u v).run Tryd.prog w = .ok c w) (h4 : (Op.eqFields d xs ys fs).run Tryd.prog w = .ok e w) : (Op.eqFields d xs ys (f :: fs)).run Tryd.prog w = .ok (c && e) w := by
  rw [Op.eqFields, if_pos hn]
  cases c <;> simp [Sem.run_bind, h1, h2, h3, h4, Sem.run_ite]
def beqV (x y : Bp) : Bool := (x.rt == y.rt) && ((x.co == y.co) && ((x.br == y.br) && ((x.po == y.po) && true)))
def beqB (x y : Bp) : Bool := beqV x y && ((x.ho == y.ho) && ((x.ve == y.ve) && ((x.ro == y.ro) && ((x.pr == y.pr) && ((x.ag == y.ag) && ((x.tp == y.tp) && ((x.ec == y.ec) && true)))))))
theorem beqB_iff (x y : Bp) : beqB x y = true ↔ x = y := by
  unfold beqB beqV
  simp only [Bool.and_eq_true, beq_iff_eq, and_true]
  constructor
  · rintro ⟨⟨h0, h1, h2, h3⟩, h4, h5, h6, h7, h8, h9, h10⟩
    exact Bp.ext' h0 h1 h2 h3 h4 h5 h6 h7 h8 h9 h10
  · rintro rfl
    exact ⟨⟨rfl, rfl, rfl, rfl⟩, rfl, rfl, rfl, rfl, rfl, rfl, rfl⟩
set_option maxRecDepth 100000 in
theorem run_equalIn_vec (d : Nat) (x y : Bp) (w : World) : (Op.equalIn (d + 2) 31 (.agg #[.int .u64 x.rt, .int .u32 x.co, .int .u64 x.br, .int .u8 x.po]) (.agg #[.int .u64 y.rt, .int .u32 y.co, .int .u64 y.br, .int .u8 y.po])).run Tryd.prog w = .ok (beqV x y) w := by
  have h8 : ∀ w, (isAgg 5).run Tryd.prog w = .ok false w := fun w => by kernel_rfl
  have h32 : ∀ w, (isAgg 23).run Tryd.prog w = .ok false w := fun w => by kernel_rfl
  have h64 : ∀ w, (isAgg 22).run Tryd.prog w = .ok false w := fun w => by kernel_rfl
  rw [run_equalIn_struct w (d + 1) 31 _ _ (by kernel_rfl) (by kernel_rfl)]
  simp only [Program.fieldsOf, Tryd.underlying31]
  refine hb_step _ _ _ _ _ w _ _ _ _ (by decide) (hb_part _ h64 _ 0 _ w rfl) (hb_part _ h64 _ 0 _ w rfl) (run_equalIn_int w _ _ .u64 .u64 x.rt y.rt Tryd.underlying22) ?_
  refine hb_step _ _ _ _ _ w _ _ _ _ (by decide) (hb_part _ h32 _ 1 _ w rfl) (hb_part _ h32 _ 1 _ w rfl) (run_equalIn_int w _ _ .u32 .u32 x.co y.co Tryd.underlying23) ?_
  refine hb_step _ _ _ _ _ w _ _ _ _ (by decide) (hb_part _ h64 _ 2 _ w rfl) (hb_part _ h64 _ 2 _ w rfl) (run_equalIn_int w _ _ .u64 .u64 x.br y.br Tryd.underlying22) ?_
  refine hb_step _ _ _ _ _ w _ _ _ _ (by decide) (hb_part _ h8 _ 3 _ w rfl) (hb_part _ h8 _ 3 _ w rfl) (run_equalIn_int w _ _ .u8 .u8 x.po y.po Tryd.underlying5) ?_
  rfl
set_option maxRecDepth 100000 in
theorem run_equalIn_bp (d : Nat) (x y : Bp) (w : World) : (Op.equalIn (d + 4) 33 (.agg #[.int .u64 x.rt, .int .u32 x.co, .int .u64 x.br, .int .u8 x.po, .int .u8 x.ho, .int .u64 x.ve, .int .u8 x.ro, .bool x.pr, .bool x.ag, .bool x.tp, .int .u64 x.ec]) (.agg #[.int .u64 y.rt, .int .u32 y.co, .int .u64 y.br, .int .u8 y.po, .int .u8 y.ho, .int .u64 y.ve, .int .u8 y.ro, .bool y.pr, .bool y.ag, .bool y.tp, .int .u64 y.ec])).run Tryd.prog w = .ok (beqB x y) w := by
  have hb : ∀ w, (isAgg 4).run Tryd.prog w = .ok false w := fun w => by kernel_rfl
  have h8 : ∀ w, (isAgg 5).run Tryd.prog w = .ok false w := fun w => by kernel_rfl
  have h64 : ∀ w, (isAgg 22).run Tryd.prog w = .ok false w := fun w => by kernel_rfl
  have pv : ∀ z : Bp, (part 31 #[.int .u64 z.rt, .int .u32 z.co, .int .u64 z.br, .int .u8 z.po, .int .u8 z.ho, .int .u64 z.ve, .int .u8 z.ro, .bool z.pr, .bool z.ag, .bool z.tp, .int .u64 z.ec] 0).run Tryd.prog w = .ok (.agg #[.int .u64 z.rt, .int .u32 z.co, .int .u64 z.br, .int .u8 z.po]) w := fun z => by kernel_rfl
  rw [run_equalIn_struct w (d + 3) 33 _ _ (by kernel_rfl) (by kernel_rfl)]
  simp only [Program.fieldsOf, Tryd.underlying33]
  refine hb_step _ _ _ _ _ w _ _ _ _ (by decide) (pv x) (pv y) (run_equalIn_vec (d + 1) x y w) ?_
  refine hb_step _ _ _ _ _ w _ _ _ _ (by decide) (hb_part _ h8 _ 4 _ w rfl) (hb_part _ h8 _ 4 _ w rfl) (run_equalIn_int w _ _ .u8 .u8 x.ho y.ho Tryd.underlying5) ?_
  refine hb_step _ _ _ _ _ w _ _ _ _ (by decide) (hb_part _ h64 _ 5 _ w rfl) (hb_part _ h64 _ 5 _ w rfl) (run_equalIn_int w _ _ .u64 .u64 x.ve y.ve Tryd.underlying22) ?_
  refine hb_step _ _ _ _ _ w _ _ _ _ (by decide) (hb_part _ h8 _ 6 _ w rfl) (hb_part _ h8 _ 6 _ w rfl) (run_equalIn_int w _ _ .u8 .u8 x.ro y.ro Tryd.underlying5) ?_
  refine hb_step _ _ _ _ _ w _ _ _ _ (by decide) (hb_part _ hb _ 7 _ w rfl) (hb_part _ hb _ 7 _ w rfl) (run_equalIn_bool' w _ _ x.pr y.pr Tryd.underlying4) ?_
  refine hb_step _ _ _ _ _ w _ _ _ _ (by decide) (hb_part _ hb _ 8 _ w rfl) (hb_part _ hb _ 8 _ w rfl) (run_equalIn_bool' w _ _ x.ag y.ag Tryd.underlying4) ?_
  refine hb_step _ _ _ _ _ w _ _ _ _ (by decide) (hb_part _ hb _ 9 _ w rfl) (hb_part _ hb _ 9 _ w rfl) (run_equalIn_bool' w _ _ x.tp y.tp Tryd.underlying4) ?_
  refine hb_step _ _ _ _ _ w _ _ _ _ (by decide) (hb_part _ h64 _ 10 _ w rfl) (hb_part _ h64 _ 10 _ w rfl) (run_equalIn_int w _ _ .u64 .u64 x.ec y.ec Tryd.underlying22) ?_
  rfl
theorem run_eql_bp (x y : Bp) (w : World) : (binOp .eql 33 (.agg #[.int .u64 x.rt, .int .u32 x.co, .int .u64 x.br, .int .u8 x.po, .int .u8 x.ho, .int .u64 x.ve, .int .u8 x.ro, .bool x.pr, .bool x.ag, .bool x.tp, .int .u64 x.ec]) (.agg #[.int .u64 y.rt, .int .u32 y.co, .int .u64 y.br, .int .u8 y.po, .int .u8 y.ho, .int .u64 y.ve, .int .u8 y.ro, .bool y.pr, .bool y.ag, .bool y.tp, .int .u64 y.ec])).run Tryd.prog w = .ok (.bool (beqB x y)) w := by
  rw [run_eql_struct, run_equalIn_bp 9996]; rfl
theorem run_neq_bp (x y : Bp) (w : World) : (binOp .neq 33 (.agg #[.int .u64 x.rt, .int .u32 x.co, .int .u64 x.br, .int .u8 x.po, .int .u8 x.ho, .int .u64 x.ve, .int .u8 x.ro, .bool x.pr, .bool x.ag, .bool x.tp, .int .u64 x.ec]) (.agg #[.int .u64 y.rt, .int .u32 y.co, .int .u64 y.br, .int .u8 y.po, .int .u8 y.ho, .int .u64 y.ve, .int .u8 y.ro, .bool y.pr, .bool y.ag, .bool y.tp, .int .u64 y.ec])).run Tryd.prog w = .ok (.bool (!beqB x y)) w := by
  rw [run_neq_struct, run_equalIn_bp 9996]; rfl
theorem eqGuard_bp : Tryd.prog.eqGuardType Tryd.prog.depth 33 = false := by kernel_rfl
end Go.Proofs.YtecoomkpkdapdaaDoor
