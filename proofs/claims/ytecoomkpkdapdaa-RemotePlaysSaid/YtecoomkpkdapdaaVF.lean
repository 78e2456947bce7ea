/- A frame's block and its laws, without frame.Take (pieces of F5, F6a, F6, F8, F9, F10, for seats that lack Take). -/
import Derived.Test.YtecoomkpkdapdaaF2
import Derived.Test.YtecoomkpkdapdaaMB
import Derived.Deep.MidRow
import Derived.Laws.ResultCell
import Derived.Laws.CopyRow
import Derived.Laws.StructEq
set_option linter.unusedVariables false
namespace Go.Proofs.Ytecoomkpkdapdaa
open Go.RowKit

/-- The frame of no bytes. -/
def frZ : Array Value := #[.int .u8 0, .int .u8 0, .int .u8 0, .int .u8 0, .int .u8 0, .int .u8 0, .int .u8 0, .int .u8 0, .int .u8 0, .int .u8 0, .int .u8 0, .int .u8 0, .bool false, .int .u8 0, .int .u16 0, .int .u16 0, .string { data := #[] }]
/-- One cell of a frame's block is stored. -/
theorem FB.set {W : World} {b : Nat} {A : Array Value} (h : FB W b A) (j : Nat) (v : Value) : FB (W.setCell ⟨b, j, none⟩ v) b (A.setIfInBounds j v) := by
  unfold FB at *
  rw [setCell_eq_setRow W b j A _ _ v h]
  exact setRow_heap W b _ _ _ _ h
theorem FB.free {W : World} {b : Nat} {A : Array Value} (h : FB W b A) (j : Nat) : W.frozen? ⟨b, j, none⟩ = false := by
  unfold FB at h; simp [World.frozen?, h]
theorem FB.other {W : World} {b t o : Nat} {A : Array Value} (h : FB W b A) (ht : t ≠ b) (v : Value) : FB (W.setCell ⟨t, o, none⟩ v) b A := by
  unfold FB; rw [Below.heap_setCell _ _ _ _ (by intro e; simp at e; omega)]; exact h
theorem FB.only {p b : Nat} {w w' : World} {A : Array Value} (h : FB w b A) (ho : Only p w w') (hne : b ≠ p) : FB w' b A := by
  unfold FB; rw [ho.block b h.lt (by simpa using hne)]; exact h
theorem FB.alloc {W : World} {b : Nat} {A : Array Value} (h : FB W b A) (o : Obj) : FB (W.alloc o) b A := h.later ((Below.refl _ _).alloc (Nat.le_refl _) o)
theorem FB.cellsOther {b t : Nat} {A : Array Value} (ht : t ≠ b) : ∀ (vs : List Value) (o : Nat) (W : World), FB W b A → FB (W.setCells t o vs) b A
  | [], _, _, h => h
  | v :: r, o, W, h => FB.cellsOther ht r (o + 1) _ (h.other ht v)
theorem FB.there {W : World} {b : Nat} {A : Array Value} {n : Nat} (h : FB W b A) (hn : n ≤ A.size) : W.there b 0 n := fun j hj => by
  rw [Nat.zero_add]
  refine ⟨?_, h.free j⟩
  rw [h.c j A[j] (by simp [show j < A.size by omega])]; rfl
/-- A whole frame is stored. -/
theorem FB.store {W : World} {b : Nat} {B A : Array Value} (h : FB W b B) (hs : B.size = A.size) (h1 : A.all (·.oneCell') = true) : FB (W.setCells b 0 A.toList) b A := by
  have ht := h.there (n := A.size) (by omega)
  have r1 := run_storeCells_at Try.prog b 0 26 A.toList 0 B W h (by simp; omega) (fun v hv => (Array.all_eq_true_iff_forall_mem.1 h1) v (by simpa using hv))
  have r2 := run_storeCells_cells (P := Try.prog) b 0 A.toList 0 W (fun j hj => by simpa using (ht j (by simpa using hj)).1) (fun j hj => by simpa using (ht j (by simpa using hj)).2)
    (fun v hv => (Array.all_eq_true_iff_forall_mem.1 h1) v (by simpa using hv))
  simp only [Nat.add_zero] at r1 r2
  rw [r1] at r2
  have e : W.setRow b (B.toList.take 0 ++ A.toList ++ B.toList.drop (0 + A.toList.length)).toArray = W.setCells b 0 A.toList := by
    injection r2
  rw [← e]
  have e2 : (B.toList.take 0 ++ A.toList ++ B.toList.drop (0 + A.toList.length)).toArray = A := by
    rw [List.drop_of_length_le (by simp; omega)]; simp
  rw [e2]
  exact setRow_heap W b _ _ _ _ h
theorem below_cells {B b : Nat} {w : World} (hb : B ≤ b) : ∀ (vs : List Value) (o : Nat) (W : World), Below B w W → Below B w (W.setCells b o vs)
  | [], _, _, h => h
  | v :: r, o, W, h => below_cells hb r (o + 1) _ (below_set h hb v)
theorem FB.drew {W : World} {b : Nat} {A : Array Value} (h : FB W b A) : FB W.drew b A := by unfold FB at *; exact h
theorem run_part_one (t : TypeId) (hs : ∀ w : World, (isAgg t).run Try.prog w = .ok false w) (cs : Array Value) (k : Nat) (v : Value) (w : World) (h : cs[k]? = some v) : (part t cs k).run Try.prog w = .ok v w := by
  simp [part, hs, h]
theorem run_part_mac (cs : Array Value) (k : Nat) (w : World) : (part 24 cs k).run Try.prog w = .ok (.agg (cs.extract k (k + 6))) w := by
  have hi : (isAgg 24).run Try.prog w = .ok true w := by kernel_rfl
  simp [part, hi]
theorem eqF_step (d : Nat) (xs ys : Array Value) (f : Field) (fs : List Field) (w : World) (u v : Value) (hn : f.name ≠ "_") (h1 : (part f.type xs f.offset).run Try.prog w = .ok u w) (h2 : (part f.type ys f.offset).run Try.prog w = .ok v w)
    (h3 : (Op.equalIn d f.type u v).run Try.prog w = .ok true w) : (Op.eqFields d xs ys (f :: fs)).run Try.prog w = (Op.eqFields d xs ys fs).run Try.prog w := by
  rw [Op.eqFields, if_pos hn]
  simp [Sem.run_bind, h1, h2, h3, Sem.run_ite]
theorem run_part_u8 (cs : Array Value) (k : Nat) (w : World) : (part 5 cs k).run Try.prog w = match cs[k]? with | some v => .ok v w | none => (stuck "part: no such cell" : Sem Value).run Try.prog w := by
  have hi : (isAgg 5).run Try.prog w = .ok false w := by kernel_rfl
  cases h : cs[k]? <;> simp [part, hi, h]
theorem run_equalIn_mac (d : Nat) (a b c e f g : Int) (w : World) :
    (Op.equalIn (d + 2) 24 (.agg #[.int .u8 a, .int .u8 b, .int .u8 c, .int .u8 e, .int .u8 f, .int .u8 g]) (.agg #[.int .u8 a, .int .u8 b, .int .u8 c, .int .u8 e, .int .u8 f, .int .u8 g])).run Try.prog w =
      .ok true w := by
  have hs : (sizeOf 5).run Try.prog w = .ok 1 w := by kernel_rfl
  have he : ∀ x y : Int, (Op.equalIn (d + 1) 5 (.int .u8 x) (.int .u8 y)).run Try.prog w = .ok (x == y) w := fun x y => run_equalIn_int w d 5 .u8 .u8 x y Try.underlying5
  rw [Op.equalIn]
  simp only [Sem.run_bind, run_underlying Try.underlying24, Result.andThen_ok, hs]
  rw [Std.Legacy.Range.forIn_eq_forIn_range']
  rw [show ({ start := 0, stop := 6, step := 1, step_pos := by decide } : Std.Legacy.Range).size = 6 from rfl]
  rw [show List.range' 0 6 1 = [0, 1, 2, 3, 4, 5] from by decide]
  simp [run_part_u8, he, Sem.run_ite]
set_option maxRecDepth 100000 in
theorem run_equalIn_frame (d : Nat) (x0 x1 x2 x3 x4 x5 x6 x7 x8 x9 x10 x11 xt xp xv xy xd) (w : World) : (Op.equalIn (d + 4) 26 (.agg #[.int .u8 x0, .int .u8 x1, .int .u8 x2, .int .u8 x3, .int .u8 x4, .int .u8 x5, .int .u8 x6, .int .u8 x7, .int .u8 x8, .int .u8 x9, .int .u8 x10, .int .u8 x11, .bool xt, .int .u8 xp, .int .u16 xv, .int .u16 xy, .string (bs xd)]) (.agg #[.int .u8 x0, .int .u8 x1, .int .u8 x2, .int .u8 x3, .int .u8 x4, .int .u8 x5, .int .u8 x6, .int .u8 x7, .int .u8 x8, .int .u8 x9, .int .u8 x10, .int .u8 x11, .bool xt, .int .u8 xp, .int .u16 xv, .int .u16 xy, .string (bs xd)])).run Try.prog w = .ok true w := by
  have hb : ∀ w, (isAgg 4).run Try.prog w = .ok false w := fun w => by kernel_rfl
  have h8 : ∀ w, (isAgg 5).run Try.prog w = .ok false w := fun w => by kernel_rfl
  have h16 : ∀ w, (isAgg 22).run Try.prog w = .ok false w := fun w => by kernel_rfl
  have hst : ∀ w, (isAgg 9).run Try.prog w = .ok false w := fun w => by kernel_rfl
  have p0 : (part 24 #[.int .u8 x0, .int .u8 x1, .int .u8 x2, .int .u8 x3, .int .u8 x4, .int .u8 x5, .int .u8 x6, .int .u8 x7, .int .u8 x8, .int .u8 x9, .int .u8 x10, .int .u8 x11, .bool xt, .int .u8 xp, .int .u16 xv, .int .u16 xy, .string (bs xd)] 0).run Try.prog w = .ok (.agg #[.int .u8 x0, .int .u8 x1, .int .u8 x2, .int .u8 x3, .int .u8 x4, .int .u8 x5]) w := by rw [run_part_mac]; simp
  have p6 : (part 24 #[.int .u8 x0, .int .u8 x1, .int .u8 x2, .int .u8 x3, .int .u8 x4, .int .u8 x5, .int .u8 x6, .int .u8 x7, .int .u8 x8, .int .u8 x9, .int .u8 x10, .int .u8 x11, .bool xt, .int .u8 xp, .int .u16 xv, .int .u16 xy, .string (bs xd)] 6).run Try.prog w = .ok (.agg #[.int .u8 x6, .int .u8 x7, .int .u8 x8, .int .u8 x9, .int .u8 x10, .int .u8 x11]) w := by rw [run_part_mac]; simp
  have p12 : (part 4 #[.int .u8 x0, .int .u8 x1, .int .u8 x2, .int .u8 x3, .int .u8 x4, .int .u8 x5, .int .u8 x6, .int .u8 x7, .int .u8 x8, .int .u8 x9, .int .u8 x10, .int .u8 x11, .bool xt, .int .u8 xp, .int .u16 xv, .int .u16 xy, .string (bs xd)] 12).run Try.prog w = .ok (.bool xt) w := run_part_one _ hb _ 12 _ w rfl
  have p13 : (part 5 #[.int .u8 x0, .int .u8 x1, .int .u8 x2, .int .u8 x3, .int .u8 x4, .int .u8 x5, .int .u8 x6, .int .u8 x7, .int .u8 x8, .int .u8 x9, .int .u8 x10, .int .u8 x11, .bool xt, .int .u8 xp, .int .u16 xv, .int .u16 xy, .string (bs xd)] 13).run Try.prog w = .ok (.int .u8 xp) w := run_part_one _ h8 _ 13 _ w rfl
  have p14 : (part 22 #[.int .u8 x0, .int .u8 x1, .int .u8 x2, .int .u8 x3, .int .u8 x4, .int .u8 x5, .int .u8 x6, .int .u8 x7, .int .u8 x8, .int .u8 x9, .int .u8 x10, .int .u8 x11, .bool xt, .int .u8 xp, .int .u16 xv, .int .u16 xy, .string (bs xd)] 14).run Try.prog w = .ok (.int .u16 xv) w := run_part_one _ h16 _ 14 _ w rfl
  have p15 : (part 22 #[.int .u8 x0, .int .u8 x1, .int .u8 x2, .int .u8 x3, .int .u8 x4, .int .u8 x5, .int .u8 x6, .int .u8 x7, .int .u8 x8, .int .u8 x9, .int .u8 x10, .int .u8 x11, .bool xt, .int .u8 xp, .int .u16 xv, .int .u16 xy, .string (bs xd)] 15).run Try.prog w = .ok (.int .u16 xy) w := run_part_one _ h16 _ 15 _ w rfl
  have p16 : (part 9 #[.int .u8 x0, .int .u8 x1, .int .u8 x2, .int .u8 x3, .int .u8 x4, .int .u8 x5, .int .u8 x6, .int .u8 x7, .int .u8 x8, .int .u8 x9, .int .u8 x10, .int .u8 x11, .bool xt, .int .u8 xp, .int .u16 xv, .int .u16 xy, .string (bs xd)] 16).run Try.prog w = .ok (.string (bs xd)) w := run_part_one _ hst _ 16 _ w rfl
  rw [run_equalIn_struct w (d + 3) 26 _ _ (by kernel_rfl) (by kernel_rfl)]
  simp only [Program.fieldsOf, Try.underlying26]
  refine Eq.trans (eqF_step _ _ _ _ _ w ?u_1 ?v_1 ?h0_1 ?h1_1 ?h2_1 ?h3_1) ?_
  case h1_1 => exact p0
  case h2_1 => exact p0
  case h3_1 => exact (run_equalIn_mac (d + 1) x0 x1 x2 x3 x4 x5 w)
  case h0_1 => decide
  refine Eq.trans (eqF_step _ _ _ _ _ w ?u_2 ?v_2 ?h0_2 ?h1_2 ?h2_2 ?h3_2) ?_
  case h1_2 => exact p6
  case h2_2 => exact p6
  case h3_2 => exact (run_equalIn_mac (d + 1) x6 x7 x8 x9 x10 x11 w)
  case h0_2 => decide
  refine Eq.trans (eqF_step _ _ _ _ _ w ?u_3 ?v_3 ?h0_3 ?h1_3 ?h2_3 ?h3_3) ?_
  case h1_3 => exact p12
  case h2_3 => exact p12
  case h3_3 => exact ((run_equalIn_bool' w _ _ xt xt Try.underlying4).trans (by simp))
  case h0_3 => decide
  refine Eq.trans (eqF_step _ _ _ _ _ w ?u_4 ?v_4 ?h0_4 ?h1_4 ?h2_4 ?h3_4) ?_
  case h1_4 => exact p13
  case h2_4 => exact p13
  case h3_4 => exact ((run_equalIn_int w _ _ .u8 .u8 xp xp Try.underlying5).trans (by simp))
  case h0_4 => decide
  refine Eq.trans (eqF_step _ _ _ _ _ w ?u_5 ?v_5 ?h0_5 ?h1_5 ?h2_5 ?h3_5) ?_
  case h1_5 => exact p14
  case h2_5 => exact p14
  case h3_5 => exact ((run_equalIn_int w _ _ .u16 .u16 xv xv Try.underlying22).trans (by simp))
  case h0_5 => decide
  refine Eq.trans (eqF_step _ _ _ _ _ w ?u_6 ?v_6 ?h0_6 ?h1_6 ?h2_6 ?h3_6) ?_
  case h1_6 => exact p15
  case h2_6 => exact p15
  case h3_6 => exact ((run_equalIn_int w _ _ .u16 .u16 xy xy Try.underlying22).trans (by simp))
  case h0_6 => decide
  refine Eq.trans (eqF_step _ _ _ _ _ w ?u_7 ?v_7 ?h0_7 ?h1_7 ?h2_7 ?h3_7) ?_
  case h1_7 => exact p16
  case h2_7 => exact p16
  case h3_7 => exact ((run_equalIn_string w _ _ (bs xd) (bs xd) Try.underlying9).trans (by simp))
  case h0_7 => decide
  rfl
/-- A frame's cells. -/
def isFr (A : Array Value) : Prop := ∃ x0 x1 x2 x3 x4 x5 x6 x7 x8 x9 x10 x11 xt xp xv xy xd, A = #[.int .u8 x0, .int .u8 x1, .int .u8 x2, .int .u8 x3, .int .u8 x4, .int .u8 x5, .int .u8 x6, .int .u8 x7, .int .u8 x8, .int .u8 x9, .int .u8 x10, .int .u8 x11, .bool xt, .int .u8 xp, .int .u16 xv, .int .u16 xy, .string (bs xd)]
set_option maxRecDepth 100000 in
theorem isFr_Z : isFr frZ := ⟨_, _, _, _, _, _, _, _, _, _, _, _, _, _, _, _, [], rfl⟩
theorem run_eql_frame (A : Array Value) (h : isFr A) (w : World) : (binOp .eql 26 (.agg A) (.agg A)).run Try.prog w = .ok (.bool true) w := by
  obtain ⟨x0, x1, x2, x3, x4, x5, x6, x7, x8, x9, x10, x11, xt, xp, xv, xy, xd, rfl⟩ := h
  rw [run_eql_struct, run_equalIn_frame 9996]; rfl
theorem run_neq_frame (A : Array Value) (h : isFr A) (w : World) : (binOp .neq 26 (.agg A) (.agg A)).run Try.prog w = .ok (.bool false) w := by
  obtain ⟨x0, x1, x2, x3, x4, x5, x6, x7, x8, x9, x10, x11, xt, xp, xv, xy, xd, rfl⟩ := h
  rw [run_neq_struct, run_equalIn_frame 9996]; rfl
theorem eqGuard_fr : Try.prog.eqGuardType Try.prog.depth 26 = false := by kernel_rfl
/-- A frame's cells, its numbers in their bounds. -/
def Fr (A : Array Value) : Prop := ∃ x0 x1 x2 x3 x4 x5 x6 x7 x8 x9 x10 x11 xt xp xv xy xd, A = #[.int .u8 x0, .int .u8 x1, .int .u8 x2, .int .u8 x3, .int .u8 x4, .int .u8 x5, .int .u8 x6, .int .u8 x7, .int .u8 x8, .int .u8 x9, .int .u8 x10, .int .u8 x11, .bool xt, .int .u8 xp, .int .u16 xv, .int .u16 xy, .string (bs xd)] ∧ wfF x0 x1 x2 x3 x4 x5 x6 x7 x8 x9 x10 x11 xp xv xy ∧ xd.length ≤ maxLen
theorem Fr.is {A : Array Value} (h : Fr A) : isFr A := by
  obtain ⟨x0, x1, x2, x3, x4, x5, x6, x7, x8, x9, x10, x11, xt, xp, xv, xy, xd, h, _⟩ := h
  exact ⟨x0, x1, x2, x3, x4, x5, x6, x7, x8, x9, x10, x11, xt, xp, xv, xy, xd, h⟩
theorem isFr.size {A : Array Value} (h : isFr A) : A.size = 17 := by
  obtain ⟨x0, x1, x2, x3, x4, x5, x6, x7, x8, x9, x10, x11, xt, xp, xv, xy, xd, rfl⟩ := h; rfl
theorem isFr.one {A : Array Value} (h : isFr A) : A.all (·.oneCell') = true := by
  obtain ⟨x0, x1, x2, x3, x4, x5, x6, x7, x8, x9, x10, x11, xt, xp, xv, xy, xd, rfl⟩ := h
  simp [Value.oneCell']
theorem frame_info {A : Array Value} (h : isFr A) : (Try.prog.info? 26).map (·.size) = some A.size := by rw [h.size]; kernel_rfl
theorem frame_infoL {A : Array Value} (h : isFr A) : (Try.prog.info? 26).map (·.size) = some A.toList.length := by rw [Array.length_toList, h.size]; kernel_rfl
theorem fr_there (W : World) {A : Array Value} (h : isFr A) : (W.alloc (.cells #[.int .u8 0, .int .u8 0, .int .u8 0, .int .u8 0, .int .u8 0, .int .u8 0, .int .u8 0, .int .u8 0, .int .u8 0, .int .u8 0, .int .u8 0, .int .u8 0, .bool false, .int .u8 0, .int .u16 0, .int .u16 0, .string { data := #[] }] 26)).there W.heap.size 0 A.size := (FB.new W frZ).there (by rw [h.size]; exact Nat.le_refl _)
theorem fr_stored (W : World) {A : Array Value} (h : isFr A) : FB ((W.alloc (.cells #[.int .u8 0, .int .u8 0, .int .u8 0, .int .u8 0, .int .u8 0, .int .u8 0, .int .u8 0, .int .u8 0, .int .u8 0, .int .u8 0, .int .u8 0, .int .u8 0, .bool false, .int .u8 0, .int .u16 0, .int .u16 0, .string { data := #[] }] 26)).setCells W.heap.size 0 A.toList) W.heap.size A := (FB.new W frZ).store (by rw [h.size]; rfl) h.one
end Go.Proofs.Ytecoomkpkdapdaa
