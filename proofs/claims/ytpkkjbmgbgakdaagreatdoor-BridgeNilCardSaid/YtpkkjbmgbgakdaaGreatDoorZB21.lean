/- ZB21: the texts F9, FX as one. -/
import Derived.Test.YtpkkjbmgbgakdaaGreatDoorZB20
import Derived.Laws.StructEq
/- frame: a frame equals itself. -/
set_option linter.unusedVariables false
namespace Go.Proofs.YtpkkjbmgbgakdaaGreatDoor
open Go.RowKit

theorem run_part_one (t : TypeId) (hs : ∀ w : World, (isAgg t).run Tryz.prog w = .ok false w) (cs : Array Value) (k : Nat) (v : Value) (w : World) (h : cs[k]? = some v) : (part t cs k).run Tryz.prog w = .ok v w := by
  simp [part, hs, h]
theorem run_part_mac (cs : Array Value) (k : Nat) (w : World) : (part 41 cs k).run Tryz.prog w = .ok (.agg (cs.extract k (k + 6))) w := by
  have hi : (isAgg 41).run Tryz.prog w = .ok true w := by kernel_rfl
  simp [part, hi]
theorem eqF_step (d : Nat) (xs ys : Array Value) (f : Field) (fs : List Field) (w : World) (u v : Value) (hn : f.name ≠ "_") (h1 : (part f.type xs f.offset).run Tryz.prog w = .ok u w) (h2 : (part f.type ys f.offset).run Tryz.prog w = .ok v w)
    (h3 : (Op.equalIn d f.type u v).run Tryz.prog w = .ok true w) : (Op.eqFields d xs ys (f :: fs)).run Tryz.prog w = (Op.eqFields d xs ys fs).run Tryz.prog w := by
  rw [Op.eqFields, if_pos hn]
  simp [Sem.run_bind, h1, h2, h3, Sem.run_ite]
theorem run_part_u8F (cs : Array Value) (k : Nat) (w : World) : (part 5 cs k).run Tryz.prog w = match cs[k]? with | some v => .ok v w | none => (stuck "part: no such cell" : Sem Value).run Tryz.prog w := by
  have hi : (isAgg 5).run Tryz.prog w = .ok false w := by kernel_rfl
  cases h : cs[k]? <;> simp [part, hi, h]
theorem run_equalIn_macF (d : Nat) (a b c e f g : Int) (w : World) :
    (Op.equalIn (d + 2) 41 (.agg #[.int .u8 a, .int .u8 b, .int .u8 c, .int .u8 e, .int .u8 f, .int .u8 g]) (.agg #[.int .u8 a, .int .u8 b, .int .u8 c, .int .u8 e, .int .u8 f, .int .u8 g])).run Tryz.prog w =
      .ok true w := by
  have hs : (sizeOf 5).run Tryz.prog w = .ok 1 w := by kernel_rfl
  have he : ∀ x y : Int, (Op.equalIn (d + 1) 5 (.int .u8 x) (.int .u8 y)).run Tryz.prog w = .ok (x == y) w := fun x y => run_equalIn_int w d 5 .u8 .u8 x y Tryz.underlying5
  rw [Op.equalIn]
  simp only [Sem.run_bind, run_underlying Tryz.underlying41, Result.andThen_ok, hs]
  rw [Std.Legacy.Range.forIn_eq_forIn_range']
  rw [show ({ start := 0, stop := 6, step := 1, step_pos := by decide } : Std.Legacy.Range).size = 6 from rfl]
  rw [show List.range' 0 6 1 = [0, 1, 2, 3, 4, 5] from by decide]
  simp [run_part_u8F, he, Sem.run_ite]
set_option maxRecDepth 100000 in
theorem run_equalIn_frame (d : Nat) (x0 x1 x2 x3 x4 x5 x6 x7 x8 x9 x10 x11 xt xp xv xy xd) (w : World) : (Op.equalIn (d + 4) 68 (.agg #[.int .u8 x0, .int .u8 x1, .int .u8 x2, .int .u8 x3, .int .u8 x4, .int .u8 x5, .int .u8 x6, .int .u8 x7, .int .u8 x8, .int .u8 x9, .int .u8 x10, .int .u8 x11, .bool xt, .int .u8 xp, .int .u16 xv, .int .u16 xy, .string (bs xd)]) (.agg #[.int .u8 x0, .int .u8 x1, .int .u8 x2, .int .u8 x3, .int .u8 x4, .int .u8 x5, .int .u8 x6, .int .u8 x7, .int .u8 x8, .int .u8 x9, .int .u8 x10, .int .u8 x11, .bool xt, .int .u8 xp, .int .u16 xv, .int .u16 xy, .string (bs xd)])).run Tryz.prog w = .ok true w := by
  have hb : ∀ w, (isAgg 4).run Tryz.prog w = .ok false w := fun w => by kernel_rfl
  have h8 : ∀ w, (isAgg 5).run Tryz.prog w = .ok false w := fun w => by kernel_rfl
  have h16 : ∀ w, (isAgg 39).run Tryz.prog w = .ok false w := fun w => by kernel_rfl
  have hst : ∀ w, (isAgg 9).run Tryz.prog w = .ok false w := fun w => by kernel_rfl
  have p0 : (part 41 #[.int .u8 x0, .int .u8 x1, .int .u8 x2, .int .u8 x3, .int .u8 x4, .int .u8 x5, .int .u8 x6, .int .u8 x7, .int .u8 x8, .int .u8 x9, .int .u8 x10, .int .u8 x11, .bool xt, .int .u8 xp, .int .u16 xv, .int .u16 xy, .string (bs xd)] 0).run Tryz.prog w = .ok (.agg #[.int .u8 x0, .int .u8 x1, .int .u8 x2, .int .u8 x3, .int .u8 x4, .int .u8 x5]) w := by rw [run_part_mac]; simp
  have p6 : (part 41 #[.int .u8 x0, .int .u8 x1, .int .u8 x2, .int .u8 x3, .int .u8 x4, .int .u8 x5, .int .u8 x6, .int .u8 x7, .int .u8 x8, .int .u8 x9, .int .u8 x10, .int .u8 x11, .bool xt, .int .u8 xp, .int .u16 xv, .int .u16 xy, .string (bs xd)] 6).run Tryz.prog w = .ok (.agg #[.int .u8 x6, .int .u8 x7, .int .u8 x8, .int .u8 x9, .int .u8 x10, .int .u8 x11]) w := by rw [run_part_mac]; simp
  have p12 : (part 4 #[.int .u8 x0, .int .u8 x1, .int .u8 x2, .int .u8 x3, .int .u8 x4, .int .u8 x5, .int .u8 x6, .int .u8 x7, .int .u8 x8, .int .u8 x9, .int .u8 x10, .int .u8 x11, .bool xt, .int .u8 xp, .int .u16 xv, .int .u16 xy, .string (bs xd)] 12).run Tryz.prog w = .ok (.bool xt) w := run_part_one _ hb _ 12 _ w rfl
  have p13 : (part 5 #[.int .u8 x0, .int .u8 x1, .int .u8 x2, .int .u8 x3, .int .u8 x4, .int .u8 x5, .int .u8 x6, .int .u8 x7, .int .u8 x8, .int .u8 x9, .int .u8 x10, .int .u8 x11, .bool xt, .int .u8 xp, .int .u16 xv, .int .u16 xy, .string (bs xd)] 13).run Tryz.prog w = .ok (.int .u8 xp) w := run_part_one _ h8 _ 13 _ w rfl
  have p14 : (part 39 #[.int .u8 x0, .int .u8 x1, .int .u8 x2, .int .u8 x3, .int .u8 x4, .int .u8 x5, .int .u8 x6, .int .u8 x7, .int .u8 x8, .int .u8 x9, .int .u8 x10, .int .u8 x11, .bool xt, .int .u8 xp, .int .u16 xv, .int .u16 xy, .string (bs xd)] 14).run Tryz.prog w = .ok (.int .u16 xv) w := run_part_one _ h16 _ 14 _ w rfl
  have p15 : (part 39 #[.int .u8 x0, .int .u8 x1, .int .u8 x2, .int .u8 x3, .int .u8 x4, .int .u8 x5, .int .u8 x6, .int .u8 x7, .int .u8 x8, .int .u8 x9, .int .u8 x10, .int .u8 x11, .bool xt, .int .u8 xp, .int .u16 xv, .int .u16 xy, .string (bs xd)] 15).run Tryz.prog w = .ok (.int .u16 xy) w := run_part_one _ h16 _ 15 _ w rfl
  have p16 : (part 9 #[.int .u8 x0, .int .u8 x1, .int .u8 x2, .int .u8 x3, .int .u8 x4, .int .u8 x5, .int .u8 x6, .int .u8 x7, .int .u8 x8, .int .u8 x9, .int .u8 x10, .int .u8 x11, .bool xt, .int .u8 xp, .int .u16 xv, .int .u16 xy, .string (bs xd)] 16).run Tryz.prog w = .ok (.string (bs xd)) w := run_part_one _ hst _ 16 _ w rfl
  rw [run_equalIn_struct w (d + 3) 68 _ _ (by kernel_rfl) (by kernel_rfl)]
  simp only [Program.fieldsOf, Tryz.underlying68]
  refine Eq.trans (eqF_step _ _ _ _ _ w ?u_1 ?v_1 ?h0_1 ?h1_1 ?h2_1 ?h3_1) ?_
  case h1_1 => exact p0
  case h2_1 => exact p0
  case h3_1 => exact (run_equalIn_macF (d + 1) x0 x1 x2 x3 x4 x5 w)
  case h0_1 => decide
  refine Eq.trans (eqF_step _ _ _ _ _ w ?u_2 ?v_2 ?h0_2 ?h1_2 ?h2_2 ?h3_2) ?_
  case h1_2 => exact p6
  case h2_2 => exact p6
  case h3_2 => exact (run_equalIn_macF (d + 1) x6 x7 x8 x9 x10 x11 w)
  case h0_2 => decide
  refine Eq.trans (eqF_step _ _ _ _ _ w ?u_3 ?v_3 ?h0_3 ?h1_3 ?h2_3 ?h3_3) ?_
  case h1_3 => exact p12
  case h2_3 => exact p12
  case h3_3 => exact ((run_equalIn_bool' w _ _ xt xt Tryz.underlying4).trans (by simp))
  case h0_3 => decide
  refine Eq.trans (eqF_step _ _ _ _ _ w ?u_4 ?v_4 ?h0_4 ?h1_4 ?h2_4 ?h3_4) ?_
  case h1_4 => exact p13
  case h2_4 => exact p13
  case h3_4 => exact ((run_equalIn_int w _ _ .u8 .u8 xp xp Tryz.underlying5).trans (by simp))
  case h0_4 => decide
  refine Eq.trans (eqF_step _ _ _ _ _ w ?u_5 ?v_5 ?h0_5 ?h1_5 ?h2_5 ?h3_5) ?_
  case h1_5 => exact p14
  case h2_5 => exact p14
  case h3_5 => exact ((run_equalIn_int w _ _ .u16 .u16 xv xv Tryz.underlying39).trans (by simp))
  case h0_5 => decide
  refine Eq.trans (eqF_step _ _ _ _ _ w ?u_6 ?v_6 ?h0_6 ?h1_6 ?h2_6 ?h3_6) ?_
  case h1_6 => exact p15
  case h2_6 => exact p15
  case h3_6 => exact ((run_equalIn_int w _ _ .u16 .u16 xy xy Tryz.underlying39).trans (by simp))
  case h0_6 => decide
  refine Eq.trans (eqF_step _ _ _ _ _ w ?u_7 ?v_7 ?h0_7 ?h1_7 ?h2_7 ?h3_7) ?_
  case h1_7 => exact p16
  case h2_7 => exact p16
  case h3_7 => exact ((run_equalIn_string w _ _ (bs xd) (bs xd) Tryz.underlying9).trans (by simp))
  case h0_7 => decide
  rfl
/-- A frame's cells. -/
def isFr (A : Array Value) : Prop := ∃ x0 x1 x2 x3 x4 x5 x6 x7 x8 x9 x10 x11 xt xp xv xy xd, A = #[.int .u8 x0, .int .u8 x1, .int .u8 x2, .int .u8 x3, .int .u8 x4, .int .u8 x5, .int .u8 x6, .int .u8 x7, .int .u8 x8, .int .u8 x9, .int .u8 x10, .int .u8 x11, .bool xt, .int .u8 xp, .int .u16 xv, .int .u16 xy, .string (bs xd)]
theorem isFr_C (a b : List UInt8) (t : Bool) (p v y : Int) (d : List UInt8) : isFr (frC a b t p v y d) := ⟨_, _, _, _, _, _, _, _, _, _, _, _, _, _, _, _, _, rfl⟩
set_option maxRecDepth 100000 in
theorem isFr_Z : isFr frZ := ⟨_, _, _, _, _, _, _, _, _, _, _, _, _, _, _, _, [], rfl⟩
theorem isFr_tk (s : List UInt8) : isFr (tkF s).1 := by
  unfold tkF
  repeat' split
  all_goals first | exact isFr_Z | exact isFr_C _ _ _ _ _ _ _
theorem run_eql_frame (A : Array Value) (h : isFr A) (w : World) : (binOp .eql 68 (.agg A) (.agg A)).run Tryz.prog w = .ok (.bool true) w := by
  obtain ⟨x0, x1, x2, x3, x4, x5, x6, x7, x8, x9, x10, x11, xt, xp, xv, xy, xd, rfl⟩ := h
  rw [run_eql_struct, run_equalIn_frame 9996]; rfl
theorem run_neq_frame (A : Array Value) (h : isFr A) (w : World) : (binOp .neq 68 (.agg A) (.agg A)).run Tryz.prog w = .ok (.bool false) w := by
  obtain ⟨x0, x1, x2, x3, x4, x5, x6, x7, x8, x9, x10, x11, xt, xp, xv, xy, xd, rfl⟩ := h
  rw [run_neq_struct, run_equalIn_frame 9996]; rfl
theorem eqGuard_fr : Tryz.prog.eqGuardType Tryz.prog.depth 68 = false := by kernel_rfl
end Go.Proofs.YtpkkjbmgbgakdaaGreatDoor

/- Frames whole: their blocks stored, loaded (a piece of F10). -/
set_option linter.unusedVariables false
namespace Go.Proofs.YtpkkjbmgbgakdaaGreatDoor
open Go.RowKit

theorem isFr.size {A : Array Value} (h : isFr A) : A.size = 17 := by
  obtain ⟨x0, x1, x2, x3, x4, x5, x6, x7, x8, x9, x10, x11, xt, xp, xv, xy, xd, rfl⟩ := h; rfl
theorem isFr.one {A : Array Value} (h : isFr A) : A.all (·.oneCell') = true := by
  obtain ⟨x0, x1, x2, x3, x4, x5, x6, x7, x8, x9, x10, x11, xt, xp, xv, xy, xd, rfl⟩ := h
  simp [Value.oneCell']
theorem frame_info {A : Array Value} (h : isFr A) : (Tryz.prog.info? 68).map (·.size) = some A.size := by rw [h.size]; kernel_rfl
theorem frame_infoL {A : Array Value} (h : isFr A) : (Tryz.prog.info? 68).map (·.size) = some A.toList.length := by rw [Array.length_toList, h.size]; kernel_rfl
theorem fr_there (W : World) {A : Array Value} (h : isFr A) : (W.alloc (.cells #[.int .u8 0, .int .u8 0, .int .u8 0, .int .u8 0, .int .u8 0, .int .u8 0, .int .u8 0, .int .u8 0, .int .u8 0, .int .u8 0, .int .u8 0, .int .u8 0, .bool false, .int .u8 0, .int .u16 0, .int .u16 0, .string { data := #[] }] 68)).there W.heap.size 0 A.size := (FB.new W frZ).there (by rw [h.size]; exact Nat.le_refl _)
theorem fr_stored (W : World) {A : Array Value} (h : isFr A) : FB ((W.alloc (.cells #[.int .u8 0, .int .u8 0, .int .u8 0, .int .u8 0, .int .u8 0, .int .u8 0, .int .u8 0, .int .u8 0, .int .u8 0, .int .u8 0, .int .u8 0, .int .u8 0, .bool false, .int .u8 0, .int .u16 0, .int .u16 0, .string { data := #[] }] 68)).setCells W.heap.size 0 A.toList) W.heap.size A := (FB.new W frZ).store (by rw [h.size]; rfl) h.one
theorem fr_load {W : World} {b : Nat} {A : Array Value} (h : FB W b A) (hf : isFr A) (k : Later W) : (Instr.loadAt 68 (.pointer (some ⟨b, 0, none⟩))).run Tryz.prog k.out = .ok (.agg A) k.out := by
  have := run_loadAt_mid (P := Tryz.prog) k.out b 0 68 A.toList _ (h.later k.h).range Tryz.underlying68 rfl (frame_infoL hf)
  simpa using this
theorem fr_loadVar {W : World} {b : Nat} {A : Array Value} (h : FB W b A) (hf : isFr A) (k : Later W) : (loadVar 68 ⟨b, 0, none⟩).run Tryz.prog k.out = .ok (.agg A) k.out := by
  have := run_loadVar_mid (P := Tryz.prog) k.out b 0 68 A.toList _ (h.later k.h).range Tryz.underlying68 rfl (frame_infoL hf)
  simpa using this
/-- In a region that draws and is walked once: a whole variable is read. -/
theorem wpQuiet_load {P : Program} {ops : Array Oper} {C : World → Prop} {Q : Act → Prop} {o : Oper} {rest : List Oper} {a : Act} (ty : TypeId) (x : Operand) (b : Nat) (A : Array Value) (hw : Region.wanted o (yielded ops a.tmps) = true) (ho : o.op = .load ty x)
    (hx : a.eval x = .pointer (some ⟨b, 0, none⟩)) (hl : ∀ w, C w → (Instr.loadAt ty (.pointer (some ⟨b, 0, none⟩))).run P w = .ok (.agg A) w) (h : wpQuiet P ops C Q rest (a.put o.dst (.agg A))) : wpQuiet P ops C Q (o :: rest) a := by
  rw [wpQuiet, if_pos hw]
  refine ⟨.agg A, fun w hc => ?_, h⟩
  unfold Oper.quietAt execOp
  simp only [ho, hx, Sem.run_bind, hl w hc, Result.andThen_ok, Sem.run_pure]
  exact ⟨rfl, rfl⟩
end Go.Proofs.YtpkkjbmgbgakdaaGreatDoor
