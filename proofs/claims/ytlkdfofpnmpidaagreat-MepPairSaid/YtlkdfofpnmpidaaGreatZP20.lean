/- ZP20: the texts GX, Y0 as one. -/
import Derived.Test.YtlkdfofpnmpidaaGreatZP03
import Derived.Deep.MidRow
import Derived.Laws.ResultCell
import Derived.Laws.CopyRow
import Derived.Lib.LazyBuf
import Derived.Laws.StructEq
import Derived.Deep.RegionHeld3
import Derived.Deep.DeepCutAuto
import Derived.Deep.CutBlock
import Derived.Test.YtlkdfofpnmpidaaGreatZP19
/- Blocks of given cells, stored and handed back whole (a piece of G0, for the seat of vlan). -/
set_option linter.unusedVariables false
namespace Go.Proofs.YtlkdfofpnmpidaaGreat
open Go.RowKit

/-- A block of these cells. -/
def GB (T : TypeId) (W : World) (q : Nat) (A : Array Value) : Prop := W.heap[q]? = some (.cells A T (0, 0))
section
variable {T : TypeId} {W W' : World} {q : Nat} {A : Array Value}
theorem GB.lt (h : GB T W q A) : q < W.heap.size := by
  rcases Nat.lt_or_ge q W.heap.size with h1 | h1
  · exact h1
  · unfold GB at h; rw [Array.getElem?_eq_none h1] at h; cases h
theorem GB.below {B : Nat} (h : GB T W q A) (hq : q < B) (hb : Below B W W') : GB T W' q A := by
  unfold GB; rw [hb.block q hq]; exact h
theorem GB.later (h : GB T W q A) (hb : Below W.heap.size W W') : GB T W' q A := h.below h.lt hb
theorem GB.c (h : GB T W q A) (j : Nat) (v : Value) (hv : A[j]? = some v) : W.cell? ⟨q, j, none⟩ = some v := by
  unfold GB at h; simp [World.cell?, h, hv]
theorem GB.fr (h : GB T W q A) (j : Nat) : W.frozen? ⟨q, j, none⟩ = false := by unfold GB at h; simp [World.frozen?, h]
theorem GB.range (h : GB T W q A) : W.rangeAt q 0 A.toList := fun j v hv => by
  rw [Nat.zero_add]; exact h.c j v (by simpa using hv)
theorem GB.new (T : TypeId) (W : World) (A : Array Value) : GB T (W.alloc (.cells A T)) W.heap.size A := heap_alloc_new W _
theorem GB.other {t o : Nat} (h : GB T W q A) (ht : t ≠ q) (u : Value) : GB T (W.setCell ⟨t, o, none⟩ u) q A := by
  unfold GB; rw [Below.heap_setCell _ _ _ _ (by intro e; simp at e; omega)]; exact h
theorem GB.only {p : Nat} (h : GB T W q A) (ho : Only p W W') (hne : q ≠ p) : GB T W' q A := by
  unfold GB; rw [ho.block q h.lt (by simpa using hne)]; exact h
theorem GB.drew (h : GB T W q A) : GB T W.drew q A := by unfold GB at *; exact h
end
theorem GB.there {T : TypeId} {W : World} {q : Nat} {A : Array Value} {n : Nat} (h : GB T W q A) (hn : n ≤ A.size) : W.there q 0 n := fun j hj => by
  rw [Nat.zero_add]
  refine ⟨?_, h.fr j⟩
  rw [h.c j A[j] (by simp [show j < A.size by omega])]; rfl
theorem GB.cellsOther {T : TypeId} {q t : Nat} {A : Array Value} (ht : t ≠ q) : ∀ (vs : List Value) (o : Nat) (W : World), GB T W q A → GB T (W.setCells t o vs) q A
  | [], _, _, h => h
  | v :: r, o, W, h => GB.cellsOther ht r (o + 1) _ (h.other ht v)
theorem below_cellsG {B t : Nat} {w : World} (ht : B ≤ t) : ∀ (vs : List Value) (o : Nat) (W : World), Below B w W → Below B w (W.setCells t o vs)
  | [], _, _, h => h
  | v :: r, o, W, h => below_cellsG ht r (o + 1) _ (below_set h ht v)
/-- A whole block is stored. -/
theorem GB.store {T : TypeId} {W : World} {b : Nat} {B A : Array Value} (h : GB T W b B) (hs : B.size = A.size) (h1 : A.all (·.oneCell') = true) : GB T (W.setCells b 0 A.toList) b A := by
  have ht := h.there (n := A.size) (by omega)
  have r1 := run_storeCells_at Tryz.prog b 0 T A.toList 0 B W h (by simp; omega) (fun v hv => (Array.all_eq_true_iff_forall_mem.1 h1) v (by simpa using hv))
  have r2 := run_storeCells_cells (P := Tryz.prog) b 0 A.toList 0 W (fun j hj => by simpa using (ht j (by simpa using hj)).1) (fun j hj => by simpa using (ht j (by simpa using hj)).2)
    (fun v hv => (Array.all_eq_true_iff_forall_mem.1 h1) v (by simpa using hv))
  simp only [Nat.add_zero] at r1 r2
  rw [r1] at r2
  have e : W.setRow b (B.toList.take 0 ++ A.toList ++ B.toList.drop (0 + A.toList.length)).toArray = W.setCells b 0 A.toList := by
    injection r2
  unfold GB
  rw [← e]
  have e2 : (B.toList.take 0 ++ A.toList ++ B.toList.drop (0 + A.toList.length)).toArray = A := by
    rw [List.drop_of_length_le (by simp; omega)]; simp
  rw [e2]
  exact setRow_heap W b _ _ _ _ h
/-- A result that is a block and a number. -/
theorem res_two {fn : Func} {ty : TypeId} {d : TypeDesc} {p u : Nat} (hf : fn.results = #[.cell p ty, .tmp u]) (hd : (match d with | .struct _ | .array _ _ => true | _ => false) = true) (hu : Tryz.prog.underlying ty = some d) (tmps : Array Value) (W : World) (b : Nat) (A : Array Value) (h2 : tmps.getD p undef = .pointer (some ⟨b, 0, none⟩)) (hg : GB ty W b A)
    (hi : (Tryz.prog.info? ty).map (·.size) = some A.size) : (results fn tmps).run Tryz.prog W = .ok (.tuple #[.agg A, tmps.getD u undef]) W := by
  rw [results_cell_tmp (p := p) (u := u) (ty := ty) hf, h2]
  simp [asAddr, run_loadVar_row W b ty ty A (0, 0) _ hg hu (by cases d <;> first | rfl | exact hd) hi]
/-- A result that is a block. -/
theorem res_one {fn : Func} {ty : TypeId} {d : TypeDesc} {p : Nat} (hf : fn.results = #[.cell p ty]) (hd : (match d with | .struct _ | .array _ _ => true | _ => false) = true) (hu : Tryz.prog.underlying ty = some d) (tmps : Array Value) (W : World) (b : Nat) (A : Array Value) (h2 : tmps.getD p undef = .pointer (some ⟨b, 0, none⟩)) (hg : GB ty W b A)
    (hi : (Tryz.prog.info? ty).map (·.size) = some A.size) : (results fn tmps).run Tryz.prog W = .ok (.agg A) W := by
  have h3 : tmps[p]?.getD undef = .pointer (some ⟨b, 0, none⟩) := by simpa using h2
  simp only [results, hf]
  simp [h3, asAddr, run_loadVar_row W b ty ty A (0, 0) _ hg hu (by cases d <;> first | rfl | exact hd) hi]
/-- A guarded load of a whole variable, its guard met. -/
theorem wpList_load_gH {P : Program} {ops : Array Oper} {rest : List Oper} {op : Oper} {a : Act} {w : World} {Q : Exit → Act → World → Prop} (hw : Region.wanted op (yielded ops a.tmps) = true) (ty : TypeId) (x : Operand) (ho : op.op = .load ty x)
    (b o : Nat) (hx : a.eval x = .pointer (some ⟨b, o, none⟩)) (cs : List Value) (d : TypeDesc) (hc : w.rangeAt b o cs)
    (hu : P.underlying ty = some d) (hd : d.isRow = true) (hi : (P.info? ty).map (·.size) = some cs.length)
    (h : wpList P ops Q rest (a.put op.dst (.agg cs.toArray)) w) : wpList P ops Q (op :: rest) a w :=
  wpList_step fun _ hK => by rw [if_pos hw]; exact wp_load_mid ty x ho b o hx cs d hc hu hd hi (hK _ _ h)
end Go.Proofs.YtlkdfofpnmpidaaGreat

/- What is kept where a set of blocks may change; layer 19 (alarm). -/
set_option linter.unusedVariables false
set_option linter.unusedSimpArgs false
namespace Go.Proofs.YtlkdfofpnmpidaaGreat
open Go.RowKit

/-- All blocks but those of D are as they were. -/
structure Fr (D : Nat → Prop) (w w' : World) : Prop where
  os : w'.os = w.os
  tape : w'.tape = w.tape
  output : w'.output = w.output
  size : w.heap.size ≤ w'.heap.size
  block : ∀ k, k < w.heap.size → ¬ D k → w'.heap[k]? = w.heap[k]?
section
variable {D E : Nat → Prop} {w w' w'' : World}
theorem Fr.refl (D : Nat → Prop) (w : World) : Fr D w w := ⟨rfl, rfl, rfl, Nat.le_refl _, fun _ _ _ => rfl⟩
theorem Fr.trans (h : Fr D w w') (k : Fr D w' w'') : Fr D w w'' :=
  ⟨k.os.trans h.os, k.tape.trans h.tape, k.output.trans h.output, Nat.le_trans h.size k.size, fun i hi h1 => (k.block i (Nat.lt_of_lt_of_le hi h.size) h1).trans (h.block i hi h1)⟩
theorem Fr.mono (h : Fr D w w') (hd : ∀ k, k < w.heap.size → D k → E k) : Fr E w w' := ⟨h.os, h.tape, h.output, h.size, fun k hk h1 => h.block k hk fun h2 => h1 (hd k hk h2)⟩
theorem Fr.of_below (h : Below w.heap.size w w') : Fr D w w' := ⟨h.os, h.tape, h.output, h.size, fun k hk _ => h.block k hk⟩
theorem Fr.of_only {p : Nat} (h : Only p w w') (hp : D p) : Fr D w w' := ⟨h.os, h.tape, h.output, h.size, fun k hk h1 => h.block k hk (by intro e; injection e with e; subst e; exact h1 hp)⟩
theorem Fr.of_two {q m : Nat} (h : Two q m w w') (hq : D q) (hm : D m) : Fr D w w' := ⟨h.os, h.tape, h.output, h.size, fun k hk h1 => h.block k hk (by rintro rfl; exact h1 hq) (by rintro rfl; exact h1 hm)⟩
theorem Fr.of_grown {r : Option Nat} (h : w.grownBy w' r) (hr : ∀ g, r = some g → D g) : Fr D w w' := ⟨h.os, h.tape, h.output, h.size, fun k hk h1 => h.block k hk (by intro e; exact h1 (hr k e.symm))⟩
theorem Fr.below (h : Fr D w w') {B : Nat} (hB : B ≤ w.heap.size) (hd : ∀ k, k < B → ¬ D k) : Below B w w' := ⟨h.os, h.tape, h.output, h.size, fun k hk => h.block k (by omega) (hd k hk)⟩
theorem Fr.set {p : Nat} (hp : D p) (o : Nat) (v : Value) : Fr D w (w.setCell ⟨p, o, none⟩ v) := .of_only (Only.set p w o v) hp
theorem Fr.alloc (h : Fr D w w') (o : Obj) : Fr D w (w'.alloc o) := h.trans (.of_below ((Below.refl _ _).alloc (Nat.le_refl _) o))
theorem Fr.drew (h : Fr D w w') : Fr D w w'.drew := ⟨h.os, h.tape, h.output, h.size, h.block⟩
end
theorem GB.fr' {D : Nat → Prop} {T : TypeId} {W W' : World} {q : Nat} {A : Array Value} (h : GB T W q A) (hf : Fr D W W') (hq : ¬ D q) : GB T W' q A := by
  unfold GB; rw [hf.block q h.lt hq]; exact h
theorem GB.set {T : TypeId} {W : World} {q : Nat} {A : Array Value} (h : GB T W q A) (j : Nat) (v : Value) : GB T (W.setCell ⟨q, j, none⟩ v) q (A.setIfInBounds j v) := by
  unfold GB at *
  simp only [World.setCell, Array.getElem?_modify, h]
  simp
theorem Rw.fr {α : Type} {k : Nat} {f : α → List Value} {D : Nat → Prop} {w w' : World} {v : Value} {l : List α} (hf : ∀ x, (f x).length = k) (h : Rw k f w v l) (hr : Fr D w w') (hd : ∀ g, v.ownBlock = some g → ¬ D g) : Rw k f w' v l := by
  rcases h with h | ⟨a, c, rfl, h⟩
  · exact .inl h
  · refine .inr ⟨a, c, rfl, ?_⟩
    rcases h with h | ⟨b, off, rfl, h⟩
    · exact .inl h
    · refine .inr ⟨b, off, rfl, fun j hj i hi => ?_⟩
      have h1 := h j hj i hi
      rw [← h1]
      have hn : (f l[j])[i]? = some ((f l[j])[i]'(by rw [hf]; exact hi)) := List.getElem?_eq_getElem _
      rw [hn] at h1
      have hlt := World.block_lt_of_cell? _ _ h1
      simp only [World.cell?, hr.block b hlt (hd b rfl)]
theorem MC.fr' {D : Nat → Prop} {W W' : World} {q m : Nat} {a : Ow8} {V : List Vn} {bd cr : Int} (h : MC W q a m V bd cr) (hf : Fr D W W') (hq : ¬ D q) (hm : ¬ D m) : MC W' q a m V bd cr :=
  h.blk (hf.block q h.lt hq) (hf.block m h.om.lt hm)

/-- An alarm: its state, its ticks, what was told. -/
structure Al where
  st : Int
  tk : Int
  td : Int
def calmA (s : Al) : Al := if s.st = 2 ∧ s.tk + 1 < 10 then ⟨s.st, s.tk + 1, s.td⟩ else ⟨0, 0, 0⟩
/-- Reported: the worst that was told. -/
def repA (st td x : Int) : Al × Int := if x ≤ td then (⟨st, 0, td⟩, 0) else (⟨st, 0, x⟩, x)
def tickA (lw : Int) (s : Al) (x : Int) : Al × Int :=
  if x < lw then (calmA s, 0)
  else if s.st = 0 then (⟨1, 1, s.td⟩, 0)
  else if s.st = 1 then (if s.tk + 1 < 2 then (⟨1, s.tk + 1, s.td⟩, 0) else repA 2 s.td x)
  else repA s.st s.td x
def alA (lw : Int) (s : Al) : Array Value := #[.int .u8 lw, .int .u8 s.st, .int .i64 s.tk, .int .u8 s.td]
abbrev AL (W : World) (r : Nat) (lw : Int) (s : Al) : Prop := GB 169 W r (alA lw s)
section
variable {W : World} {r : Nat} {lw : Int} {s : Al}
theorem AL.c0 (h : AL W r lw s) : W.cell? ⟨r, 0, none⟩ = some (.int .u8 lw) := GB.c h 0 _ rfl
theorem AL.c1 (h : AL W r lw s) : W.cell? ⟨r, 1, none⟩ = some (.int .u8 s.st) := GB.c h 1 _ rfl
theorem AL.c2 (h : AL W r lw s) : W.cell? ⟨r, 2, none⟩ = some (.int .i64 s.tk) := GB.c h 2 _ rfl
theorem AL.c3 (h : AL W r lw s) : W.cell? ⟨r, 3, none⟩ = some (.int .u8 s.td) := GB.c h 3 _ rfl
theorem AL.s1 (h : AL W r lw s) (x : Int) : AL (W.setCell ⟨r, 1, none⟩ (.int .u8 x)) r lw ⟨x, s.tk, s.td⟩ := GB.set h 1 _
theorem AL.s2 (h : AL W r lw s) (x : Int) : AL (W.setCell ⟨r, 2, none⟩ (.int .i64 x)) r lw ⟨s.st, x, s.td⟩ := GB.set h 2 _
theorem AL.s3 (h : AL W r lw s) (x : Int) : AL (W.setCell ⟨r, 3, none⟩ (.int .u8 x)) r lw ⟨s.st, s.tk, x⟩ := GB.set h 3 _
end
/-- What an alarm's numbers may be. -/
structure Al.Ok (s : Al) : Prop where
  st : 0 ≤ s.st ∧ s.st ≤ 2
  tk : 0 ≤ s.tk ∧ s.tk ≤ 20
  td : 0 ≤ s.td ∧ s.td ≤ 4
theorem tickA_ok {lw x : Int} {s : Al} (h : s.Ok) (hx : 0 ≤ x ∧ x ≤ 4) : (tickA lw s x).1.Ok ∧ 0 ≤ (tickA lw s x).2 ∧ (tickA lw s x).2 ≤ 4 := by
  obtain ⟨h1, h2, h3⟩ := h
  unfold tickA calmA repA
  (repeat' split) <;> refine ⟨⟨?_, ?_, ?_⟩, ?_, ?_⟩ <;> simp only <;> omega
set_option maxRecDepth 100000 in
set_option maxHeartbeats 4000000 in
theorem anew_any (n : Int) (w : World) : Calls Tryz.prog 28 #[.int .u8 n] w fun en w' =>
    (¬ (1 ≤ n ∧ n ≤ 4) ∧ en = .returned (.tuple #[.pointer none, .int .i64 2]) ∧ w' = w) ∨ ((1 ≤ n ∧ n ≤ 4) ∧ en = .returned (.tuple #[.pointer (some ⟨w.heap.size, 0, none⟩), .int .i64 0]) ∧ AL w' w.heap.size n ⟨0, 0, 0⟩ ∧ Below w.heap.size w w') := by
  go_enter Tryz.func28, Tryz.ntmps28
  by_cases h1 : n < 1
  · have d1 : decide (n < 1) = true := decide_eq_true h1
    have hn := Lib.hid (show ¬ (1 ≤ n ∧ n ≤ 4) by omega)
    clear h1
    go_wp2
    go_ret2
    exact .inl ⟨hn.out, rfl, rfl⟩
  have d1 : decide (n < 1) = false := decide_eq_false h1
  by_cases h2 : 4 < n
  · have d2 : decide (4 < n) = true := decide_eq_true h2
    have hn := Lib.hid (show ¬ (1 ≤ n ∧ n ≤ 4) by omega)
    clear h1 h2
    go_wp2
    go_ret2
    exact .inl ⟨hn.out, rfl, rfl⟩
  have d2 : decide (4 < n) = false := decide_eq_false h2
  have hn := Lib.hid (show (1 ≤ n ∧ n ≤ 4) by omega)
  clear h1 h2
  go_wp2
  go_ret2
  exact .inr ⟨hn.out, rfl, GB.new _ _ _, (Below.refl _ _).alloc (Nat.le_refl _) _⟩
set_option maxRecDepth 100000 in
set_option maxHeartbeats 4000000 in
theorem acalm_any (r : Nat) (lw : Int) (s : Al) (w : World) (h : AL w r lw s) (hk : s.Ok) : Calls Tryz.prog 76 #[.pointer (some ⟨r, 0, none⟩)] w fun en w' => en = .returned (.tuple #[]) ∧ AL w' r lw (calmA s) ∧ Only r w w' := by
  obtain ⟨st, tk, td⟩ := s
  have h1 : w.cell? ⟨r, 1, none⟩ = some (.int .u8 st) := AL.c1 h
  have h2 : w.cell? ⟨r, 2, none⟩ = some (.int .i64 tk) := AL.c2 h
  have hd3 : w.cell? ⟨r, 3, none⟩ = some (.int .u8 td) := AL.c3 h
  have f1 := GB.fr h 1
  have f2 := GB.fr h 2
  have f3 := GB.fr h 3
  have H := Lib.hid h
  have hkk : 0 ≤ tk ∧ tk ≤ 20 := hk.tk
  clear h hk
  by_cases hs : st = 2
  · subst hs
    by_cases h3 : tk + 1 < 10
    · have d2 : decide (tk + 1 < 10) = true := decide_eq_true h3
      have hc := Lib.hid (show calmA ⟨2, tk, td⟩ = ⟨2, tk + 1, td⟩ by unfold calmA; rw [if_pos ⟨rfl, h3⟩])
      clear h3
      go_enter Tryz.func76, Tryz.ntmps76
      go_wp2
      refine bodyPost_ret (v := .tuple #[]) (results_none rfl _ _ _) rfl ⟨rfl, by rw [hc.out]; exact AL.s2 H.out _, Only.set _ _ _ _⟩
    · have d2 : decide (tk + 1 < 10) = false := decide_eq_false h3
      have hc := Lib.hid (show calmA ⟨2, tk, td⟩ = ⟨0, 0, 0⟩ by unfold calmA; rw [if_neg (fun h => h3 h.2)])
      clear h3
      go_enter Tryz.func76, Tryz.ntmps76
      go_wp2
      go_end0
      exact ⟨rfl, by rw [hc.out]; exact AL.s3 (AL.s2 (AL.s1 (AL.s2 H.out _) _) _) _, (((Only.set _ _ _ _).trans (Only.set _ _ _ _)).trans (Only.set _ _ _ _)).trans (Only.set _ _ _ _)⟩
  · have d1 : (st == 2) = false := by rw [beq_eq_false_iff_ne]; exact hs
    have hc := Lib.hid (show calmA ⟨st, tk, td⟩ = ⟨0, 0, 0⟩ by unfold calmA; rw [if_neg (fun h => hs h.1)])
    clear hs
    go_enter Tryz.func76, Tryz.ntmps76
    go_wp2
    go_end0
    exact ⟨rfl, by rw [hc.out]; exact AL.s3 (AL.s2 (AL.s1 (AL.s2 H.out _) _) _) _, (((Only.set _ _ _ _).trans (Only.set _ _ _ _)).trans (Only.set _ _ _ _)).trans (Only.set _ _ _ _)⟩
set_option maxRecDepth 100000 in
set_option maxHeartbeats 4000000 in
theorem told_any (r : Nat) (lw : Int) (s : Al) (w : World) (h : AL w r lw s) : Calls Tryz.prog 69 #[.pointer (some ⟨r, 0, none⟩)] w fun en w' => en = .returned (.int .u8 s.td) ∧ w' = w := by
  have h3 := AL.c3 h
  clear h
  go_enter Tryz.func69, Tryz.ntmps69
  go_wp2
  go_ret
  exact ⟨rfl, rfl⟩
set_option maxRecDepth 100000 in
set_option maxHeartbeats 4000000 in
theorem atick_any (r : Nat) (lw x : Int) (s : Al) (w : World) (h : AL w r lw s) (hk : s.Ok) (hx : 0 ≤ x ∧ x ≤ 4) : Calls Tryz.prog 34 #[.pointer (some ⟨r, 0, none⟩), .int .u8 x] w fun en w' => en = .returned (.int .u8 (tickA lw s x).2) ∧ AL w' r lw (tickA lw s x).1 ∧ Only r w w' := by
  obtain ⟨R, hR⟩ : ∃ R, tickA lw s x = R := ⟨_, rfl⟩
  rw [hR]
  have hm : min x 4 = x := by omega
  have CA := Lib.hid (acalm_any r lw s w h hk)
  obtain ⟨st, tk, td⟩ := s
  have h0 : w.cell? ⟨r, 0, none⟩ = some (.int .u8 lw) := AL.c0 h
  have h1 : w.cell? ⟨r, 1, none⟩ = some (.int .u8 st) := AL.c1 h
  have h2 : w.cell? ⟨r, 2, none⟩ = some (.int .i64 tk) := AL.c2 h
  have h3 : w.cell? ⟨r, 3, none⟩ = some (.int .u8 td) := AL.c3 h
  have f1 := GB.fr h 1
  have f2 := GB.fr h 2
  have f3 := GB.fr h 3
  have H := Lib.hid h
  have hkk : 0 ≤ tk ∧ tk ≤ 20 := hk.tk
  clear h hk
  unfold tickA repA at hR
  simp only at hR
  by_cases hl : x < lw
  · have d1 : decide (x < lw) = true := decide_eq_true hl
    rw [if_pos hl] at hR
    have HR := Lib.hid hR
    clear hl hR
    go_enter Tryz.func34, Tryz.ntmps34
    go_wp2_with (go_at_call 76; with_reducible refine CA.out.mono ?_; rintro e w1 ⟨rfl, ha, ho⟩; have HA := Lib.hid ha; have HO := Lib.hid ho; clear ha ho)
    go_ret
    exact ⟨by rw [← HR.out]; rfl, by rw [← HR.out]; exact HA.out, HO.out⟩
  have d1 : decide (x < lw) = false := decide_eq_false hl
  rw [if_neg hl] at hR
  clear hl
  by_cases hs0 : st = 0
  · subst hs0
    rw [if_pos rfl] at hR
    have HR := Lib.hid hR
    clear hR CA
    go_enter Tryz.func34, Tryz.ntmps34
    go_upto_region 12 with fail
    have a1 : AL (((w.setCell ⟨r, 1, none⟩ (.int .u8 1)).setCell ⟨r, 2, none⟩ (.int .i64 0)).setCell ⟨r, 2, none⟩ (.int .i64 1)) r lw ⟨1, 1, td⟩ := AL.s2 (AL.s2 (AL.s1 H.out _) _) _
    have o1 : Only r w (((w.setCell ⟨r, 1, none⟩ (.int .u8 1)).setCell ⟨r, 2, none⟩ (.int .i64 0)).setCell ⟨r, 2, none⟩ (.int .i64 1)) := ((Only.set _ _ _ _).trans (Only.set _ _ _ _)).trans (Only.set _ _ _ _)
    obtain ⟨w1, hw1⟩ : ∃ z, (((w.setCell ⟨r, 1, none⟩ (.int .u8 1)).setCell ⟨r, 2, none⟩ (.int .i64 0)).setCell ⟨r, 2, none⟩ (.int .i64 1)) = z := ⟨_, rfl⟩
    rw [hw1] at a1 o1 ⊢
    have A1 := Lib.hid a1
    have O1 := Lib.hid o1
    have c2 := AL.c2 a1
    clear hw1 a1 o1
    go_wp2
    go_ret
    exact ⟨by rw [← HR.out]; rfl, by rw [← HR.out]; exact A1.out, O1.out⟩
  rw [if_neg hs0] at hR
  have e0 : (st == 0) = false := by rw [beq_eq_false_iff_ne]; exact hs0
  clear hs0
  by_cases hs1 : st = 1
  · subst hs1
    rw [if_pos rfl] at hR
    by_cases hw : tk + 1 < 2
    · have d2 : decide (tk + 1 < 2) = true := decide_eq_true hw
      rw [if_pos hw] at hR
      have HR := Lib.hid hR
      clear hR hw CA
      go_enter Tryz.func34, Tryz.ntmps34
      go_wp2
      go_ret
      exact ⟨by rw [← HR.out]; rfl, by rw [← HR.out]; exact AL.s2 H.out _, Only.set _ _ _ _⟩
    · have d2 : decide (tk + 1 < 2) = false := decide_eq_false hw
      rw [if_neg hw] at hR
      by_cases ht : x ≤ td
      · have d3 : decide (x ≤ td) = true := decide_eq_true ht
        rw [if_pos ht] at hR
        have HR := Lib.hid hR
        clear hR hw ht CA
        go_enter Tryz.func34, Tryz.ntmps34
        go_wp2
        go_ret
        exact ⟨by rw [← HR.out]; rfl, by rw [← HR.out]; exact AL.s2 (AL.s1 (AL.s2 H.out _) _) _, ((Only.set _ _ _ _).trans (Only.set _ _ _ _)).trans (Only.set _ _ _ _)⟩
      · have d3 : decide (x ≤ td) = false := decide_eq_false ht
        rw [if_neg ht] at hR
        have HR := Lib.hid hR
        clear hR hw ht CA
        go_enter Tryz.func34, Tryz.ntmps34
        go_wp2
        go_ret
        exact ⟨by rw [← HR.out]; rfl, by rw [← HR.out]; exact AL.s3 (AL.s2 (AL.s1 (AL.s2 H.out _) _) _) _, (((Only.set _ _ _ _).trans (Only.set _ _ _ _)).trans (Only.set _ _ _ _)).trans (Only.set _ _ _ _)⟩
  · rw [if_neg hs1] at hR
    have e1 : (st == 1) = false := by rw [beq_eq_false_iff_ne]; exact hs1
    clear hs1
    by_cases ht : x ≤ td
    · have d3 : decide (x ≤ td) = true := decide_eq_true ht
      rw [if_pos ht] at hR
      have HR := Lib.hid hR
      clear hR ht CA
      go_enter Tryz.func34, Tryz.ntmps34
      go_wp2
      go_ret
      exact ⟨by rw [← HR.out]; rfl, by rw [← HR.out]; exact AL.s2 H.out _, Only.set _ _ _ _⟩
    · have d3 : decide (x ≤ td) = false := decide_eq_false ht
      rw [if_neg ht] at hR
      have HR := Lib.hid hR
      clear hR ht CA
      go_enter Tryz.func34, Tryz.ntmps34
      go_wp2
      go_ret
      exact ⟨by rw [← HR.out]; rfl, by rw [← HR.out]; exact AL.s3 (AL.s2 H.out _) _, (Only.set _ _ _ _).trans (Only.set _ _ _ _)⟩
end Go.Proofs.YtlkdfofpnmpidaaGreat
