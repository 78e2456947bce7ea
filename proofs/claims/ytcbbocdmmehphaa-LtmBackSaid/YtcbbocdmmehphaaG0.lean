/- ltm: addresses, traces, replies, their blocks; the law's own 'of' and 'ofReply'. -/
import Derived.Test.YtcbbocdmmehphaaC3
import Derived.Test.YtcbbocdmmehphaaMB
import Derived.Deep.MidRow
import Derived.Laws.ResultCell
import Derived.Laws.CopyRow
set_option linter.unusedVariables false
namespace Go.Proofs.Ytcbbocdmmehphaa
open Go.RowKit

/-- An address. -/
structure Mc where
  a : Int
  b : Int
  c : Int
  d : Int
  e : Int
  f : Int
structure Mc.Ok (m : Mc) : Prop where
  a : 0 ≤ m.a ∧ m.a < 256
  b : 0 ≤ m.b ∧ m.b < 256
  c : 0 ≤ m.c ∧ m.c < 256
  d : 0 ≤ m.d ∧ m.d < 256
  e : 0 ≤ m.e ∧ m.e < 256
  f : 0 ≤ m.f ∧ m.f < 256
def mc0 : Mc := ⟨0, 0, 0, 0, 0, 0⟩
/-- Its bytes. -/
def Mc.by (m : Mc) : List UInt8 := [byt m.a, byt m.b, byt m.c, byt m.d, byt m.e, byt m.f]
theorem Mc.by_len (m : Mc) : m.by.length = 6 := rfl
theorem Mc.ext' {m n : Mc} (h0 : m.a = n.a) (h1 : m.b = n.b) (h2 : m.c = n.c) (h3 : m.d = n.d) (h4 : m.e = n.e) (h5 : m.f = n.f) : m = n := by
  cases m; cases n; simp only at *; subst h0 h1 h2 h3 h4 h5; rfl
instance (m n : Mc) : Decidable (m = n) := by
  by_cases h : m.a = n.a ∧ m.b = n.b ∧ m.c = n.c ∧ m.d = n.d ∧ m.e = n.e ∧ m.f = n.f
  · exact isTrue (Mc.ext' h.1 h.2.1 h.2.2.1 h.2.2.2.1 h.2.2.2.2.1 h.2.2.2.2.2)
  · exact isFalse (fun e => h (by rw [e]; exact ⟨rfl, rfl, rfl, rfl, rfl, rfl⟩))
/-- A trace; a reply. -/
structure Tr where
  lv : Int
  nm : Int
  tl : Int
  fr : Mc
  tt : Mc
structure Tr.Ok (t : Tr) : Prop where
  lv : 0 ≤ t.lv ∧ t.lv < 256
  nm : 0 ≤ t.nm ∧ t.nm < 4294967296
  tl : 0 ≤ t.tl ∧ t.tl < 256
  fr : t.fr.Ok
  tt : t.tt.Ok
structure Rp where
  lv : Int
  nm : Int
  tl : Int
  st : Bool
  en : Bool
  mi : Mc
  mo : Mc
structure Rp.Ok (r : Rp) : Prop where
  lv : 0 ≤ r.lv ∧ r.lv < 256
  nm : 0 ≤ r.nm ∧ r.nm < 4294967296
  tl : 0 ≤ r.tl ∧ r.tl < 256
  mi : r.mi.Ok
  mo : r.mo.Ok
/-- A block of these cells. -/
def GB (T : TypeId) (W : World) (q : Nat) (A : Array Value) : Prop := W.heap[q]? = some (.cells A T (0, 0))
section
variable {T : TypeId} {W W' : World} {q : Nat} {A : Array Value}
theorem GB.lt (h : GB T W q A) : q < W.heap.size := by
  rcases Nat.lt_or_ge q W.heap.size with h1 | h1
  · exact h1
  · unfold GB at h; rw [Array.getElem?_eq_none h1] at h; cases h
theorem GB.below {B : Nat} (h : GB T W q A) (hq : q < B) (hb : Below B W W') : GB T W' q A := by
  unfold GB; rw [hb.block q hq]; exact h
theorem GB.later (h : GB T W q A) (hb : Below W.heap.size W W') : GB T W' q A := h.below h.lt hb
theorem GB.c (h : GB T W q A) (j : Nat) (v : Value) (hv : A[j]? = some v) : W.cell? ⟨q, j, none⟩ = some v := by
  unfold GB at h; simp [World.cell?, h, hv]
theorem GB.fr (h : GB T W q A) (j : Nat) : W.frozen? ⟨q, j, none⟩ = false := by unfold GB at h; simp [World.frozen?, h]
theorem GB.range (h : GB T W q A) : W.rangeAt q 0 A.toList := fun j v hv => by
  rw [Nat.zero_add]; exact h.c j v (by simpa using hv)
theorem GB.new (T : TypeId) (W : World) (A : Array Value) : GB T (W.alloc (.cells A T)) W.heap.size A := heap_alloc_new W _
theorem GB.other {t o : Nat} (h : GB T W q A) (ht : t ≠ q) (u : Value) : GB T (W.setCell ⟨t, o, none⟩ u) q A := by
  unfold GB; rw [Below.heap_setCell _ _ _ _ (by intro e; simp at e; omega)]; exact h
theorem GB.only {p : Nat} (h : GB T W q A) (ho : Only p W W') (hne : q ≠ p) : GB T W' q A := by
  unfold GB; rw [ho.block q h.lt (by simpa using hne)]; exact h
theorem GB.drew (h : GB T W q A) : GB T W.drew q A := by unfold GB at *; exact h
end
/-- Six cells read as an address's bytes. -/
theorem srcM {W : World} {p o : Nat} {m : Mc} (h0 : W.cell? ⟨p, o, none⟩ = some (.int .u8 m.a)) (h1 : W.cell? ⟨p, o + 1, none⟩ = some (.int .u8 m.b)) (h2 : W.cell? ⟨p, o + 2, none⟩ = some (.int .u8 m.c)) (h3 : W.cell? ⟨p, o + 3, none⟩ = some (.int .u8 m.d)) (h4 : W.cell? ⟨p, o + 4, none⟩ = some (.int .u8 m.e)) (h5 : W.cell? ⟨p, o + 5, none⟩ = some (.int .u8 m.f)) (hw : m.Ok) : Src W (.slice (some ⟨p, o, none⟩) 6 6) m.by := by
  refine .inr ⟨⟨p, o, none⟩, 6, rfl, fun j hj => ?_⟩
  have hj6 : j < 6 := hj
  rw [Go.WideShapes.add_plain]
  have : j = 0 ∨ j = 1 ∨ j = 2 ∨ j = 3 ∨ j = 4 ∨ j = 5 := by omega
  rcases this with rfl | rfl | rfl | rfl | rfl | rfl
  · exact h0.trans (congrArg some (byteV_byt m.a hw.a).symm)
  · exact h1.trans (congrArg some (byteV_byt m.b hw.b).symm)
  · exact h2.trans (congrArg some (byteV_byt m.c hw.c).symm)
  · exact h3.trans (congrArg some (byteV_byt m.d hw.d).symm)
  · exact h4.trans (congrArg some (byteV_byt m.e hw.e).symm)
  · exact h5.trans (congrArg some (byteV_byt m.f hw.f).symm)
theorem GB.there {T : TypeId} {W : World} {q : Nat} {A : Array Value} {n : Nat} (h : GB T W q A) (hn : n ≤ A.size) : W.there q 0 n := fun j hj => by
  rw [Nat.zero_add]
  refine ⟨?_, h.fr j⟩
  rw [h.c j A[j] (by simp [show j < A.size by omega])]; rfl
theorem GB.cellsOther {T : TypeId} {q t : Nat} {A : Array Value} (ht : t ≠ q) : ∀ (vs : List Value) (o : Nat) (W : World), GB T W q A → GB T (W.setCells t o vs) q A
  | [], _, _, h => h
  | v :: r, o, W, h => GB.cellsOther ht r (o + 1) _ (h.other ht v)
theorem below_cellsG {B t : Nat} {w : World} (ht : B ≤ t) : ∀ (vs : List Value) (o : Nat) (W : World), Below B w W → Below B w (W.setCells t o vs)
  | [], _, _, h => h
  | v :: r, o, W, h => below_cellsG ht r (o + 1) _ (below_set h ht v)
/-- A whole block is stored. -/
theorem GB.store {T : TypeId} {W : World} {b : Nat} {B A : Array Value} (h : GB T W b B) (hs : B.size = A.size) (h1 : A.all (·.oneCell') = true) : GB T (W.setCells b 0 A.toList) b A := by
  have ht := h.there (n := A.size) (by omega)
  have r1 := run_storeCells_at Try.prog b 0 T A.toList 0 B W h (by simp; omega) (fun v hv => (Array.all_eq_true_iff_forall_mem.1 h1) v (by simpa using hv))
  have r2 := run_storeCells_cells (P := Try.prog) b 0 A.toList 0 W (fun j hj => by simpa using (ht j (by simpa using hj)).1) (fun j hj => by simpa using (ht j (by simpa using hj)).2)
    (fun v hv => (Array.all_eq_true_iff_forall_mem.1 h1) v (by simpa using hv))
  simp only [Nat.add_zero] at r1 r2
  rw [r1] at r2
  have e : W.setRow b (B.toList.take 0 ++ A.toList ++ B.toList.drop (0 + A.toList.length)).toArray = W.setCells b 0 A.toList := by
    injection r2
  unfold GB
  rw [← e]
  have e2 : (B.toList.take 0 ++ A.toList ++ B.toList.drop (0 + A.toList.length)).toArray = A := by
    rw [List.drop_of_length_le (by simp; omega)]; simp
  rw [e2]
  exact setRow_heap W b _ _ _ _ h
/-- A result that is a block and a number. -/
theorem res_two {fn : Func} {ty : TypeId} {d : TypeDesc} (hf : fn.results = #[.cell 2 ty, .tmp 3]) (hd : (match d with | .struct _ | .array _ _ => true | _ => false) = true) (hu : Try.prog.underlying ty = some d) (tmps : Array Value) (W : World) (b : Nat) (A : Array Value) (h2 : tmps.getD 2 undef = .pointer (some ⟨b, 0, none⟩)) (hg : GB ty W b A)
    (hi : (Try.prog.info? ty).map (·.size) = some A.size) : (results fn tmps).run Try.prog W = .ok (.tuple #[.agg A, tmps.getD 3 undef]) W := by
  rw [results_cell_tmp (p := 2) (u := 3) (ty := ty) hf, h2]
  simp [asAddr, run_loadVar_row W b ty ty A (0, 0) _ hg hu (by cases d <;> first | rfl | exact hd) hi]
/-- A result that is a block. -/
theorem res_one {fn : Func} {ty : TypeId} {d : TypeDesc} (hf : fn.results = #[.cell 2 ty]) (hd : (match d with | .struct _ | .array _ _ => true | _ => false) = true) (hu : Try.prog.underlying ty = some d) (tmps : Array Value) (W : World) (b : Nat) (A : Array Value) (h2 : tmps.getD 2 undef = .pointer (some ⟨b, 0, none⟩)) (hg : GB ty W b A)
    (hi : (Try.prog.info? ty).map (·.size) = some A.size) : (results fn tmps).run Try.prog W = .ok (.agg A) W := by
  have h3 : tmps[2]?.getD undef = .pointer (some ⟨b, 0, none⟩) := by simpa using h2
  simp only [results, hf]
  simp [h3, asAddr, run_loadVar_row W b ty ty A (0, 0) _ hg hu (by cases d <;> first | rfl | exact hd) hi]
set_option maxRecDepth 100000 in
set_option maxHeartbeats 4000000 in
theorem of15_any (t : Tr) (w : World) : Calls Try.prog 34 #[.agg #[.int .u8 t.lv, .int .u32 t.nm, .int .u8 t.tl, .int .u8 t.fr.a, .int .u8 t.fr.b, .int .u8 t.fr.c, .int .u8 t.fr.d, .int .u8 t.fr.e, .int .u8 t.fr.f, .int .u8 t.tt.a, .int .u8 t.tt.b, .int .u8 t.tt.c, .int .u8 t.tt.d, .int .u8 t.tt.e, .int .u8 t.tt.f]] w fun en w' => en = .returned (.agg #[.int .u8 t.lv, .int .u32 t.nm, .int .u8 t.tl, .int .u8 t.fr.a, .int .u8 t.fr.b, .int .u8 t.fr.c, .int .u8 t.fr.d, .int .u8 t.fr.e, .int .u8 t.fr.f, .int .u8 t.tt.a, .int .u8 t.tt.b, .int .u8 t.tt.c, .int .u8 t.tt.d, .int .u8 t.tt.e, .int .u8 t.tt.f]) ∧ Below w.heap.size w w' := by
  go_enter Try.func34, Try.ntmps34
  go_upto_region 1 with fail
  have g0 := (GB.new 68 w #[.int .u8 t.lv, .int .u32 t.nm, .int .u8 t.tl, .int .u8 t.fr.a, .int .u8 t.fr.b, .int .u8 t.fr.c, .int .u8 t.fr.d, .int .u8 t.fr.e, .int .u8 t.fr.f, .int .u8 t.tt.a, .int .u8 t.tt.b, .int .u8 t.tt.c, .int .u8 t.tt.d, .int .u8 t.tt.e, .int .u8 t.tt.f]).later ((Below.refl _ _).alloc (Nat.le_refl _) (.cells #[.int .u8 0, .int .u32 0, .int .u8 0, .int .u8 0, .int .u8 0, .int .u8 0, .int .u8 0, .int .u8 0, .int .u8 0, .int .u8 0, .int .u8 0, .int .u8 0, .int .u8 0, .int .u8 0, .int .u8 0] 72))
  have z0 : GB 72 ((w.alloc (.cells #[.int .u8 t.lv, .int .u32 t.nm, .int .u8 t.tl, .int .u8 t.fr.a, .int .u8 t.fr.b, .int .u8 t.fr.c, .int .u8 t.fr.d, .int .u8 t.fr.e, .int .u8 t.fr.f, .int .u8 t.tt.a, .int .u8 t.tt.b, .int .u8 t.tt.c, .int .u8 t.tt.d, .int .u8 t.tt.e, .int .u8 t.tt.f] 68)).alloc (.cells #[.int .u8 0, .int .u32 0, .int .u8 0, .int .u8 0, .int .u8 0, .int .u8 0, .int .u8 0, .int .u8 0, .int .u8 0, .int .u8 0, .int .u8 0, .int .u8 0, .int .u8 0, .int .u8 0, .int .u8 0] 72)) (w.heap.size + 1) #[.int .u8 0, .int .u32 0, .int .u8 0, .int .u8 0, .int .u8 0, .int .u8 0, .int .u8 0, .int .u8 0, .int .u8 0, .int .u8 0, .int .u8 0, .int .u8 0, .int .u8 0, .int .u8 0, .int .u8 0] := by
    have := GB.new 72 (w.alloc (.cells #[.int .u8 t.lv, .int .u32 t.nm, .int .u8 t.tl, .int .u8 t.fr.a, .int .u8 t.fr.b, .int .u8 t.fr.c, .int .u8 t.fr.d, .int .u8 t.fr.e, .int .u8 t.fr.f, .int .u8 t.tt.a, .int .u8 t.tt.b, .int .u8 t.tt.c, .int .u8 t.tt.d, .int .u8 t.tt.e, .int .u8 t.tt.f] 68)) #[.int .u8 0, .int .u32 0, .int .u8 0, .int .u8 0, .int .u8 0, .int .u8 0, .int .u8 0, .int .u8 0, .int .u8 0, .int .u8 0, .int .u8 0, .int .u8 0, .int .u8 0, .int .u8 0, .int .u8 0]
    rw [show (w.alloc (.cells #[.int .u8 t.lv, .int .u32 t.nm, .int .u8 t.tl, .int .u8 t.fr.a, .int .u8 t.fr.b, .int .u8 t.fr.c, .int .u8 t.fr.d, .int .u8 t.fr.e, .int .u8 t.fr.f, .int .u8 t.tt.a, .int .u8 t.tt.b, .int .u8 t.tt.c, .int .u8 t.tt.d, .int .u8 t.tt.e, .int .u8 t.tt.f] 68)).heap.size = w.heap.size + 1 by simp] at this
    exact this
  have hb0 : Below w.heap.size w ((w.alloc (.cells #[.int .u8 t.lv, .int .u32 t.nm, .int .u8 t.tl, .int .u8 t.fr.a, .int .u8 t.fr.b, .int .u8 t.fr.c, .int .u8 t.fr.d, .int .u8 t.fr.e, .int .u8 t.fr.f, .int .u8 t.tt.a, .int .u8 t.tt.b, .int .u8 t.tt.c, .int .u8 t.tt.d, .int .u8 t.tt.e, .int .u8 t.tt.f] 68)).alloc (.cells #[.int .u8 0, .int .u32 0, .int .u8 0, .int .u8 0, .int .u8 0, .int .u8 0, .int .u8 0, .int .u8 0, .int .u8 0, .int .u8 0, .int .u8 0, .int .u8 0, .int .u8 0, .int .u8 0, .int .u8 0] 72)) := ((Below.refl _ _).alloc (Nat.le_refl _) _).alloc (by simp) _
  obtain ⟨w0, hw0⟩ : ∃ k, (w.alloc (.cells #[.int .u8 t.lv, .int .u32 t.nm, .int .u8 t.tl, .int .u8 t.fr.a, .int .u8 t.fr.b, .int .u8 t.fr.c, .int .u8 t.fr.d, .int .u8 t.fr.e, .int .u8 t.fr.f, .int .u8 t.tt.a, .int .u8 t.tt.b, .int .u8 t.tt.c, .int .u8 t.tt.d, .int .u8 t.tt.e, .int .u8 t.tt.f] 68)).alloc (.cells #[.int .u8 0, .int .u32 0, .int .u8 0, .int .u8 0, .int .u8 0, .int .u8 0, .int .u8 0, .int .u8 0, .int .u8 0, .int .u8 0, .int .u8 0, .int .u8 0, .int .u8 0, .int .u8 0, .int .u8 0] 72) = k := ⟨_, rfl⟩
  rw [hw0] at g0 z0 hb0 ⊢
  clear hw0
  have c0 := g0.c 0 _ rfl
  have c1 := g0.c 1 _ rfl
  have c2 := g0.c 2 _ rfl
  have c3 := g0.c 3 _ rfl
  have c4 := g0.c 4 _ rfl
  have c5 := g0.c 5 _ rfl
  have c6 := g0.c 6 _ rfl
  have c7 := g0.c 7 _ rfl
  have c8 := g0.c 8 _ rfl
  have c9 := g0.c 9 _ rfl
  have c10 := g0.c 10 _ rfl
  have c11 := g0.c 11 _ rfl
  have c12 := g0.c 12 _ rfl
  have c13 := g0.c 13 _ rfl
  have c14 := g0.c 14 _ rfl
  try have c15 := g0.c 15 _ rfl
  try have c16 := g0.c 16 _ rfl
  obtain ⟨A, hA⟩ : ∃ A : Array Value, A = #[.int .u8 t.lv, .int .u32 t.nm, .int .u8 t.tl, .int .u8 t.fr.a, .int .u8 t.fr.b, .int .u8 t.fr.c, .int .u8 t.fr.d, .int .u8 t.fr.e, .int .u8 t.fr.f, .int .u8 t.tt.a, .int .u8 t.tt.b, .int .u8 t.tt.c, .int .u8 t.tt.d, .int .u8 t.tt.e, .int .u8 t.tt.f] := ⟨_, rfl⟩
  have hs : A.size = 15 := by rw [hA]; rfl
  have o1 : A.all (·.oneCell') = true := by rw [hA]; simp [Value.oneCell']
  have hi : (Try.prog.info? 72).map (·.size) = some A.size := by rw [hs]; kernel_rfl
  have TH := Lib.hid (z0.there (n := A.size) (by rw [hs]; exact Nat.le_refl _))
  have G1 := Lib.hid (z0.store (A := A) (by rw [hs]; rfl) o1)
  have HB0 := Lib.hid hb0
  have HI := Lib.hid hi
  have O1 := Lib.hid o1
  have HA := Lib.hid hA
  clear g0 z0 hb0 hs o1 hi hA
  go_wp2_with ((with_reducible refine wpList_store_mid rfl 72 (.tmp 2) (.tmp 13) rfl (w.heap.size + 1) 0 A ?hx ?hy TH.out HI.out O1.out ?_); (case hx => rfl); (case hy => (rw [HA.out]; rfl)))
  exact bodyPost_ret (v := .agg A) (res_one (d := _) rfl rfl Try.underlying72 _ _ (w.heap.size + 1) _ rfl G1.out HI.out) rfl ⟨by rw [HA.out], below_cellsG (by omega) _ _ _ HB0.out⟩
set_option maxRecDepth 100000 in
set_option maxHeartbeats 4000000 in
theorem ofR15_any (t : Rp) (w : World) : Calls Try.prog 37 #[.agg #[.int .u8 t.lv, .int .u32 t.nm, .int .u8 t.tl, .bool t.st, .bool t.en, .int .u8 t.mi.a, .int .u8 t.mi.b, .int .u8 t.mi.c, .int .u8 t.mi.d, .int .u8 t.mi.e, .int .u8 t.mi.f, .int .u8 t.mo.a, .int .u8 t.mo.b, .int .u8 t.mo.c, .int .u8 t.mo.d, .int .u8 t.mo.e, .int .u8 t.mo.f]] w fun en w' => en = .returned (.agg #[.int .u8 t.lv, .int .u32 t.nm, .int .u8 t.tl, .bool t.st, .bool t.en, .int .u8 t.mi.a, .int .u8 t.mi.b, .int .u8 t.mi.c, .int .u8 t.mi.d, .int .u8 t.mi.e, .int .u8 t.mi.f, .int .u8 t.mo.a, .int .u8 t.mo.b, .int .u8 t.mo.c, .int .u8 t.mo.d, .int .u8 t.mo.e, .int .u8 t.mo.f]) ∧ Below w.heap.size w w' := by
  go_enter Try.func37, Try.ntmps37
  go_upto_region 1 with fail
  have g0 := (GB.new 70 w #[.int .u8 t.lv, .int .u32 t.nm, .int .u8 t.tl, .bool t.st, .bool t.en, .int .u8 t.mi.a, .int .u8 t.mi.b, .int .u8 t.mi.c, .int .u8 t.mi.d, .int .u8 t.mi.e, .int .u8 t.mi.f, .int .u8 t.mo.a, .int .u8 t.mo.b, .int .u8 t.mo.c, .int .u8 t.mo.d, .int .u8 t.mo.e, .int .u8 t.mo.f]).later ((Below.refl _ _).alloc (Nat.le_refl _) (.cells #[.int .u8 0, .int .u32 0, .int .u8 0, .bool false, .bool false, .int .u8 0, .int .u8 0, .int .u8 0, .int .u8 0, .int .u8 0, .int .u8 0, .int .u8 0, .int .u8 0, .int .u8 0, .int .u8 0, .int .u8 0, .int .u8 0] 76))
  have z0 : GB 76 ((w.alloc (.cells #[.int .u8 t.lv, .int .u32 t.nm, .int .u8 t.tl, .bool t.st, .bool t.en, .int .u8 t.mi.a, .int .u8 t.mi.b, .int .u8 t.mi.c, .int .u8 t.mi.d, .int .u8 t.mi.e, .int .u8 t.mi.f, .int .u8 t.mo.a, .int .u8 t.mo.b, .int .u8 t.mo.c, .int .u8 t.mo.d, .int .u8 t.mo.e, .int .u8 t.mo.f] 70)).alloc (.cells #[.int .u8 0, .int .u32 0, .int .u8 0, .bool false, .bool false, .int .u8 0, .int .u8 0, .int .u8 0, .int .u8 0, .int .u8 0, .int .u8 0, .int .u8 0, .int .u8 0, .int .u8 0, .int .u8 0, .int .u8 0, .int .u8 0] 76)) (w.heap.size + 1) #[.int .u8 0, .int .u32 0, .int .u8 0, .bool false, .bool false, .int .u8 0, .int .u8 0, .int .u8 0, .int .u8 0, .int .u8 0, .int .u8 0, .int .u8 0, .int .u8 0, .int .u8 0, .int .u8 0, .int .u8 0, .int .u8 0] := by
    have := GB.new 76 (w.alloc (.cells #[.int .u8 t.lv, .int .u32 t.nm, .int .u8 t.tl, .bool t.st, .bool t.en, .int .u8 t.mi.a, .int .u8 t.mi.b, .int .u8 t.mi.c, .int .u8 t.mi.d, .int .u8 t.mi.e, .int .u8 t.mi.f, .int .u8 t.mo.a, .int .u8 t.mo.b, .int .u8 t.mo.c, .int .u8 t.mo.d, .int .u8 t.mo.e, .int .u8 t.mo.f] 70)) #[.int .u8 0, .int .u32 0, .int .u8 0, .bool false, .bool false, .int .u8 0, .int .u8 0, .int .u8 0, .int .u8 0, .int .u8 0, .int .u8 0, .int .u8 0, .int .u8 0, .int .u8 0, .int .u8 0, .int .u8 0, .int .u8 0]
    rw [show (w.alloc (.cells #[.int .u8 t.lv, .int .u32 t.nm, .int .u8 t.tl, .bool t.st, .bool t.en, .int .u8 t.mi.a, .int .u8 t.mi.b, .int .u8 t.mi.c, .int .u8 t.mi.d, .int .u8 t.mi.e, .int .u8 t.mi.f, .int .u8 t.mo.a, .int .u8 t.mo.b, .int .u8 t.mo.c, .int .u8 t.mo.d, .int .u8 t.mo.e, .int .u8 t.mo.f] 70)).heap.size = w.heap.size + 1 by simp] at this
    exact this
  have hb0 : Below w.heap.size w ((w.alloc (.cells #[.int .u8 t.lv, .int .u32 t.nm, .int .u8 t.tl, .bool t.st, .bool t.en, .int .u8 t.mi.a, .int .u8 t.mi.b, .int .u8 t.mi.c, .int .u8 t.mi.d, .int .u8 t.mi.e, .int .u8 t.mi.f, .int .u8 t.mo.a, .int .u8 t.mo.b, .int .u8 t.mo.c, .int .u8 t.mo.d, .int .u8 t.mo.e, .int .u8 t.mo.f] 70)).alloc (.cells #[.int .u8 0, .int .u32 0, .int .u8 0, .bool false, .bool false, .int .u8 0, .int .u8 0, .int .u8 0, .int .u8 0, .int .u8 0, .int .u8 0, .int .u8 0, .int .u8 0, .int .u8 0, .int .u8 0, .int .u8 0, .int .u8 0] 76)) := ((Below.refl _ _).alloc (Nat.le_refl _) _).alloc (by simp) _
  obtain ⟨w0, hw0⟩ : ∃ k, (w.alloc (.cells #[.int .u8 t.lv, .int .u32 t.nm, .int .u8 t.tl, .bool t.st, .bool t.en, .int .u8 t.mi.a, .int .u8 t.mi.b, .int .u8 t.mi.c, .int .u8 t.mi.d, .int .u8 t.mi.e, .int .u8 t.mi.f, .int .u8 t.mo.a, .int .u8 t.mo.b, .int .u8 t.mo.c, .int .u8 t.mo.d, .int .u8 t.mo.e, .int .u8 t.mo.f] 70)).alloc (.cells #[.int .u8 0, .int .u32 0, .int .u8 0, .bool false, .bool false, .int .u8 0, .int .u8 0, .int .u8 0, .int .u8 0, .int .u8 0, .int .u8 0, .int .u8 0, .int .u8 0, .int .u8 0, .int .u8 0, .int .u8 0, .int .u8 0] 76) = k := ⟨_, rfl⟩
  rw [hw0] at g0 z0 hb0 ⊢
  clear hw0
  have c0 := g0.c 0 _ rfl
  have c1 := g0.c 1 _ rfl
  have c2 := g0.c 2 _ rfl
  have c3 := g0.c 3 _ rfl
  have c4 := g0.c 4 _ rfl
  have c5 := g0.c 5 _ rfl
  have c6 := g0.c 6 _ rfl
  have c7 := g0.c 7 _ rfl
  have c8 := g0.c 8 _ rfl
  have c9 := g0.c 9 _ rfl
  have c10 := g0.c 10 _ rfl
  have c11 := g0.c 11 _ rfl
  have c12 := g0.c 12 _ rfl
  have c13 := g0.c 13 _ rfl
  have c14 := g0.c 14 _ rfl
  try have c15 := g0.c 15 _ rfl
  try have c16 := g0.c 16 _ rfl
  obtain ⟨A, hA⟩ : ∃ A : Array Value, A = #[.int .u8 t.lv, .int .u32 t.nm, .int .u8 t.tl, .bool t.st, .bool t.en, .int .u8 t.mi.a, .int .u8 t.mi.b, .int .u8 t.mi.c, .int .u8 t.mi.d, .int .u8 t.mi.e, .int .u8 t.mi.f, .int .u8 t.mo.a, .int .u8 t.mo.b, .int .u8 t.mo.c, .int .u8 t.mo.d, .int .u8 t.mo.e, .int .u8 t.mo.f] := ⟨_, rfl⟩
  have hs : A.size = 17 := by rw [hA]; rfl
  have o1 : A.all (·.oneCell') = true := by rw [hA]; simp [Value.oneCell']
  have hi : (Try.prog.info? 76).map (·.size) = some A.size := by rw [hs]; kernel_rfl
  have TH := Lib.hid (z0.there (n := A.size) (by rw [hs]; exact Nat.le_refl _))
  have G1 := Lib.hid (z0.store (A := A) (by rw [hs]; rfl) o1)
  have HB0 := Lib.hid hb0
  have HI := Lib.hid hi
  have O1 := Lib.hid o1
  have HA := Lib.hid hA
  clear g0 z0 hb0 hs o1 hi hA
  go_wp2_with ((with_reducible refine wpList_store_mid rfl 76 (.tmp 2) (.tmp 17) rfl (w.heap.size + 1) 0 A ?hx ?hy TH.out HI.out O1.out ?_); (case hx => rfl); (case hy => (rw [HA.out]; rfl)))
  exact bodyPost_ret (v := .agg A) (res_one (d := _) rfl rfl Try.underlying76 _ _ (w.heap.size + 1) _ rfl G1.out HI.out) rfl ⟨by rw [HA.out], below_cellsG (by omega) _ _ _ HB0.out⟩
set_option maxRecDepth 100000 in
set_option maxHeartbeats 4000000 in
theorem kind_any (r : Rp) (w : World) : Calls Try.prog 76 #[.agg #[.int .u8 r.lv, .int .u32 r.nm, .int .u8 r.tl, .bool r.st, .bool r.en, .int .u8 r.mi.a, .int .u8 r.mi.b, .int .u8 r.mi.c, .int .u8 r.mi.d, .int .u8 r.mi.e, .int .u8 r.mi.f, .int .u8 r.mo.a, .int .u8 r.mo.b, .int .u8 r.mo.c, .int .u8 r.mo.d, .int .u8 r.mo.e, .int .u8 r.mo.f]] w fun en w' => en = .returned (.int .u8 (if r.en = true then 1 else 2)) ∧ Below w.heap.size w w' := by
  cases he : r.en with
  | true =>
    go_enter Try.func76, Try.ntmps76
    go_wp2
    go_ret
    exact ⟨rfl, (Below.refl _ _).alloc (Nat.le_refl _) _⟩
  | false =>
    go_enter Try.func76, Try.ntmps76
    go_wp2
    go_ret
    exact ⟨rfl, (Below.refl _ _).alloc (Nat.le_refl _) _⟩
end Go.Proofs.Ytcbbocdmmehphaa
