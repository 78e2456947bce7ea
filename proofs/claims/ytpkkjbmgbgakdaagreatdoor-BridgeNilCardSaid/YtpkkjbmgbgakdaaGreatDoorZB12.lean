/- ZB12: the texts K4 as one. -/
import Derived.Test.YtpkkjbmgbgakdaaGreatDoorZB05
import Derived.Test.YtpkkjbmgbgakdaaGreatDoorZB11
import Derived.Deep.Slices
import Derived.Deep.Onto
/- Things: slices of a number and a text. -/
set_option linter.unusedVariables false
namespace Go.Proofs.YtpkkjbmgbgakdaaGreatDoor
open Go.ChangeShapes Go.WideShapes Go.ChangeAt Go.RowKit Go.Deep
open Go.ChangeMaps (open_string shut_string)

/-- A thing: its type, its value. -/
abbrev Th := UInt8 × List UInt8
def thV (x : Th) : List Value := [.int .u8 (x.1.toNat : Int), .string (bs x.2)]
/-- A slice that reads as these things. -/
def Tls (w : World) (v : Value) (l : List Th) : Prop :=
  (v = .slice none 0 0 ∧ l = []) ∨ ∃ ad c, v = .slice (some ad) l.length c ∧ (l = [] ∨ ∃ b off, ad = ⟨b, off, none⟩ ∧ ∀ j (hj : j < l.length), w.cell? ⟨b, off + j * 2, none⟩ = some (.int .u8 (l[j].1.toNat : Int)) ∧ w.cell? ⟨b, off + j * 2 + 1, none⟩ = some (.string (bs l[j].2)))
theorem Tls.later {w w' : World} {v : Value} {l : List Th} (h : Tls w v l) (hb : Below w.heap.size w w') : Tls w' v l := by
  rcases h with h | ⟨ad, c, h1, h0 | ⟨b, off, h3, h2⟩⟩
  · exact .inl h
  · exact .inr ⟨ad, c, h1, .inl h0⟩
  · exact .inr ⟨ad, c, h1, .inr ⟨b, off, h3, fun j hj => ⟨(hb.cell (World.block_lt_of_cell? w _ (h2 j hj).1)).trans (h2 j hj).1, (hb.cell (World.block_lt_of_cell? w _ (h2 j hj).2)).trans (h2 j hj).2⟩⟩⟩
theorem Tls.nil (w : World) : Tls w (.slice none 0 0) [] := .inl ⟨rfl, rfl⟩
/-- Its shape: empty, or a row of cells. -/
theorem Tls.shape {w : World} {v : Value} {l : List Th} (h : Tls w v l) : ∃ a c, v = .slice a l.length c ∧ (l = [] ∨ ∃ b off, a = some ⟨b, off, none⟩ ∧ ∀ j (hj : j < l.length), w.cell? ⟨b, off + j * 2, none⟩ = some (.int .u8 (l[j].1.toNat : Int)) ∧ w.cell? ⟨b, off + j * 2 + 1, none⟩ = some (.string (bs l[j].2))) := by
  rcases h with ⟨h1, h2⟩ | ⟨ad, c, h1, h0 | ⟨b, off, h3, h2⟩⟩
  · exact ⟨none, 0, by rw [h1, h2]; rfl, .inl h2⟩
  · exact ⟨_, c, h1, .inl h0⟩
  · exact ⟨_, c, h1, .inr ⟨b, off, by rw [h3], h2⟩⟩
theorem thV_len (l : List Th) : (l.flatMap thV).length = l.length * 2 := by
  induction l with
  | nil => rfl
  | cons x l ih => simp [thV, ih]; omega
theorem thV_get0 : ∀ (l : List Th) (j : Nat) (h : j < l.length), (l.flatMap thV)[j * 2]? = some (.int .u8 (l[j].1.toNat : Int))
  | x :: l, 0, _ => rfl
  | x :: l, j + 1, h => by
    have ih := thV_get0 l j (by simpa using h)
    rw [List.flatMap_cons, show (j + 1) * 2 = j * 2 + 2 by omega]
    simpa [thV] using ih
theorem thV_get1 : ∀ (l : List Th) (j : Nat) (h : j < l.length), (l.flatMap thV)[j * 2 + 1]? = some (.string (bs l[j].2))
  | x :: l, 0, _ => rfl
  | x :: l, j + 1, h => by
    have ih := thV_get1 l j (by simpa using h)
    rw [List.flatMap_cons, show (j + 1) * 2 + 1 = j * 2 + 1 + 2 by omega]
    simpa [thV] using ih

theorem info_T : (Tryz.prog.info? 380).map (fun i => (i.zero, i.size, i.bytes)) = some (some (.agg #[.int .u8 0, .string { data := #[] }]), 2, 24) := by kernel_rfl
/-- A slice value that owns these things, in a row from B on. -/
def TlT (w : World) (B : Nat) (v : Value) (l : List Th) : Prop := w.ownsRow B 380 2 v l.length (l.flatMap thV)
theorem TlT.none (w : World) (B : Nat) : TlT w B (.slice none 0 0) [] := World.ownsRow_nil w B _ 2
theorem TlT.mono {w : World} {B B' : Nat} {v : Value} {l : List Th} (h : TlT w B v l) (hb : B' ≤ B) : TlT w B' v l := World.ownsRow.mono h hb
theorem TlT.later {w w' : World} {B : Nat} {v : Value} {l : List Th} (h : TlT w B v l) (hb : Below w.heap.size w w') : TlT w' B v l := by
  obtain ⟨h1, h2⟩ := h
  refine ⟨h1, ?_⟩
  rcases h2 with h2 | ⟨g, cap, cur, hv, hg, hh, r⟩
  · exact .inl h2
  · refine .inr ⟨g, cap, cur, hv, hg, ?_, r⟩
    have hlt : g < w.heap.size := by
      rcases Nat.lt_or_ge g w.heap.size with h | h
      · exact h
      · rw [Array.getElem?_eq_none h] at hh; cases hh
    rw [hb.block g hlt]; exact hh
theorem TlT.tls {w : World} {B : Nat} {v : Value} {l : List Th} (h : TlT w B v l) : Tls w v l := by
  obtain ⟨h1, h2⟩ := h
  rcases h2 with ⟨h2, h3⟩ | ⟨g, cap, cur, hv, hg, hh, hr⟩
  · exact .inl ⟨h2, List.eq_nil_of_length_eq_zero h3⟩
  · subst hv
    have hc : w.ownsRow B 380 2 (.slice (some ⟨g, 0, Option.none⟩) l.length cap) l.length (l.flatMap thV) := ⟨h1, .inr ⟨g, cap, cur, rfl, hg, hh, hr⟩⟩
    refine .inr ⟨⟨g, 0, Option.none⟩, cap, rfl, .inr ⟨g, 0, rfl, fun j hj => ⟨?_, ?_⟩⟩⟩
    · rw [Nat.zero_add, World.ownsRow.cellAt hc (j * 2) (by omega)]; exact thV_get0 l j hj
    · rw [Nat.zero_add, World.ownsRow.cellAt hc (j * 2 + 1) (by omega)]; exact thV_get1 l j hj
theorem TlT.lit (w : World) (B : Nat) (x : Th) (hB : B ≤ w.heap.size) : TlT (w.alloc (.cells #[.int .u8 (x.1.toNat : Int), .string (bs x.2)] 380)) B (.slice (some ⟨w.heap.size, 0, Option.none⟩) 1 1) [x] :=
  World.ownsRow_lit w #[.int .u8 (x.1.toNat : Int), .string (bs x.2)] 1 hB (by decide) rfl
section
variable {w : World} {ops : Array Oper} {rest : List Oper} {o : Oper} {a : Act} {Q : Exit → Act → World → Prop} {K : Act → World → Prop}
/-- 'append(b, x...)' of things. -/
theorem wp_append_T (s x : Operand) (ho : o.op = .call { callee := .builtin .append, args := #[s, x], argTypes := #[201, 201] })
    (B : Nat) (v : Value) (l : List Th) (hs : a.eval s = v) (hown : TlT w B v l) (u : Value) (t : List Th) (hx : a.eval x = u) (hsrc : Tls w u t)
    (hsz : l.length + t.length ≤ 1000000000000) (hB : B ≤ w.heap.size)
    (h : ∀ v' w', TlT w' B v' (l ++ t) → Below B w w' → K (a.put o.dst v') w') : o.wp Tryz.prog a w K Q := by
  obtain ⟨i, hi, hz0, hz1, hz2⟩ := info_parts info_T
  rcases hsrc with ⟨rfl, rfl⟩ | ⟨ad, c, rfl, hc⟩
  · have hrun := run_append_owned_none (P := Tryz.prog) w B 201 o.type 380 i 2 Tryz.underlying201 hi v l.length (l.flatMap thV) hown
    unfold Oper.wp
    simp [execOp, ho, resolve, invoke, builtin, hs, hx, hrun, Result.andThen]
    exact h _ _ (by simpa using hown) (Below.refl _ _)
  · refine wp_append_own w s x 201 ho B 380 i (.agg #[.int .u8 0, .string { data := #[] }]) 2 24 Tryz.underlying201 hi hz0 hz1 hz2 rfl (by decide) v l.length (l.flatMap thV) hs hown ad t.length c (t.flatMap thV) hx (thV_len t)
      (fun j u hj => ?_) (fun u hu => ?_) (by unfold maxLen; omega) (by omega) hB (fun v' w' h1 h2 _ => ?_)
    · have hj' : j < t.length * 2 := by have := (List.getElem?_eq_some_iff.1 hj).1; rw [thV_len] at this; exact this
      rcases hc with rfl | ⟨b, off, rfl, hc⟩
      · simp at hj'
      rw [add_plain]
      rcases Nat.mod_two_eq_zero_or_one j with h0 | h0
      · have e : j = j / 2 * 2 := by omega
        rw [e] at hj ⊢
        rw [thV_get0 t (j / 2) (by omega)] at hj
        exact (hc (j / 2) (by omega)).1.trans hj
      · have e : j = j / 2 * 2 + 1 := by omega
        rw [e] at hj ⊢
        rw [thV_get1 t (j / 2) (by omega)] at hj
        exact (hc (j / 2) (by omega)).2.trans hj
    · obtain ⟨y, _, hy⟩ := List.mem_flatMap.1 hu
      simp [thV] at hy
      rcases hy with rfl | rfl <;> rfl
    · refine h v' w' ?_ ((Below.refl _ _).grown h2 hB (fun k hk => (World.ownsRow.lt hown k hk).1))
      unfold TlT
      rw [List.length_append, List.flatMap_append]; exact h1
theorem wpList_append_T (hgd : o.guard = Option.none) (s x : Operand) (ho : o.op = .call { callee := .builtin .append, args := #[s, x], argTypes := #[201, 201] })
    (B : Nat) (v : Value) (l : List Th) (hs : a.eval s = v) (hown : TlT w B v l) (u : Value) (t : List Th) (hx : a.eval x = u) (hsrc : Tls w u t)
    (hsz : l.length + t.length ≤ 1000000000000) (hB : B ≤ w.heap.size)
    (h : ∀ v' w', TlT w' B v' (l ++ t) → Below B w w' → wpList Tryz.prog ops Q rest (a.put o.dst v') w') : wpList Tryz.prog ops Q (o :: rest) a w :=
  wpList_plain hgd fun K hK => wp_append_T s x ho B v l hs hown u t hx hsrc hsz hB fun v' w' h1 h2 => hK _ _ (h v' w' h1 h2)
/-- The same as one step of a region that draws. -/
theorem step_append_T {E : Prop} (hgd : o.guard = Option.none) (s x : Operand) (ho : o.op = .call { callee := .builtin .append, args := #[s, x], argTypes := #[201, 201] })
    (B : Nat) (v : Value) (l : List Th) (hs : a.eval s = v) (hown : TlT w B v l) (u : Value) (t : List Th) (hx : a.eval x = u) (hsrc : Tls w u t)
    (hsz : l.length + t.length ≤ 1000000000000) (hB : B ≤ w.heap.size)
    (h : ∀ v' w', TlT w' B v' (l ++ t) → Below B w w' → K (a.put o.dst v') w') : if Region.wanted o (yielded ops a.tmps) = true then Oper.wp Tryz.prog o a w K Q else E := by
  rw [if_pos (by simp [Region.wanted, hgd])]
  exact wp_append_T s x ho B v l hs hown u t hx hsrc hsz hB h
end
set_option maxRecDepth 100000 in
/-- An argument of things. -/
theorem rd_sl_tlv_Tlv {H : Type} {enc : TypeId × Value → H} {w : World} {r : Reach} {b0 base : Nat} {spare : Nat → Bool} {held : Bool} {v : Value} {d : DataW H} {p : List MemPlace}
    (hv : Value.okWide Tryz.prog w r b0 201 v) (h : DataW.Trod enc Tryz.prog w base spare held 201 v d p) : ∃ (l : List Th), v = v ∧ (Tls w v l ∧ l.length ≤ maxLen ∧ ∀ x ∈ l, x.2.length ≤ maxLen) := by
  obtain ⟨a, len, cap, rfl⟩ := okWide_slice Tryz.underlying201 hv
  obtain ⟨fuel, hf⟩ := h
  rcases open_slice Tryz.underlying201 hf with ⟨hcs, _⟩ | ⟨x, len', cap', m, n, D, Pl, hcs, _, hl, hm, hmm, _, hi⟩
  · simp [Value.cells] at hcs
    obtain ⟨rfl, rfl, rfl⟩ := hcs
    exact ⟨[], rfl, Tls.nil w, by decide, by simp⟩
  · simp [Value.cells] at hcs
    obtain ⟨rfl, rfl, rfl⟩ := hcs
    have hlm : len ≤ m := by rw [hmm]; split <;> omega
    have ce : Tryz.prog.cellsOf 380 = 2 := by kernel_rfl
    have el : ∀ i, i < len → ∃ q : Th, w.cell? (x.add (i * 2)) = some (.int .u8 (q.1.toNat : Int)) ∧ w.cell? ((x.add (i * 2)).add 1) = some (.string (bs q.2)) ∧ q.2.length ≤ maxLen := by
      intro i hil
      obtain ⟨cs', hc, ht'⟩ := hi i (by omega)
      rw [ce] at hc
      obtain ⟨_, hcl, hat⟩ := World.cells?_some hc
      obtain ⟨y0, y1, n', _, _, t0, t1⟩ := trod_struct2 Tryz.underlying380 ht'
      match cs', hcl with
      | [z0, z1], _ =>
        have t0' : DataW.trod enc Tryz.prog w base spare held n' 5 [z0] = some y0 := t0
        have t1' : DataW.trod enc Tryz.prog w base spare held n' 9 [z1] = some y1 := t1
        obtain ⟨q0, rfl, w0⟩ := trod_int1 Tryz.underlying5 t0' rfl
        obtain ⟨s', hs', _, hsz'⟩ := DataW.trod_string Tryz.underlying9 t1'
        obtain rfl : z1 = .string s' := by simpa using hs'
        have e0 := hat 0 (by omega)
        have e1 := hat 1 (by omega)
        have b0 := bounds_u8 w0
        refine ⟨(UInt8.ofNat q0.toNat, s'.data.toList), ?_, ?_, by simpa using hsz'⟩
        · have : (((UInt8.ofNat q0.toNat).toNat : Nat) : Int) = q0 := by simp; omega
          rw [this]; simpa [Addr.add] using e0
        · rw [← bs_of s']; simpa using e1
    obtain ⟨f, hfl⟩ := choose_lt el
    by_cases hz : len = 0
    · subst hz
      exact ⟨[], rfl, .inr ⟨x, cap, rfl, .inl rfl⟩, by decide, by simp⟩
    · obtain ⟨b, off, spot⟩ := x
      have hspot : spot = Option.none := by
        have := (hfl 0 (by omega)).1
        simpa [Addr.add] using World.cell?_spot this
      subst hspot
      refine ⟨(List.range len).map f, rfl, .inr ⟨⟨b, off, Option.none⟩, cap, by simp, .inr ⟨b, off, rfl, fun j hj => ?_⟩⟩, by simp; omega, fun y hy => ?_⟩
      rotate_left
      · obtain ⟨j, hj, rfl⟩ := List.mem_map.1 hy
        exact (hfl j (List.mem_range.1 hj)).2.2
      have hj' : j < len := by simpa using hj
      obtain ⟨a1, a2, _⟩ := hfl j hj'
      rw [add_plain] at a1 a2
      rw [add_plain] at a2
      simpa using ⟨a1, a2⟩
section
variable {w : World} {ops : Array Oper} {o : Oper} {a : Act} {Q : Exit → Act → World → Prop} {K : Act → World → Prop}
/-- 'append(b, s...)', as one step of a region that draws. -/
theorem step_append_str {E : Prop} (hgd : o.guard = Option.none) (s x : Operand)
    (ho : o.op = .call { callee := .builtin .append, args := #[s, x], argTypes := #[146, 9] })
    (B : Nat) (v : Value) (l : List UInt8) (hs : a.eval s = v) (hown : Bys w B v l) (t : List UInt8) (hx : a.eval x = .string (bs t))
    (hsz : l.length + t.length ≤ 1099511627776) (hB : B ≤ w.heap.size)
    (h : ∀ v' w', Bys w' B v' (l ++ t) → Below B w w' → K (a.put o.dst v') w') : if Region.wanted o (yielded ops a.tmps) = true then Oper.wp Tryz.prog o a w K Q else E := by
  rw [if_pos (by simp [Region.wanted, hgd])]
  obtain ⟨i, hi, hz0, hz1, hz2⟩ := info_parts info_u8
  obtain ⟨v', w', hr, h1, h2, _⟩ := Lib.run_append_own_string (P := Tryz.prog) w B 146 9 o.type 5 i Tryz.underlying146 Tryz.underlying9 hi hz0 hz1 hz2 v l.length (l.map byteV) hown (bs t)
    (by rw [bs_size]; unfold maxLen; omega) (by rw [bs_size]; omega) hB
  unfold Oper.wp execOp
  simp only [ho, resolve, invoke, builtin, Sem.run_bind, Sem.run_pure, Result.andThen_ok, List.map_toArray, List.map_cons, List.map_nil, hs, hx, hr]
  refine h v' w' ?_ ((Below.refl _ _).grown h2 hB (fun k hk => (World.ownsRow.lt hown k hk).1))
  unfold Bys
  rw [bs_size, strCells_bs] at h1
  simpa using h1
end
/-- One byte in a new block. -/
theorem src_one (W : World) (x : Int) (h : 0 ≤ x ∧ x < 256) (T : TypeId) : Src (W.alloc (.cells #[.int .u8 x] T)) (.slice (some ⟨W.heap.size, 0, Option.none⟩) 1 1) [UInt8.ofNat x.toNat] := by
  refine .inr ⟨⟨W.heap.size, 0, Option.none⟩, 1, rfl, fun j hj => ?_⟩
  obtain rfl : j = 0 := by simpa using hj
  have e : (UInt8.ofNat x.toNat).toNat = x.toNat := by simp; omega
  simp [Addr.add, byteV, e, Int.toNat_of_nonneg h.1]
end Go.Proofs.YtpkkjbmgbgakdaaGreatDoor
