/- Rows of things of k cells each, whatever they are. -/
import Derived.Test.YtecoomkpkdapdaaK1
import Derived.Test.YtecoomkpkdapdaaR0
import Derived.Deep.Slices
import Derived.Deep.Onto
import Derived.Laws.OwnMore
set_option linter.unusedVariables false
namespace Go.Proofs.Ytecoomkpkdapdaa
open Go.ChangeShapes Go.WideShapes Go.ChangeAt Go.RowKit Go.Deep

section
variable {α : Type} (k : Nat) (f : α → List Value)
/-- A slice that reads as these things. -/
def Rw (w : World) (v : Value) (l : List α) : Prop :=
  (v = .slice none 0 0 ∧ l = []) ∨ ∃ ad c, v = .slice (some ad) l.length c ∧ (l = [] ∨ ∃ b off, ad = ⟨b, off, none⟩ ∧ ∀ j (hj : j < l.length) i, i < k → w.cell? ⟨b, off + j * k + i, none⟩ = (f l[j])[i]?)
/-- A slice value that owns these things, in a row from B on. -/
def Ow (E : TypeId) (w : World) (B : Nat) (v : Value) (l : List α) : Prop := w.ownsRow B E k v l.length (l.flatMap f)
end
section
variable {α : Type} {k : Nat} {f : α → List Value} {w w' : World} {v : Value} {l : List α} {E : TypeId} {B : Nat}
theorem Rw.nil (w : World) : Rw k f w (.slice none 0 0) [] := .inl ⟨rfl, rfl⟩
theorem Rw.later (hf : ∀ x, (f x).length = k) (h : Rw k f w v l) (hb : Below w.heap.size w w') : Rw k f w' v l := by
  rcases h with h | ⟨ad, c, h1, h0 | ⟨b, off, h3, h2⟩⟩
  · exact .inl h
  · exact .inr ⟨ad, c, h1, .inl h0⟩
  · refine .inr ⟨ad, c, h1, .inr ⟨b, off, h3, fun j hj i hi => ?_⟩⟩
    have h4 := h2 j hj i hi
    rw [List.getElem?_eq_getElem (by rw [hf]; exact hi)] at h4 ⊢
    exact (hb.cell (World.block_lt_of_cell? w _ h4)).trans h4
/-- Its shape: empty, or a row of cells. -/
theorem Rw.shape (h : Rw k f w v l) : ∃ a c, v = .slice a l.length c ∧ (l = [] ∨ ∃ b off, a = some ⟨b, off, none⟩ ∧ ∀ j (hj : j < l.length) i, i < k → w.cell? ⟨b, off + j * k + i, none⟩ = (f l[j])[i]?) := by
  rcases h with ⟨h1, h2⟩ | ⟨ad, c, h1, h0 | ⟨b, off, h3, h2⟩⟩
  · exact ⟨none, 0, by rw [h1, h2]; rfl, .inl h2⟩
  · exact ⟨_, c, h1, .inl h0⟩
  · exact ⟨_, c, h1, .inr ⟨b, off, by rw [h3], h2⟩⟩
theorem flat_len (hf : ∀ x, (f x).length = k) (l : List α) : (l.flatMap f).length = l.length * k := by
  induction l with
  | nil => simp
  | cons x l ih => rw [List.flatMap_cons, List.length_append, hf, ih, List.length_cons, Nat.succ_mul]; omega
theorem flat_get (hf : ∀ x, (f x).length = k) : ∀ (l : List α) (j : Nat) (h : j < l.length) (i : Nat), i < k → (l.flatMap f)[j * k + i]? = (f l[j])[i]?
  | x :: l, 0, _, i, hi => by
    rw [List.flatMap_cons, Nat.zero_mul, Nat.zero_add, List.getElem?_append_left (by rw [hf]; exact hi)]; rfl
  | x :: l, j + 1, h, i, hi => by
    have ih := flat_get hf l j (by simpa using h) i hi
    rw [List.flatMap_cons, List.getElem?_append_right (by rw [hf, Nat.succ_mul]; omega), hf, show (j + 1) * k + i - k = j * k + i by rw [Nat.succ_mul]; omega]
    exact ih
theorem Ow.none (w : World) (B : Nat) : Ow k f E w B (.slice none 0 0) [] := World.ownsRow_nil w B _ k
theorem Ow.mono {B' : Nat} (h : Ow k f E w B v l) (hb : B' ≤ B) : Ow k f E w B' v l := World.ownsRow.mono h hb
theorem Ow.later (h : Ow k f E w B v l) (hb : Below w.heap.size w w') : Ow k f E w' B v l := by
  obtain ⟨h1, h2⟩ := h
  refine ⟨h1, ?_⟩
  rcases h2 with h2 | ⟨g, cap, cur, hv, hg, hh, r⟩
  · exact .inl h2
  · refine .inr ⟨g, cap, cur, hv, hg, ?_, r⟩
    rw [hb.block g (Array.getElem?_eq_some_iff.1 hh).1]; exact hh
theorem Ow.rw (hf : ∀ x, (f x).length = k) (h : Ow k f E w B v l) : Rw k f w v l := by
  obtain ⟨h1, h2⟩ := h
  rcases h2 with ⟨h2, h3⟩ | ⟨g, cap, cur, hv, hg, hh, hr⟩
  · exact .inl ⟨h2, List.eq_nil_of_length_eq_zero h3⟩
  · subst hv
    have hc : w.ownsRow B E k (.slice (some ⟨g, 0, Option.none⟩) l.length cap) l.length (l.flatMap f) := ⟨h1, .inr ⟨g, cap, cur, rfl, hg, hh, hr⟩⟩
    refine .inr ⟨⟨g, 0, Option.none⟩, cap, rfl, .inr ⟨g, 0, rfl, fun j hj i hi => ?_⟩⟩
    have hlt : j * k + i < l.length * k := by
      have : (j + 1) * k ≤ l.length * k := Nat.mul_le_mul_right k hj
      rw [Nat.succ_mul] at this; omega
    rw [Nat.zero_add, World.ownsRow.cellAt hc (j * k + i) hlt]
    exact flat_get hf l j hj i hi
theorem Ow.lit (hf : ∀ x, (f x).length = k) (w : World) (B : Nat) (x : α) (cs : Array Value) (hcs : cs.toList = f x) (hB : B ≤ w.heap.size) : Ow k f E (w.alloc (.cells cs E)) B (.slice (some ⟨w.heap.size, 0, Option.none⟩) 1 1) [x] := by
  have := World.ownsRow_lit (base := B) (e := E) (size := k) w cs 1 hB (by decide) (by rw [← Array.length_toList, hcs, hf, Nat.one_mul])
  rw [hcs] at this
  unfold Ow
  simpa using this
end
section
variable {α : Type} {k : Nat} {f : α → List Value} {w : World} {ops : Array Oper} {rest : List Oper} {o : Oper} {a : Act} {Q : Exit → Act → World → Prop} {K : Act → World → Prop}
/-- 'append(b, x...)'. -/
theorem wp_append_rw (hf : ∀ x, (f x).length = k) (h1c : ∀ x, ∀ u ∈ f x, u.oneCell' = true) (E S : TypeId) (z : Value) (by_ : Nat) (hu : Try.prog.underlying S = some (.slice E)) (hi : (Try.prog.info? E).map (fun i => (i.zero, i.size, i.bytes)) = some (some z, k, by_)) (hz : z.cells.size = k) (hk : 0 < k) (hby : by_ ≤ 1000)
    (s x : Operand) (ho : o.op = .call { callee := .builtin .append, args := #[s, x], argTypes := #[S, S] })
    (B : Nat) (v : Value) (l : List α) (hs : a.eval s = v) (hown : Ow k f E w B v l) (u : Value) (t : List α) (hx : a.eval x = u) (hsrc : Rw k f w u t)
    (hsz : l.length + t.length ≤ 100000000000) (hB : B ≤ w.heap.size)
    (h : ∀ v' w', Ow k f E w' B v' (l ++ t) → Below B w w' → K (a.put o.dst v') w') : o.wp Try.prog a w K Q := by
  obtain ⟨i, hi, hz0, hz1, hz2⟩ := info_parts hi
  rcases hsrc with ⟨rfl, rfl⟩ | ⟨ad, c, rfl, hc⟩
  · have hrun := run_append_owned_none (P := Try.prog) w B S o.type E i k hu hi v l.length (l.flatMap f) hown
    unfold Oper.wp
    simp [execOp, ho, resolve, invoke, builtin, hs, hx, hrun, Result.andThen]
    exact h _ _ (by simpa using hown) (Below.refl _ _)
  · refine wp_append_own w s x S ho B E i z k by_ hu hi hz0 hz1 hz2 hz hk v l.length (l.flatMap f) hs hown ad t.length c (t.flatMap f) hx (flat_len hf t)
      (fun j u hj => ?_) (fun u hu => ?_) (by unfold maxLen; omega) (by have : (l.length + t.length) * by_ ≤ 100000000000 * 1000 := Nat.mul_le_mul hsz hby; omega) hB (fun v' w' h1 h2 _ => ?_)
    · have hj' : j < t.length * k := by have := (List.getElem?_eq_some_iff.1 hj).1; rw [flat_len hf] at this; exact this
      rcases hc with rfl | ⟨b, off, rfl, hc⟩
      · simp at hj'
      rw [add_plain]
      have hd : j / k < t.length := Nat.div_lt_of_lt_mul (by rw [Nat.mul_comm]; exact hj')
      have hm : j % k < k := Nat.mod_lt _ hk
      have e : j = j / k * k + j % k := by rw [Nat.mul_comm]; exact (Nat.div_add_mod j k).symm
      have hg := flat_get hf t (j / k) hd (j % k) hm
      rw [← e, hj] at hg
      have := hc (j / k) hd (j % k) hm
      rw [← hg, Nat.add_assoc, ← e] at this
      exact this
    · obtain ⟨y, _, hy⟩ := List.mem_flatMap.1 hu
      exact h1c y u hy
    · refine h v' w' ?_ ((Below.refl _ _).grown h2 hB (fun k hk => (World.ownsRow.lt hown k hk).1))
      unfold Ow
      rw [List.length_append, List.flatMap_append]; exact h1
theorem wpList_append_rw (hf : ∀ x, (f x).length = k) (h1c : ∀ x, ∀ u ∈ f x, u.oneCell' = true) (E S : TypeId) (z : Value) (by_ : Nat) (hu : Try.prog.underlying S = some (.slice E)) (hi : (Try.prog.info? E).map (fun i => (i.zero, i.size, i.bytes)) = some (some z, k, by_)) (hz : z.cells.size = k) (hk : 0 < k) (hby : by_ ≤ 1000)
    (hgd : o.guard = Option.none) (s x : Operand) (ho : o.op = .call { callee := .builtin .append, args := #[s, x], argTypes := #[S, S] })
    (B : Nat) (v : Value) (l : List α) (hs : a.eval s = v) (hown : Ow k f E w B v l) (u : Value) (t : List α) (hx : a.eval x = u) (hsrc : Rw k f w u t)
    (hsz : l.length + t.length ≤ 100000000000) (hB : B ≤ w.heap.size)
    (h : ∀ v' w', Ow k f E w' B v' (l ++ t) → Below B w w' → wpList Try.prog ops Q rest (a.put o.dst v') w') : wpList Try.prog ops Q (o :: rest) a w :=
  wpList_plain hgd fun K hK => wp_append_rw hf h1c E S z by_ hu hi hz hk hby s x ho B v l hs hown u t hx hsrc hsz hB fun v' w' h1 h2 => hK _ _ (h v' w' h1 h2)
end
end Go.Proofs.Ytecoomkpkdapdaa
