/- ZB07: the texts RW, FR, NI as one. -/
import Derived.Test.YtpkkjbmgbgakdaaGreatDoorZB01
import Derived.Test.YtpkkjbmgbgakdaaGreatDoorZB04
import Derived.Deep.Slices
import Derived.Deep.Onto
import Derived.Laws.OwnMore
import Derived.Test.YtpkkjbmgbgakdaaGreatDoorZB06
/- Rows of things of k cells each, whatever they are. -/
set_option linter.unusedVariables false
namespace Go.Proofs.YtpkkjbmgbgakdaaGreatDoor
open Go.ChangeShapes Go.WideShapes Go.ChangeAt Go.RowKit Go.Deep

section
variable {α : Type} (k : Nat) (f : α → List Value)
/-- A slice that reads as these things. -/
def Rw (w : World) (v : Value) (l : List α) : Prop :=
  (v = .slice none 0 0 ∧ l = []) ∨ ∃ ad c, v = .slice (some ad) l.length c ∧ (l = [] ∨ ∃ b off, ad = ⟨b, off, none⟩ ∧ ∀ j (hj : j < l.length) i, i < k → w.cell? ⟨b, off + j * k + i, none⟩ = (f l[j])[i]?)
/-- A slice value that owns these things, in a row from B on. -/
def Ow (E : TypeId) (w : World) (B : Nat) (v : Value) (l : List α) : Prop := w.ownsRow B E k v l.length (l.flatMap f)
end
section
variable {α : Type} {k : Nat} {f : α → List Value} {w w' : World} {v : Value} {l : List α} {E : TypeId} {B : Nat}
theorem Rw.nil (w : World) : Rw k f w (.slice none 0 0) [] := .inl ⟨rfl, rfl⟩
theorem Rw.later (hf : ∀ x, (f x).length = k) (h : Rw k f w v l) (hb : Below w.heap.size w w') : Rw k f w' v l := by
  rcases h with h | ⟨ad, c, h1, h0 | ⟨b, off, h3, h2⟩⟩
  · exact .inl h
  · exact .inr ⟨ad, c, h1, .inl h0⟩
  · refine .inr ⟨ad, c, h1, .inr ⟨b, off, h3, fun j hj i hi => ?_⟩⟩
    have h4 := h2 j hj i hi
    rw [List.getElem?_eq_getElem (by rw [hf]; exact hi)] at h4 ⊢
    exact (hb.cell (World.block_lt_of_cell? w _ h4)).trans h4
/-- Its shape: empty, or a row of cells. -/
theorem Rw.shape (h : Rw k f w v l) : ∃ a c, v = .slice a l.length c ∧ (l = [] ∨ ∃ b off, a = some ⟨b, off, none⟩ ∧ ∀ j (hj : j < l.length) i, i < k → w.cell? ⟨b, off + j * k + i, none⟩ = (f l[j])[i]?) := by
  rcases h with ⟨h1, h2⟩ | ⟨ad, c, h1, h0 | ⟨b, off, h3, h2⟩⟩
  · exact ⟨none, 0, by rw [h1, h2]; rfl, .inl h2⟩
  · exact ⟨_, c, h1, .inl h0⟩
  · exact ⟨_, c, h1, .inr ⟨b, off, by rw [h3], h2⟩⟩
theorem flat_len (hf : ∀ x, (f x).length = k) (l : List α) : (l.flatMap f).length = l.length * k := by
  induction l with
  | nil => simp
  | cons x l ih => rw [List.flatMap_cons, List.length_append, hf, ih, List.length_cons, Nat.succ_mul]; omega
theorem flat_get (hf : ∀ x, (f x).length = k) : ∀ (l : List α) (j : Nat) (h : j < l.length) (i : Nat), i < k → (l.flatMap f)[j * k + i]? = (f l[j])[i]?
  | x :: l, 0, _, i, hi => by
    rw [List.flatMap_cons, Nat.zero_mul, Nat.zero_add, List.getElem?_append_left (by rw [hf]; exact hi)]; rfl
  | x :: l, j + 1, h, i, hi => by
    have ih := flat_get hf l j (by simpa using h) i hi
    rw [List.flatMap_cons, List.getElem?_append_right (by rw [hf, Nat.succ_mul]; omega), hf, show (j + 1) * k + i - k = j * k + i by rw [Nat.succ_mul]; omega]
    exact ih
theorem Ow.none (w : World) (B : Nat) : Ow k f E w B (.slice none 0 0) [] := World.ownsRow_nil w B _ k
theorem Ow.mono {B' : Nat} (h : Ow k f E w B v l) (hb : B' ≤ B) : Ow k f E w B' v l := World.ownsRow.mono h hb
theorem Ow.later (h : Ow k f E w B v l) (hb : Below w.heap.size w w') : Ow k f E w' B v l := by
  obtain ⟨h1, h2⟩ := h
  refine ⟨h1, ?_⟩
  rcases h2 with h2 | ⟨g, cap, cur, hv, hg, hh, r⟩
  · exact .inl h2
  · refine .inr ⟨g, cap, cur, hv, hg, ?_, r⟩
    rw [hb.block g (Array.getElem?_eq_some_iff.1 hh).1]; exact hh
theorem Ow.rw (hf : ∀ x, (f x).length = k) (h : Ow k f E w B v l) : Rw k f w v l := by
  obtain ⟨h1, h2⟩ := h
  rcases h2 with ⟨h2, h3⟩ | ⟨g, cap, cur, hv, hg, hh, hr⟩
  · exact .inl ⟨h2, List.eq_nil_of_length_eq_zero h3⟩
  · subst hv
    have hc : w.ownsRow B E k (.slice (some ⟨g, 0, Option.none⟩) l.length cap) l.length (l.flatMap f) := ⟨h1, .inr ⟨g, cap, cur, rfl, hg, hh, hr⟩⟩
    refine .inr ⟨⟨g, 0, Option.none⟩, cap, rfl, .inr ⟨g, 0, rfl, fun j hj i hi => ?_⟩⟩
    have hlt : j * k + i < l.length * k := by
      have : (j + 1) * k ≤ l.length * k := Nat.mul_le_mul_right k hj
      rw [Nat.succ_mul] at this; omega
    rw [Nat.zero_add, World.ownsRow.cellAt hc (j * k + i) hlt]
    exact flat_get hf l j hj i hi
theorem Ow.lit (hf : ∀ x, (f x).length = k) (w : World) (B : Nat) (x : α) (cs : Array Value) (hcs : cs.toList = f x) (hB : B ≤ w.heap.size) : Ow k f E (w.alloc (.cells cs E)) B (.slice (some ⟨w.heap.size, 0, Option.none⟩) 1 1) [x] := by
  have := World.ownsRow_lit (base := B) (e := E) (size := k) w cs 1 hB (by decide) (by rw [← Array.length_toList, hcs, hf, Nat.one_mul])
  rw [hcs] at this
  unfold Ow
  simpa using this
end
section
variable {α : Type} {k : Nat} {f : α → List Value} {w : World} {ops : Array Oper} {rest : List Oper} {o : Oper} {a : Act} {Q : Exit → Act → World → Prop} {K : Act → World → Prop}
/-- 'append(b, x...)'. -/
theorem wp_append_rw (hf : ∀ x, (f x).length = k) (h1c : ∀ x, ∀ u ∈ f x, u.oneCell' = true) (E S : TypeId) (z : Value) (by_ : Nat) (hu : Tryz.prog.underlying S = some (.slice E)) (hi : (Tryz.prog.info? E).map (fun i => (i.zero, i.size, i.bytes)) = some (some z, k, by_)) (hz : z.cells.size = k) (hk : 0 < k) (hby : by_ ≤ 1000)
    (s x : Operand) (ho : o.op = .call { callee := .builtin .append, args := #[s, x], argTypes := #[S, S] })
    (B : Nat) (v : Value) (l : List α) (hs : a.eval s = v) (hown : Ow k f E w B v l) (u : Value) (t : List α) (hx : a.eval x = u) (hsrc : Rw k f w u t)
    (hsz : l.length + t.length ≤ 100000000000) (hB : B ≤ w.heap.size)
    (h : ∀ v' w', Ow k f E w' B v' (l ++ t) → Below B w w' → K (a.put o.dst v') w') : o.wp Tryz.prog a w K Q := by
  obtain ⟨i, hi, hz0, hz1, hz2⟩ := info_parts hi
  rcases hsrc with ⟨rfl, rfl⟩ | ⟨ad, c, rfl, hc⟩
  · have hrun := run_append_owned_none (P := Tryz.prog) w B S o.type E i k hu hi v l.length (l.flatMap f) hown
    unfold Oper.wp
    simp [execOp, ho, resolve, invoke, builtin, hs, hx, hrun, Result.andThen]
    exact h _ _ (by simpa using hown) (Below.refl _ _)
  · refine wp_append_own w s x S ho B E i z k by_ hu hi hz0 hz1 hz2 hz hk v l.length (l.flatMap f) hs hown ad t.length c (t.flatMap f) hx (flat_len hf t)
      (fun j u hj => ?_) (fun u hu => ?_) (by unfold maxLen; omega) (by have : (l.length + t.length) * by_ ≤ 100000000000 * 1000 := Nat.mul_le_mul hsz hby; omega) hB (fun v' w' h1 h2 _ => ?_)
    · have hj' : j < t.length * k := by have := (List.getElem?_eq_some_iff.1 hj).1; rw [flat_len hf] at this; exact this
      rcases hc with rfl | ⟨b, off, rfl, hc⟩
      · simp at hj'
      rw [add_plain]
      have hd : j / k < t.length := Nat.div_lt_of_lt_mul (by rw [Nat.mul_comm]; exact hj')
      have hm : j % k < k := Nat.mod_lt _ hk
      have e : j = j / k * k + j % k := by rw [Nat.mul_comm]; exact (Nat.div_add_mod j k).symm
      have hg := flat_get hf t (j / k) hd (j % k) hm
      rw [← e, hj] at hg
      have := hc (j / k) hd (j % k) hm
      rw [← hg, Nat.add_assoc, ← e] at this
      exact this
    · obtain ⟨y, _, hy⟩ := List.mem_flatMap.1 hu
      exact h1c y u hy
    · refine h v' w' ?_ ((Below.refl _ _).grown h2 hB (fun k hk => (World.ownsRow.lt hown k hk).1))
      unfold Ow
      rw [List.length_append, List.flatMap_append]; exact h1
theorem wpList_append_rw (hf : ∀ x, (f x).length = k) (h1c : ∀ x, ∀ u ∈ f x, u.oneCell' = true) (E S : TypeId) (z : Value) (by_ : Nat) (hu : Tryz.prog.underlying S = some (.slice E)) (hi : (Tryz.prog.info? E).map (fun i => (i.zero, i.size, i.bytes)) = some (some z, k, by_)) (hz : z.cells.size = k) (hk : 0 < k) (hby : by_ ≤ 1000)
    (hgd : o.guard = Option.none) (s x : Operand) (ho : o.op = .call { callee := .builtin .append, args := #[s, x], argTypes := #[S, S] })
    (B : Nat) (v : Value) (l : List α) (hs : a.eval s = v) (hown : Ow k f E w B v l) (u : Value) (t : List α) (hx : a.eval x = u) (hsrc : Rw k f w u t)
    (hsz : l.length + t.length ≤ 100000000000) (hB : B ≤ w.heap.size)
    (h : ∀ v' w', Ow k f E w' B v' (l ++ t) → Below B w w' → wpList Tryz.prog ops Q rest (a.put o.dst v') w') : wpList Tryz.prog ops Q (o :: rest) a w :=
  wpList_plain hgd fun K hK => wp_append_rw hf h1c E S z by_ hu hi hz hk hby s x ho B v l hs hown u t hx hsrc hsz hB fun v' w' h1 h2 => hK _ _ (h v' w' h1 h2)
end
end Go.Proofs.YtpkkjbmgbgakdaaGreatDoor

/- What is kept where a set of blocks may change. -/
set_option linter.unusedVariables false
set_option linter.unusedSimpArgs false
namespace Go.Proofs.YtpkkjbmgbgakdaaGreatDoor
open Go.RowKit

/-- All blocks but those of D are as they were. -/
structure Fr (D : Nat → Prop) (w w' : World) : Prop where
  os : w'.os = w.os
  tape : w'.tape = w.tape
  output : w'.output = w.output
  size : w.heap.size ≤ w'.heap.size
  block : ∀ k, k < w.heap.size → ¬ D k → w'.heap[k]? = w.heap[k]?
section
variable {D E : Nat → Prop} {w w' w'' : World}
theorem Fr.refl (D : Nat → Prop) (w : World) : Fr D w w := ⟨rfl, rfl, rfl, Nat.le_refl _, fun _ _ _ => rfl⟩
theorem Fr.trans (h : Fr D w w') (k : Fr D w' w'') : Fr D w w'' :=
  ⟨k.os.trans h.os, k.tape.trans h.tape, k.output.trans h.output, Nat.le_trans h.size k.size, fun i hi h1 => (k.block i (Nat.lt_of_lt_of_le hi h.size) h1).trans (h.block i hi h1)⟩
theorem Fr.mono (h : Fr D w w') (hd : ∀ k, k < w.heap.size → D k → E k) : Fr E w w' := ⟨h.os, h.tape, h.output, h.size, fun k hk h1 => h.block k hk fun h2 => h1 (hd k hk h2)⟩
theorem Fr.of_below (h : Below w.heap.size w w') : Fr D w w' := ⟨h.os, h.tape, h.output, h.size, fun k hk _ => h.block k hk⟩
theorem Fr.of_only {p : Nat} (h : Only p w w') (hp : D p) : Fr D w w' := ⟨h.os, h.tape, h.output, h.size, fun k hk h1 => h.block k hk (by intro e; injection e with e; subst e; exact h1 hp)⟩
theorem Fr.of_grown {r : Option Nat} (h : w.grownBy w' r) (hr : ∀ g, r = some g → D g) : Fr D w w' := ⟨h.os, h.tape, h.output, h.size, fun k hk h1 => h.block k hk (by intro e; exact h1 (hr k e.symm))⟩
theorem Fr.below (h : Fr D w w') {B : Nat} (hB : B ≤ w.heap.size) (hd : ∀ k, k < B → ¬ D k) : Below B w w' := ⟨h.os, h.tape, h.output, h.size, fun k hk => h.block k (by omega) (hd k hk)⟩
theorem Fr.set {p : Nat} (hp : D p) (o : Nat) (v : Value) : Fr D w (w.setCell ⟨p, o, none⟩ v) := .of_only (Only.set p w o v) hp
theorem Fr.alloc (h : Fr D w w') (o : Obj) : Fr D w (w'.alloc o) := h.trans (.of_below ((Below.refl _ _).alloc (Nat.le_refl _) o))
theorem Fr.drew (h : Fr D w w') : Fr D w w'.drew := ⟨h.os, h.tape, h.output, h.size, h.block⟩
end
theorem GB.fr' {D : Nat → Prop} {T : TypeId} {W W' : World} {q : Nat} {A : Array Value} (h : GB T W q A) (hf : Fr D W W') (hq : ¬ D q) : GB T W' q A := by
  unfold GB; rw [hf.block q h.lt hq]; exact h
theorem GB.set {T : TypeId} {W : World} {q : Nat} {A : Array Value} (h : GB T W q A) (j : Nat) (v : Value) : GB T (W.setCell ⟨q, j, none⟩ v) q (A.setIfInBounds j v) := by
  unfold GB at *
  simp only [World.setCell, Array.getElem?_modify, h]
  simp
theorem Rw.fr {α : Type} {k : Nat} {f : α → List Value} {D : Nat → Prop} {w w' : World} {v : Value} {l : List α} (hf : ∀ x, (f x).length = k) (h : Rw k f w v l) (hr : Fr D w w') (hd : ∀ g, v.ownBlock = some g → ¬ D g) : Rw k f w' v l := by
  rcases h with h | ⟨a, c, rfl, h⟩
  · exact .inl h
  · refine .inr ⟨a, c, rfl, ?_⟩
    rcases h with h | ⟨b, off, rfl, h⟩
    · exact .inl h
    · refine .inr ⟨b, off, rfl, fun j hj i hi => ?_⟩
      have h1 := h j hj i hi
      rw [← h1]
      have hn : (f l[j])[i]? = some ((f l[j])[i]'(by rw [hf]; exact hi)) := List.getElem?_eq_getElem _
      rw [hn] at h1
      have hlt := World.block_lt_of_cell? _ _ h1
      simp only [World.cell?, hr.block b hlt (hd b rfl)]
end Go.Proofs.YtpkkjbmgbgakdaaGreatDoor

/- To store what is there changes nothing. -/
set_option linter.unusedVariables false
namespace Go.Proofs.YtpkkjbmgbgakdaaGreatDoor
open Go.RowKit

/-- To store what is there changes nothing. -/
theorem setCell_id {W : World} {b o : Nat} {v : Value} (h : W.cell? ⟨b, o, none⟩ = some v) : W.setCell ⟨b, o, none⟩ v = W := by
  have e : (W.setCell ⟨b, o, none⟩ v).heap = W.heap := by
    apply Array.ext_getElem?
    intro i
    simp only [World.setCell, Array.getElem?_modify]
    by_cases hi : b = i
    · subst hi
      rw [if_pos rfl]
      unfold World.cell? at h
      split at h
      · rename_i c e f hc
        have hc : W.heap[b]? = some (.cells c e f) := hc
        have h2 : c[o]? = some v := by simpa using h
        have hlt := (Array.getElem?_eq_some_iff.1 h2).1
        have e3 : c.setIfInBounds o v = c := by
          apply Array.ext_getElem?
          intro j
          rw [Array.getElem?_setIfInBounds]
          by_cases hj : o = j
          · subst hj
            rw [if_pos rfl, if_pos hlt, h2]
          · rw [if_neg hj]
        simp [hc, e3]
      · cases h
    · rw [if_neg hi]
  cases W
  simp only [World.setCell] at e ⊢
  rw [e]
theorem setCells_id {W : World} {g : Nat} : ∀ (vs : List Value) (o : Nat), (∀ j v, vs[j]? = some v → W.cell? ⟨g, o + j, none⟩ = some v) → W.setCells g o vs = W
  | [], _, _ => rfl
  | v :: r, o, h => by
    show (W.setCell ⟨g, o, none⟩ v).setCells g (o + 1) r = W
    have e := setCell_id (h 0 v rfl)
    rw [Nat.add_zero] at e
    rw [e]
    exact setCells_id r (o + 1) fun j u hu => by rw [Nat.add_right_comm]; exact h (j + 1) u hu
end Go.Proofs.YtpkkjbmgbgakdaaGreatDoor
