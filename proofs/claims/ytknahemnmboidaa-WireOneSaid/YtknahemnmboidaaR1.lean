/- Readers: a slice of structs of two numbers. -/
import Derived.Test.YtknahemnmboidaaR0
import Derived.Deep.Slices
set_option linter.unusedVariables false
namespace Go.Proofs.Ytknahemnmboidaa
open Go.ChangeShapes Go.WideShapes Go.ChangeAt Go.RowKit Go.Deep

/-- A slice that reads as these pairs of numbers. -/
def Pairs (k0 k1 : IntKind) (w : World) (v : Value) (l : List (Int × Int)) : Prop :=
  ∃ a len cap, v = .slice a len cap ∧ len = l.length ∧ len ≤ maxLen ∧ (∀ p ∈ l, (Lit.int k0 p.1).wf = true ∧ (Lit.int k1 p.2).wf = true) ∧
    (l = [] ∨ ∃ b off, a = some ⟨b, off, none⟩ ∧ ∀ j (hj : j < l.length), w.cell? ⟨b, off + j * 2, none⟩ = some (.int k0 l[j].1) ∧ w.cell? ⟨b, off + j * 2 + 1, none⟩ = some (.int k1 l[j].2))
theorem Pairs.later {k0 k1 : IntKind} {w w' : World} {v : Value} {l : List (Int × Int)} (h : Pairs k0 k1 w v l) (hb : Below w.heap.size w w') : Pairs k0 k1 w' v l := by
  obtain ⟨a, len, cap, h1, h2, h3, h4, h5⟩ := h
  refine ⟨a, len, cap, h1, h2, h3, h4, ?_⟩
  rcases h5 with h5 | ⟨b, off, h6, h7⟩
  · exact .inl h5
  · exact .inr ⟨b, off, h6, fun j hj => ⟨(hb.cell (World.block_lt_of_cell? w _ (h7 j hj).1)).trans (h7 j hj).1, (hb.cell (World.block_lt_of_cell? w _ (h7 j hj).2)).trans (h7 j hj).2⟩⟩

theorem rd_pairs {P : Program} {H : Type} {enc : TypeId × Value → H} {w : World} {r : Reach} {b0 base : Nat} {spare : Nat → Bool} {held : Bool} {v : Value} {d : DataW H} {p : List MemPlace} {t e : TypeId} {f0 f1 : Field} {k0 k1 : IntKind}
    (ht : P.underlying t = some (.slice e)) (he : P.underlying e = some (.struct #[f0, f1])) (h0 : P.underlying f0.type = some (.int k0)) (h1 : P.underlying f1.type = some (.int k1))
    (ce : P.cellsOf e = 2) (o0 : f0.offset = 0) (o1 : f1.offset = 1) (c0 : P.cellsOf f0.type = 1) (c1 : P.cellsOf f1.type = 1)
    (hv : Value.okWide P w r b0 t v) (h : DataW.Trod enc P w base spare held t v d p) : ∃ l, Pairs k0 k1 w v l := by
  obtain ⟨a, len, cap, rfl⟩ := okWide_slice ht hv
  obtain ⟨fuel, hf⟩ := h
  rcases open_slice ht hf with ⟨hcs, _⟩ | ⟨x, len', cap', m, n, D, Pl, hcs, _, hl, hm, hmm, _, hi⟩
  · simp [Value.cells] at hcs
    obtain ⟨rfl, rfl, rfl⟩ := hcs
    exact ⟨[], none, 0, 0, rfl, rfl, by decide, by simp, .inl rfl⟩
  · simp [Value.cells] at hcs
    obtain ⟨rfl, rfl, rfl⟩ := hcs
    have hlm : len ≤ m := by rw [hmm]; split <;> omega
    have el : ∀ i, i < len → ∃ q : Int × Int, w.cell? (x.add (i * 2)) = some (.int k0 q.1) ∧ w.cell? ((x.add (i * 2)).add 1) = some (.int k1 q.2) ∧ (Lit.int k0 q.1).wf = true ∧ (Lit.int k1 q.2).wf = true := by
      intro i hil
      obtain ⟨cs', hc, ht'⟩ := hi i (by omega)
      rw [ce] at hc
      obtain ⟨_, hcl, hat⟩ := World.cells?_some hc
      obtain ⟨y0, y1, n', _, _, t0, t1⟩ := trod_struct2 he ht'
      rw [o0, c0] at t0
      rw [o1, c1] at t1
      match cs', hcl with
      | [z0, z1], _ =>
        obtain ⟨q0, rfl, w0⟩ := trod_int1 h0 (by simpa using t0) rfl
        obtain ⟨q1, rfl, w1⟩ := trod_int1 h1 (by simpa using t1) rfl
        have e0 := hat 0 (by omega)
        have e1 := hat 1 (by omega)
        exact ⟨(q0, q1), by simpa [Addr.add] using e0, by simpa using e1, w0, w1⟩
    obtain ⟨f, hfl⟩ := choose_lt el
    refine ⟨(List.range len).map f, some x, len, cap, rfl, by simp, by omega, ?_, ?_⟩
    · intro q hq
      obtain ⟨i, hi2, rfl⟩ := List.mem_map.1 hq
      exact (hfl i (List.mem_range.1 hi2)).2.2
    · by_cases hz : len = 0
      · exact .inl (by simp [hz])
      · obtain ⟨b, off, spot⟩ := x
        have hspot : spot = none := by
          have := (hfl 0 (by omega)).1
          simpa [Addr.add] using World.cell?_spot this
        subst hspot
        refine .inr ⟨b, off, rfl, fun j hj => ?_⟩
        have hj' : j < len := by simpa using hj
        obtain ⟨a1, a2, _, _⟩ := hfl j hj'
        rw [add_plain] at a1 a2
        rw [add_plain] at a2
        simpa using ⟨a1, a2⟩
end Go.Proofs.Ytknahemnmboidaa
