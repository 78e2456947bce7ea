/- The reader of rows of things of k cells each. -/
import Derived.Test.YtecoomkpkdapdaaRW
set_option linter.unusedVariables false
namespace Go.Proofs.Ytecoomkpkdapdaa
open Go.ChangeShapes Go.WideShapes Go.ChangeAt Go.RowKit Go.Deep

set_option maxRecDepth 100000 in
/-- An argument that is a row. -/
theorem rd_rows {α : Type} {k : Nat} {f : α → List Value} {Ok : α → Prop} {S E : TypeId} (hu : Try.prog.underlying S = some (.slice E)) (ce : Try.prog.cellsOf E = k) (hf : ∀ x, (f x).length = k) (hk : 0 < k) [Inhabited α]
    {H : Type} {enc : TypeId × Value → H} {w : World} {r : Reach} {b0 base : Nat} {spare : Nat → Bool} {held : Bool} {v : Value} {d : DataW H} {p : List MemPlace}
    (hel : ∀ (n : Nat) (cs : List Value) (y : DataW H × List MemPlace), cs.length = k → DataW.trod enc Try.prog w base spare held n E cs = some y → ∃ q : α, cs = f q ∧ Ok q)
    (hv : Value.okWide Try.prog w r b0 S v) (h : DataW.Trod enc Try.prog w base spare held S v d p) : ∃ (l : List α), v = v ∧ (Rw k f w v l ∧ l.length ≤ maxLen ∧ ∀ x ∈ l, Ok x) := by
  obtain ⟨a, len, cap, rfl⟩ := okWide_slice hu hv
  obtain ⟨fuel, hF⟩ := h
  rcases open_slice hu hF with ⟨hcs, _⟩ | ⟨x, len', cap', m, n, D, Pl, hcs, _, hl, hm, hmm, _, hi⟩
  · simp [Value.cells] at hcs
    obtain ⟨rfl, rfl, rfl⟩ := hcs
    exact ⟨[], rfl, Rw.nil w, Nat.zero_le _, by simp⟩
  · simp [Value.cells] at hcs
    obtain ⟨rfl, rfl, rfl⟩ := hcs
    have hlm : len ≤ m := by rw [hmm]; split <;> omega
    have el : ∀ i, i < len → ∃ q : α, (∀ c, c < k → w.cell? ((x.add (i * k)).add c) = (f q)[c]?) ∧ Ok q := by
      intro i hil
      obtain ⟨cs', hc, ht'⟩ := hi i (by omega)
      rw [ce] at hc
      obtain ⟨_, hcl, hat⟩ := World.cells?_some hc
      obtain ⟨q, rfl, hok⟩ := hel _ cs' _ hcl ht'
      exact ⟨q, fun c hck => hat c hck, hok⟩
    obtain ⟨g, hfl⟩ := choose_lt el
    by_cases hz : len = 0
    · subst hz
      exact ⟨[], rfl, .inr ⟨x, cap, rfl, .inl rfl⟩, Nat.zero_le _, by simp⟩
    · obtain ⟨b, off, spot⟩ := x
      have hspot : spot = Option.none := by
        have h0 := (hfl 0 (by omega)).1 0 hk
        rw [List.getElem?_eq_getElem (by rw [hf]; exact hk)] at h0
        simpa [Addr.add] using World.cell?_spot h0
      subst hspot
      refine ⟨(List.range len).map g, rfl, .inr ⟨⟨b, off, Option.none⟩, cap, by simp, .inr ⟨b, off, rfl, fun j hj i hik => ?_⟩⟩, by simp; omega, fun y hy => ?_⟩
      rotate_left
      · obtain ⟨j, hj, rfl⟩ := List.mem_map.1 hy
        exact (hfl j (List.mem_range.1 hj)).2
      have hj' : j < len := by simpa using hj
      have a1 := (hfl j hj').1 i hik
      rw [add_plain, add_plain] at a1
      simpa using a1
end Go.Proofs.Ytecoomkpkdapdaa
