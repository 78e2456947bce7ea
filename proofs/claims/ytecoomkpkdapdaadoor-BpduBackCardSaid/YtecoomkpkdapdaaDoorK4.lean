/- Things: slices of a number and a text. -/
import Derived.Test.YtecoomkpkdapdaaDoorWB
import Derived.Test.YtecoomkpkdapdaaDoorK3
import Derived.Deep.Slices
import Derived.Deep.Onto
set_option linter.unusedVariables false
namespace Go.Proofs.YtecoomkpkdapdaaDoor
open Go.ChangeShapes Go.WideShapes Go.ChangeAt Go.RowKit Go.Deep
open Go.ChangeMaps (open_string shut_string)

/-- A thing: its type, its value. -/
abbrev Th := UInt8 × List UInt8
def thV (x : Th) : List Value := [.int .u8 (x.1.toNat : Int), .string (bs x.2)]
/-- A slice that reads as these things. -/
def Tls (w : World) (v : Value) (l : List Th) : Prop :=
  (v = .slice none 0 0 ∧ l = []) ∨ ∃ ad c, v = .slice (some ad) l.length c ∧ (l = [] ∨ ∃ b off, ad = ⟨b, off, none⟩ ∧ ∀ j (hj : j < l.length), w.cell? ⟨b, off + j * 2, none⟩ = some (.int .u8 (l[j].1.toNat : Int)) ∧ w.cell? ⟨b, off + j * 2 + 1, none⟩ = some (.string (bs l[j].2)))
theorem Tls.later {w w' : World} {v : Value} {l : List Th} (h : Tls w v l) (hb : Below w.heap.size w w') : Tls w' v l := by
  rcases h with h | ⟨ad, c, h1, h0 | ⟨b, off, h3, h2⟩⟩
  · exact .inl h
  · exact .inr ⟨ad, c, h1, .inl h0⟩
  · exact .inr ⟨ad, c, h1, .inr ⟨b, off, h3, fun j hj => ⟨(hb.cell (World.block_lt_of_cell? w _ (h2 j hj).1)).trans (h2 j hj).1, (hb.cell (World.block_lt_of_cell? w _ (h2 j hj).2)).trans (h2 j hj).2⟩⟩⟩
theorem Tls.nil (w : World) : Tls w (.slice none 0 0) [] := .inl ⟨rfl, rfl⟩
/-- Its shape: empty, or a row of cells. -/
theorem Tls.shape {w : World} {v : Value} {l : List Th} (h : Tls w v l) : ∃ a c, v = .slice a l.length c ∧ (l = [] ∨ ∃ b off, a = some ⟨b, off, none⟩ ∧ ∀ j (hj : j < l.length), w.cell? ⟨b, off + j * 2, none⟩ = some (.int .u8 (l[j].1.toNat : Int)) ∧ w.cell? ⟨b, off + j * 2 + 1, none⟩ = some (.string (bs l[j].2))) := by
  rcases h with ⟨h1, h2⟩ | ⟨ad, c, h1, h0 | ⟨b, off, h3, h2⟩⟩
  · exact ⟨none, 0, by rw [h1, h2]; rfl, .inl h2⟩
  · exact ⟨_, c, h1, .inl h0⟩
  · exact ⟨_, c, h1, .inr ⟨b, off, by rw [h3], h2⟩⟩
theorem thV_len (l : List Th) : (l.flatMap thV).length = l.length * 2 := by
  induction l with
  | nil => rfl
  | cons x l ih => simp [thV, ih]; omega
theorem thV_get0 : ∀ (l : List Th) (j : Nat) (h : j < l.length), (l.flatMap thV)[j * 2]? = some (.int .u8 (l[j].1.toNat : Int))
  | x :: l, 0, _ => rfl
  | x :: l, j + 1, h => by
    have ih := thV_get0 l j (by simpa using h)
    rw [List.flatMap_cons, show (j + 1) * 2 = j * 2 + 2 by omega]
    simpa [thV] using ih
theorem thV_get1 : ∀ (l : List Th) (j : Nat) (h : j < l.length), (l.flatMap thV)[j * 2 + 1]? = some (.string (bs l[j].2))
  | x :: l, 0, _ => rfl
  | x :: l, j + 1, h => by
    have ih := thV_get1 l j (by simpa using h)
    rw [List.flatMap_cons, show (j + 1) * 2 + 1 = j * 2 + 1 + 2 by omega]
    simpa [thV] using ih

section
variable {w : World} {ops : Array Oper} {o : Oper} {a : Act} {Q : Exit → Act → World → Prop} {K : Act → World → Prop}
/-- 'append(b, s...)', as one step of a region that draws. -/
theorem step_append_str {E : Prop} (hgd : o.guard = Option.none) (s x : Operand)
    (ho : o.op = .call { callee := .builtin .append, args := #[s, x], argTypes := #[43, 9] })
    (B : Nat) (v : Value) (l : List UInt8) (hs : a.eval s = v) (hown : Bys w B v l) (t : List UInt8) (hx : a.eval x = .string (bs t))
    (hsz : l.length + t.length ≤ 1099511627776) (hB : B ≤ w.heap.size)
    (h : ∀ v' w', Bys w' B v' (l ++ t) → Below B w w' → K (a.put o.dst v') w') : if Region.wanted o (yielded ops a.tmps) = true then Oper.wp Tryd.prog o a w K Q else E := by
  rw [if_pos (by simp [Region.wanted, hgd])]
  obtain ⟨i, hi, hz0, hz1, hz2⟩ := info_parts info_u8
  obtain ⟨v', w', hr, h1, h2, _⟩ := Lib.run_append_own_string (P := Tryd.prog) w B 43 9 o.type 5 i Tryd.underlying43 Tryd.underlying9 hi hz0 hz1 hz2 v l.length (l.map byteV) hown (bs t)
    (by rw [bs_size]; unfold maxLen; omega) (by rw [bs_size]; omega) hB
  unfold Oper.wp execOp
  simp only [ho, resolve, invoke, builtin, Sem.run_bind, Sem.run_pure, Result.andThen_ok, List.map_toArray, List.map_cons, List.map_nil, hs, hx, hr]
  refine h v' w' ?_ ((Below.refl _ _).grown h2 hB (fun k hk => (World.ownsRow.lt hown k hk).1))
  unfold Bys
  rw [bs_size, strCells_bs] at h1
  simpa using h1
end
/-- One byte in a new block. -/
theorem src_one (W : World) (x : Int) (h : 0 ≤ x ∧ x < 256) (T : TypeId) : Src (W.alloc (.cells #[.int .u8 x] T)) (.slice (some ⟨W.heap.size, 0, Option.none⟩) 1 1) [UInt8.ofNat x.toNat] := by
  refine .inr ⟨⟨W.heap.size, 0, Option.none⟩, 1, rfl, fun j hj => ?_⟩
  obtain rfl : j = 0 := by simpa using hj
  have e : (UInt8.ofNat x.toNat).toNat = x.toNat := by simp; omega
  simp [Addr.add, byteV, e, Int.toNat_of_nonneg h.1]
end Go.Proofs.YtecoomkpkdapdaaDoor
