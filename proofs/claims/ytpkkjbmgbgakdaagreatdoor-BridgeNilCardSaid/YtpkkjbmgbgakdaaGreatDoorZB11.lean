/- ZB11: the texts K3 as one. -/
import Derived.Test.YtpkkjbmgbgakdaaGreatDoorZB04
import Derived.Lib.AppendZeros
/- Bytes: appends of two bytes, of zeros. -/
set_option linter.unusedVariables false
set_option linter.unusedSimpArgs false
namespace Go.Proofs.YtpkkjbmgbgakdaaGreatDoor
open Go.RowKit

section
variable {w : World} {ops : Array Oper} {rest : List Oper} {o : Oper} {a : Act} {Q : Exit → Act → World → Prop}
/-- 'append(b, x, y)' of two bytes. -/
theorem wpList_append_two (hgd : o.guard = Option.none) (s x : Operand)
    (ho : o.op = .call { callee := .builtin .append, args := #[s, x], argTypes := #[146, 146] })
    (B : Nat) (v : Value) (l : List UInt8) (W : World) (p q : UInt8) (hw : w = W.alloc (.cells #[.int .u8 (p.toNat : Int), .int .u8 (q.toNat : Int)] 5)) (hs : a.eval s = v) (hown : Bys W B v l)
    (hx : a.eval x = .slice (some ⟨W.heap.size, 0, Option.none⟩) 2 2)
    (hsz : l.length + 2 ≤ 1099511627776) (hB : B ≤ W.heap.size)
    (h : ∀ v' w', Bys w' B v' (l ++ [p, q]) → Below B W w' → wpList Tryz.prog ops Q rest (a.put o.dst v') w') : wpList Tryz.prog ops Q (o :: rest) a w := by
  subst hw
  refine wpList_append_bys hgd s x ho B v l hs (hown.alloc _) ⟨W.heap.size, 0, Option.none⟩ 2 [p, q] 2 rfl hx (fun j hj => ?_) (by simpa using hsz) (by simp; omega) (fun v' w' h1 h2 => h v' w' h1 (((Below.refl _ _).alloc hB _).trans h2))
  have hj' : j < 2 := by simpa using hj
  obtain rfl | rfl : j = 0 ∨ j = 1 := by omega
  · simp [Addr.add, byteV]
  · simp [Addr.add, byteV]
end

theorem zeroCells_str (k : Nat) : Builtin.zeroCells (Value.int .u8 0).cells k = (Lib.strCells (bs (List.replicate k 0))).toArray := by
  rw [strCells_bs]
  apply Array.ext
  · simp [Builtin.zeroCells, Value.cells]
  · intro j h1 h2
    simp [Builtin.zeroCells, Value.cells, byteV, Nat.mod_one]
theorem run_append_zeros (w : World) (ty : TypeId) (b : Option Addr) (n c k : Nat) (hk : n + k ≤ 1099511627776) :
    (Builtin.append_ #[146, 3] ty #[.slice b n c, .int .i64 k]).run Tryz.prog w = (Builtin.append_ #[146, 9] ty #[.slice b n c, .string (bs (List.replicate k 0))]).run Tryz.prog w := by
  obtain ⟨i, hi, hz0, hz1, hz2⟩ := info_parts info_u8
  have hw : IntKind.i64.wrap (k : Int) = k := by rw [IntKind.wrap_i64]; omega
  have hneg : ¬ ((k : Int) < 0) := by omega
  have hsz : (bs (List.replicate k 0)).size = k := by rw [bs_size]; simp
  have hf : ∀ w', (Builtin.firstCells 1 k (.string (bs (List.replicate k 0)))).run Tryz.prog w' = .ok (Builtin.zeroCells (Value.int .u8 0).cells k) w' := fun w' => by
    have h := Lib.run_firstCells_string (P := Tryz.prog) (w := w') 1 (bs (List.replicate k 0))
    rw [hsz] at h; rw [h, zeroCells_str]
  have h48 : ¬ ((281474976710656 : Int) < (k : Int)) := by omega
  have h63 : ¬ ((9223372036854775807 : Int) < (n : Int) + (k : Int)) := by omega
  have hz : Builtin.zeroCells (Value.int .u8 0).cells 0 = #[] := by simp [Builtin.zeroCells]
  have hw0 : IntKind.i64.wrap 0 = 0 := by decide
  have hs0 : (bs []).size = 0 := rfl
  have hf0 : ∀ w', (Builtin.firstCells 1 0 (.string (bs []))).run Tryz.prog w' = .ok #[] w' := fun w' => by
    have h := Lib.run_firstCells_string (P := Tryz.prog) (w := w') 1 (bs [])
    rw [hs0] at h; rw [h, strCells_bs]; rfl
  by_cases hroom : n + k ≤ c
  · by_cases hk0 : k = 0
    · subst hk0
      simp [Builtin.append_, run_underlying Tryz.underlying146, run_underlying Tryz.underlying3, run_underlying Tryz.underlying9, sizeOf, typeInfo, zeroValue, hi, hz0, hz1, hz2, asInt, asIntOf, hw, hneg, h48, Builtin.lenOf, hsz, hf, hw0, hs0, hf0, hz, show n ≤ c by omega]
    · simp [Builtin.append_, run_underlying Tryz.underlying146, run_underlying Tryz.underlying3, run_underlying Tryz.underlying9, sizeOf, typeInfo, zeroValue, hi, hz0, hz1, hz2, asInt, asIntOf, hw, hneg, h48, Builtin.lenOf, hsz, hf, hroom, h63, hk0]
  · have hns : ¬ (281474976710656 < Builtin.nextslicecap (n + k) c) := by
      have := growslice_fits (need := n + k) (old := c) (bytes := 1) (by omega) (by omega)
      omega
    by_cases hk0 : k = 0
    · subst hk0
      simp [Builtin.append_, run_underlying Tryz.underlying146, run_underlying Tryz.underlying3, run_underlying Tryz.underlying9, sizeOf, typeInfo, zeroValue, hi, hz0, hz1, hz2, asInt, asIntOf, hw, hneg, h48, Builtin.lenOf, hsz, hf, hw0, hs0, hf0, hz, show ¬ n ≤ c by omega, show ¬ ((9223372036854775807 : Int) < (n : Int)) by omega, show ¬ (281474976710656 < Builtin.nextslicecap n c) by simpa using hns]
    · simp [Builtin.append_, run_underlying Tryz.underlying146, run_underlying Tryz.underlying3, run_underlying Tryz.underlying9, sizeOf, typeInfo, zeroValue, hi, hz0, hz1, hz2, asInt, asIntOf, hw, hneg, h48, Builtin.lenOf, hsz, hf, hroom, h63, hk0, hns]

section
variable {w : World} {ops : Array Oper} {rest : List Oper} {o : Oper} {a : Act} {Q : Exit → Act → World → Prop}
/-- 'append(b, make([]byte, k)...)'. -/
theorem wpList_append_zeros (hgd : o.guard = Option.none) (s x : Operand)
    (ho : o.op = .call { callee := .builtin .append, args := #[s, x], argTypes := #[146, 3] })
    (B : Nat) (v : Value) (l : List UInt8) (hs : a.eval s = v) (hown : Bys w B v l) (k : Nat) (hx : a.eval x = .int .i64 k)
    (hsz : l.length + k ≤ 1099511627776) (hB : B ≤ w.heap.size)
    (h : ∀ v' w', Bys w' B v' (l ++ List.replicate k 0) → Below B w w' → wpList Tryz.prog ops Q rest (a.put o.dst v') w') : wpList Tryz.prog ops Q (o :: rest) a w := by
  obtain ⟨i, hi, hz0, hz1, hz2⟩ := info_parts info_u8
  refine wpList_plain hgd fun K hK => ?_
  obtain ⟨v', w', hr, h1, h2, _⟩ := Lib.run_append_own_string (P := Tryz.prog) w B 146 9 o.type 5 i Tryz.underlying146 Tryz.underlying9 hi hz0 hz1 hz2 v l.length (l.map byteV) hown (bs (List.replicate k 0))
    (by rw [bs_size, List.length_replicate]; unfold maxLen; omega) (by rw [bs_size, List.length_replicate]; omega) hB
  have hr2 : (Builtin.append_ #[146, 3] o.type #[v, .int .i64 k]).run Tryz.prog w = .ok v' w' := by
    rw [← hr]
    rcases hown.shape with ⟨rfl, hl⟩ | ⟨g, cap, rfl, _⟩
    · exact run_append_zeros w o.type _ 0 0 k (by omega)
    · exact run_append_zeros w o.type _ _ cap k (by omega)
  unfold Oper.wp execOp
  simp only [ho, resolve, invoke, builtin, Sem.run_bind, Sem.run_pure, Result.andThen_ok, List.map_toArray, List.map_cons, List.map_nil, hs, hx, hr2]
  refine hK _ _ (h v' w' ?_ ((Below.refl _ _).grown h2 hB (fun k hk => (World.ownsRow.lt hown k hk).1)))
  unfold Bys
  rw [bs_size, strCells_bs] at h1
  simpa using h1
end
end Go.Proofs.YtpkkjbmgbgakdaaGreatDoor
