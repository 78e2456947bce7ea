/- ZB04: the texts W3, R0, K2 as one. -/
import Derived.Test.YtpkkjbmgbgakdaaGreatDoorZB03
import Derived.Deep.RegionHeld3
import Derived.Test.YtpkkjbmgbgakdaaGreatDoorZB01
import Derived.ProofKit
import Derived.OpenShut
import Derived.ShutString
import Derived.Lib.SmallJoins
import Derived.Deep.RegionLaw
/- wire: the reference's numbers. -/
set_option linter.unusedVariables false
namespace Go.Proofs.YtpkkjbmgbgakdaaGreatDoor
open Go.RowKit

/-- The reference's bytes of a number. -/
def numR : Nat → Int → List UInt8
  | 0, _ => []
  | k + 1, n => numR k (n / 256) ++ [UInt8.ofNat (n % 256).toNat]
theorem numR_len : ∀ (k : Nat) (n : Int), (numR k n).length = k
  | 0, _ => rfl
  | k + 1, n => by simp [numR, numR_len k]
theorem numR_be : ∀ (k : Nat) (n : Int), numR k n = be k n
  | 0, _ => rfl
  | k + 1, n => by
    rw [numR, numR_be k, be, be, List.range_succ, List.map_append, List.map_singleton]
    congr 1
    · apply List.map_congr_left
      intro i hi
      have hi' : i < k := List.mem_range.1 hi
      unfold beB
      have e : 8 * (k + 1 - 1 - i) = 8 + 8 * (k - 1 - i) := by omega
      rw [e, Int.pow_add, ← Int.ediv_ediv_of_nonneg (by decide)]
      rfl
    · simp [beB]

end Go.Proofs.YtpkkjbmgbgakdaaGreatDoor

/- Readers: what an argument of a type is, out of its reading. -/
set_option linter.unusedVariables false
namespace Go.Proofs.YtpkkjbmgbgakdaaGreatDoor
open Go.ChangeShapes Go.WideShapes Go.ChangeAt Go.RowKit Go.Joins
open Go.ChangeMaps (open_string shut_string)

section
variable {H : Type} {enc : TypeId × Value → H} {P : Program} {w : World} {r : Reach} {b0 base : Nat} {spare : Nat → Bool} {held : Bool} {t : TypeId} {v : Value} {d : DataW H} {p : List MemPlace}
/-- A struct's or an array's value: its cells. -/
theorem okWide_arr {n : Nat} {e : TypeId} (ht : P.underlying t = some (.array n e)) (h : Value.okWide P w r b0 t v) : ∃ cs, v = .agg cs ∧ cs.size = P.cellsOf t := by
  simp only [Value.okWide, ht] at h
  obtain ⟨cs, h1, h2, _⟩ := h
  exact ⟨cs, h1, h2⟩
/-- A number among cells. -/
theorem trod_int1 {k : IntKind} {n : Nat} {c : Value} {y : Option (DataW H × List MemPlace)} (ht : P.underlying t = some (.int k)) (h : DataW.trod enc P w base spare held n t [c] = y) (hy : y.isSome = true) : ∃ a, c = .int k a ∧ (Lit.int k a).wf = true := by
  obtain ⟨x, rfl⟩ := Option.isSome_iff_exists.1 hy
  obtain ⟨a, h1, _, h2⟩ := DataW.trod_int ht h
  exact ⟨a, by simpa using h1, h2⟩
end
end Go.Proofs.YtpkkjbmgbgakdaaGreatDoor

/- Bytes that came in: a slice's, read and appended. -/
set_option linter.unusedVariables false
namespace Go.Proofs.YtpkkjbmgbgakdaaGreatDoor
open Go.ChangeShapes Go.WideShapes Go.ChangeAt Go.RowKit

/-- A slice that reads as these bytes. -/
def Src (w : World) (v : Value) (l : List UInt8) : Prop :=
  (v = .slice none 0 0 ∧ l = []) ∨ ∃ ad c, v = .slice (some ad) l.length c ∧ ∀ j (hj : j < l.length), w.cell? (ad.add j) = some (byteV l[j])
theorem Src.later {w w' : World} {v : Value} {l : List UInt8} (h : Src w v l) (hb : Below w.heap.size w w') : Src w' v l := by
  rcases h with h | ⟨ad, c, rfl, h⟩
  · exact .inl h
  · exact .inr ⟨ad, c, rfl, fun j hj => (hb.cell (World.block_lt_of_cell? w _ (h j hj))).trans (h j hj)⟩
theorem Src.len {w : World} {a : Option Addr} {n c : Nat} {l : List UInt8} (h : Src w (.slice a n c) l) : n = l.length := by
  rcases h with ⟨h1, rfl⟩ | ⟨ad, c, h1, _⟩
  · simp at h1; simp [h1]
  · simp at h1; exact h1.2.1
theorem Bys.src {w : World} {B : Nat} {v : Value} {l : List UInt8} (h : Bys w B v l) : Src w v l := by
  rcases h.shape with ⟨h1, h2⟩ | ⟨g, cap, rfl, _⟩
  · exact .inl ⟨h1, h2⟩
  · refine .inr ⟨_, cap, rfl, fun j hj => ?_⟩
    have h2 : (⟨g, 0, Option.none⟩ : Addr).add j = ⟨g, j, Option.none⟩ := by cases j <;> simp [Addr.add]
    rw [h2]; exact h.cell j hj
/-- 'string(b)'. -/
theorem run_string_src {w : World} {v : Value} {l : List UInt8} (h : Src w v l) : (convert 146 9 v).run Tryz.prog w = .ok (.string (bs l)) w := by
  rcases h with ⟨rfl, rfl⟩ | ⟨ad, c, rfl, h⟩
  · rw [run_convert_bytes_string w _ _ 5 Option.none 0 0 Tryz.underlying146 Tryz.underlying5 Tryz.underlying9]
    rfl
  · exact run_convert_bytes_back w _ _ 5 ad c l Tryz.underlying146 Tryz.underlying5 Tryz.underlying9 (fun j hj => h j hj)

section
variable {w : World} {ops : Array Oper} {rest : List Oper} {o : Oper} {a : Act} {Q : Exit → Act → World → Prop} {K : Act → World → Prop}
/-- 'append(b, x...)', b owned, x whatever reads as bytes. -/
theorem wp_append_src (s x : Operand) (ho : o.op = .call { callee := .builtin .append, args := #[s, x], argTypes := #[146, 146] })
    (B : Nat) (v : Value) (l : List UInt8) (hs : a.eval s = v) (hown : Bys w B v l) (u : Value) (t : List UInt8) (hx : a.eval x = u) (hsrc : Src w u t)
    (hsz : l.length + t.length ≤ 1099511627776) (hB : B ≤ w.heap.size)
    (h : ∀ v' w', Bys w' B v' (l ++ t) → Below B w w' → K (a.put o.dst v') w') : o.wp Tryz.prog a w K Q := by
  obtain ⟨i, hi, hz0, hz1, hz2⟩ := info_parts info_u8
  rcases hsrc with ⟨rfl, rfl⟩ | ⟨ad, c, rfl, hnews⟩
  · have hrun := run_append_owned_none (P := Tryz.prog) w B 146 o.type 5 i 1 Tryz.underlying146 hi v l.length (l.map byteV) hown
    unfold Oper.wp
    simp [execOp, ho, resolve, invoke, builtin, hs, hx, hrun, Result.andThen]
    exact h _ _ (by simpa using hown) (Below.refl _ _)
  · refine wp_append_own w s x 146 ho B 5 i (.int .u8 0) 1 1 Tryz.underlying146 hi hz0 hz1 hz2 rfl (by decide) v l.length (l.map byteV) hs hown ad t.length c (t.map byteV) hx (by simp)
      (fun j u hj => ?_) (fun u hu => ?_) (by unfold maxLen; omega) (by omega) hB (fun v' w' h1 h2 _ => ?_)
    · have hj' : j < t.length := by have := (List.getElem?_eq_some_iff.1 hj).1; simpa using this
      rw [hnews j hj']
      simp [hj'] at hj
      rw [hj]
    · obtain ⟨b, _, rfl⟩ := List.mem_map.1 hu
      rfl
    · exact h v' w' (by unfold Bys; simpa using h1) ((Below.refl _ _).grown h2 hB (fun k hk => (World.ownsRow.lt hown k hk).1))
theorem wpList_append_src (hgd : o.guard = Option.none) (s x : Operand) (ho : o.op = .call { callee := .builtin .append, args := #[s, x], argTypes := #[146, 146] })
    (B : Nat) (v : Value) (l : List UInt8) (hs : a.eval s = v) (hown : Bys w B v l) (u : Value) (t : List UInt8) (hx : a.eval x = u) (hsrc : Src w u t)
    (hsz : l.length + t.length ≤ 1099511627776) (hB : B ≤ w.heap.size)
    (h : ∀ v' w', Bys w' B v' (l ++ t) → Below B w w' → wpList Tryz.prog ops Q rest (a.put o.dst v') w') : wpList Tryz.prog ops Q (o :: rest) a w :=
  wpList_plain hgd fun K hK => wp_append_src s x ho B v l hs hown u t hx hsrc hsz hB fun v' w' h1 h2 => hK _ _ (h v' w' h1 h2)
/-- The same as one step of a region that draws. -/
theorem step_append_src {E : Prop} (hgd : o.guard = Option.none) (s x : Operand) (ho : o.op = .call { callee := .builtin .append, args := #[s, x], argTypes := #[146, 146] })
    (B : Nat) (v : Value) (l : List UInt8) (hs : a.eval s = v) (hown : Bys w B v l) (u : Value) (t : List UInt8) (hx : a.eval x = u) (hsrc : Src w u t)
    (hsz : l.length + t.length ≤ 1099511627776) (hB : B ≤ w.heap.size)
    (h : ∀ v' w', Bys w' B v' (l ++ t) → Below B w w' → K (a.put o.dst v') w') : if Region.wanted o (yielded ops a.tmps) = true then Oper.wp Tryz.prog o a w K Q else E := by
  rw [if_pos (by simp [Region.wanted, hgd])]
  exact wp_append_src s x ho B v l hs hown u t hx hsrc hsz hB h
end

set_option maxRecDepth 100000 in
/-- An argument of bytes. -/
theorem rd_bytes {H : Type} {enc : TypeId × Value → H} {w : World} {r : Reach} {b0 base : Nat} {spare : Nat → Bool} {held : Bool} {v : Value} {d : DataW H} {p : List MemPlace}
    (hv : Value.okWide Tryz.prog w r b0 146 v) (h : DataW.Trod enc Tryz.prog w base spare held 146 v d p) :
    ∃ (a : Option Addr) (len cap : Nat) (l : List UInt8), v = .slice a len cap ∧ (Src w (.slice a len cap) l ∧ len = l.length ∧ len ≤ maxLen) := by
  obtain ⟨a0, len, cap, rfl⟩ := okWide_slice Tryz.underlying146 hv
  obtain ⟨fuel, hf⟩ := h
  refine ⟨a0, len, cap, ?_⟩
  rcases open_ints Tryz.underlying146 Tryz.underlying5 (by kernel_rfl) hf with ⟨hcs, _⟩ | ⟨x, l, c, zs, hcs, _, hl, hm, hz, _, hcell, hwz⟩
  · simp [Value.cells] at hcs
    obtain ⟨rfl, rfl, rfl⟩ := hcs
    exact ⟨[], rfl, .inl ⟨rfl, rfl⟩, rfl, by decide⟩
  · simp [Value.cells] at hcs
    obtain ⟨rfl, rfl, rfl⟩ := hcs
    have hzl : len ≤ zs.length := by rw [hz]; split <;> omega
    have hlen : len = ((zs.take len).map fun n => UInt8.ofNat n.toNat).length := by simp; omega
    refine ⟨(zs.take len).map fun n => UInt8.ofNat n.toNat, rfl, .inr ⟨x, cap, by rw [← hlen], fun j hj => ?_⟩, hlen, by omega⟩
    have hj' : j < len := by omega
    have hj2 : j < zs.length := by omega
    rw [hcell j hj2]
    have hb := bounds_u8 (hwz zs[j] (List.getElem_mem hj2))
    have e : (UInt8.ofNat (zs[j]).toNat).toNat = (zs[j]).toNat := by simp; omega
    simp [byteV, hj2, e, Int.toNat_of_nonneg hb.1]
end Go.Proofs.YtpkkjbmgbgakdaaGreatDoor
