/- ZB24: the texts N9, H0 as one. -/
import Derived.Test.YtpkkjbmgbgakdaaGreatDoorZB23
import Derived.DeepKeys4
import Derived.Test.YtpkkjbmgbgakdaaGreatDoorZB05
/- fdb: an empty map of places; a thing is learnt; looked up; listed. -/
set_option linter.unusedVariables false
namespace Go.Proofs.YtpkkjbmgbgakdaaGreatDoor
open Go.RowKit
open Go.Maps (Keyed)

theorem place_keyed : Keyed Tryz.prog 330 := Keyed.of_law (deep_law_laid (m := 3) (by kernel_rfl) (by decide) (by decide +kernel) (by kernel_rfl) (by kernel_rfl))
def u8El (v : Value) : Option (DataW Unit × List MemPlace) := match v with | .int .u8 a => some (.lit (.int .u8 a), []) | _ => none
theorem own_empty {P : Program} {k : TypeId} {R : Value → Option (DataW Unit × List MemPlace)} {W : World} {s : Nat} (h : M0b W s) : W.ownsMap P k R s 0 (.map []) := by
  obtain ⟨es, clock, hb, F, hs, hD⟩ := World.ownsMap_made W P k R
  have e : (W.alloc (.map #[] 0)).heap[W.heap.size]? = some (.map #[] 0) := heap_alloc_new W _
  rw [e] at hb
  injection hb with hb
  injection hb with h1 h2
  subst h1 h2
  exact ⟨#[], 0, h, F, hs, hD⟩
theorem zero_u8 (W : World) : (zeroValue 5).run Tryz.prog W = .ok (.int .u8 0) W := by kernel_rfl
theorem flook0 {W : World} {s : Nat} (h : M0b W s) {key : Value} {kl : Lit} (hk : keyOf Tryz.prog 330 key = some kl) : (Instr.lookup 181 (.map (some s)) key true).run Tryz.prog W = .ok (.tuple #[.int .u8 0, .bool false]) W := by
  obtain ⟨v, ps, hrun, hv⟩ := (own_empty (R := u8El) h).look_ok place_keyed Tryz.underlying181 (zero_u8 W) (z := .int .u8 0) (zd := .lit (.int .u8 0)) (zp := []) rfl hk
  have e3 : Maps.has (DataW.map [] : DataW Unit) kl = false := rfl
  have e1 : (DataW.map [] : DataW Unit).atKey kl (.lit (.int .u8 0)) = .lit (.int .u8 0) := rfl
  rw [e1] at hv
  have e2 : v = .int .u8 0 := by
    unfold u8El at hv
    split at hv
    · simp only [Option.some.injEq, Prod.mk.injEq, DataW.lit.injEq, Lit.int.injEq, true_and] at hv
      rw [hv.1]
    · cases hv
  rw [e2, e3] at hrun
  exact hrun
theorem keyA : (keyOf Tryz.prog 330 (.agg #[.int .u16 1, .int .u8 2, .int .u8 0, .int .u8 0, .int .u8 0, .int .u8 0, .int .u8 1])).isSome = true := by kernel_rfl
theorem keyB : (keyOf Tryz.prog 330 (.agg #[.int .u16 1, .int .u8 255, .int .u8 255, .int .u8 255, .int .u8 255, .int .u8 255, .int .u8 255])).isSome = true := by kernel_rfl
set_option maxRecDepth 100000 in
set_option maxHeartbeats 4000000 in
theorem fmay_one (w : World) : Calls Tryz.prog 211 #[.int .u16 1] w fun en w' => en = .returned (.bool true) ∧ w' = w := by
  go_enter Tryz.func211, Tryz.ntmps211
  go_wp2
  go_ret
  exact ⟨rfl, rfl⟩
/-- What is learnt. -/
def enC (x : Int) : List Value := [.int .u16 1, .int .u8 2, .int .u8 0, .int .u8 0, .int .u8 0, .int .u8 0, .int .u8 1, .int .u8 0, .int .i64 x]
theorem enC_len (x : Int) : (enC x).length = 9 := rfl
theorem enC_one (x : Int) : ∀ u ∈ enC x, u.oneCell' = true := by
  intro u hu
  simp [enC] at hu
  rcases hu with rfl | rfl | rfl | rfl | rfl | rfl | rfl | rfl <;> rfl
theorem info_entry : (Tryz.prog.info? 185).map (fun i => (i.zero, i.size, i.bytes)) = some (some (.agg #[.int .u16 0, .int .u8 0, .int .u8 0, .int .u8 0, .int .u8 0, .int .u8 0, .int .u8 0, .int .u8 0, .int .i64 0]), 9, 24) := by kernel_rfl
section
variable {α : Type} {k : Nat} {f : α → List Value} {w : World} {ops : Array Oper} {o : Oper} {a : Act} {Q : Exit → Act → World → Prop} {K : Act → World → Prop}
/-- 'append(b, x...)' in a region that draws. -/
theorem step_append_ow {X : Prop} (hf : ∀ x, (f x).length = k) (h1c : ∀ x, ∀ u ∈ f x, u.oneCell' = true) (E S : TypeId) (z : Value) (by_ : Nat) (hu : Tryz.prog.underlying S = some (.slice E)) (hi : (Tryz.prog.info? E).map (fun i => (i.zero, i.size, i.bytes)) = some (some z, k, by_)) (hz : z.cells.size = k) (hk : 0 < k) (hby : by_ ≤ 1000)
    (hgd : o.guard = Option.none) (s x : Operand) (ho : o.op = .call { callee := .builtin .append, args := #[s, x], argTypes := #[S, S] })
    (B : Nat) (v : Value) (l : List α) (hs : a.eval s = v) (hown : Ow k f E w B v l) (u : Value) (t : List α) (hx : a.eval x = u) (hsrc : Rw k f w u t)
    (hsz : l.length + t.length ≤ 100000000000) (hB : B ≤ w.heap.size)
    (h : ∀ v' w', Ow k f E w' B v' (l ++ t) → Below B w w' → K (a.put o.dst v') w') : if Region.wanted o (yielded ops a.tmps) = true then Oper.wp Tryz.prog o a w K Q else X := by
  rw [if_pos (by simp [Region.wanted, hgd])]
  exact wp_append_rw hf h1c E S z by_ hu hi hz hk hby s x ho B v l hs hown u t hx hsrc hsz hB h
end
end Go.Proofs.YtpkkjbmgbgakdaaGreatDoor

/- bpdu: words, and their blocks. -/
set_option linter.unusedVariables false
namespace Go.Proofs.YtpkkjbmgbgakdaaGreatDoor
open Go.RowKit

/-- A word. -/
structure Bp where
  rt : Int
  co : Int
  br : Int
  po : Int
  ho : Int
  ve : Int
  ro : Int
  pr : Bool
  ag : Bool
  tp : Bool
  ec : Int
theorem Bp.ext' {a b : Bp} (h0 : a.rt = b.rt) (h1 : a.co = b.co) (h2 : a.br = b.br) (h3 : a.po = b.po) (h4 : a.ho = b.ho) (h5 : a.ve = b.ve) (h6 : a.ro = b.ro) (h7 : a.pr = b.pr) (h8 : a.ag = b.ag) (h9 : a.tp = b.tp) (h10 : a.ec = b.ec) : a = b := by
  cases a; cases b; simp only at *; subst h0 h1 h2 h3 h4 h5 h6 h7 h8 h9 h10; rfl
/-- Its numbers fit their types. -/
structure Bp.Ok (b : Bp) : Prop where
  rt : 0 ≤ b.rt ∧ b.rt < 18446744073709551616
  co : 0 ≤ b.co ∧ b.co < 4294967296
  br : 0 ≤ b.br ∧ b.br < 18446744073709551616
  po : 0 ≤ b.po ∧ b.po < 256
  ho : 0 ≤ b.ho ∧ b.ho < 256
  ve : 0 ≤ b.ve ∧ b.ve < 18446744073709551616
  ro : 0 ≤ b.ro ∧ b.ro < 256
  ec : 0 ≤ b.ec ∧ b.ec < 18446744073709551616
/-- The word of noughts. -/
def bp0 : Bp := ⟨0, 0, 0, 0, 0, 0, 0, false, false, false, 0⟩
/-- A word's block. -/
def BB (T : TypeId) (W : World) (q : Nat) (b : Bp) : Prop := W.heap[q]? = some (.cells #[.int .u64 b.rt, .int .u32 b.co, .int .u64 b.br, .int .u8 b.po, .int .u8 b.ho, .int .u64 b.ve, .int .u8 b.ro, .bool b.pr, .bool b.ag, .bool b.tp, .int .u64 b.ec] T (0, 0))
section
variable {T : TypeId} {W W' : World} {q : Nat} {b : Bp}
theorem BB.lt (h : BB T W q b) : q < W.heap.size := by
  rcases Nat.lt_or_ge q W.heap.size with h1 | h1
  · exact h1
  · unfold BB at h; rw [Array.getElem?_eq_none h1] at h; cases h
theorem BB.later (h : BB T W q b) (hb : Below W.heap.size W W') : BB T W' q b := by
  unfold BB; rw [hb.block q h.lt]; exact h
theorem BB.below {B : Nat} (h : BB T W q b) (hq : q < B) (hb : Below B W W') : BB T W' q b := by
  unfold BB; rw [hb.block q hq]; exact h
theorem BB.only {p : Nat} (h : BB T W q b) (ho : Only p W W') (hne : q ≠ p) : BB T W' q b := by
  unfold BB; rw [ho.block q h.lt (by simpa using hne)]; exact h
theorem BB.other {t o : Nat} (h : BB T W q b) (ht : t ≠ q) (u : Value) : BB T (W.setCell ⟨t, o, none⟩ u) q b := by
  unfold BB; rw [Below.heap_setCell _ _ _ _ (by intro e; simp at e; omega)]; exact h
theorem BB.c0 (h : BB T W q b) : W.cell? ⟨q, 0, none⟩ = some (.int .u64 b.rt) := by unfold BB at h; simp [World.cell?, h]
theorem BB.c1 (h : BB T W q b) : W.cell? ⟨q, 1, none⟩ = some (.int .u32 b.co) := by unfold BB at h; simp [World.cell?, h]
theorem BB.c2 (h : BB T W q b) : W.cell? ⟨q, 2, none⟩ = some (.int .u64 b.br) := by unfold BB at h; simp [World.cell?, h]
theorem BB.c3 (h : BB T W q b) : W.cell? ⟨q, 3, none⟩ = some (.int .u8 b.po) := by unfold BB at h; simp [World.cell?, h]
theorem BB.c4 (h : BB T W q b) : W.cell? ⟨q, 4, none⟩ = some (.int .u8 b.ho) := by unfold BB at h; simp [World.cell?, h]
theorem BB.c5 (h : BB T W q b) : W.cell? ⟨q, 5, none⟩ = some (.int .u64 b.ve) := by unfold BB at h; simp [World.cell?, h]
theorem BB.c6 (h : BB T W q b) : W.cell? ⟨q, 6, none⟩ = some (.int .u8 b.ro) := by unfold BB at h; simp [World.cell?, h]
theorem BB.c7 (h : BB T W q b) : W.cell? ⟨q, 7, none⟩ = some (.bool b.pr) := by unfold BB at h; simp [World.cell?, h]
theorem BB.c8 (h : BB T W q b) : W.cell? ⟨q, 8, none⟩ = some (.bool b.ag) := by unfold BB at h; simp [World.cell?, h]
theorem BB.c9 (h : BB T W q b) : W.cell? ⟨q, 9, none⟩ = some (.bool b.tp) := by unfold BB at h; simp [World.cell?, h]
theorem BB.c10 (h : BB T W q b) : W.cell? ⟨q, 10, none⟩ = some (.int .u64 b.ec) := by unfold BB at h; simp [World.cell?, h]
theorem BB.fr (h : BB T W q b) (o : Nat) : W.frozen? ⟨q, o, none⟩ = false := by unfold BB at h; simp [World.frozen?, h]
theorem BB.new (T : TypeId) (W : World) (b : Bp) : BB T (W.alloc (.cells #[.int .u64 b.rt, .int .u32 b.co, .int .u64 b.br, .int .u8 b.po, .int .u8 b.ho, .int .u64 b.ve, .int .u8 b.ro, .bool b.pr, .bool b.ag, .bool b.tp, .int .u64 b.ec] T)) W.heap.size b := heap_alloc_new W _
theorem BB.s0 (h : BB T W q b) (x : Int) : BB T (W.setCell ⟨q, 0, none⟩ (.int .u64 x)) q { b with rt := x } := by unfold BB at *; simp [World.setCell, Array.getElem?_modify, h]
theorem BB.s1 (h : BB T W q b) (x : Int) : BB T (W.setCell ⟨q, 1, none⟩ (.int .u32 x)) q { b with co := x } := by unfold BB at *; simp [World.setCell, Array.getElem?_modify, h]
theorem BB.s2 (h : BB T W q b) (x : Int) : BB T (W.setCell ⟨q, 2, none⟩ (.int .u64 x)) q { b with br := x } := by unfold BB at *; simp [World.setCell, Array.getElem?_modify, h]
theorem BB.s3 (h : BB T W q b) (x : Int) : BB T (W.setCell ⟨q, 3, none⟩ (.int .u8 x)) q { b with po := x } := by unfold BB at *; simp [World.setCell, Array.getElem?_modify, h]
theorem BB.s4 (h : BB T W q b) (x : Int) : BB T (W.setCell ⟨q, 4, none⟩ (.int .u8 x)) q { b with ho := x } := by unfold BB at *; simp [World.setCell, Array.getElem?_modify, h]
theorem BB.s5 (h : BB T W q b) (x : Int) : BB T (W.setCell ⟨q, 5, none⟩ (.int .u64 x)) q { b with ve := x } := by unfold BB at *; simp [World.setCell, Array.getElem?_modify, h]
theorem BB.s6 (h : BB T W q b) (x : Int) : BB T (W.setCell ⟨q, 6, none⟩ (.int .u8 x)) q { b with ro := x } := by unfold BB at *; simp [World.setCell, Array.getElem?_modify, h]
theorem BB.s7 (h : BB T W q b) (x : Bool) : BB T (W.setCell ⟨q, 7, none⟩ (.bool x)) q { b with pr := x } := by unfold BB at *; simp [World.setCell, Array.getElem?_modify, h]
theorem BB.s8 (h : BB T W q b) (x : Bool) : BB T (W.setCell ⟨q, 8, none⟩ (.bool x)) q { b with ag := x } := by unfold BB at *; simp [World.setCell, Array.getElem?_modify, h]
theorem BB.s9 (h : BB T W q b) (x : Bool) : BB T (W.setCell ⟨q, 9, none⟩ (.bool x)) q { b with tp := x } := by unfold BB at *; simp [World.setCell, Array.getElem?_modify, h]
theorem BB.s10 (h : BB T W q b) (x : Int) : BB T (W.setCell ⟨q, 10, none⟩ (.int .u64 x)) q { b with ec := x } := by unfold BB at *; simp [World.setCell, Array.getElem?_modify, h]
end
/-- May a word be? -/
def mayB (b : Bp) : Bool := decide (1 ≤ b.ro ∧ b.ro ≤ 3 ∧ b.po < 8 ∧ b.co ≤ 16777216 ∧ b.ho ≤ 20 ∧ (b.pr = true → b.ro = 2) ∧ (b.ag = true → b.ro = 1) ∧ (b.ag = true ∨ b.ec = 0))
/-- Its flags. -/
def flB (b : Bp) : Int := (if b.pr = true then 1 else 0) + (if b.ag = true then 2 else 0) + (if b.tp = true then 4 else 0)
theorem flB_bd (b : Bp) : 0 ≤ flB b ∧ flB b ≤ 7 := by unfold flB; repeat' split <;> omega
/-- Its bytes. -/
def byB (b : Bp) : List UInt8 := [67, 77] ++ be 1 b.ro ++ be 1 (flB b) ++ be 8 b.rt ++ be 4 b.co ++ be 8 b.br ++ be 1 b.po ++ be 1 b.ho ++ be 8 b.ve ++ be 8 b.ec
theorem byB_len (b : Bp) : (byB b).length = 42 := by simp [byB, be_length]
end Go.Proofs.YtpkkjbmgbgakdaaGreatDoor
