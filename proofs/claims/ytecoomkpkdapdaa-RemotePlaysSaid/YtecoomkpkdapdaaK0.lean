/- Base: worlds that come later than another (what was there reads as it did), and regions that draw their order, walked once over all such worlds. -/
import Derived.Test.YtecoomkpkdapdaaRows
import Derived.WalkKit
import Derived.WalkSpells
import Derived.WalkLawsBesides
import Derived.Lib.Hide
import Derived.Deep.RegionWith
import Derived.BigQuiet
namespace Go.Proofs.Ytecoomkpkdapdaa
open Go.RowKit

/-- A world in which all that was in W reads as it did. -/
structure Later (W : World) where
  out : World
  h : Below W.heap.size W out
theorem Later.nonempty (W : World) : Nonempty (Later W) := ⟨⟨W, Below.refl _ _⟩⟩
attribute [instance] Later.nonempty

theorem Later.cell {W : World} {a : Addr} {v : Value} (h : W.cell? a = some v) : ∀ k : Later W, k.out.cell? a = some v := fun k =>
  (k.h.cell (World.block_lt_of_cell? W a h)).trans h
theorem Later.frozen {W : World} {a : Addr} {b : Bool} (hb : a.block < W.heap.size) (h : W.frozen? a = b) : ∀ k : Later W, k.out.frozen? a = b := fun k =>
  (k.h.frozen hb).trans h
theorem Later.bel {W w : World} (h : Below w.heap.size w W) (k : Later W) : Below w.heap.size w k.out := h.trans (k.h.mono h.size)

/-- A callee's contract, met in a later world. -/
theorem Calls.later {P : Program} {f : FuncId} {args : Array Value} {W : World} {k : Later W} {v : Value}
    (h : Calls P f args k.out fun e w' => e = .returned v ∧ Below k.out.heap.size k.out w') :
    Calls P f args k.out fun e w'' => e = .returned v ∧ ∃ k' : Later W, w'' = k'.out :=
  h.mono fun _ w' ⟨he, hb⟩ => ⟨he, ⟨w', k.h.trans (hb.mono k.h.size)⟩, rfl⟩
theorem Calls.later_same {P : Program} {f : FuncId} {args : Array Value} {W : World} {k : Later W} {v : Value}
    (h : Calls P f args k.out fun e w' => e = .returned v ∧ k.out = w') :
    Calls P f args k.out fun e w'' => e = .returned v ∧ ∃ k' : Later W, w'' = k'.out :=
  h.mono fun _ _ ⟨he, hb⟩ => ⟨he, k, hb.symm⟩

theorem below_drawn (W : World) : Below W.heap.size W { W with drawn := W.drawn + 1 } := ⟨rfl, rfl, rfl, Nat.le_refl _, fun _ _ => rfl⟩

/-- A region that draws its order, all of whose operations read and whose calls leave later worlds: one walk in the order of the text. -/
theorem wp_region_later {P : Program} {id : Nat} {Q : Exit → Act → World → Prop} {a : Act} {W : World} {l : List Oper} (hm : P.follows .mixedOrders = true) (hB : Region.lexB .any l.toArray = true)
    (h : wpQuiet P l.toArray (fun w' => ∃ k : Later W, w' = k.out) (fun a' => ∀ w', (∃ k : Later W, w' = k.out) → Q .normal a' w') l a) : (Code.region id l.toArray true).wp P Q a W :=
  wp_region_quiet (C := fun w' => ∃ k : Later W, w' = k.out) hm hB ⟨⟨_, below_drawn W⟩, rfl⟩ (by simpa using h)

/-- Behind a callee: old cells, and old marks, as they were: two rules that the walk uses by itself. -/
theorem bcell {W w1 : World} (hb : Below W.heap.size W w1) : (∀ b o, b < W.heap.size → w1.cell? ⟨b, o, none⟩ = W.cell? ⟨b, o, none⟩) ∧ (∀ b o, b < W.heap.size → w1.frozen? ⟨b, o, none⟩ = W.frozen? ⟨b, o, none⟩) :=
  ⟨fun b o h => hb.cell (p := ⟨b, o, none⟩) h, fun b o h => hb.frozen (p := ⟨b, o, none⟩) h⟩

/-- The world at hand is forgotten, but for S. -/
theorem forget {P : Program} {c : Code} {Q : Exit → Act → World → Prop} {a : Act} {W : World} (S : World → Prop) (hS : S W) (h : ∀ W, S W → c.wp P Q a W) : c.wp P Q a W := h W hS
end Go.Proofs.Ytecoomkpkdapdaa
