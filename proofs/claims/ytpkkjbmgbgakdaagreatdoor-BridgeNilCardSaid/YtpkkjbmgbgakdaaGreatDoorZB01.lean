/- ZB01: the texts K0, K1 as one. -/
import Derived.Test.YtpkkjbmgbgakdaaGreatDoorRows
import Derived.WalkKit
import Derived.WalkSpells
import Derived.WalkLawsBesides
import Derived.Lib.Hide
import Derived.Deep.RegionWith
import Derived.BigQuiet
import Derived.Lib.AppendStr
import Derived.Laws.AppendOwnNone
/- Base: worlds that come later than another (what was there reads as it did), and regions that draw their order, walked once over all such worlds. -/
namespace Go.Proofs.YtpkkjbmgbgakdaaGreatDoor
open Go.RowKit

/-- A world in which all that was in W reads as it did. -/
structure Later (W : World) where
  out : World
  h : Below W.heap.size W out
theorem Later.nonempty (W : World) : Nonempty (Later W) := ⟨⟨W, Below.refl _ _⟩⟩
attribute [instance] Later.nonempty

theorem Later.cell {W : World} {a : Addr} {v : Value} (h : W.cell? a = some v) : ∀ k : Later W, k.out.cell? a = some v := fun k =>
  (k.h.cell (World.block_lt_of_cell? W a h)).trans h
theorem Later.frozen {W : World} {a : Addr} {b : Bool} (hb : a.block < W.heap.size) (h : W.frozen? a = b) : ∀ k : Later W, k.out.frozen? a = b := fun k =>
  (k.h.frozen hb).trans h
theorem Later.bel {W w : World} (h : Below w.heap.size w W) (k : Later W) : Below w.heap.size w k.out := h.trans (k.h.mono h.size)

/-- A callee's contract, met in a later world. -/
theorem Calls.later {P : Program} {f : FuncId} {args : Array Value} {W : World} {k : Later W} {v : Value}
    (h : Calls P f args k.out fun e w' => e = .returned v ∧ Below k.out.heap.size k.out w') :
    Calls P f args k.out fun e w'' => e = .returned v ∧ ∃ k' : Later W, w'' = k'.out :=
  h.mono fun _ w' ⟨he, hb⟩ => ⟨he, ⟨w', k.h.trans (hb.mono k.h.size)⟩, rfl⟩
theorem Calls.later_same {P : Program} {f : FuncId} {args : Array Value} {W : World} {k : Later W} {v : Value}
    (h : Calls P f args k.out fun e w' => e = .returned v ∧ k.out = w') :
    Calls P f args k.out fun e w'' => e = .returned v ∧ ∃ k' : Later W, w'' = k'.out :=
  h.mono fun _ _ ⟨he, hb⟩ => ⟨he, k, hb.symm⟩

theorem below_drawn (W : World) : Below W.heap.size W { W with drawn := W.drawn + 1 } := ⟨rfl, rfl, rfl, Nat.le_refl _, fun _ _ => rfl⟩

/-- A region that draws its order, all of whose operations read and whose calls leave later worlds: one walk in the order of the text. -/
theorem wp_region_later {P : Program} {id : Nat} {Q : Exit → Act → World → Prop} {a : Act} {W : World} {l : List Oper} (hm : P.follows .mixedOrders = true) (hB : Region.lexB .any l.toArray = true)
    (h : wpQuiet P l.toArray (fun w' => ∃ k : Later W, w' = k.out) (fun a' => ∀ w', (∃ k : Later W, w' = k.out) → Q .normal a' w') l a) : (Code.region id l.toArray true).wp P Q a W :=
  wp_region_quiet (C := fun w' => ∃ k : Later W, w' = k.out) hm hB ⟨⟨_, below_drawn W⟩, rfl⟩ (by simpa using h)

/-- Behind a callee: old cells, and old marks, as they were: two rules that the walk uses by itself. -/
theorem bcell {W w1 : World} (hb : Below W.heap.size W w1) : (∀ b o, b < W.heap.size → w1.cell? ⟨b, o, none⟩ = W.cell? ⟨b, o, none⟩) ∧ (∀ b o, b < W.heap.size → w1.frozen? ⟨b, o, none⟩ = W.frozen? ⟨b, o, none⟩) :=
  ⟨fun b o h => hb.cell (p := ⟨b, o, none⟩) h, fun b o h => hb.frozen (p := ⟨b, o, none⟩) h⟩

/-- The world at hand is forgotten, but for S. -/
theorem forget {P : Program} {c : Code} {Q : Exit → Act → World → Prop} {a : Act} {W : World} (S : World → Prop) (hS : S W) (h : ∀ W, S W → c.wp P Q a W) : c.wp P Q a W := h W hS
end Go.Proofs.YtpkkjbmgbgakdaaGreatDoor

/- Bytes: slices of bytes that the call owns; strings as lists of bytes. -/
set_option linter.unusedVariables false
namespace Go.Proofs.YtpkkjbmgbgakdaaGreatDoor
open Go.RowKit

theorem info_u8 : (Tryz.prog.info? 5).map (fun i => (i.zero, i.size, i.bytes)) = some (some (.int .u8 0), 1, 1) := by kernel_rfl

/-- A byte as a cell. -/
def byteV (x : UInt8) : Value := .int .u8 (x.toNat : Int)
/-- A list of bytes as a string. -/
def bs (l : List UInt8) : ByteArray := ⟨l.toArray⟩
theorem bs_size (l : List UInt8) : (bs l).size = l.length := by simp [bs, ByteArray.size]
theorem bs_toList (l : List UInt8) : (bs l).data.toList = l := by simp [bs]
theorem bs_of (s : ByteArray) : s = bs s.data.toList := by cases s; simp [bs]
theorem bs_inj {a b : List UInt8} (h : bs a = bs b) : a = b := by
  have := congrArg (fun s => s.data.toList) h
  simpa [bs] using this
theorem bs_extract (l : List UInt8) (a b : Nat) : (bs l).extract a b = bs ((l.drop a).take (b - a)) := by
  simp only [bs]
  apply ByteArray.ext
  simp [ByteArray.data_extract]
theorem bs_take (l : List UInt8) (b : Nat) : (bs l).extract 0 b = bs (l.take b) := by rw [bs_extract]; simp
theorem bs_drop (l : List UInt8) (a b : Nat) (h : l.length ≤ b) : (bs l).extract a b = bs (l.drop a) := by
  rw [bs_extract, List.take_of_length_le (by simp; omega)]
theorem bs_append (a b : List UInt8) : bs a ++ bs b = bs (a ++ b) := by
  apply ByteArray.ext
  simp [bs]
theorem bs_get (l : List UInt8) (k : Nat) (h : k < (bs l).size) (h' : k < l.length) : (bs l)[k]'h = l[k]'h' := by
  simp [bs, ByteArray.getElem_eq_getElem_data]
theorem strCells_bs (l : List UInt8) : Lib.strCells (bs l) = l.map byteV := by
  simp [Lib.strCells, bs_toList, byteV]
/-- A slice value that owns these bytes, in a row from B on. -/
def Bys (w : World) (B : Nat) (v : Value) (l : List UInt8) : Prop := w.ownsRow B 5 1 v l.length (l.map byteV)
theorem Bys.none (w : World) (B : Nat) : Bys w B (.slice none 0 0) [] := World.ownsRow_nil w B _ 1
theorem Bys.alloc {w : World} {B : Nat} {v : Value} {l : List UInt8} (h : Bys w B v l) (o : Obj) : Bys (w.alloc o) B v l := World.ownsRow.alloc h o
theorem Bys.later {w w' : World} {B : Nat} {v : Value} {l : List UInt8} (h : Bys w B v l) (hb : Below w.heap.size w w') : Bys w' B v l := by
  obtain ⟨h1, h2⟩ := h
  refine ⟨h1, ?_⟩
  rcases h2 with h2 | ⟨g, cap, cur, hv, hg, hh, r⟩
  · exact .inl h2
  · refine .inr ⟨g, cap, cur, hv, hg, ?_, r⟩
    have hlt : g < w.heap.size := by
      rcases Nat.lt_or_ge g w.heap.size with h | h
      · exact h
      · rw [Array.getElem?_eq_none h] at hh; cases hh
    rw [hb.block g hlt]; exact hh
/-- A row that has just been made. -/
theorem Bys.lit (w : World) (B : Nat) (cs : Array Value) (l : List UInt8) (hB : B ≤ w.heap.size) (hc : cs.toList = l.map byteV) (hl : l.length ≤ 1099511627776) : Bys (w.alloc (.cells cs 5)) B (.slice (some ⟨w.heap.size, 0, Option.none⟩) l.length l.length) l := by
  have hs : cs.size = l.length := by rw [← Array.length_toList, hc]; simp
  refine ⟨by simp, .inr ⟨w.heap.size, l.length, cs, rfl, hB, heap_alloc_new w _, Nat.le_refl _, by unfold maxLen; omega, by omega, ?_⟩⟩
  rw [hc, List.take_of_length_le (by simp)]
/-- Its shape: nil, or at the head of a row. -/
theorem Bys.shape {w : World} {B : Nat} {v : Value} {l : List UInt8} (h : Bys w B v l) : (v = .slice Option.none 0 0 ∧ l = []) ∨ ∃ g cap, v = .slice (some ⟨g, 0, Option.none⟩) l.length cap ∧ B ≤ g ∧ g < w.heap.size ∧ l.length ≤ cap ∧ cap ≤ maxLen := by
  rcases h.2 with ⟨h1, h2⟩ | ⟨g, cap, cur, hv, hg, hh, h3, h4, h5, h6⟩
  · exact .inl ⟨h1, List.eq_nil_of_length_eq_zero h2⟩
  · refine .inr ⟨g, cap, hv, hg, ?_, h3, h4⟩
    rcases Nat.lt_or_ge g w.heap.size with h | h
    · exact h
    · rw [Array.getElem?_eq_none h] at hh; cases hh
theorem Bys.cell {w : World} {B g cap : Nat} {l : List UInt8} (h : Bys w B (.slice (some ⟨g, 0, Option.none⟩) l.length cap) l) (j : Nat) (hj : j < l.length) : w.cell? ⟨g, j, Option.none⟩ = some (byteV l[j]) := by
  have := World.ownsRow.cellAt h j (by simpa using hj)
  rw [this]
  simp [hj]
/-- 'string(b)' of owned bytes. -/
theorem run_string_bys {w : World} {B : Nat} {v : Value} {l : List UInt8} (h : Bys w B v l) : (convert 146 9 v).run Tryz.prog w = .ok (.string (bs l)) w := by
  rcases h.shape with ⟨rfl, rfl⟩ | ⟨g, cap, rfl, _, _, _, _⟩
  · rw [run_convert_bytes_string w _ _ 5 Option.none 0 0 Tryz.underlying146 Tryz.underlying5 Tryz.underlying9]
    rfl
  · exact run_convert_bytes_back w _ _ 5 ⟨g, 0, Option.none⟩ cap l Tryz.underlying146 Tryz.underlying5 Tryz.underlying9 (fun j hj => by
      have h1 := h.cell j hj
      have h2 : (⟨g, 0, Option.none⟩ : Addr).add j = ⟨g, j, Option.none⟩ := by cases j <;> simp [Addr.add]
      rw [h2, h1]; rfl)

/-- '+' on two strings that are short. -/
theorem run_add_bs (a b : List UInt8) (h : a.length + b.length ≤ 1099511627776) : ∀ W : World, (Op.stringOp .add (bs a) (bs b)).run Tryz.prog W = .ok (.string (bs (a ++ b))) W := by
  intro W
  rw [run_string_add_sum W (bs a) (bs b) (by rw [bs_size, bs_size]; omega), bs_append]
/-- 'string([]byte{x})'. -/
theorem run_string_one (x : Int) (h0 : 0 ≤ x) (h1 : x < 256) : ∀ (W : World) (g c : Nat), W.cell? ⟨g, 0, Option.none⟩ = some (.int .u8 x) → (convert 146 9 (.slice (some ⟨g, 0, Option.none⟩) 1 c)).run Tryz.prog W = .ok (.string (bs [UInt8.ofNat x.toNat])) W := by
  intro W g c h
  exact run_convert_bytes_back W _ _ 5 ⟨g, 0, Option.none⟩ c [UInt8.ofNat x.toNat] Tryz.underlying146 Tryz.underlying5 Tryz.underlying9 (fun j hj => by
    obtain rfl : j = 0 := by simpa using hj
    have e : (UInt8.ofNat x.toNat).toNat = x.toNat := by simp; omega
    simp [Addr.add, h, e, Int.toNat_of_nonneg h0])

section
variable {w : World} {ops : Array Oper} {rest : List Oper} {o : Oper} {a : Act} {Q : Exit → Act → World → Prop}
/-- 'append(b, ..)' of bytes that lie somewhere, b owned. -/
theorem wpList_append_bys (hgd : o.guard = Option.none) (s x : Operand)
    (ho : o.op = .call { callee := .builtin .append, args := #[s, x], argTypes := #[146, 146] })
    (B : Nat) (v : Value) (l : List UInt8) (hs : a.eval s = v) (hown : Bys w B v l)
    (ad : Addr) (c : Nat) (news : List UInt8) (m : Nat) (hm : m = news.length) (hx : a.eval x = .slice (some ad) m c) (hnews : ∀ j (hj : j < news.length), w.cell? (ad.add j) = some (byteV news[j]))
    (hsz : l.length + news.length ≤ 1099511627776) (hB : B ≤ w.heap.size)
    (h : ∀ v' w', Bys w' B v' (l ++ news) → Below B w w' → wpList Tryz.prog ops Q rest (a.put o.dst v') w') : wpList Tryz.prog ops Q (o :: rest) a w := by
  obtain ⟨i, hi, hz0, hz1, hz2⟩ := info_parts info_u8
  subst hm
  refine wpList_append_own w hgd s x 146 ho B 5 i (.int .u8 0) 1 1 Tryz.underlying146 hi hz0 hz1 hz2 rfl (by decide) v l.length (l.map byteV) hs hown ad news.length c (news.map byteV) hx (by simp)
    (fun j u hj => ?_) (fun u hu => ?_) (by unfold maxLen; omega) (by omega) hB (fun v' w' h1 h2 _ => ?_)
  · have hj' : j < news.length := by have := (List.getElem?_eq_some_iff.1 hj).1; simpa using this
    rw [hnews j hj']
    simp [hj'] at hj
    rw [hj]
  · obtain ⟨b, _, rfl⟩ := List.mem_map.1 hu
    rfl
  · refine h v' w' (by unfold Bys; simpa using h1) ((Below.refl _ _).grown h2 hB (fun k hk => ?_))
    exact (World.ownsRow.lt hown k hk).1
/-- 'append(b, x)' of one byte. -/
theorem wpList_append_byte (hgd : o.guard = Option.none) (s x : Operand)
    (ho : o.op = .call { callee := .builtin .append, args := #[s, x], argTypes := #[146, 146] })
    (B : Nat) (v : Value) (l : List UInt8) (W : World) (n : Int) (hw : w = W.alloc (.cells #[.int .u8 n] 5)) (hs : a.eval s = v) (hown : Bys W B v l)
    (hx : a.eval x = .slice (some ⟨W.heap.size, 0, Option.none⟩) 1 1) (hn : 0 ≤ n) (hn2 : n < 256)
    (hsz : l.length + 1 ≤ 1099511627776) (hB : B ≤ W.heap.size)
    (h : ∀ v' w', Bys w' B v' (l ++ [UInt8.ofNat n.toNat]) → Below B W w' → wpList Tryz.prog ops Q rest (a.put o.dst v') w') : wpList Tryz.prog ops Q (o :: rest) a w := by
  subst hw
  refine wpList_append_bys hgd s x ho B v l hs (hown.alloc _) ⟨W.heap.size, 0, Option.none⟩ 1 [UInt8.ofNat n.toNat] 1 rfl hx (fun j hj => ?_) (by simpa using hsz) (by simp; omega) (fun v' w' h1 h2 => h v' w' h1 (((Below.refl _ _).alloc hB _).trans h2))
  obtain rfl : j = 0 := by simpa using hj
  have e : (UInt8.ofNat n.toNat).toNat = n.toNat := by simp; omega
  simp [Addr.add, byteV, e, Int.toNat_of_nonneg hn]
/-- 'append(b, s...)', s a string. -/
theorem wpList_append_str (hgd : o.guard = Option.none) (s x : Operand)
    (ho : o.op = .call { callee := .builtin .append, args := #[s, x], argTypes := #[146, 9] })
    (B : Nat) (v : Value) (l : List UInt8) (hs : a.eval s = v) (hown : Bys w B v l) (t : List UInt8) (hx : a.eval x = .string (bs t))
    (hsz : l.length + t.length ≤ 1099511627776) (hB : B ≤ w.heap.size)
    (h : ∀ v' w', Bys w' B v' (l ++ t) → Below B w w' → wpList Tryz.prog ops Q rest (a.put o.dst v') w') : wpList Tryz.prog ops Q (o :: rest) a w := by
  obtain ⟨i, hi, hz0, hz1, hz2⟩ := info_parts info_u8
  refine wpList_plain hgd fun K hK => ?_
  obtain ⟨v', w', hr, h1, h2, _⟩ := Lib.run_append_own_string (P := Tryz.prog) w B 146 9 o.type 5 i Tryz.underlying146 Tryz.underlying9 hi hz0 hz1 hz2 v l.length (l.map byteV) hown (bs t)
    (by rw [bs_size]; unfold maxLen; omega) (by rw [bs_size]; omega) hB
  unfold Oper.wp execOp
  simp only [ho, resolve, invoke, builtin, Sem.run_bind, Sem.run_pure, Result.andThen_ok, List.map_toArray, List.map_cons, List.map_nil, hs, hx, hr]
  refine hK _ _ (h v' w' ?_ ((Below.refl _ _).grown h2 hB (fun k hk => (World.ownsRow.lt hown k hk).1)))
  unfold Bys
  rw [bs_size, strCells_bs] at h1
  simpa using h1
end
end Go.Proofs.YtpkkjbmgbgakdaaGreatDoor
