/- tlv: plain; a law's own 'of', 'great'. -/
import Derived.Test.YtblmpndaofhmjaaK4
import Derived.Deep.DeepCutAuto
import Derived.Deep.LoopGhost
import Derived.Deep.CutBlock
set_option linter.unusedVariables false
namespace Go.Proofs.Ytblmpndaofhmjaa
open Go.RowKit

/-- A thing's error. -/
def okT (x : Th) : Int := if x.1 = 0 then 2 else if 1480 < x.2.length then 5 else 0
/-- A thing's bytes. -/
def thB (x : Th) : List UInt8 := x.1 :: (be 2 (x.2.length : Int) ++ x.2)
/-- Put. -/
def putT : List Th → List UInt8 × Int
  | [] => ([0], 0)
  | x :: l => if okT x = 0 then (if (putT l).2 = 0 then (thB x ++ (putT l).1, 0) else ([], (putT l).2)) else ([], okT x)
theorem putT_all : ∀ l : List Th, (∀ x ∈ l, okT x = 0) → putT l = (l.flatMap thB ++ [0], 0)
  | [], _ => rfl
  | x :: l, h => by
    have ih := putT_all l (fun y hy => h y (List.mem_cons_of_mem _ hy))
    unfold putT; rw [if_pos (h x (List.mem_cons_self ..)), ih, if_pos rfl]; simp
theorem putT_at : ∀ (l : List Th) (k : Nat) (hk : k < l.length), (∀ x ∈ l.take k, okT x = 0) → okT l[k] ≠ 0 → putT l = ([], okT l[k])
  | x :: l, 0, _, _, hf => by
    have hf' : okT x ≠ 0 := hf
    unfold putT; rw [if_neg hf']; rfl
  | x :: l, k + 1, hk, h, hf => by
    have ih := putT_at l k (by simpa using hk) (fun y hy => h y (by simp [hy])) hf
    have hf' : okT (l[k]'(by simpa using hk)) ≠ 0 := hf
    unfold putT; rw [if_pos (h x (by simp)), ih]; show (if okT _ = 0 then _ else _) = _; rw [if_neg hf']; rfl

set_option maxRecDepth 100000 in
set_option maxHeartbeats 4000000 in
theorem of11_any (v : Value) (l : List Th) (w : World) (hv : Tls w v l) (hl : l.length ≤ 100000) : Calls Try.prog 23 #[v] w fun en w' => ∃ v', en = .returned v' ∧ TlT w' w.heap.size v' l ∧ Below w.heap.size w w' := by
  obtain ⟨a, c, rfl, hc⟩ := hv.shape
  have HC := Lib.hid hc
  clear hc hv
  go_enter Try.func23, Try.ntmps23
  go_wp2_with fail
  go_loopw [3, 4] (fun s i wr => ∃ k : Nat, k ≤ l.length ∧ i = .int .i64 k ∧ TlT wr w.heap.size s (l.take k) ∧ Below w.heap.size w wr) (fun _ i _ => l.length - (intOf i).toNat)
  case atStart => exact ⟨0, by omega, rfl, TlT.none _ _, Below.refl _ _⟩
  case round =>
    obtain ⟨k, hk, rfl, hown, hb⟩ := hrel
    by_cases hlt : k < l.length
    · have dk : decide ((k : Int) < (l.length : Int)) = true := decide_eq_true (by omega)
      obtain ⟨b, off, rfl, hcc⟩ := HC.out.resolve_left (by intro h; rw [h] at hlt; simp at hlt)
      have c0 := (hb.cell (World.block_lt_of_cell? w _ (hcc k hlt).1)).trans (hcc k hlt).1
      have c1 := (hb.cell (World.block_lt_of_cell? w _ (hcc k hlt).2)).trans (hcc k hlt).2
      have hnext : l.take (k + 1) = l.take k ++ [l[k]] := List.take_succ_eq_append_getElem hlt
      have hlen : (l.take k).length ≤ 100000 := by simp; omega
      obtain ⟨x, hx⟩ : ∃ x, l[k] = x := ⟨_, rfl⟩
      rw [hx] at c0 c1 hnext
      obtain ⟨x0, hx0⟩ : ∃ x0, (x.1.toNat : Int) = x0 := ⟨_, rfl⟩
      have SRC : Tls (wr.alloc (.cells #[.int .u8 x0, .string (bs x.2)] 92)).drew (.slice (some ⟨wr.heap.size, 0, none⟩) 1 1) [x] := by
        rw [← hx0]; exact (TlT.lit wr 0 x (Nat.zero_le _)).tls.later (Below.refl _ _).drew
      have HSRC := Lib.hid SRC
      clear SRC
      have HN := Lib.hid hnext
      have HO := Lib.hid hown
      have HB := Lib.hid hb
      clear hown hb hcc hx HC hnext
      go_upto_region 5 with fail
      go_region_law (first
        | (refine step_append_T rfl _ _ rfl w.heap.size _ (l.take k) (by rfl) (by exact HO.out.later ((Below.refl _ _).drew.alloc (Nat.le_refl _) _)) _ [x] (by rfl) (by exact HSRC.out) (by simp; omega) (by have := HB.out.size; simp; omega) ?_; intro v1 w1 hown1 hb1))
      all_goals go_wp2
      all_goals exact ⟨⟨k + 1, by omega, by go_num, by rw [HN.out]; exact hown1, ((HB.out.alloc HB.out.size _).drew).trans hb1⟩, by simp [intOf]; omega⟩
    · have dk : decide ((k : Int) < (l.length : Int)) = false := decide_eq_false (by omega)
      have hall : l.take k = l := List.take_of_length_le (by omega)
      rw [hall] at hown
      have HO := Lib.hid hown
      have HB := Lib.hid hb
      clear hown hb hall
      go_wp2
      go_ret
      exact ⟨_, rfl, HO.out, HB.out⟩

/-- Are there too many things, or too great ones? -/
def grT (l : List Th) : Bool := decide (30 < l.length) || l.any fun x => decide (2000 < x.2.length)
set_option maxRecDepth 100000 in
set_option maxHeartbeats 4000000 in
theorem great_any (v : Value) (l : List Th) (w : World) (hv : Tls w v l) (hl : l.length ≤ maxLen) (hs : ∀ x ∈ l, x.2.length ≤ maxLen) : Calls Try.prog 20 #[v] w fun en w' => en = .returned (.bool (grT l)) ∧ w = w' := by
  obtain ⟨a, c, rfl, hc⟩ := hv.shape
  have HC := Lib.hid hc
  have HS := Lib.hid hs
  unfold maxLen at hl
  clear hc hv hs
  obtain ⟨R, hR⟩ : ∃ R, grT l = R := ⟨_, rfl⟩
  have HR := Lib.hid hR
  rw [hR]; clear hR
  by_cases h30 : 30 < l.length
  · have d30 : decide ((30 : Int) < (l.length : Int)) = true := decide_eq_true (by omega)
    have hRt : R = true := by rw [← HR.out]; unfold grT; rw [decide_eq_true h30]; rfl
    clear h30
    go_enter Try.func20, Try.ntmps20
    go_wp2
    go_ret
    exact ⟨by first | rfl | (rw [hRt]; rfl), rfl⟩
  have d30 : decide ((30 : Int) < (l.length : Int)) = false := decide_eq_false (by omega)
  go_enter Try.func20, Try.ntmps20
  go_wp2_with fail
  go_loop [3] (fun i => ∃ k : Nat, k ≤ l.length ∧ i = .int .i64 k ∧ ∀ x ∈ l.take k, ¬ 2000 < x.2.length) (fun i => l.length - (intOf i).toNat)
  case atStart => exact ⟨0, by omega, rfl, by simp⟩
  case round =>
    obtain ⟨k, hk, rfl, hno⟩ := hrel
    have HN := Lib.hid hno; clear hno
    by_cases hlt : k < l.length
    · have dk : decide ((k : Int) < (l.length : Int)) = true := decide_eq_true (by omega)
      obtain ⟨b, off, rfl, hcc⟩ := HC.out.resolve_left (by intro h; rw [h] at hlt; simp at hlt)
      have c0 := (hcc k hlt).1
      have c1 := (hcc k hlt).2
      have hxl := HS.out l[k] (List.getElem_mem hlt)
      have hnext : l.take (k + 1) = l.take k ++ [l[k]] := List.take_succ_eq_append_getElem hlt
      have hmem : l[k] ∈ l := List.getElem_mem hlt
      obtain ⟨x, hx⟩ : ∃ x, l[k] = x := ⟨_, rfl⟩
      rw [hx] at c0 c1 hnext hmem hxl
      unfold maxLen at hxl
      have hsx := bs_size x.2
      clear hcc hx HC
      by_cases hg : 2000 < x.2.length
      · have dg : decide ((2000 : Int) < (x.2.length : Int)) = true := decide_eq_true (by omega)
        have hRt : R = true := by
          rw [← HR.out]; unfold grT; rw [Bool.or_eq_true]
          exact .inr (List.any_eq_true.2 ⟨x, hmem, decide_eq_true hg⟩)
        clear hg hnext hmem
        go_wp2
        go_ret
        exact ⟨by first | rfl | (rw [hRt]; rfl), rfl⟩
      · have dg : decide ((2000 : Int) < (x.2.length : Int)) = false := decide_eq_false (by omega)
        have HNX := Lib.hid hnext
        have HG := Lib.hid hg
        clear hg hnext hmem
        go_wp2
        exact ⟨⟨k + 1, by omega, by go_num, fun y hy => by
          rw [HNX.out, List.mem_append] at hy
          rcases hy with hy | hy
          · exact HN.out y hy
          · simp at hy; subst hy; exact HG.out⟩, by simp [intOf]; omega⟩
    · have dk : decide ((k : Int) < (l.length : Int)) = false := decide_eq_false (by omega)
      have hRf : R = false := by
        rw [← HR.out]; unfold grT; rw [decide_eq_false h30, Bool.false_or, List.any_eq_false]
        intro x hx
        have := HN.out x (by rw [List.take_of_length_le (by omega)]; exact hx)
        simpa using this
      go_wp2
      go_ret
      exact ⟨by first | rfl | (rw [hRf]; rfl), rfl⟩
end Go.Proofs.Ytblmpndaofhmjaa
