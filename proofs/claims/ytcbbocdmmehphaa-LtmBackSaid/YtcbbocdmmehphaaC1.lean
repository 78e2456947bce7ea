/- cfm: the law's own 'Of'. -/
import Derived.Test.YtcbbocdmmehphaaC0
set_option linter.unusedVariables false
namespace Go.Proofs.Ytcbbocdmmehphaa
open Go.RowKit

/-- A row is as it was, where its block is. -/
theorem TlT.blk {w w' : World} {B : Nat} {v : Value} {l : List Th} (h : TlT w B v l) (ho : ∀ g, B ≤ g → w'.heap[g]? = w.heap[g]?) : TlT w' B v l := by
  obtain ⟨h1, h2⟩ := h
  refine ⟨h1, ?_⟩
  rcases h2 with h2 | ⟨g, cap, cur, hv, hg, hh, r⟩
  · exact .inl h2
  · exact .inr ⟨g, cap, cur, hv, hg, by rw [ho g hg]; exact hh, r⟩
theorem TlT.set {w : World} {B p o : Nat} {v : Value} {l : List Th} (h : TlT w B v l) (hp : p < B) (x : Value) : TlT (w.setCell ⟨p, o, Option.none⟩ x) B v l :=
  h.blk fun g hg => Below.heap_setCell _ _ _ _ (by intro e; simp at e; omega)
theorem PB.below1 {T : TypeId} {W W' : World} {q : Nat} {a b c : Int} {f : List UInt8} {v : Value} (h : PB T W q a b c f v) (hb : Below (q + 1) W W') : PB T W' q a b c f v := h.below (Nat.lt_succ_self q) hb

set_option maxRecDepth 100000 in
set_option maxHeartbeats 4000000 in
theorem of12_any (v : Value) (a b c : Int) (f : List UInt8) (l : List Th) (w : World) (hv : Tls w v l) (hl : l.length ≤ 100000) : Calls Try.prog 18 #[.agg #[.int .u8 a, .int .u8 b, .int .u8 c, .string (bs f), v]] w fun en w' => ∃ v', en = .returned (.agg #[.int .u8 a, .int .u8 b, .int .u8 c, .string (bs f), v']) ∧ TlT w' w.heap.size v' l ∧ Below w.heap.size w w' := by
  have HV := Lib.hid hv
  obtain ⟨ad, cp, rfl, hc⟩ := hv.shape
  clear hc hv
  go_enter Try.func18, Try.ntmps18
  go_upto_region 1 with fail
  have pb0 := (PB.new 24 w a b c f (.slice ad l.length cp)).later ((Below.refl _ _).alloc (Nat.le_refl _) (.cells #[.int .u8 0, .int .u8 0, .int .u8 0, .string { data := #[] }, .slice none 0 0] 32))
  have pb1 : PB 32 ((w.alloc (.cells #[.int .u8 a, .int .u8 b, .int .u8 c, .string (bs f), .slice ad l.length cp] 24)).alloc (.cells #[.int .u8 0, .int .u8 0, .int .u8 0, .string { data := #[] }, .slice none 0 0] 32)) (w.heap.size + 1) 0 0 0 [] (.slice none 0 0) := by
    have := PB.new 32 (w.alloc (.cells #[.int .u8 a, .int .u8 b, .int .u8 c, .string (bs f), .slice ad l.length cp] 24)) 0 0 0 [] (.slice none 0 0)
    rw [show (w.alloc (.cells #[.int .u8 a, .int .u8 b, .int .u8 c, .string (bs f), .slice ad l.length cp] 24)).heap.size = w.heap.size + 1 by simp] at this
    exact this
  have hb0 : Below w.heap.size w ((w.alloc (.cells #[.int .u8 a, .int .u8 b, .int .u8 c, .string (bs f), .slice ad l.length cp] 24)).alloc (.cells #[.int .u8 0, .int .u8 0, .int .u8 0, .string { data := #[] }, .slice none 0 0] 32)) := ((Below.refl _ _).alloc (Nat.le_refl _) _).alloc (by simp) _
  have hz : ((w.alloc (.cells #[.int .u8 a, .int .u8 b, .int .u8 c, .string (bs f), .slice ad l.length cp] 24)).alloc (.cells #[.int .u8 0, .int .u8 0, .int .u8 0, .string { data := #[] }, .slice none 0 0] 32)).heap.size = w.heap.size + 2 := by simp
  obtain ⟨w2, hw2⟩ : ∃ k, (w.alloc (.cells #[.int .u8 a, .int .u8 b, .int .u8 c, .string (bs f), .slice ad l.length cp] 24)).alloc (.cells #[.int .u8 0, .int .u8 0, .int .u8 0, .string { data := #[] }, .slice none 0 0] 32) = k := ⟨_, rfl⟩
  rw [hw2] at pb0 pb1 hb0 hz ⊢
  obtain ⟨ad', cp', hsh, hc⟩ := (HV.out.later hb0).shape
  injection hsh with e1 _ _
  subst e1
  have HC := Lib.hid hc
  have P0 := Lib.hid pb0
  have P1 := Lib.hid pb1
  have HB0 := Lib.hid hb0
  have HZ := Lib.hid hz
  clear hw2 pb0 pb1 hb0 hz hc
  go_wp2_with fail
  go_loopw [3, 4] (fun s i wr => ∃ k : Nat, k ≤ l.length ∧ i = .int .i64 k ∧ TlT wr (w.heap.size + 2) s (l.take k) ∧ Below (w.heap.size + 2) w2 wr) (fun _ i _ => l.length - (intOf i).toNat)
  case atStart => exact ⟨0, by omega, rfl, TlT.none _ _, Below.refl _ _⟩
  case round =>
    obtain ⟨k, hk, rfl, hown, hb⟩ := hrel
    have pc4 := (P0.out.below (by omega) hb).c4
    by_cases hlt : k < l.length
    · have dk : decide ((k : Int) < (l.length : Int)) = true := decide_eq_true (by omega)
      obtain ⟨b', off, rfl, hcc⟩ := HC.out.resolve_left (by intro h; rw [h] at hlt; simp at hlt)
      have hbz : Below w2.heap.size w2 wr := by rw [HZ.out]; exact hb
      have c0 := (hbz.cell (World.block_lt_of_cell? w2 _ (hcc k hlt).1)).trans (hcc k hlt).1
      have c1 := (hbz.cell (World.block_lt_of_cell? w2 _ (hcc k hlt).2)).trans (hcc k hlt).2
      have hnext : l.take (k + 1) = l.take k ++ [l[k]] := List.take_succ_eq_append_getElem hlt
      have hlen : (l.take k).length ≤ 100000 := by simp; omega
      obtain ⟨x, hx⟩ : ∃ x, l[k] = x := ⟨_, rfl⟩
      rw [hx] at c0 c1 hnext
      obtain ⟨x0, hx0⟩ : ∃ x0, (x.1.toNat : Int) = x0 := ⟨_, rfl⟩
      have SRC : Tls (wr.alloc (.cells #[.int .u8 x0, .string (bs x.2)] 64)).drew (.slice (some ⟨wr.heap.size, 0, none⟩) 1 1) [x] := by
        rw [← hx0]; exact (TlT.lit wr 0 x (Nat.zero_le _)).tls.later (Below.refl _ _).drew
      have HSRC := Lib.hid SRC
      clear SRC
      have hsz : w.heap.size + 2 ≤ wr.heap.size := by have := hbz.size; rw [HZ.out] at this; exact this
      have HSZ := Lib.hid hsz
      have HN := Lib.hid hnext
      have HO := Lib.hid hown
      have HB := Lib.hid hb
      rw [hx0] at c0
      clear hown hb hcc hx HC hnext hbz hsz hx0
      go_upto_region 5 with fail
      go_region_law (first
        | (refine step_append_T rfl _ _ rfl (w.heap.size + 2) _ (l.take k) (by rfl) (by exact HO.out.later ((Below.refl _ _).drew.alloc (Nat.le_refl _) _)) _ [x] (by rfl) (by exact HSRC.out) (by simp; omega) (by have := HSZ.out; simp; omega) ?_; intro v1 w1 hown1 hb1))
      all_goals go_wp2
      all_goals exact ⟨⟨k + 1, by omega, by go_num, by rw [HN.out]; exact hown1, ((HB.out.alloc HSZ.out _).drew).trans hb1⟩, by simp [intOf]; omega⟩
    · have dk : decide ((k : Int) < (l.length : Int)) = false := decide_eq_false (by omega)
      have hall : l.take k = l := List.take_of_length_le (by omega)
      rw [hall] at hown
      obtain ⟨sa, sc, rfl, _⟩ := hown.tls.shape
      have p0 := P0.out.below (by omega) hb
      have q0 := P1.out.below (by omega) hb
      have HO := Lib.hid hown
      have HB := Lib.hid (HB0.out.trans (hb.mono (by omega)))
      have pc0 := p0.c0
      have pc1 := p0.c1
      have pc2 := p0.c2
      have pc3 := p0.c3
      have qc0 := q0.c0
      have qc1 := q0.c1
      have qc2 := q0.c2
      have qc3 := q0.c3
      have qc4 := q0.c4
      have qf0 := q0.fr 0
      have qf1 := q0.fr 1
      have qf2 := q0.fr 2
      have qf3 := q0.fr 3
      have qf4 := q0.fr 4
      clear hown hb hall p0 q0
      go_wp2
      refine bodyPost_ret (v := .agg #[.int .u8 a, .int .u8 b, .int .u8 c, .string (bs f), .slice sa l.length sc]) (by simp [results, Try.results18, go_sem, qc0, qc1, qc2, qc3, qc4]) rfl ⟨_, rfl, (((((HO.out.set (by omega) _).set (by omega) _).set (by omega) _).set (by omega) _).set (by omega) _).mono (by omega), below_set (below_set (below_set (below_set (below_set HB.out (by omega) _) (by omega) _) (by omega) _) (by omega) _) (by omega) _⟩
end Go.Proofs.Ytcbbocdmmehphaa
