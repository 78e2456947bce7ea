/- The reader of a message. -/
import Derived.Test.YtcbbocdmmehphaaK4
set_option linter.unusedVariables false
namespace Go.Proofs.Ytcbbocdmmehphaa
open Go.ChangeShapes Go.WideShapes Go.ChangeAt Go.RowKit Go.Deep Go.Joins
open Go.ChangeMaps (open_string shut_string)

set_option maxRecDepth 100000 in
/-- An argument of things. -/
theorem tls_sl_ref11_Tlv {H : Type} {enc : TypeId × Value → H} {w : World} {base : Nat} {spare : Nat → Bool} {held : Bool} {v : Value} {d : DataW H} {p : List MemPlace}
    (h : DataW.Trod enc Try.prog w base spare held 22 v d p) (hsh : ∃ a len cap, v = .slice a len cap) : ∃ (l : List Th), Tls w v l ∧ l.length ≤ maxLen ∧ ∀ x ∈ l, x.2.length ≤ maxLen := by
  obtain ⟨fuel, hf⟩ := h
  obtain ⟨a, len, cap, rfl⟩ := hsh
  rcases open_slice Try.underlying22 hf with ⟨hcs, _⟩ | ⟨x, len', cap', m, n, D, Pl, hcs, _, hl, hm, hmm, _, hi⟩
  · simp [Value.cells] at hcs
    obtain ⟨rfl, rfl, rfl⟩ := hcs
    exact ⟨[], Tls.nil w, by decide, by simp⟩
  · simp [Value.cells] at hcs
    obtain ⟨rfl, rfl, rfl⟩ := hcs
    have hlm : len ≤ m := by rw [hmm]; split <;> omega
    have ce : Try.prog.cellsOf 65 = 2 := by kernel_rfl
    have el : ∀ i, i < len → ∃ q : Th, w.cell? (x.add (i * 2)) = some (.int .u8 (q.1.toNat : Int)) ∧ w.cell? ((x.add (i * 2)).add 1) = some (.string (bs q.2)) ∧ q.2.length ≤ maxLen := by
      intro i hil
      obtain ⟨cs', hc, ht'⟩ := hi i (by omega)
      rw [ce] at hc
      obtain ⟨_, hcl, hat⟩ := World.cells?_some hc
      obtain ⟨y0, y1, n', _, _, t0, t1⟩ := trod_struct2 Try.underlying65 ht'
      match cs', hcl with
      | [z0, z1], _ =>
        have t0' : DataW.trod enc Try.prog w base spare held n' 5 [z0] = some y0 := t0
        have t1' : DataW.trod enc Try.prog w base spare held n' 9 [z1] = some y1 := t1
        obtain ⟨q0, rfl, w0⟩ := trod_int1 Try.underlying5 t0' rfl
        obtain ⟨s', hs', _, hsz'⟩ := DataW.trod_string Try.underlying9 t1'
        obtain rfl : z1 = .string s' := by simpa using hs'
        have e0 := hat 0 (by omega)
        have e1 := hat 1 (by omega)
        have b0 := bounds_u8 w0
        refine ⟨(UInt8.ofNat q0.toNat, s'.data.toList), ?_, ?_, by simpa using hsz'⟩
        · have : (((UInt8.ofNat q0.toNat).toNat : Nat) : Int) = q0 := by simp; omega
          rw [this]; simpa [Addr.add] using e0
        · rw [← bs_of s']; simpa using e1
    obtain ⟨f, hfl⟩ := choose_lt el
    by_cases hz : len = 0
    · subst hz
      exact ⟨[], .inr ⟨x, cap, rfl, .inl rfl⟩, by decide, by simp⟩
    · obtain ⟨b, off, spot⟩ := x
      have hspot : spot = Option.none := by
        have := (hfl 0 (by omega)).1
        simpa [Addr.add] using World.cell?_spot this
      subst hspot
      refine ⟨(List.range len).map f, .inr ⟨⟨b, off, Option.none⟩, cap, by simp, .inr ⟨b, off, rfl, fun j hj => ?_⟩⟩, by simp; omega, fun y hy => ?_⟩
      rotate_left
      · obtain ⟨j, hj, rfl⟩ := List.mem_map.1 hy
        exact (hfl j (List.mem_range.1 hj)).2.2
      have hj' : j < len := by simpa using hj
      obtain ⟨a1, a2, _⟩ := hfl j hj'
      rw [add_plain] at a1 a2
      rw [add_plain] at a2
      simpa using ⟨a1, a2⟩
theorem list5 {α : Type} (l : List α) (h : l.length = 5) : ∃ c0 c1 c2 c3 c4, l = [c0, c1, c2, c3, c4] := by
  match l, h with
  | [c0, c1, c2, c3, c4], _ => exact ⟨c0, c1, c2, c3, c4, rfl⟩
/-- What is known of a message that is an argument. -/
def PdA (w : World) (a b c : Int) (f : List UInt8) (v : Value) (l : List Th) : Prop := (0 ≤ a ∧ a < 256) ∧ (0 ≤ b ∧ b < 256) ∧ (0 ≤ c ∧ c < 256) ∧ f.length ≤ maxLen ∧ Tls w v l ∧ l.length ≤ maxLen ∧ ∀ x ∈ l, x.2.length ≤ maxLen
set_option maxRecDepth 100000 in
theorem rd_pdu {H : Type} {enc : TypeId × Value → H} {w : World} {r : Reach} {b0 base : Nat} {spare : Nat → Bool} {held : Bool} {v : Value} {d : DataW H} {p : List MemPlace}
    (hv : Value.okWide Try.prog w r b0 24 v) (h : DataW.Trod enc Try.prog w base spare held 24 v d p) :
    ∃ (a b c : Int) (f : List UInt8) (u : Value) (l : List Th), v = .agg #[.int .u8 a, .int .u8 b, .int .u8 c, .string (bs f), u] ∧ PdA w a b c f u l := by
  obtain ⟨cs, rfl, hsz⟩ := okWide_struct Try.underlying24 hv
  rw [show Try.prog.cellsOf 24 = 5 by kernel_rfl] at hsz
  obtain ⟨fuel, hf⟩ := h
  obtain ⟨xs, n, _, _, _, hlen, hi⟩ := DataW.trod_struct Try.underlying24 hf
  obtain ⟨y0, y1, y2, y3, y4, rfl⟩ := list5 xs hlen
  obtain ⟨c0, c1, c2, c3, c4, hcs⟩ := list5 cs.toList (by rw [Array.length_toList, hsz])
  have k8 : Try.prog.cellsOf 5 = 1 := by kernel_rfl
  have ks : Try.prog.cellsOf 9 = 1 := by kernel_rfl
  have kl : Try.prog.cellsOf 22 = 1 := by kernel_rfl
  have h0 : DataW.trod enc Try.prog w base spare held n 5 ((cs.toList.drop 0).take (Try.prog.cellsOf 5)) = some y0 := hi 0 _ rfl
  have h1 : DataW.trod enc Try.prog w base spare held n 5 ((cs.toList.drop 1).take (Try.prog.cellsOf 5)) = some y1 := hi 1 _ rfl
  have h2 : DataW.trod enc Try.prog w base spare held n 5 ((cs.toList.drop 2).take (Try.prog.cellsOf 5)) = some y2 := hi 2 _ rfl
  have h3 : DataW.trod enc Try.prog w base spare held n 9 ((cs.toList.drop 3).take (Try.prog.cellsOf 9)) = some y3 := hi 3 _ rfl
  have h4 : DataW.trod enc Try.prog w base spare held n 22 ((cs.toList.drop 4).take (Try.prog.cellsOf 22)) = some y4 := hi 4 _ rfl
  rw [hcs, k8] at h0 h1 h2
  rw [hcs, ks] at h3
  rw [hcs, kl] at h4
  obtain ⟨a0, e0, w0⟩ := trod_int1 Try.underlying5 h0 rfl
  obtain ⟨a1, e1, w1⟩ := trod_int1 Try.underlying5 h1 rfl
  obtain ⟨a2, e2, w2⟩ := trod_int1 Try.underlying5 h2 rfl
  obtain ⟨s, e3, _, w3⟩ := DataW.trod_string Try.underlying9 h3
  have h4' : DataW.trod enc Try.prog w base spare held n 22 [c4] = some y4 := h4
  have hsh : ∃ a len cap, c4 = .slice a len cap := by
    rcases open_slice Try.underlying22 h4' with ⟨hcs', _⟩ | ⟨x, len', cap', m, n', D, Pl, hcs', _⟩
    · injection hcs' with hh _; exact ⟨_, _, _, hh⟩
    · injection hcs' with hh _; exact ⟨_, _, _, hh⟩
  obtain ⟨a', len, cap, rfl⟩ := hsh
  obtain ⟨l, hl⟩ := tls_sl_ref11_Tlv (v := .slice a' len cap) (p := y4.2) (d := y4.1) ⟨n, h4'⟩ ⟨_, _, _, rfl⟩
  refine ⟨a0, a1, a2, s.data.toList, .slice a' len cap, l, ?_, ?_, ?_, ?_, ?_, hl⟩
  · rw [← bs_of s]
    simp only [List.drop, List.take, List.cons.injEq, and_true] at e3
    subst e0 e1 e2 e3
    rw [show cs = cs.toList.toArray from rfl, hcs]
  · have := bounds_u8 w0; omega
  · have := bounds_u8 w1; omega
  · have := bounds_u8 w2; omega
  · have := bs_size s.data.toList
    rw [← bs_of s] at this
    omega
end Go.Proofs.Ytcbbocdmmehphaa
