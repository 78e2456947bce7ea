/- ZB05: the texts WB, RK, MB as one. -/
import Derived.Test.YtpkkjbmgbgakdaaGreatDoorZB04
import Derived.Lib.LazyBuf
/- wire: what other packages use of it (out of W6, W9, W10a, M11). -/
set_option linter.unusedVariables false
namespace Go.Proofs.YtpkkjbmgbgakdaaGreatDoor
open Go.RowKit

theorem wrap_u8 (n : Int) (h0 : 0 ≤ n) : IntKind.u8.wrap n = n % 256 := by
  rw [← IntWalk.u8_in (n % 256) (by omega)]
  simp [IntKind.wrap, IntKind.signed, IntKind.bits]
theorem wrap_u16 (n : Int) (h0 : 0 ≤ n) : IntKind.u16.wrap n = n % 65536 := by
  rw [← IntWalk.u16_in (n % 65536) (by omega)]
  simp [IntKind.wrap, IntKind.signed, IntKind.bits]
theorem wrap_u32 (n : Int) (h0 : 0 ≤ n) : IntKind.u32.wrap n = n % 4294967296 := by
  rw [← IntWalk.u32_in (n % 4294967296) (by omega)]
  simp [IntKind.wrap, IntKind.signed, IntKind.bits]
theorem emod_step (n m : Int) (hm : 0 < m) : n % (256 * m) = (n / 256 % m) * 256 + n % 256 := by
  have h1 := Int.mul_ediv_add_emod n 256
  have h2 := Int.mul_ediv_add_emod (n / 256) m
  have b1 := Int.emod_nonneg n (show (256 : Int) ≠ 0 by decide)
  have b2 := Int.emod_lt_of_pos n (show (0 : Int) < 256 by decide)
  have b3 := Int.emod_nonneg (n / 256) (show m ≠ 0 by omega)
  have b4 := Int.emod_lt_of_pos (n / 256) hm
  have e : n = (n / 256 % m) * 256 + n % 256 + (256 * m) * (n / 256 / m) := by
    calc n = 256 * (n / 256) + n % 256 := h1.symm
      _ = 256 * (m * (n / 256 / m) + n / 256 % m) + n % 256 := by rw [h2]
      _ = _ := by rw [Int.mul_add, ← Int.mul_assoc]; omega
  have e2 : ((n / 256 % m) * 256 + n % 256 + (256 * m) * (n / 256 / m)) % (256 * m) = ((n / 256 % m) * 256 + n % 256) % (256 * m) := Int.add_mul_emod_self_left _ _ _
  rw [← e] at e2
  rw [e2]
  exact Int.emod_eq_of_lt (by omega) (by omega)
theorem numOf_numR : ∀ (k : Nat) (n : Int), numOf (numR k n) = n % 256 ^ k
  | 0, n => by simp [numR, numOf, Int.emod_one]
  | k + 1, n => by
    have hb : (UInt8.ofNat (n % 256).toNat).toNat = (n % 256).toNat := by simp; omega
    rw [numR, numOf_snoc, numOf_numR k, hb, Int.pow_succ, Int.mul_comm (256 ^ k) 256, emod_step n (256 ^ k) (Int.pow_pos (by decide))]
    omega
theorem numOf_be (k : Nat) (n : Int) : numOf (be k n) = n % 256 ^ k := by rw [← numR_be]; exact numOf_numR k n
theorem numR_numOf : ∀ t : List UInt8, numR t.length (numOf t) = t := by
  intro t
  have key : ∀ r : List UInt8, numR r.length (numOf r.reverse) = r.reverse := by
    intro r
    induction r with
    | nil => rfl
    | cons b r ih =>
      have hb := b.toNat_lt
      have h0 := (numOf_bd r.reverse).1
      rw [List.reverse_cons, List.length_cons, numR, numOf_snoc]
      rw [show (numOf r.reverse * 256 + (b.toNat : Int)) / 256 = numOf r.reverse by omega, ih]
      rw [show (numOf r.reverse * 256 + (b.toNat : Int)) % 256 = (b.toNat : Int) by omega]
      simp
  have := key t.reverse
  simpa using this
theorem be_numOf (t : List UInt8) (k : Nat) (h : t.length = k) : be k (numOf t) = t := by rw [← numR_be, ← h]; exact numR_numOf t
theorem be_mod (k : Nat) (n : Int) : be k (n % 256 ^ k) = be k n := by
  rw [← be_numOf (be k n) k (be_length k n), numOf_be]

theorem rdText_app (a r : List UInt8) (k : Nat) (ha : a.length = k) (hk : 1 ≤ k) : rdText (a ++ r) 0 k = (a, r, 0) := by
  unfold rdText
  rw [if_neg (by simp; omega), if_neg (by simp; omega)]
  subst ha
  simp
theorem rdText_short (a : List UInt8) (k : Nat) (ha : a.length < k) : rdText a 0 k = ([], [], 3) := by
  unfold rdText
  rw [if_neg (by simp; omega), if_pos (by omega)]
theorem bs_beq (a b : List UInt8) : (bs a == bs b) = decide (a = b) := by
  have h : (bs a == bs b) = (a.toArray == b.toArray) := rfl
  rw [h, Bool.eq_iff_iff]; simp
theorem bs_bne (a b : List UInt8) : (bs a != bs b) = decide (a ≠ b) := by
  unfold bne; rw [bs_beq]; simp
theorem bs_tl (l : List UInt8) : (bs l).toList = l := by rw [ByteArray.toList_eq]; simp [bs]
theorem bs_tl_eq (a b : List UInt8) : ((bs a).toList == (bs b).toList) = decide (a = b) := by
  rw [bs_tl, bs_tl, Bool.eq_iff_iff]; simp
/-- A store into a block of the call's own. -/
theorem below_set {B b o : Nat} {w W : World} (h : Below B w W) (hb : B ≤ b) (v : Value) : Below B w (W.setCell ⟨b, o, none⟩ v) := h.setCell (p := ⟨b, o, none⟩) hb v

end Go.Proofs.YtpkkjbmgbgakdaaGreatDoor

/- wire: a reader behind a cell that holds its pointer. -/
set_option linter.unusedVariables false
namespace Go.Proofs.YtpkkjbmgbgakdaaGreatDoor
open Go.RowKit

theorem Only.cell {p q o : Nat} {w w' : World} (h : Only p w w') (hq : q < w.heap.size) (hne : q ≠ p) : w'.cell? ⟨q, o, none⟩ = w.cell? ⟨q, o, none⟩ := by
  simp [World.cell?, h.block q hq (by simpa using hne)]
theorem Only.frozen {p q o : Nat} {w w' : World} (h : Only p w w') (hq : q < w.heap.size) (hne : q ≠ p) : w'.frozen? ⟨q, o, none⟩ = w.frozen? ⟨q, o, none⟩ := by
  simp [World.frozen?, h.block q hq (by simpa using hne)]
theorem Only.setNew {p t o : Nat} {w W : World} (h : Only p w W) (ht : w.heap.size ≤ t) (v : Value) : Only p w (W.setCell ⟨t, o, none⟩ v) :=
  ⟨h.os, h.tape, h.output, by simpa [World.setCell] using h.size, fun k hk hne => (Below.heap_setCell _ _ _ _ (by intro e; simp at e; omega)).trans (h.block k hk hne)⟩
theorem Rd.setOther {p t o : Nat} {W : World} {l : List UInt8} {e : Int} (h : Rd W p l e) (ht : t ≠ p) (v : Value) : Rd (W.setCell ⟨t, o, none⟩ v) p l e := by
  unfold Rd; rw [Below.heap_setCell _ _ _ _ (by intro e; simp at e; omega)]; exact h
theorem Only.undrew {p : Nat} {w w' : World} (h : Only p w.drew w') : Only p w w' := ⟨h.os, h.tape, h.output, h.size, h.block⟩
theorem rd_le (l : List UInt8) (e n : Int) : (rdText l e n).2.1.length ≤ l.length := by
  unfold rdText
  repeat' split
  all_goals simp

theorem rd_le1 (l : List UInt8) (e n : Int) : (rdText l e n).1.length ≤ l.length := by
  unfold rdText
  repeat' split
  all_goals simp
  all_goals omega
/-- Take's state: the reader, and the cell that holds its pointer. -/
def TK (w : World) (q : Nat) (W : World) (l : List UInt8) (e : Int) : Prop := Rd W w.heap.size l e ∧ W.cell? ⟨q, 0, none⟩ = some (.pointer (some ⟨w.heap.size, 0, none⟩)) ∧ Below w.heap.size w W ∧ q < W.heap.size ∧ w.heap.size < q
theorem TK.next {w W W' : World} {q : Nat} {l l' : List UInt8} {e e' : Int} (h : TK w q W l e) (hr : Rd W' w.heap.size l' e') (ho : Only w.heap.size W W') : TK w q W' l' e' := by
  obtain ⟨h1, h2, h3, h4, h5⟩ := h
  exact ⟨hr, (ho.cell h4 (by omega)).trans h2, h3.trans (ho.below (Nat.le_refl _) h3.size), Nat.lt_of_lt_of_le h4 ho.size, h5⟩
theorem TK.rd {w W : World} {q : Nat} {l : List UInt8} {e : Int} (h : TK w q W l e) : Rd W w.heap.size l e := h.1
theorem TK.ptr {w W : World} {q : Nat} {l : List UInt8} {e : Int} (h : TK w q W l e) : W.cell? ⟨q, 0, none⟩ = some (.pointer (some ⟨w.heap.size, 0, none⟩)) := h.2.1
theorem TK.bel {w W : World} {q : Nat} {l : List UInt8} {e : Int} (h : TK w q W l e) : Below w.heap.size w W := h.2.2.1
theorem TK.lt {w W : World} {q : Nat} {l : List UInt8} {e : Int} (h : TK w q W l e) : q < W.heap.size := h.2.2.2.1
theorem TK.ne {w W : World} {q : Nat} {l : List UInt8} {e : Int} (h : TK w q W l e) : q ≠ w.heap.size := Nat.ne_of_gt h.2.2.2.2
theorem rd_one (c : UInt8) (r : List UInt8) : rdText (c :: r) 0 1 = ([c], r, 0) := rdText_app [c] r 1 rfl (by omega)
theorem numOf_one (c : UInt8) : numOf [c] = (c.toNat : Int) := by simp [numOf]
theorem rd_exact (a r : List UInt8) : rdText (a ++ r) 0 (a.length : Int) = (a, r, 0) := by
  by_cases h : a.length = 0
  · have : a = [] := List.eq_nil_of_length_eq_zero h
    subst this; rfl
  · exact rdText_app a r a.length rfl (by omega)
end Go.Proofs.YtpkkjbmgbgakdaaGreatDoor

/- An address's block (out of M10, M11). -/
set_option linter.unusedVariables false
namespace Go.Proofs.YtpkkjbmgbgakdaaGreatDoor
open Go.RowKit

/-- An address's whole block. -/
def MB (W : World) (p : Nat) (a b c d e f : Int) : Prop := W.heap[p]? = some (.cells #[.int .u8 a, .int .u8 b, .int .u8 c, .int .u8 d, .int .u8 e, .int .u8 f] 41)
theorem MB.lt {W : World} {p : Nat} {a b c d e f : Int} (h : MB W p a b c d e f) : p < W.heap.size := by
  rcases Nat.lt_or_ge p W.heap.size with h1 | h1
  · exact h1
  · unfold MB at h; rw [Array.getElem?_eq_none h1] at h; cases h
theorem MB.c0 {W : World} {p : Nat} {a b c d e f : Int} (h : MB W p a b c d e f) : W.cell? ⟨p, 0, none⟩ = some (.int .u8 a) := by
  unfold MB at h; simp [World.cell?, h]
theorem MB.f0 {W : World} {p : Nat} {a b c d e f : Int} (h : MB W p a b c d e f) : W.frozen? ⟨p, 0, none⟩ = false := by
  unfold MB at h; simp [World.frozen?, h]
theorem MB.c1 {W : World} {p : Nat} {a b c d e f : Int} (h : MB W p a b c d e f) : W.cell? ⟨p, 1, none⟩ = some (.int .u8 b) := by
  unfold MB at h; simp [World.cell?, h]
theorem MB.f1 {W : World} {p : Nat} {a b c d e f : Int} (h : MB W p a b c d e f) : W.frozen? ⟨p, 1, none⟩ = false := by
  unfold MB at h; simp [World.frozen?, h]
theorem MB.c2 {W : World} {p : Nat} {a b c d e f : Int} (h : MB W p a b c d e f) : W.cell? ⟨p, 2, none⟩ = some (.int .u8 c) := by
  unfold MB at h; simp [World.cell?, h]
theorem MB.f2 {W : World} {p : Nat} {a b c d e f : Int} (h : MB W p a b c d e f) : W.frozen? ⟨p, 2, none⟩ = false := by
  unfold MB at h; simp [World.frozen?, h]
theorem MB.c3 {W : World} {p : Nat} {a b c d e f : Int} (h : MB W p a b c d e f) : W.cell? ⟨p, 3, none⟩ = some (.int .u8 d) := by
  unfold MB at h; simp [World.cell?, h]
theorem MB.f3 {W : World} {p : Nat} {a b c d e f : Int} (h : MB W p a b c d e f) : W.frozen? ⟨p, 3, none⟩ = false := by
  unfold MB at h; simp [World.frozen?, h]
theorem MB.c4 {W : World} {p : Nat} {a b c d e f : Int} (h : MB W p a b c d e f) : W.cell? ⟨p, 4, none⟩ = some (.int .u8 e) := by
  unfold MB at h; simp [World.cell?, h]
theorem MB.f4 {W : World} {p : Nat} {a b c d e f : Int} (h : MB W p a b c d e f) : W.frozen? ⟨p, 4, none⟩ = false := by
  unfold MB at h; simp [World.frozen?, h]
theorem MB.c5 {W : World} {p : Nat} {a b c d e f : Int} (h : MB W p a b c d e f) : W.cell? ⟨p, 5, none⟩ = some (.int .u8 f) := by
  unfold MB at h; simp [World.cell?, h]
theorem MB.f5 {W : World} {p : Nat} {a b c d e f : Int} (h : MB W p a b c d e f) : W.frozen? ⟨p, 5, none⟩ = false := by
  unfold MB at h; simp [World.frozen?, h]
theorem MB.s0 {W : World} {p : Nat} {a b c d e f : Int} (h : MB W p a b c d e f) (y : Int) : MB (W.setCell ⟨p, 0, none⟩ (.int .u8 y)) p y b c d e f := by
  unfold MB at *
  simp [World.setCell, Array.getElem?_modify, h]
theorem MB.s1 {W : World} {p : Nat} {a b c d e f : Int} (h : MB W p a b c d e f) (y : Int) : MB (W.setCell ⟨p, 1, none⟩ (.int .u8 y)) p a y c d e f := by
  unfold MB at *
  simp [World.setCell, Array.getElem?_modify, h]
theorem MB.s2 {W : World} {p : Nat} {a b c d e f : Int} (h : MB W p a b c d e f) (y : Int) : MB (W.setCell ⟨p, 2, none⟩ (.int .u8 y)) p a b y d e f := by
  unfold MB at *
  simp [World.setCell, Array.getElem?_modify, h]
theorem MB.s3 {W : World} {p : Nat} {a b c d e f : Int} (h : MB W p a b c d e f) (y : Int) : MB (W.setCell ⟨p, 3, none⟩ (.int .u8 y)) p a b c y e f := by
  unfold MB at *
  simp [World.setCell, Array.getElem?_modify, h]
theorem MB.s4 {W : World} {p : Nat} {a b c d e f : Int} (h : MB W p a b c d e f) (y : Int) : MB (W.setCell ⟨p, 4, none⟩ (.int .u8 y)) p a b c d y f := by
  unfold MB at *
  simp [World.setCell, Array.getElem?_modify, h]
theorem MB.s5 {W : World} {p : Nat} {a b c d e f : Int} (h : MB W p a b c d e f) (y : Int) : MB (W.setCell ⟨p, 5, none⟩ (.int .u8 y)) p a b c d e y := by
  unfold MB at *
  simp [World.setCell, Array.getElem?_modify, h]
theorem MB.new (W : World) (a b c d e f : Int) : MB (W.alloc (.cells #[.int .u8 a, .int .u8 b, .int .u8 c, .int .u8 d, .int .u8 e, .int .u8 f] 41)) W.heap.size a b c d e f := by
  unfold MB
  show (W.heap.push _)[W.heap.size]? = _
  simp
theorem MB.new' {W : World} {p : Nat} (hp : W.heap.size = p) (a b c d e f : Int) : MB (W.alloc (.cells #[.int .u8 a, .int .u8 b, .int .u8 c, .int .u8 d, .int .u8 e, .int .u8 f] 41)) p a b c d e f := hp ▸ MB.new W a b c d e f
theorem MB.other {W : World} {p q : Nat} {o : Nat} {a b c d e f : Int} (h : MB W p a b c d e f) (hq : q ≠ p) (v : Value) : MB (W.setCell ⟨q, o, none⟩ v) p a b c d e f := by
  unfold MB at *
  simp [World.setCell, Array.getElem?_modify, h, hq]

theorem MB.later {q : Nat} {w w' : World} {a b c d e f : Int} (hr : MB w q a b c d e f) (h : Below w.heap.size w w') : MB w' q a b c d e f := by
  unfold MB; rw [h.block q hr.lt]; exact hr
theorem MB.only {p q : Nat} {w w' : World} {a b c d e f : Int} (hr : MB w q a b c d e f) (h : Only p w w') (hne : q ≠ p) : MB w' q a b c d e f := by
  unfold MB; rw [h.block q hr.lt (by simpa using hne)]; exact hr
theorem MB.some {W : World} {p n : Nat} {a b c d e f : Int} (h : MB W p a b c d e f) (hn : n ≤ 6) : ∀ j, j < n → (W.cell? ⟨p, 0 + j, none⟩).isSome = true := fun j hj => by
  rw [Nat.zero_add]
  have : j = 0 ∨ j = 1 ∨ j = 2 ∨ j = 3 ∨ j = 4 ∨ j = 5 := by omega
  rcases this with rfl | rfl | rfl | rfl | rfl | rfl
  · rw [h.c0]; rfl
  · rw [h.c1]; rfl
  · rw [h.c2]; rfl
  · rw [h.c3]; rfl
  · rw [h.c4]; rfl
  · rw [h.c5]; rfl
theorem MB.free {W : World} {p n : Nat} {a b c d e f : Int} (h : MB W p a b c d e f) (hn : n ≤ 6) : ∀ j, j < n → W.frozen? ⟨p, 0 + j, none⟩ = false := fun j hj => by
  rw [Nat.zero_add]
  have : j = 0 ∨ j = 1 ∨ j = 2 ∨ j = 3 ∨ j = 4 ∨ j = 5 := by omega
  rcases this with rfl | rfl | rfl | rfl | rfl | rfl
  · exact h.f0
  · exact h.f1
  · exact h.f2
  · exact h.f3
  · exact h.f4
  · exact h.f5
theorem MB.cells {W : World} {p : Nat} {a b c d e f : Int} (h : MB W p a b c d e f) (y0 y1 y2 y3 y4 y5 : Int) : MB (W.setCells p 0 [.int .u8 y0, .int .u8 y1, .int .u8 y2, .int .u8 y3, .int .u8 y4, .int .u8 y5]) p y0 y1 y2 y3 y4 y5 :=
  (((((h.s0 y0).s1 y1).s2 y2).s3 y3).s4 y4).s5 y5
theorem MB.cellsOther {p q : Nat} {a b c d e f : Int} (hq : q ≠ p) : ∀ (vs : List Value) (o : Nat) (W : World), MB W p a b c d e f → MB (W.setCells q o vs) p a b c d e f
  | [], _, _, h => h
  | v :: r, o, W, h => MB.cellsOther hq r (o + 1) _ (h.other hq v)
theorem Rd.cellsOther {p q : Nat} {l : List UInt8} {e : Int} (hq : q ≠ p) : ∀ (vs : List Value) (o : Nat) (W : World), Rd W p l e → Rd (W.setCells q o vs) p l e
  | [], _, _, h => h
  | v :: r, o, W, h => Rd.cellsOther hq r (o + 1) _ (h.setOther hq v)
theorem Only.cells {p t : Nat} {w : World} (ht : w.heap.size ≤ t) : ∀ (vs : List Value) (o : Nat) (W : World), Only p w W → Only p w (W.setCells t o vs)
  | [], _, _, h => h
  | v :: r, o, W, h => Only.cells ht r (o + 1) _ (h.setNew ht v)
end Go.Proofs.YtpkkjbmgbgakdaaGreatDoor
