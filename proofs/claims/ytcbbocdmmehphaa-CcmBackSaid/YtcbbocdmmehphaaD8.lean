/- ccm: there and back, plain. -/
import Derived.Test.YtcbbocdmmehphaaD4
import Derived.Test.YtcbbocdmmehphaaRC
import Derived.Test.YtcbbocdmmehphaaC10
set_option linter.unusedVariables false
namespace Go.Proofs.Ytcbbocdmmehphaa
open Go.RowKit

-- (the next lemmas lie in D6 and D7 too: a claim holds 60 files at most, so this text does without those)
theorem rdn_ok (l : List UInt8) (n : Nat) (h0 : 1 ≤ n) (h : n ≤ l.length) : rdText l 0 (n : Int) = (l.take n, l.drop n, 0) := by
  unfold rdText; rw [if_neg (by omega), if_neg (by omega)]; simp
theorem rdn_no (l : List UInt8) (n : Nat) (h : l.length < n) : rdText l 0 (n : Int) = ([], [], 3) := by
  unfold rdText; rw [if_neg (by omega), if_pos (by omega)]
theorem rdn_err (n : Int) : rdText [] 3 n = ([], [], 3) := by unfold rdText; rw [if_pos (Or.inr (by decide))]
theorem crE_iff (f : List UInt8) : crE f = 0 ↔ f.length = 70 := by
  by_cases h1 : f.length < 4
  · have q1 : cr1 f = ([], [], 3) := rdn_no f 4 h1
    have q2 : cr2 f = ([], [], 3) := by unfold cr2; rw [q1]; exact rdn_err 2
    have q3 : cr3 f = ([], [], 3) := by unfold cr3; rw [q2]; exact rdn_err 48
    have q4 : cr4 f = ([], [], 3) := by unfold cr4; rw [q3]; exact rdn_err 16
    unfold crE; rw [q4]; constructor
    · intro h; exact absurd h (by decide)
    · intro h; omega
  have q1 : cr1 f = (f.take 4, f.drop 4, 0) := rdn_ok f 4 (by decide) (by omega)
  by_cases h2 : f.length < 6
  · have q2 : cr2 f = ([], [], 3) := by unfold cr2; rw [q1]; exact rdn_no _ 2 (by simp; omega)
    have q3 : cr3 f = ([], [], 3) := by unfold cr3; rw [q2]; exact rdn_err 48
    have q4 : cr4 f = ([], [], 3) := by unfold cr4; rw [q3]; exact rdn_err 16
    unfold crE; rw [q4]; constructor
    · intro h; exact absurd h (by decide)
    · intro h; omega
  have q2 : cr2 f = ((f.drop 4).take 2, f.drop 6, 0) := by
    unfold cr2; rw [q1]
    have := rdn_ok (f.drop 4) 2 (by decide) (by simp; omega)
    rw [List.drop_drop] at this; exact this
  by_cases h3 : f.length < 54
  · have q3 : cr3 f = ([], [], 3) := by unfold cr3; rw [q2]; exact rdn_no _ 48 (by simp; omega)
    have q4 : cr4 f = ([], [], 3) := by unfold cr4; rw [q3]; exact rdn_err 16
    unfold crE; rw [q4]; constructor
    · intro h; exact absurd h (by decide)
    · intro h; omega
  have q3 : cr3 f = ((f.drop 6).take 48, f.drop 54, 0) := by
    unfold cr3; rw [q2]
    have := rdn_ok (f.drop 6) 48 (by decide) (by simp; omega)
    rw [List.drop_drop] at this; exact this
  by_cases h4 : f.length < 70
  · have q4 : cr4 f = ([], [], 3) := by unfold cr4; rw [q3]; exact rdn_no _ 16 (by simp; omega)
    unfold crE; rw [q4]; constructor
    · intro h; exact absurd h (by decide)
    · intro h; omega
  have q4 : cr4 f = ((f.drop 54).take 16, f.drop 70, 0) := by
    unfold cr4; rw [q3]
    have := rdn_ok (f.drop 54) 16 (by decide) (by simp; omega)
    rw [List.drop_drop] at this; exact this
  unfold crE rdEnd; rw [q4]
  by_cases h5 : f.length = 70
  · rw [if_neg (by simp; omega)]; simp [h5]
  · rw [if_pos (by simp; omega)]
    constructor
    · intro h; exact absurd h (by simp [rdFail])
    · intro h; exact absurd h h5
theorem cr_70 (f : List UInt8) (h : f.length = 70) : cr1 f = (f.take 4, f.drop 4, 0) ∧ cr2 f = ((f.drop 4).take 2, f.drop 6, 0) ∧ cr3 f = ((f.drop 6).take 48, f.drop 54, 0) := by
  have q1 : cr1 f = (f.take 4, f.drop 4, 0) := rdn_ok f 4 (by decide) (by omega)
  have q2 : cr2 f = ((f.drop 4).take 2, f.drop 6, 0) := by
    unfold cr2; rw [q1]
    have := rdn_ok (f.drop 4) 2 (by decide) (by simp; omega)
    rw [List.drop_drop] at this; exact this
  have q3 : cr3 f = ((f.drop 6).take 48, f.drop 54, 0) := by
    unfold cr3; rw [q2]
    have := rdn_ok (f.drop 6) 48 (by decide) (by simp; omega)
    rw [List.drop_drop] at this; exact this
  exact ⟨q1, q2, q3⟩
theorem CB.both {T T' : TypeId} {W : World} {q q' : Nat} {xlv : Int} {xrd : Bool} {xiv xsq xme : Int} {xm : List UInt8} (h : CB T W q xlv xrd xiv xsq xme xm) (h' : CB T' W q' xlv xrd xiv xsq xme xm) :
    W.cell? ⟨q, 0, none⟩ = some (.int .u8 xlv) ∧ W.cell? ⟨q, 1, none⟩ = some (.bool xrd) ∧ W.cell? ⟨q, 2, none⟩ = some (.int .u8 xiv) ∧ W.cell? ⟨q, 3, none⟩ = some (.int .u32 xsq) ∧ W.cell? ⟨q, 4, none⟩ = some (.int .u16 xme) ∧ W.cell? ⟨q, 5, none⟩ = some (.string (bs xm)) ∧
    W.cell? ⟨q', 0, none⟩ = some (.int .u8 xlv) ∧ W.cell? ⟨q', 1, none⟩ = some (.bool xrd) ∧ W.cell? ⟨q', 2, none⟩ = some (.int .u8 xiv) ∧ W.cell? ⟨q', 3, none⟩ = some (.int .u32 xsq) ∧ W.cell? ⟨q', 4, none⟩ = some (.int .u16 xme) ∧ W.cell? ⟨q', 5, none⟩ = some (.string (bs xm)) :=
  ⟨h.c0, h.c1, h.c2, h.c3, h.c4, h.c5, h'.c0, h'.c1, h'.c2, h'.c3, h'.c4, h'.c5⟩

theorem fxC_len {sq me : Int} {m : List UInt8} (h : m.length = 48) : (fxC sq me m).length = 70 := by simp [fxC, be_length, h]
theorem putC_cases (lv : Int) (rd : Bool) (iv sq me : Int) (m : List UInt8) : (mayC lv iv me m = true ∧ putC lv rd iv sq me m = (lv, 1, iv + (if rd = true then 128 else 0), fxC sq me m, 0)) ∨ (putC lv rd iv sq me m = (0, 0, 0, [], 2)) := by
  by_cases h : mayC lv iv me m = true
  · left; exact ⟨h, by unfold putC; rw [if_pos h]⟩
  · right; unfold putC; rw [if_neg h]
/-- What is put is well made, and is taken. -/
theorem putC_ok {lv : Int} {rd : Bool} {iv sq me : Int} {m : List UInt8} (hl : 0 ≤ lv) (hsq : 0 ≤ sq ∧ sq < 4294967296) {A B C : Int} {F : List UInt8} {e : Int} (h : putC lv rd iv sq me m = (A, B, C, F, e)) :
    (e = 2 ∧ A = 0 ∧ B = 0 ∧ C = 0 ∧ F = []) ∨ (e = 0 ∧ (0 ≤ A ∧ A < 256) ∧ (0 ≤ B ∧ B < 256) ∧ (0 ≤ C ∧ C < 256) ∧ F.length = 70 ∧ tkC A B C F = (lv, rd, iv, sq, me, m, 0) ∧ ∃ X, putP A B C F [] = (X, 0) ∧ X.length ≤ 200 ∧ ∀ r, tkP (X ++ r) = (A, B, C, F, [], 0)) := by
  rcases putC_cases lv rd iv sq me m with ⟨hm, hp⟩ | hp
  · right
    rw [hp] at h
    obtain ⟨h1, h2, h3, h4, h5, h6⟩ := mayC_len hm
    have ht := cput_take (rd := rd) (sq := sq) hm hsq
    injection h with a1 h
    injection h with a2 h
    injection h with a3 h
    injection h with a4 a5
    have hF := fxC_len (sq := sq) (me := me) h6
    have hC : 0 ≤ iv + (if rd = true then 128 else 0) ∧ iv + (if rd = true then 128 else 0) < 256 := by
      cases rd
      · simp; omega
      · simp; omega
    rw [a3] at hC ht
    rw [a4] at hF ht
    have hB : (0 : Int) ≤ B ∧ B < 256 := by omega
    have hA : (0 : Int) ≤ A ∧ A < 256 := by omega
    have hX : putP A B C F [] = (hdP A B C F ++ F ++ [0], 0) := by
      unfold putP
      rw [if_neg (by omega), if_neg (by omega)]
      rfl
    refine ⟨a5.symm, hA, hB, hC, hF, by rw [← a1, ← a2]; exact ht, _, hX, by simp [hdP, hF], ?_⟩
    rcases putP_ok hX hA hB hC with ⟨k, _⟩ | ⟨_, k, _⟩
    · exact absurd rfl k
    · exact k
  · left
    rw [hp] at h
    injection h with a1 h
    injection h with a2 h
    injection h with a3 h
    injection h with a4 a5
    exact ⟨a5.symm, a1.symm, a2.symm, a3.symm, a4.symm⟩
/-- What is taken is put again, the same in its first 54 octets. -/
theorem tkC_ok {a b c : Int} {f : List UInt8} (hc : 0 ≤ c ∧ c < 256) (ha : 0 ≤ a) {lv : Int} {rd : Bool} {iv sq me : Int} {m : List UInt8} {e : Int} (h : tkC a b c f = (lv, rd, iv, sq, me, m, e)) :
    (e = 4 ∧ lv = 0 ∧ rd = false ∧ iv = 0 ∧ sq = 0 ∧ me = 0 ∧ m = []) ∨ (e = 0 ∧ 0 ≤ lv ∧ (0 ≤ sq ∧ sq < 4294967296) ∧ (0 ≤ me ∧ me < 65536) ∧ m.length = 48 ∧ f.length = 70 ∧ ∃ A B C F, putC lv rd iv sq me m = (A, B, C, F, 0) ∧ F.take 54 = f.take 54) := by
  unfold tkC at h
  split at h
  · rename_i hk
    obtain ⟨k1, k2, k3⟩ := hk
    right
    have h70 := (crE_iff f).1 k2
    obtain ⟨q1, q2, q3⟩ := cr_70 f h70
    rw [q2, q3] at k3
    rw [q1, q2, q3] at h
    injection h with a1 h
    injection h with a2 h
    injection h with a3 h
    injection h with a4 h
    injection h with a5 h
    injection h with a6 a7
    rw [a1, a3, a5, a6] at k3
    obtain ⟨h1, h2, h3, h4, h5, h6⟩ := mayC_len k3
    have b4 := numOf_bd (f.take 4)
    have l4 : (f.take 4).length = 4 := by simp; omega
    have n4 := numOf_lt (f.take 4) 4 4294967296 (by omega) (by decide)
    have e4 : be 4 sq = f.take 4 := by rw [← a4]; exact be_numOf _ 4 l4
    have l2 : ((f.drop 4).take 2).length = 2 := by simp; omega
    have e2 : be 2 me = (f.drop 4).take 2 := by rw [← a5]; exact be_numOf _ 2 l2
    rw [a4] at b4 n4
    refine ⟨a7.symm, by omega, ⟨b4.1, n4⟩, by omega, h6, h70, lv, 1, iv + (if rd = true then 128 else 0), fxC sq me m, ?_, ?_⟩
    · unfold putC; rw [if_pos k3]
    · unfold fxC
      have e6 : m = (f.drop 6).take 48 := a6.symm
      rw [e4, e2, List.take_append_of_le_length (by simp; omega), List.take_of_length_le (by simp; omega), e6]
      have s1 : f.take 6 = f.take 4 ++ (f.drop 4).take 2 := by rw [← List.take_add]
      have s2 : f.take 54 = f.take 6 ++ (f.drop 6).take 48 := by rw [← List.take_add]
      rw [s2, s1]
  · left
    injection h with a1 h
    injection h with a2 h
    injection h with a3 h
    injection h with a4 h
    injection h with a5 h
    injection h with a6 a7
    exact ⟨a7.symm, a1.symm, a2.symm, a3.symm, a4.symm, a5.symm, a6.symm⟩
end Go.Proofs.Ytcbbocdmmehphaa
