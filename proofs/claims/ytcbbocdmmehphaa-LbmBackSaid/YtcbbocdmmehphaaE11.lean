/- lbm: there and back, plain. -/
import Derived.Test.YtcbbocdmmehphaaE8
import Derived.Test.YtcbbocdmmehphaaRL
import Derived.Test.YtcbbocdmmehphaaRP
import Derived.Test.YtcbbocdmmehphaaC2
import Derived.Test.YtcbbocdmmehphaaT12
set_option linter.unusedVariables false
namespace Go.Proofs.Ytcbbocdmmehphaa
open Go.RowKit

/-- What is put is taken, whatever is behind it. (C10 has it too: without it this claim holds fewer files.) -/
theorem putP_takes {a b c : Int} {f : List UInt8} {l : List Th} (ha : 0 ≤ a ∧ a ≤ 7) (hb : 0 ≤ b ∧ b < 256) (hc : 0 ≤ c ∧ c < 256) (hf : f.length ≤ 255) (hok : ∀ x ∈ l, okT x = 0) :
    ∃ A, putP a b c f l = (A, 0) ∧ A.length = 4 + f.length + (l.flatMap thB).length + 1 ∧ ∀ r, tkP (A ++ r) = (a, b, c, f, l, 0) := by
  have hp := putT_all l hok
  refine ⟨hdP a b c f ++ f ++ (l.flatMap thB ++ [0]), ?_, ?_, fun r => ?_⟩
  · unfold putP
    rw [if_neg (by omega), if_neg (by omega), hp]
    rfl
  · simp only [hdP, List.length_append, List.length_cons, List.length_nil]; omega
  · have e1 : (byt (a * 32)).toNat = (a * 32).toNat := by have := byt_nat (a * 32) (by omega); omega
    have e2 : ((byt b).toNat : Int) = b := byt_nat b hb
    have e3 : ((byt c).toNat : Int) = c := byt_nat c hc
    have e4 : (byt (f.length : Int)).toNat = f.length := by have := byt_nat (f.length : Int) (by omega); omega
    have hm : ((byt (a * 32)).toNat : Int) % 32 = 0 := by have := byt_nat (a * 32) (by omega); omega
    have hd : ((byt (a * 32)).toNat : Int) / 32 = a := by have := byt_nat (a * 32) (by omega); omega
    have eA : hdP a b c f ++ f ++ (l.flatMap thB ++ [0]) ++ r = byt (a * 32) :: byt b :: byt c :: byt (f.length : Int) :: ((f ++ (l.flatMap thB ++ [0])) ++ r) := by simp [hdP]
    rw [eA, tkP_cons, if_neg (by omega), e4, if_neg (by simp), hd, e2, e3]
    have d1 : ((f ++ (l.flatMap thB ++ [0])) ++ r).drop f.length = l.flatMap thB ++ 0 :: r := by simp
    have d2 : ((f ++ (l.flatMap thB ++ [0])) ++ r).take f.length = f := by simp
    rw [d1, d2, putT_take l r hok]; rfl
theorem lm_len4 (f : List UInt8) (h : f.length = 4) : lm1 f = (f, [], 0) := by
  unfold lm1 rdText; rw [if_neg (by omega), if_neg (by omega)]; simp [h]
  exact List.take_of_length_le (by omega)
theorem lmE_len4 (f : List UInt8) (h : f.length = 4) : lmE f = 0 := by
  unfold lmE; rw [lm_len4 f h]; rfl
theorem find_thL (dt : List UInt8) : (findT (thL dt) 3).1 = dt := by
  unfold thL
  by_cases h : dt = []
  · rw [if_pos h, h]; rfl
  · rw [if_neg h]; rfl
theorem tkL_put (a b nm : Int) (dt : List UInt8) (hb : b = 2 ∨ b = 3) (hn : 0 ≤ nm ∧ nm < 4294967296) : tkL a b (be 4 nm) (thL dt) = (a, decide (b = 2), nm, dt, 0) := by
  have h4 := be_length 4 nm
  have hnm : numOf (be 4 nm) = nm := by rw [numOf_be]; exact Int.emod_eq_of_lt hn.1 (by have := hn.2; omega)
  unfold tkL
  rw [if_pos ⟨hb, lmE_len4 _ h4⟩, lm_len4 _ h4, find_thL, hnm]
/-- What becomes of a loop that is put. -/
theorem putL_ok {lv : Int} {rp : Bool} {nm : Int} {dt : List UInt8} (h0 : 0 ≤ lv) (hn : 0 ≤ nm ∧ nm < 4294967296) {A B : Int} {F : List UInt8} {L : List Th} {e : Int} (h : putL lv rp nm dt = (A, B, F, L, e)) :
    e ≠ 0 ∨ (e = 0 ∧ (0 ≤ A ∧ A < 256) ∧ (0 ≤ B ∧ B < 256) ∧ F.length = 4 ∧ L.length ≤ 1 ∧ (∀ x ∈ L, x.2.length ≤ 64) ∧ (∃ X, putP A B 0 F L = (X, 0) ∧ X.length ≤ 200 ∧ ∀ r, tkP (X ++ r) = (A, B, 0, F, L, 0)) ∧
      tkL A B F L = (lv, rp, nm, dt, 0) ∧ ansL A B 0 F L = (if rp = true then (0, 0, 0, [], [], 4) else (A, 2, 0, F, L, 0)) ∧ tkL A 2 F L = (lv, true, nm, dt, 0)) := by
  unfold putL at h
  by_cases h7 : 7 < lv
  · rw [if_pos h7] at h; left; have := congrArg (·.2.2.2.2) h; simp at this; omega
  rw [if_neg h7] at h
  by_cases h6 : 64 < dt.length
  · rw [if_pos h6] at h; left; have := congrArg (·.2.2.2.2) h; simp at this; omega
  rw [if_neg h6] at h
  right
  simp only [Prod.mk.injEq] at h
  obtain ⟨rfl, rfl, rfl, rfl, rfl⟩ := h
  have h4 := be_length 4 nm
  have hL : (thL dt).length ≤ 1 := by unfold thL; split <;> simp
  have hx : ∀ x ∈ thL dt, x = (3, dt) := by
    intro x hx; unfold thL at hx; split at hx
    · simp at hx
    · exact List.mem_singleton.1 hx
  have hok : ∀ x ∈ thL dt, okT x = 0 := by
    intro x hm; rw [hx x hm]; unfold okT; rw [if_neg (show ¬ (3 : UInt8) = 0 by decide), if_neg (by show ¬ 1480 < dt.length; omega)]
  have hfl : ((thL dt).flatMap thB).length ≤ 67 := by
    unfold thL; split
    · simp
    · simp [thB, be_length]; omega
  obtain ⟨X, k1, k2, k3⟩ := putP_takes (a := lv) (b := if rp = true then 2 else 3) (c := 0) (f := be 4 nm) (l := thL dt) (by omega) (by cases rp <;> decide) (by omega) (by omega) hok
  have t1 : tkL lv (if rp = true then 2 else 3) (be 4 nm) (thL dt) = (lv, rp, nm, dt, 0) := by
    rw [tkL_put lv _ nm dt (by cases rp <;> decide) hn]; cases rp <;> rfl
  refine ⟨rfl, by omega, by cases rp <;> decide, h4, hL, fun x hm => by rw [hx x hm]; show dt.length ≤ 64; omega, ⟨X, k1, by omega, k3⟩, t1, ?_, tkL_put lv 2 nm dt (Or.inl rfl) hn⟩
  unfold ansL
  rw [t1]
  cases rp
  · rw [if_pos ⟨rfl, rfl⟩]; rfl
  · rw [if_neg (by simp)]; rfl
theorem putT_small (L : List Th) (h1 : L.length ≤ 1) (h2 : ∀ x ∈ L, x.2.length ≤ 64) : (putT L).1.length ≤ 100 := by
  match L, h1 with
  | [], _ => simp [putT]
  | [x], _ =>
    have := h2 x (List.mem_singleton_self x)
    unfold putT
    repeat' split
    · simp [putT, thB, be_length]; omega
    · simp
    · simp
/-- A message that is answered is a question. -/
theorem ansL_ok {a b c : Int} {f : List UInt8} {l : List Th} : (ansL a b c f l = (0, 0, 0, [], [], 4)) ∨ (ansL a b c f l = (a, 2, c, f, l, 0) ∧ b = 3) := by
  unfold ansL
  by_cases h : (tkL a b f l).2.2.2.2 = 0 ∧ (tkL a b f l).2.1 = false
  · right
    rw [if_pos h]
    refine ⟨rfl, ?_⟩
    unfold tkL at h
    by_cases k : (b = 2 ∨ b = 3) ∧ lmE f = 0
    · rw [if_pos k] at h
      rcases k.1 with k1 | k1
      · have := h.2; simp [k1] at this
      · exact k1
    · rw [if_neg k] at h; exact absurd h.1 (by decide)
  · left; rw [if_neg h]
end Go.Proofs.Ytcbbocdmmehphaa
