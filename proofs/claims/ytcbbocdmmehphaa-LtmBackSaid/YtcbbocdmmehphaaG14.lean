/- ltm: there and back, plain. -/
import Derived.Test.YtcbbocdmmehphaaG13
import Derived.Test.YtcbbocdmmehphaaG8
import Derived.Test.YtcbbocdmmehphaaT12
set_option linter.unusedVariables false
namespace Go.Proofs.Ytcbbocdmmehphaa
open Go.RowKit

/-- What is put is taken, whatever is behind it. (E11 has it too: without it this claim holds fewer files.) -/
theorem putP_takesG {a b c : Int} {f : List UInt8} {l : List Th} (ha : 0 ≤ a ∧ a ≤ 7) (hb : 0 ≤ b ∧ b < 256) (hc : 0 ≤ c ∧ c < 256) (hf : f.length ≤ 255) (hok : ∀ x ∈ l, okT x = 0) :
    ∃ A, putP a b c f l = (A, 0) ∧ A.length = 4 + f.length + (l.flatMap thB).length + 1 ∧ ∀ r, tkP (A ++ r) = (a, b, c, f, l, 0) := by
  have hp := putT_all l hok
  refine ⟨hdP a b c f ++ f ++ (l.flatMap thB ++ [0]), ?_, ?_, fun r => ?_⟩
  · unfold putP
    rw [if_neg (by omega), if_neg (by omega), hp]
    rfl
  · simp only [hdP, List.length_append, List.length_cons, List.length_nil]; omega
  · have e1 : (byt (a * 32)).toNat = (a * 32).toNat := by have := byt_nat (a * 32) (by omega); omega
    have e2 : ((byt b).toNat : Int) = b := byt_nat b hb
    have e3 : ((byt c).toNat : Int) = c := byt_nat c hc
    have e4 : (byt (f.length : Int)).toNat = f.length := by have := byt_nat (f.length : Int) (by omega); omega
    have hm : ((byt (a * 32)).toNat : Int) % 32 = 0 := by have := byt_nat (a * 32) (by omega); omega
    have hd : ((byt (a * 32)).toNat : Int) / 32 = a := by have := byt_nat (a * 32) (by omega); omega
    have eA : hdP a b c f ++ f ++ (l.flatMap thB ++ [0]) ++ r = byt (a * 32) :: byt b :: byt c :: byt (f.length : Int) :: ((f ++ (l.flatMap thB ++ [0])) ++ r) := by simp [hdP]
    rw [eA, tkP_cons, if_neg (by omega), e4, if_neg (by simp), hd, e2, e3]
    have d1 : ((f ++ (l.flatMap thB ++ [0])) ++ r).drop f.length = l.flatMap thB ++ 0 :: r := by simp
    have d2 : ((f ++ (l.flatMap thB ++ [0])) ++ r).take f.length = f := by simp
    rw [d1, d2, putT_take l r hok]; rfl
theorem mcOf_by (m : Mc) (h : m.Ok) : mcOf m.by = m :=
  Mc.ext' (byt_nat _ h.a) (byt_nat _ h.b) (byt_nat _ h.c) (byt_nat _ h.d) (byt_nat _ h.e) (byt_nat _ h.f)
theorem numOf_be4 (n : Int) (h : 0 ≤ n ∧ n < 4294967296) : numOf (be 4 n) = n := by
  rw [numOf_be]; exact Int.emod_eq_of_lt h.1 (by have := h.2; omega)
theorem numOf_byt (n : Int) (h : 0 ≤ n ∧ n < 256) : numOf [byt n] = n := by rw [numOf_one]; exact byt_nat n h
theorem tkTr_put (t : Tr) (ht : t.Ok) : tkTr t.lv 5 (byTr t) = (t, 0) := by
  have e1 : qt1 (byTr t) = (be 4 t.nm, [byt t.tl] ++ (t.fr.by ++ t.tt.by), 0) := by
    unfold qt1 byTr
    rw [List.append_assoc, List.append_assoc]
    exact rdText_app _ _ 4 (be_length 4 t.nm) (by decide)
  have e2 : qt2 (byTr t) = ([byt t.tl], t.fr.by ++ t.tt.by, 0) := by
    unfold qt2; rw [e1]; exact rdText_app _ _ 1 rfl (by decide)
  have e3 : qt3 (byTr t) = (t.fr.by, t.tt.by, 0) := by
    unfold qt3; rw [e2]; exact rdText_app _ _ 6 rfl (by decide)
  have e4 : qt4 (byTr t) = (t.tt.by, [], 0) := by
    unfold qt4; rw [e3]
    have := rdText_app t.tt.by [] 6 rfl (by decide)
    rw [List.append_nil] at this; exact this
  have eE : qtE (byTr t) = 0 := by unfold qtE; rw [e4]; rfl
  unfold tkTr
  rw [if_pos ⟨rfl, eE⟩, e1, e2, e3, e4, numOf_be4 _ ht.nm, numOf_byt _ ht.tl, mcOf_by _ ht.fr, mcOf_by _ ht.tt]
theorem find_prtL (mi mo : Mc) : findT (prtL 5 mi ++ prtL 6 mo) 5 = (if mi = mc0 then ([], false) else (1 :: mi.by, true)) ∧ findT (prtL 5 mi ++ prtL 6 mo) 6 = (if mo = mc0 then ([], false) else (1 :: mo.by, true)) := by
  unfold prtL
  by_cases h1 : mi = mc0 <;> by_cases h2 : mo = mc0 <;> simp [h1, h2, findT]
theorem prtT_of (l : List Th) (k : UInt8) (m : Mc) (hm : m.Ok) (h : findT l k = (if m = mc0 then ([], false) else (1 :: m.by, true))) : prtT l k = (m, true) := by
  unfold prtT
  rw [h]
  by_cases h0 : m = mc0
  · rw [if_pos h0, if_neg (by decide), h0]
  · rw [if_neg h0]
    have e1 : pt1 (1 :: m.by) = ([1], m.by, 0) := rdText_app [1] m.by 1 rfl (by decide)
    have e2 : pt2 (1 :: m.by) = (m.by, [], 0) := by
      unfold pt2; rw [e1]
      have := rdText_app m.by [] 6 rfl (by decide)
      rw [List.append_nil] at this; exact this
    have eE : ptE (1 :: m.by) = 0 := by unfold ptE; rw [e2]; rfl
    have eG : ptG (1 :: m.by) = true := by
      unfold ptG
      rw [e1, e2, eE, mcOf_by m hm, decide_eq_false h0]; rfl
    show (if true = true then (mcOf (pt2 (1 :: m.by)).1, ptG (1 :: m.by)) else (mc0, true)) = (m, true)
    rw [if_pos rfl, e2, eG, mcOf_by m hm]
theorem tkRp_put (r : Rp) (hr : r.Ok) : tkRp r.lv 4 (flR r) (fxR r) (prtL 5 r.mi ++ prtL 6 r.mo) = (r, 0) := by
  obtain ⟨k, hk⟩ : ∃ k : UInt8, (if r.en = true then (1 : UInt8) else 2) = k := ⟨_, rfl⟩
  have hkk : (k.toNat : Int) = if r.en = true then 1 else 2 := by rw [← hk]; split <;> rfl
  have e0 : fxR r = be 4 r.nm ++ ([byt r.tl] ++ [k]) := by unfold fxR; rw [hk]; rfl
  have e1 : tr1 (fxR r) = (be 4 r.nm, [byt r.tl] ++ [k], 0) := by
    unfold tr1; rw [e0]
    exact rdText_app _ _ 4 (be_length 4 r.nm) (by decide)
  have e2 : tr2 (fxR r) = ([byt r.tl], [k], 0) := by
    unfold tr2; rw [e1]; exact rdText_app _ _ 1 rfl (by decide)
  have e3 : tr3 (fxR r) = ([k], [], 0) := by
    unfold tr3; rw [e2]
    exact rdText_app [k] [] 1 rfl (by decide)
  have eE : trE (fxR r) = 0 := by unfold trE; rw [e3]; rfl
  have f64 : decide (flR r / 64 % 2 = 1) = r.st := by unfold flR; cases r.st <;> cases r.en <;> rfl
  have f32 : (if flR r / 32 % 2 = 1 then (1 : Int) else 2) = if r.en = true then 1 else 2 := by unfold flR; cases r.st <;> cases r.en <;> rfl
  have g32 : decide (flR r / 32 % 2 = 1) = r.en := by unfold flR; cases r.st <;> cases r.en <;> rfl
  have p5 := prtT_of _ 5 r.mi hr.mi (find_prtL r.mi r.mo).1
  have p6 := prtT_of _ 6 r.mo hr.mo (find_prtL r.mi r.mo).2
  unfold tkRp
  rw [e1, e2, e3, eE, f64, f32, g32, p5, p6, if_pos ⟨by rw [numOf_one]; exact hkk, rfl, rfl, rfl, rfl⟩, numOf_be4 _ hr.nm, numOf_byt _ hr.tl]
/-- What becomes of a trace that is put. -/
theorem putTr_ok {t : Tr} (ht : t.Ok) {A B C : Int} {F : List UInt8} {e : Int} (h : putTr t = (A, B, C, F, e)) :
    (¬ t.lv < 8 ∧ e = 2) ∨ (t.lv < 8 ∧ e = 0 ∧ (0 ≤ A ∧ A < 256) ∧ (0 ≤ B ∧ B < 256) ∧ (0 ≤ C ∧ C < 256) ∧ F.length ≤ 200 ∧ (∃ X, putP A B C F [] = (X, 0) ∧ X.length ≤ 200 ∧ ∀ r, tkP (X ++ r) = (A, B, C, F, [], 0)) ∧
      tkTr A B F = (t, 0) ∧ tkRp A B C F [] = (rp0, 4)) := by
  unfold putTr at h
  by_cases h7 : 7 < t.lv
  · rw [if_pos h7] at h; left
    simp only [Prod.mk.injEq] at h
    exact ⟨by omega, h.2.2.2.2.symm⟩
  rw [if_neg h7] at h
  right
  simp only [Prod.mk.injEq] at h
  obtain ⟨rfl, rfl, rfl, rfl, rfl⟩ := h
  have hl := byTr_len t
  have h0 := ht.lv
  obtain ⟨X, k1, k2, k3⟩ := putP_takesG (a := t.lv) (b := 5) (c := 128) (f := byTr t) (l := []) (by omega) (by decide) (by decide) (by omega) (by simp)
  refine ⟨by omega, rfl, h0, by decide, by decide, by omega, ⟨X, k1, ?_, k3⟩, tkTr_put t ht, ?_⟩
  · rw [k2, hl]; decide
  · unfold tkRp; rw [if_neg (by intro h; exact absurd h.2.2.1 (by decide))]
theorem fxR_len (r : Rp) : (fxR r).length = 6 := by unfold fxR; simp [be_length]
theorem okT_prt {k : UInt8} {m : Mc} (hk : k ≠ 0) : ∀ x ∈ prtL k m, okT x = 0 ∧ x.2.length ≤ 64 := by
  intro x hx
  unfold prtL at hx
  split at hx
  · simp at hx
  · rw [List.mem_singleton.1 hx]
    refine ⟨?_, ?_⟩
    · unfold okT; rw [if_neg hk, if_neg (by simp [Mc.by_len])]
    · simp [Mc.by_len]
theorem flat_prt (k : UInt8) (m : Mc) : ((prtL k m).flatMap thB).length ≤ 20 := by
  unfold prtL
  split
  · simp
  · simp [thB, be_length, Mc.by_len]
theorem prtL_le1 (k : UInt8) (m : Mc) : (prtL k m).length ≤ 1 := by unfold prtL; split <;> simp
/-- What becomes of a reply that is put. -/
theorem putRp_ok {r : Rp} (hr : r.Ok) {A B C : Int} {F : List UInt8} {L : List Th} {e : Int} (h : putRp r = (A, B, C, F, L, e)) :
    (¬ r.lv < 8 ∧ e = 2) ∨ (r.lv < 8 ∧ e = 0 ∧ (0 ≤ A ∧ A < 256) ∧ (0 ≤ B ∧ B < 256) ∧ (0 ≤ C ∧ C < 256) ∧ F.length ≤ 200 ∧ L.length ≤ 2 ∧ (∀ x ∈ L, x.2.length ≤ 64) ∧ (putT L).1.length ≤ 1000 ∧ (∃ X, putP A B C F L = (X, 0) ∧ X.length ≤ 200 ∧ ∀ r, tkP (X ++ r) = (A, B, C, F, L, 0)) ∧
      tkRp A B C F L = (r, 0) ∧ tkTr A B F = (tr0, 4)) := by
  unfold putRp at h
  by_cases h7 : 7 < r.lv
  · rw [if_pos h7] at h; left
    simp only [Prod.mk.injEq] at h
    exact ⟨by omega, h.2.2.2.2.2.symm⟩
  rw [if_neg h7] at h
  right
  simp only [Prod.mk.injEq] at h
  obtain ⟨rfl, rfl, rfl, rfl, rfl, rfl⟩ := h
  have hl := fxR_len r
  have h0 := hr.lv
  have hc : 0 ≤ flR r ∧ flR r < 256 := by unfold flR; cases r.st <;> cases r.en <;> decide
  have hok : ∀ x ∈ prtL 5 r.mi ++ prtL 6 r.mo, okT x = 0 ∧ x.2.length ≤ 64 := by
    intro x hx
    rcases List.mem_append.1 hx with hx | hx
    · exact okT_prt (by decide) x hx
    · exact okT_prt (by decide) x hx
  have hfl : ((prtL 5 r.mi ++ prtL 6 r.mo).flatMap thB).length ≤ 40 := by
    have h5 := flat_prt 5 r.mi
    have h6 := flat_prt 6 r.mo
    rw [List.flatMap_append, List.length_append]; omega
  have hln : (prtL 5 r.mi ++ prtL 6 r.mo).length ≤ 2 := by
    have h5 := prtL_le1 5 r.mi
    have h6 := prtL_le1 6 r.mo
    rw [List.length_append]; omega
  obtain ⟨X, k1, k2, k3⟩ := putP_takesG (a := r.lv) (b := 4) (c := flR r) (f := fxR r) (l := prtL 5 r.mi ++ prtL 6 r.mo) (by omega) (by decide) hc (by omega) (fun x hx => (hok x hx).1)
  refine ⟨by omega, rfl, h0, by decide, hc, by omega, hln, fun x hx => (hok x hx).2, ?_, ⟨X, k1, by omega, k3⟩, tkRp_put r hr, ?_⟩
  · rw [putT_all _ (fun x hx => (hok x hx).1), List.length_append]
    show _ + 1 ≤ 1000
    omega
  · unfold tkTr; rw [if_neg (by intro h; exact absurd h.1 (by decide))]
end Go.Proofs.Ytcbbocdmmehphaa
