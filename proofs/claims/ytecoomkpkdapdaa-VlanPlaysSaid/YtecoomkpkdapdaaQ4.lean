/- slices.Collect, slices.Sorted at few numbers of sixteen bits. -/
import Derived.Test.YtecoomkpkdapdaaQ3
set_option linter.unusedVariables false
namespace Go.Proofs.Ytecoomkpkdapdaa
open Go.RowKit Go.Shelf

set_option maxRecDepth 100000 in
set_option maxHeartbeats 4000000 in
theorem isort_nil (w : World) : Calls Try.prog 113 #[.slice none 0 0, .int .i64 0, .int .i64 0] w fun en w' => en = .returned (.tuple #[]) ∧ w' = w := by
  go_enter Try.func113, Try.ntmps113
  go_wp2
  go_loopw [6] (fun i wr => i = .int .i64 1 ∧ wr = w) (fun _ _ => 0)
  case atStart => exact ⟨rfl, rfl⟩
  case round =>
    obtain ⟨rfl, rfl⟩ := hrel
    go_wp2
    go_end0
    exact ⟨rfl, rfl⟩
set_option maxRecDepth 100000 in
set_option maxHeartbeats 4000000 in
theorem pdq_nil (v : Int) (w : World) : Calls Try.prog 107 #[.slice none 0 0, .int .i64 0, .int .i64 0, .int .i64 v] w fun en w' => en = .returned (.tuple #[]) ∧ w' = w := by
  go_enter Try.func107, Try.ntmps107
  go_wp2
  go_loopw [1, 2] (fun a b wr => a = .int .i64 0 ∧ b = .int .i64 0 ∧ wr = w) (fun _ _ _ => 0)
  case atStart => exact ⟨rfl, rfl, rfl⟩
  case round =>
    obtain ⟨rfl, rfl, rfl⟩ := hrel
    go_wp2_with (go_at_call 113; refine (isort_nil _).mono ?_; rintro e w' ⟨rfl, rfl⟩)
    refine bodyPost_ret (results_none rfl _ _ _) rfl ?_
    exact ⟨rfl, rfl⟩
set_option maxRecDepth 100000 in
set_option maxHeartbeats 4000000 in
theorem sort_nil (w : World) : Calls Try.prog 92 #[.slice none 0 0] w fun en w' => en = .returned (.tuple #[]) ∧ w' = w := by
  have L0 := fun w => bitsLen_any 0 (by decide) w
  go_enter Try.func92, Try.ntmps92
  go_wp2_with (first
    | (go_at_call 108; refine (L0 _).mono ?_; rintro e w' ⟨⟨v, rfl⟩, rfl⟩)
    | (go_at_call 107; refine (pdq_nil _ _).mono ?_; rintro e w' ⟨rfl, rfl⟩))
  go_end0
  exact ⟨rfl, rfl⟩
theorem Us.later {w w' : World} {B : Nat} {v : Value} {l : List Int} (h : Us w B v l) (hb : Below w.heap.size w w') : Us w' B v l := by
  obtain ⟨h1, h2⟩ := h
  refine ⟨h1, ?_⟩
  rcases h2 with h2 | ⟨g, cap, cur, hv, hg, hh, r⟩
  · exact .inl h2
  · refine .inr ⟨g, cap, cur, hv, hg, ?_, r⟩
    have hlt : g < w.heap.size := (Array.getElem?_eq_some_iff.1 hh).1
    rw [hb.block g hlt]; exact hh
/-- Its shape: nil, or at the head of a row. -/
theorem Us.shape {w : World} {B : Nat} {v : Value} {l : List Int} (h : Us w B v l) : (v = .slice none 0 0 ∧ l = []) ∨ ∃ g cap t, v = .slice (some ⟨g, 0, none⟩) l.length cap ∧ B ≤ g ∧ RowU w g l t ∧ (∀ (w' : World) (s : List Int), s.length = l.length → RowU w' g s t → Us w' B v s) := by
  rcases h.2 with ⟨h1, h2⟩ | ⟨g, cap, cur, hv, hg, hh, h3, h4, h5, h6⟩
  · exact .inl ⟨h1, List.eq_nil_of_length_eq_zero h2⟩
  · refine .inr ⟨g, cap, cur.toList.drop l.length, hv, hg, ?_, fun w' s hs hr => ?_⟩
    · unfold RowU
      have e : l.map (Value.int .u16) ++ cur.toList.drop l.length = cur.toList := by
        rw [Nat.mul_one] at h6
        rw [← h6]; exact List.take_append_drop _ _
      rw [e]; exact hh
    · rw [Nat.mul_one] at h5
      refine ⟨by simp, .inr ⟨g, cap, (s.map (Value.int .u16) ++ cur.toList.drop l.length).toArray, by rw [hs]; exact hv, hg, hr, by rw [hs]; exact h3, h4, ?_, ?_⟩⟩
      · simp; rw [hs, h5]; omega
      · simp [encU]
set_option maxRecDepth 100000 in
set_option maxHeartbeats 4000000 in
theorem collect_U (g : Nat) (lb : Array Value) (eg : ∀ args w, (callFunc g args).run Try.prog w = .ok (.enter g args) w) (S Sp : List Int → Prop) (N : Nat) (hN : N ≤ 100000) (w0 w : World) (hb0 : Below w0.heap.size w0 w)
    (hseq : SeqStopsK Fence.wide 2 Try.prog g lb (fun x : Int => #[encU x]) KeepsWalks S Sp N w0) :
    Calls Try.prog 91 #[.func (.func g) #[] lb] w fun e w' => ∃ (v : Value) (ss : List Int), e = .returned v ∧ S ss ∧ Us w' w.heap.size v ss ∧ (v = .slice none 0 0 ↔ ss = []) ∧ Below w.heap.size w w' := by
  have AP := callsIn_wide.1 (appendSeq_U g lb eg S Sp N hN w0 w hb0 hseq)
  go_enter Try.func91, Try.ntmps91
  go_wp2_with (go_at_call 106; refine AP.mono ?_; rintro e w' ⟨v, ss, rfl, h⟩)
  go_ret
  exact ⟨v, ss, rfl, h⟩
set_option maxRecDepth 100000 in
set_option maxHeartbeats 4000000 in
theorem sorted_U (g : Nat) (lb : Array Value) (eg : ∀ args w, (callFunc g args).run Try.prog w = .ok (.enter g args) w) (S Sp : List Int → Prop) (N : Nat) (hN : N ≤ 100000) (hS : ∀ ss, S ss → ss.length ≤ 12) (w0 w : World) (hb0 : Below w0.heap.size w0 w)
    (hseq : SeqStopsK Fence.wide 2 Try.prog g lb (fun x : Int => #[encU x]) KeepsWalks S Sp N w0) :
    Calls Try.prog 65 #[.func (.func g) #[] lb] w fun e w' => ∃ (v : Value) (ss s : List Int), e = .returned v ∧ S ss ∧ s.Perm ss ∧ s.Pairwise (· ≤ ·) ∧ Us w' w.heap.size v s ∧ (v = .slice none 0 0 ↔ s = []) ∧ Below w.heap.size w w' := by
  have CO := collect_U g lb eg S Sp N hN w0 w hb0 hseq
  go_enter Try.func65, Try.ntmps65
  go_wp2_with (go_at_call 91; refine CO.mono ?_; rintro e w1 ⟨v, ss, rfl, hSs, hU, hnil, hb⟩)
  rcases hU.shape with ⟨rfl, rfl⟩ | ⟨gb, cap, t, rfl, hB, hR, hback⟩
  · go_wp2_with (go_at_call 92; refine (sort_nil _).mono ?_; rintro e w' ⟨rfl, rfl⟩)
    go_ret
    exact ⟨_, [], [], rfl, hSs, List.Perm.refl _, by simp, hU, by simp, hb⟩
  · have ST := sort_any gb cap ss t ss.length w1 rfl (hS ss hSs) hR
    obtain ⟨n, hn⟩ : ∃ n, ss.length = n := ⟨_, rfl⟩
    rw [hn] at ST
    rw [hn] at hU hback hnil ⊢
    go_wp2_with (go_at_call 92; refine ST.mono ?_; rintro e w2 ⟨rfl, s, hp, hw, hr, ho⟩)
    go_ret
    exact ⟨_, ss, s, rfl, hSs, hp, hw, hback w2 s (by rw [hp.length_eq, hn]) hr, hnil.trans (by constructor <;> (intro h; subst h; first | exact List.Perm.eq_nil hp | exact (List.Perm.nil_eq hp).symm)), hb.trans (ho.below hB hb.size)⟩
end Go.Proofs.Ytecoomkpkdapdaa
