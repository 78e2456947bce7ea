/- ZB23: the texts N4, N8 as one. -/
import Derived.Test.YtpkkjbmgbgakdaaGreatDoorZB07
import Derived.Test.YtpkkjbmgbgakdaaGreatDoorZB09
import Derived.Test.YtpkkjbmgbgakdaaGreatDoorZB22
/- fdb: a table that has learnt nothing, or one thing; no static entries. -/
set_option linter.unusedVariables false
namespace Go.Proofs.YtpkkjbmgbgakdaaGreatDoor
open Go.RowKit

/-- A map without entries. -/
def M0b (W : World) (s : Nat) : Prop := W.heap[s]? = some (.map #[] 0)
theorem M0b.lt {W : World} {s : Nat} (h : M0b W s) : s < W.heap.size := (Array.getElem?_eq_some_iff.1 h).1
/-- The table: what is learnt is the slice v. -/
structure FT (W : World) (f s : Nat) (v : Value) : Prop where
  g : GB 183 W f #[v, .map (some s)]
  m : M0b W s
  ne : f ≠ s
section
variable {W W' : World} {f s : Nat} {v : Value}
theorem FT.blk (h : FT W f s v) (e1 : W'.heap[f]? = W.heap[f]?) (e2 : W'.heap[s]? = W.heap[s]?) : FT W' f s v := ⟨e1.trans h.g, e2.trans h.m, h.ne⟩
theorem FT.later (h : FT W f s v) (hb : Below W.heap.size W W') : FT W' f s v := h.blk (hb.block f h.g.lt) (hb.block s h.m.lt)
theorem FT.c0 (h : FT W f s v) : W.cell? ⟨f, 0, none⟩ = some v := h.g.c 0 _ rfl
theorem FT.c1 (h : FT W f s v) : W.cell? ⟨f, 1, none⟩ = some (.map (some s)) := h.g.c 1 _ rfl
theorem FT.set (h : FT W f s v) (u : Value) : FT (W.setCell ⟨f, 0, none⟩ u) f s u := ⟨h.g.set 0 u, by unfold M0b; rw [Below.heap_setCell _ _ _ _ (by intro e; simp at e; exact h.ne e.symm)]; exact h.m, h.ne⟩
end
set_option maxRecDepth 100000 in
set_option maxHeartbeats 4000000 in
theorem fnew_any (w : World) : Calls Tryz.prog 74 #[] w fun en w' => ∃ f s : Nat, en = .returned (.pointer (some ⟨f, 0, none⟩)) ∧ FT w' f s (.slice none 0 0) ∧ Below w.heap.size w w' ∧ w.heap.size ≤ f ∧ w.heap.size ≤ s := by
  have run0 : (Instr.makeMap 181 none).run Tryz.prog w = .ok (.map (some w.heap.size)) (w.alloc (.map #[] 0)) := rfl
  have hb : Below w.heap.size w ((w.alloc (.map #[] 0)).alloc (.cells #[.slice none 0 0, .map (some w.heap.size)] 183)) := ((Below.refl _ _).alloc (Nat.le_refl _) _).alloc (by simp) _
  have ht : FT ((w.alloc (.map #[] 0)).alloc (.cells #[.slice none 0 0, .map (some w.heap.size)] 183)) (w.heap.size + 1) w.heap.size (.slice none 0 0) := by
    refine ⟨?_, ?_, by omega⟩
    · have := GB.new 183 (w.alloc (.map #[] 0)) #[.slice none 0 0, .map (some w.heap.size)]
      rwa [show (w.alloc (.map #[] 0)).heap.size = w.heap.size + 1 by simp] at this
    · exact (Below.heap_alloc _ _ _ (by simp)).trans (heap_alloc_new w _)
  have HX := Lib.hid (And.intro hb ht)
  clear hb ht
  go_enter Tryz.func74, Tryz.ntmps74
  go_wp2
  go_ret
  exact ⟨_, _, rfl, HX.out.2, HX.out.1, by simp, by simp⟩
set_option maxRecDepth 100000 in
set_option maxHeartbeats 4000000 in
theorem fidx_nil (fv : Value) (w : World) : Calls Tryz.prog 195 #[.slice none 0 0, fv] w fun en w' => en = .returned (.int .i64 (-1)) ∧ w' = w := by
  go_enter Tryz.func195, Tryz.ntmps195
  go_wp2
  go_loopw [8] (fun i wr => i = .int .i64 0 ∧ wr = w) (fun _ _ => 0)
  case atStart => exact ⟨rfl, rfl⟩
  case round =>
    obtain ⟨rfl, rfl⟩ := hrel
    go_wp2
    go_ret
    exact ⟨rfl, rfl⟩
set_option maxRecDepth 100000 in
set_option maxHeartbeats 4000000 in
theorem fdel_nil (fv : Value) (w : World) : Calls Tryz.prog 140 #[.slice none 0 0, fv] w fun en w' => en = .returned (.slice none 0 0) ∧ w' = w := by
  go_enter Tryz.func140, Tryz.ntmps140
  go_wp2_with (go_at_call 195; refine (fidx_nil _ _).mono ?_; rintro e w' ⟨rfl, rfl⟩)
  go_ret
  exact ⟨rfl, rfl⟩
set_option maxRecDepth 100000 in
set_option maxHeartbeats 4000000 in
theorem fdrop_nil (f s : Nat) (fv : Value) (w : World) (h : FT w f s (.slice none 0 0)) : Calls Tryz.prog 78 #[.pointer (some ⟨f, 0, none⟩), fv] w fun en w' => en = .returned (.int .i64 0) ∧ FT w' f s (.slice none 0 0) ∧ Only f w w' := by
  have c0 := h.c0
  have f0 := h.g.fr 0
  have H := Lib.hid h
  clear h
  go_enter Tryz.func78, Tryz.ntmps78
  go_wp2_with (go_at_call 140; refine (fdel_nil _ _).mono ?_; rintro e w' ⟨rfl, rfl⟩)
  go_ret
  exact ⟨rfl, H.out.set _, Only.set _ _ _ _⟩
set_option maxRecDepth 100000 in
set_option maxHeartbeats 4000000 in
theorem fdrop_nil' (f s : Nat) (fv : Value) (w : World) (h : FT w f s (.slice none 0 0)) : Calls Tryz.prog 78 #[.pointer (some ⟨f, 0, none⟩), fv] w fun en w' => en = .returned (.int .i64 0) ∧ w' = w := by
  have c0 := h.c0
  have f0 := h.g.fr 0
  have sc := setCell_id c0
  clear h
  go_enter Tryz.func78, Tryz.ntmps78
  go_wp2_with (go_at_call 140; refine (fdel_nil _ _).mono ?_; rintro e w' ⟨rfl, rfl⟩)
  go_ret
  exact ⟨rfl, rfl⟩
set_option maxRecDepth 100000 in
set_option maxHeartbeats 4000000 in
theorem fflush_nil (f s : Nat) (x : Int) (w : World) (h : FT w f s (.slice none 0 0)) : Calls Tryz.prog 76 #[.pointer (some ⟨f, 0, none⟩), .int .u8 x] w fun en w' => en = .returned (.int .i64 0) ∧ Below w.heap.size w w' := by
  have hb := (Below.refl w.heap.size w).alloc (Nat.le_refl _) (.cells #[.int .u8 x] 5)
  have D : Hid (∀ fv, Calls Tryz.prog 78 #[.pointer (some ⟨f, 0, none⟩), fv] (w.alloc (.cells #[.int .u8 x] 5)) fun en w' => en = .returned (.int .i64 0) ∧ Below w.heap.size w w') := Lib.hid fun fv => (fdrop_nil' f s fv _ (h.later hb)).mono (by rintro e w' ⟨rfl, rfl⟩; exact ⟨rfl, hb⟩)
  clear hb h
  go_enter Tryz.func76, Tryz.ntmps76
  go_wp2_with (go_at_call 78; with_reducible refine (D.out _).mono ?_; rintro e w' ⟨rfl, hb⟩)
  go_ret
  exact ⟨rfl, hb⟩
end Go.Proofs.YtpkkjbmgbgakdaaGreatDoor

/- relay: New, Vlans, Base, Vid, Out; config: New. -/
set_option linter.unusedVariables false
namespace Go.Proofs.YtpkkjbmgbgakdaaGreatDoor
open Go.RowKit

set_option maxRecDepth 100000 in
set_option maxHeartbeats 4000000 in
theorem rvlans_any (r : Nat) (q f : Value) (w : World) (h : w.cell? ⟨r, 0, none⟩ = some q) (hq : ∃ a, q = .pointer (some ⟨a, 0, none⟩)) : Calls Tryz.prog 126 #[.pointer (some ⟨r, 0, none⟩)] w fun en w' => en = .returned q ∧ w' = w := by
  obtain ⟨a, rfl⟩ := hq
  go_enter Tryz.func126, Tryz.ntmps126
  go_wp2
  go_ret
  exact ⟨rfl, rfl⟩
set_option maxRecDepth 100000 in
set_option maxHeartbeats 4000000 in
theorem rbase_any (r : Nat) (q f : Value) (w : World) (h : w.cell? ⟨r, 1, none⟩ = some q) (hq : ∃ a, q = .pointer (some ⟨a, 0, none⟩)) : Calls Tryz.prog 34 #[.pointer (some ⟨r, 0, none⟩)] w fun en w' => en = .returned q ∧ w' = w := by
  obtain ⟨a, rfl⟩ := hq
  go_enter Tryz.func34, Tryz.ntmps34
  go_wp2
  go_ret
  exact ⟨rfl, rfl⟩
/-- A relay: its block, its VLANs, its table. -/
structure RL (W : World) (r q vm f s : Nat) (n : Int) (o : List Int) (V : List Vn) (v : Value) : Prop where
  g : GB 177 W r #[.pointer (some ⟨q, 0, none⟩), .pointer (some ⟨f, 0, none⟩)]
  ts : TS W q n vm o V
  ft : FT W f s v
  nr : r ≠ q ∧ r ≠ vm ∧ r ≠ f ∧ r ≠ s ∧ q ≠ f ∧ q ≠ s ∧ vm ≠ f ∧ vm ≠ s
section
variable {W W' : World} {r q vm f s : Nat} {n : Int} {o : List Int} {V : List Vn} {v : Value}
theorem RL.c0 (h : RL W r q vm f s n o V v) : W.cell? ⟨r, 0, none⟩ = some (.pointer (some ⟨q, 0, none⟩)) := h.g.c 0 _ rfl
theorem RL.c1 (h : RL W r q vm f s n o V v) : W.cell? ⟨r, 1, none⟩ = some (.pointer (some ⟨f, 0, none⟩)) := h.g.c 1 _ rfl
theorem RL.later (h : RL W r q vm f s n o V v) (hb : Below W.heap.size W W') : RL W' r q vm f s n o V v := ⟨h.g.later hb, h.ts.later hb, h.ft.later hb, h.nr⟩
theorem RL.fr {D : Nat → Prop} (h : RL W r q vm f s n o V v) (hf : Fr D W W') (hr : ¬ D r) (hq : ¬ D q) (hv : ¬ D vm) (hf' : ¬ D f) (hs : ¬ D s) : RL W' r q vm f s n o V v :=
  ⟨h.g.fr' hf hr, h.ts.blk (hf.block q h.ts.tb.lt hq) (hf.block vm h.ts.vm.lt hv), h.ft.blk (hf.block f h.ft.g.lt hf') (hf.block s h.ft.m.lt hs), h.nr⟩
end
set_option maxRecDepth 100000 in
set_option maxHeartbeats 4000000 in
theorem rnew_any (n : Int) (w : World) (hn : 1 ≤ n ∧ n ≤ 8) : Calls Tryz.prog 30 #[.int .i64 n] w fun en w' => ∃ r q vm f s : Nat, en = .returned (.tuple #[.pointer (some ⟨r, 0, none⟩), .int .i64 0]) ∧ RL w' r q vm f s n [0, 0, 0, 0, 0, 0, 0, 0] [] (.slice none 0 0) ∧ Below w.heap.size w w' ∧ w.heap.size ≤ r ∧ w.heap.size ≤ q ∧ w.heap.size ≤ vm ∧ w.heap.size ≤ f ∧ w.heap.size ≤ s := by
  have VN := Lib.hid (vnew_any n w hn)
  clear hn
  go_enter Tryz.func30, Tryz.ntmps30
  go_wp2_with (first
    | (go_at_call 9; with_reducible refine VN.out.mono ?_; rintro e w1 ⟨q, m, rfl, ht, hb1, hq, hm⟩)
    | (go_at_call 74; refine (fnew_any _).mono ?_; rintro e w2 ⟨f, s, rfl, hf, hb2, hlf, hls⟩))
  have hq1 := ht.tb.lt
  have hm1 := ht.vm.lt
  have hf2 := hf.g.lt
  have hs2 := hf.m.lt
  have hz := hb1.size
  have hz2 := hb2.size
  have hba := (Below.refl w2.heap.size w2).alloc (Nat.le_refl _) (.cells #[.pointer (some ⟨q, 0, none⟩), .pointer (some ⟨f, 0, none⟩)] 177)
  refine bodyPost_ret (v := .tuple #[.pointer (some ⟨w2.heap.size, 0, none⟩), .int .i64 0]) (by simp [results, Tryz.results30, go_sem]) rfl ⟨w2.heap.size, q, m, f, s, rfl, ⟨GB.new _ _ _, (ht.later hb2).later hba, hf.later hba, ?_⟩, (hb1.trans (hb2.mono hz)).trans (hba.mono (Nat.le_trans hz hz2)), by omega, hq, hm, by omega, by omega⟩
  refine ⟨?_, ?_, ?_, ?_, ?_, ?_, ?_, ?_⟩ <;> omega
set_option maxRecDepth 100000 in
set_option maxHeartbeats 4000000 in
theorem cnew_any (n : Int) (w : World) (hn : 1 ≤ n ∧ n ≤ 8) : Calls Tryz.prog 8 #[.int .i64 n] w fun en w' => ∃ c : Nat, en = .returned (.tuple #[.pointer (some ⟨c, 0, none⟩), .int .i64 0]) ∧ Below w.heap.size w w' := by
  have d1 : decide (n < 1) = false := decide_eq_false (by omega)
  have d8 : decide ((8 : Int) < n) = false := decide_eq_false (by omega)
  have run0 : (Instr.makeMap 106 none).run Tryz.prog w = .ok (.map (some w.heap.size)) (w.alloc (.map #[] 0)) := rfl
  clear hn
  go_enter Tryz.func8, Tryz.ntmps8
  go_wp2
  refine bodyPost_ret (v := .tuple #[.pointer (some ⟨w.heap.size + 1, 0, none⟩), .int .i64 0]) (by simp [results, Tryz.results8, go_sem]) rfl ⟨_, rfl, ((Below.refl _ _).alloc (Nat.le_refl _) _).alloc (by simp) _⟩
end Go.Proofs.YtpkkjbmgbgakdaaGreatDoor
