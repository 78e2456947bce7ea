/- ZB37: the texts NQ as one. -/
import Derived.Test.YtpkkjbmgbgakdaaGreatDoorZB36
/- bridge: the known frame comes inwards; a word comes to a host's port. -/
set_option linter.unusedVariables false
set_option linter.unusedSimpArgs false
namespace Go.Proofs.YtpkkjbmgbgakdaaGreatDoor
open Go.RowKit

/-- What becomes of the known frame: what goes out, what is learnt. -/
abbrev PostA (P : BP) (o : List Int) (dr : Int) (w : World) (en : Ending) (w' : World) : Prop :=
  (∃ g c, en = .returned (.slice (some ⟨g, 0, none⟩) 1 c) ∧ Rw 2 stC w' (.slice (some ⟨g, 0, none⟩) 1 c) [()] ∧ w.heap.size ≤ g) ∧ (∃ g c, BS w' P [true, true] o [(1, 3, 3)] (.slice (some ⟨g, 0, none⟩) 1 c) dr ∧ Ow 9 enC 185 w' w.heap.size (.slice (some ⟨g, 0, none⟩) 1 c) [0]) ∧ Only P.f w w'
theorem PostA.back {P : BP} {o : List Int} {dr : Int} {w0 w : World} (hb : Below w0.heap.size w0 w) {en : Ending} {w' : World} (h : PostA P o dr w en w') : PostA P o dr w0 en w' := by
  obtain ⟨⟨g0, c0, e0, r0, l0⟩, ⟨g, c, h2, h3⟩, h4⟩ := h
  exact ⟨⟨g0, c0, e0, r0, Nat.le_trans hb.size l0⟩, ⟨g, c, h2, h3.mono hb.size⟩, (below_only hb).trans h4⟩
set_option maxRecDepth 100000 in
set_option maxHeartbeats 8000000 in
theorem binA (P : BP) (o : List Int) (dr : Int) (w : World) (h : BS w P [true, true] o [(1, 3, 3)] (.slice none 0 0) dr) : Calls Tryz.prog 63 #[.pointer (some ⟨P.b, 0, none⟩), .int .u8 0, .int .u16 1, .agg #[.int .u8 255, .int .u8 255, .int .u8 255, .int .u8 255, .int .u8 255, .int .u8 255, .int .u8 2, .int .u8 0, .int .u8 0, .int .u8 0, .int .u8 0, .int .u8 1, .bool false, .int .u8 0, .int .u16 0, .int .u16 2048, .string (bs [120])]] w (PostA P o dr w) := by
  obtain ⟨A, hA⟩ : ∃ A : Array Value, A = #[.int .u8 255, .int .u8 255, .int .u8 255, .int .u8 255, .int .u8 255, .int .u8 255, .int .u8 2, .int .u8 0, .int .u8 0, .int .u8 0, .int .u8 0, .int .u8 1, .bool false, .int .u8 0, .int .u16 0, .int .u16 2048, .string (bs [120])] := ⟨_, rfl⟩
  have RE : Hid (∀ W, BS W P [true, true] o [(1, 3, 3)] (.slice none 0 0) dr → Calls Tryz.prog 95 #[.pointer (some ⟨P.b, 0, none⟩), .int .i64 0, .int .u16 1, .agg A] W (PostA P o dr W)) := Lib.hid fun W hW => by rw [hA]; exact callsIn_wide.1 (brelayed_in P o dr W hW)
  have CO : Hid (∀ w, Calls Tryz.prog 66 #[.agg A] w fun en w' => en = .returned (.tuple #[.int .u8 0, .int .u8 0, .bool false]) ∧ Below w.heap.size w w') := Lib.hid fun w => by rw [hA]; exact cofA w
  have h15 : A[15]? = some (.int .u16 2048) := by rw [hA]; rfl
  have hI : isFr A := by rw [hA]; exact isFr_A
  rw [← hA]
  clear hA
  have HIL := Lib.hid (frame_infoL hI)
  clear hI
  have hb := (Below.refl w.heap.size w).alloc (Nat.le_refl _) (.cells A 68)
  have g1 := GB.new 68 w A
  have h0 := h.later hb
  obtain ⟨w0, hw0⟩ : ∃ z, w.alloc (.cells A 68) = z := ⟨_, rfl⟩
  rw [hw0] at hb g1 h0
  have HB := Lib.hid hb
  have HS := Lib.hid h0
  have r0 := g1.range
  have G1 := Lib.hid g1
  clear h hb g1 h0
  go_enter Tryz.func63, Tryz.ntmps63
  go_upto_region 1 with fail
  clear hw0
  go_upto_region 2 with (first
    | ((with_reducible refine wpList_load_mid rfl 68 (.tmp 7) rfl w.heap.size 0 ?hx A.toList _ r0 Tryz.underlying68 ?hu HIL.out ?_); (case hx => rfl); (case hu => rfl))
    | (go_at_call 66; with_reducible refine (CO.out _).mono ?_; rintro e w1 ⟨rfl, hb1⟩))
  have g2 := G1.out.later hb1
  have r1 := g2.range
  have c15 : w1.cell? ⟨w.heap.size, 15, none⟩ = some (.int .u16 2048) := g2.c 15 _ h15
  have W1 := Lib.hid (RE.out w1 (HS.out.later hb1))
  have HB1 := Lib.hid (HB.out.trans (hb1.mono HB.out.size))
  clear hb1 r0 g2
  go_wp2_with (first
    | ((with_reducible refine wpList_load_mid rfl 68 (.tmp 7) rfl w.heap.size 0 ?hx A.toList _ r1 Tryz.underlying68 ?hu HIL.out ?_); (case hx => rfl); (case hu => rfl))
    | (go_at_call 95; with_reducible refine W1.out.mono ?_; rintro e w2 ⟨⟨g, c, rfl, hr⟩, hp, ho⟩))
  go_ret
  exact PostA.back HB1.out ⟨⟨g, c, rfl, hr⟩, hp, ho⟩
section
variable {W W' : World} {P : BP} {U : List Bool} {o : List Int} {V : List Vn} {v : Value} {dr : Int}
theorem BS.setDr (h : BS W P U o V v dr) (x : Int) : BS (W.setCell ⟨P.b, 6, none⟩ (.int .u64 x)) P U o V v x := by
  have bl : ∀ y, y ≠ P.b → (W.setCell ⟨P.b, 6, none⟩ (.int .u64 x)).heap[y]? = W.heap[y]? := fun y hy => by rw [Below.heap_setCell _ _ _ _ (by intro e; simp at e; exact hy e)]
  exact ⟨h.gb.set 6 _, h.tr.blk (bl _ h.nb.1.symm) (bl _ h.nb.2.1.symm), ⟨(bl _ h.nb.2.2.1.symm).trans h.rl.g, h.rl.ts.blk (bl _ h.nb.2.2.2.1.symm) (bl _ h.nb.2.2.2.2.1.symm), h.rl.ft.blk (bl _ h.nb.2.2.2.2.2.1.symm) (bl _ h.nb.2.2.2.2.2.2.symm), h.rl.nr⟩, h.nb, h.nm, h.ng, h.ul⟩
end
set_option maxRecDepth 100000 in
set_option maxHeartbeats 4000000 in
theorem bdropped0 (P : BP) (U : List Bool) (o : List Int) (V : List Vn) (v : Value) (w : World) (h : BS w P U o V v 0) : Calls Tryz.prog 62 #[.pointer (some ⟨P.b, 0, none⟩)] w fun en w' => en = .returned (.slice none 0 0) ∧ BS w' P U o V v 1 ∧ Only P.b w w' := by
  have c6 := h.c6
  have f6 := h.gb.fr 6
  have HH := Lib.hid h
  clear h
  go_enter Tryz.func62, Tryz.ntmps62
  go_wp2
  go_ret
  exact ⟨rfl, HH.out.setDr 1, Only.set _ _ _ _⟩
set_option maxRecDepth 100000 in
set_option maxHeartbeats 4000000 in
theorem bhear0 (P : BP) (o : List Int) (V : List Vn) (v : Value) (w : World) (h : BS w P [true, true] o V v 0) : Calls Tryz.prog 60 #[.pointer (some ⟨P.b, 0, none⟩), .int .u8 0, .string (bs [120])] w fun en w' => en = .returned (.slice none 0 0) ∧ BS w' P [true, true] o V v 1 ∧ Only P.b w w' := by
  have RO : Hid (Calls Tryz.prog 57 #[.pointer (some ⟨P.m, 0, none⟩), .int .u8 0] w fun en w' => en = .returned (.int .u8 5) ∧ w = w') := Lib.hid ((trole_host P.m P.g P.cap P.t 16 [true, true] 0 (by decide) w h.tr).mono fun e w' h => ⟨h.1, h.2.symm⟩)
  have c1 := h.c1
  have DR := Lib.hid (bdropped0 P _ o V v w h)
  clear h
  go_enter Tryz.func60, Tryz.ntmps60
  go_wp2_with (first
    | (go_at_call 57; with_reducible refine RO.out.mono ?_; rintro e wx ⟨rfl, rfl⟩)
    | (go_at_call 62; with_reducible refine DR.out.mono ?_; rintro e w2 ⟨rfl, hs, ho⟩))
  go_ret
  exact ⟨rfl, hs, ho⟩
end Go.Proofs.YtpkkjbmgbgakdaaGreatDoor
