/- ZP51: the texts Y19, Y20 as one. -/
import Derived.Test.YtlkdfofpnmpidaaGreatZP50
/- mep: no point; an association's bytes; what the known point sends. -/
set_option linter.unusedVariables false
set_option linter.unusedSimpArgs false
namespace Go.Proofs.YtlkdfofpnmpidaaGreat
open Go.RowKit

set_option maxRecDepth 100000 in
set_option maxHeartbeats 4000000 in
theorem nil20_tick (w : World) : Calls Tryz.prog 11 #[.pointer none] w fun en w' => en = .returned (.tuple #[.slice none 0 0, .int .u8 0]) ∧ Below w.heap.size w w' := by
  go_enter Tryz.func11, Tryz.ntmps11
  go_wp2
  go_ret2
  exact ⟨rfl, Below.refl _ _⟩
set_option maxRecDepth 100000 in
set_option maxHeartbeats 4000000 in
theorem nil20_take (sr ds : Mc) (d : List UInt8) (w : World) : Calls Tryz.prog 18 #[.pointer none, .agg #[.int .u8 sr.a, .int .u8 sr.b, .int .u8 sr.c, .int .u8 sr.d, .int .u8 sr.e, .int .u8 sr.f], .agg #[.int .u8 ds.a, .int .u8 ds.b, .int .u8 ds.c, .int .u8 ds.d, .int .u8 ds.e, .int .u8 ds.f], .string (bs d)] w fun en w' => en = .returned (.slice none 0 0) ∧ Below w.heap.size w w' := by
  go_enter Tryz.func18, Tryz.ntmps18
  go_upto_region 1 with fail
  have c4 : (((w.alloc (.cells #[.pointer none] 31)).alloc (.cells #[.int .u8 sr.a, .int .u8 sr.b, .int .u8 sr.c, .int .u8 sr.d, .int .u8 sr.e, .int .u8 sr.f] 25)).alloc (.cells #[.int .u8 ds.a, .int .u8 ds.b, .int .u8 ds.c, .int .u8 ds.d, .int .u8 ds.e, .int .u8 ds.f] 25)).cell? ⟨w.heap.size, 0, none⟩ = some (.pointer none) := ((show GB 31 (w.alloc (.cells #[.pointer none] 31)) w.heap.size #[.pointer none] from GB.new 31 w #[.pointer none]).later (((Below.refl _ _).alloc (Nat.le_refl _) _).alloc (by simp) _)).c 0 _ rfl
  have hb := ((((Below.refl w.heap.size w).alloc (Nat.le_refl _) (.cells #[.pointer none] 31)).alloc (by simp) (.cells #[.int .u8 sr.a, .int .u8 sr.b, .int .u8 sr.c, .int .u8 sr.d, .int .u8 sr.e, .int .u8 sr.f] 25))).alloc (by simp; omega) (.cells #[.int .u8 ds.a, .int .u8 ds.b, .int .u8 ds.c, .int .u8 ds.d, .int .u8 ds.e, .int .u8 ds.f] 25)
  obtain ⟨w0, hw0⟩ : ∃ z, (((w.alloc (.cells #[.pointer none] 31)).alloc (.cells #[.int .u8 sr.a, .int .u8 sr.b, .int .u8 sr.c, .int .u8 sr.d, .int .u8 sr.e, .int .u8 sr.f] 25)).alloc (.cells #[.int .u8 ds.a, .int .u8 ds.b, .int .u8 ds.c, .int .u8 ds.d, .int .u8 ds.e, .int .u8 ds.f] 25)) = z := ⟨_, rfl⟩
  rw [hw0] at hb c4 ⊢
  clear hw0
  go_wp2
  go_ret
  exact ⟨rfl, hb⟩
set_option maxRecDepth 100000 in
set_option maxHeartbeats 4000000 in
theorem nil20_loop (ds : Mc) (d : List UInt8) (w : World) : Calls Tryz.prog 14 #[.pointer none, .agg #[.int .u8 ds.a, .int .u8 ds.b, .int .u8 ds.c, .int .u8 ds.d, .int .u8 ds.e, .int .u8 ds.f], .string (bs d)] w fun en w' => en = .returned (.tuple #[.agg (snC sn0).toArray, .int .i64 1]) ∧ Below w.heap.size w w' := by
  go_enter Tryz.func14, Tryz.ntmps14
  go_upto_region 1 with fail
  have L0 := show GB 55 ((w.alloc (.cells #[.int .u8 ds.a, .int .u8 ds.b, .int .u8 ds.c, .int .u8 ds.d, .int .u8 ds.e, .int .u8 ds.f] 25)).alloc (.cells #[.int .u8 0, .int .u8 0, .int .u8 0, .int .u8 0, .int .u8 0, .int .u8 0, .string { data := #[] }] 55)) (w.alloc (.cells #[.int .u8 ds.a, .int .u8 ds.b, .int .u8 ds.c, .int .u8 ds.d, .int .u8 ds.e, .int .u8 ds.f] 25)).heap.size #[.int .u8 0, .int .u8 0, .int .u8 0, .int .u8 0, .int .u8 0, .int .u8 0, .string { data := #[] }] from ((GB.new 55 (w.alloc (.cells #[.int .u8 ds.a, .int .u8 ds.b, .int .u8 ds.c, .int .u8 ds.d, .int .u8 ds.e, .int .u8 ds.f] 25)) #[.int .u8 0, .int .u8 0, .int .u8 0, .int .u8 0, .int .u8 0, .int .u8 0, .string { data := #[] }]))
  have hb := (((Below.refl w.heap.size w).alloc (Nat.le_refl _) (.cells #[.int .u8 ds.a, .int .u8 ds.b, .int .u8 ds.c, .int .u8 ds.d, .int .u8 ds.e, .int .u8 ds.f] 25))).alloc (by simp) (.cells #[.int .u8 0, .int .u8 0, .int .u8 0, .int .u8 0, .int .u8 0, .int .u8 0, .string { data := #[] }] 55)
  rw [show (w.alloc (.cells #[.int .u8 ds.a, .int .u8 ds.b, .int .u8 ds.c, .int .u8 ds.d, .int .u8 ds.e, .int .u8 ds.f] 25)).heap.size = w.heap.size + 1 by simp] at L0
  obtain ⟨w0, hw0⟩ : ∃ z, ((w.alloc (.cells #[.int .u8 ds.a, .int .u8 ds.b, .int .u8 ds.c, .int .u8 ds.d, .int .u8 ds.e, .int .u8 ds.f] 25)).alloc (.cells #[.int .u8 0, .int .u8 0, .int .u8 0, .int .u8 0, .int .u8 0, .int .u8 0, .string { data := #[] }] 55)) = z := ⟨_, rfl⟩
  rw [hw0] at L0 hb ⊢
  clear hw0
  have HB := Lib.hid hb
  have HG := Lib.hid L0
  have IT := Lib.hid (show (Tryz.prog.info? 55).map (·.size) = some 7 by kernel_rfl)
  obtain ⟨A0, hA0⟩ : ∃ A : Array Value, A = (snC sn0).toArray := ⟨_, rfl⟩
  have HA0 := Lib.hid hA0
  have SA0 := Lib.hid (show A0.size = 7 by rw [hA0]; rfl)
  have OA0 := Lib.hid (show A0.all (·.oneCell') = true by rw [hA0]; simp [snC, Value.oneCell'])
  have IA0 := Lib.hid (show (Tryz.prog.info? 55).map (·.size) = some A0.size by rw [SA0.out]; exact IT.out)
  have TA0 := Lib.hid (show A0.toList = snC sn0 by rw [hA0])
  have TH := Lib.hid (L0.there (n := A0.size) (Nat.le_of_eq SA0.out))
  clear hA0 hb L0
  go_wp2_with ((with_reducible refine wpList_store_mid rfl 55 (.tmp 6) (.tmp 15) rfl (w.heap.size + 1) 0 A0 ?hx ?hy TH.out IA0.out OA0.out ?_); (case hx => rfl); (case hy => (rw [HA0.out]; rfl)))
  rw [TA0.out]
  exact bodyPost_ret (v := .tuple #[.agg (snC sn0).toArray, .int .i64 1]) (res_two (p := 6) (u := 7) (d := _) rfl rfl Tryz.underlying55 _ _ (w.heap.size + 1) _ rfl (HG.out.store (A := (snC sn0).toArray) rfl (by simp [snC, Value.oneCell'])) IT.out) rfl ⟨rfl, below_cellsG (by omega) _ _ _ HB.out⟩
set_option maxRecDepth 100000 in
set_option maxHeartbeats 4000000 in
theorem nil20_trace (ds : Mc) (tl : Int) (w : World) : Calls Tryz.prog 16 #[.pointer none, .agg #[.int .u8 ds.a, .int .u8 ds.b, .int .u8 ds.c, .int .u8 ds.d, .int .u8 ds.e, .int .u8 ds.f], .int .u8 tl] w fun en w' => en = .returned (.tuple #[.agg (snC sn0).toArray, .int .i64 1]) ∧ Below w.heap.size w w' := by
  go_enter Tryz.func16, Tryz.ntmps16
  go_upto_region 1 with fail
  have L0 := show GB 55 ((w.alloc (.cells #[.int .u8 ds.a, .int .u8 ds.b, .int .u8 ds.c, .int .u8 ds.d, .int .u8 ds.e, .int .u8 ds.f] 25)).alloc (.cells #[.int .u8 0, .int .u8 0, .int .u8 0, .int .u8 0, .int .u8 0, .int .u8 0, .string { data := #[] }] 55)) (w.alloc (.cells #[.int .u8 ds.a, .int .u8 ds.b, .int .u8 ds.c, .int .u8 ds.d, .int .u8 ds.e, .int .u8 ds.f] 25)).heap.size #[.int .u8 0, .int .u8 0, .int .u8 0, .int .u8 0, .int .u8 0, .int .u8 0, .string { data := #[] }] from ((GB.new 55 (w.alloc (.cells #[.int .u8 ds.a, .int .u8 ds.b, .int .u8 ds.c, .int .u8 ds.d, .int .u8 ds.e, .int .u8 ds.f] 25)) #[.int .u8 0, .int .u8 0, .int .u8 0, .int .u8 0, .int .u8 0, .int .u8 0, .string { data := #[] }]))
  have hb := (((Below.refl w.heap.size w).alloc (Nat.le_refl _) (.cells #[.int .u8 ds.a, .int .u8 ds.b, .int .u8 ds.c, .int .u8 ds.d, .int .u8 ds.e, .int .u8 ds.f] 25))).alloc (by simp) (.cells #[.int .u8 0, .int .u8 0, .int .u8 0, .int .u8 0, .int .u8 0, .int .u8 0, .string { data := #[] }] 55)
  rw [show (w.alloc (.cells #[.int .u8 ds.a, .int .u8 ds.b, .int .u8 ds.c, .int .u8 ds.d, .int .u8 ds.e, .int .u8 ds.f] 25)).heap.size = w.heap.size + 1 by simp] at L0
  obtain ⟨w0, hw0⟩ : ∃ z, ((w.alloc (.cells #[.int .u8 ds.a, .int .u8 ds.b, .int .u8 ds.c, .int .u8 ds.d, .int .u8 ds.e, .int .u8 ds.f] 25)).alloc (.cells #[.int .u8 0, .int .u8 0, .int .u8 0, .int .u8 0, .int .u8 0, .int .u8 0, .string { data := #[] }] 55)) = z := ⟨_, rfl⟩
  rw [hw0] at L0 hb ⊢
  clear hw0
  have HB := Lib.hid hb
  have HG := Lib.hid L0
  have IT := Lib.hid (show (Tryz.prog.info? 55).map (·.size) = some 7 by kernel_rfl)
  obtain ⟨A0, hA0⟩ : ∃ A : Array Value, A = (snC sn0).toArray := ⟨_, rfl⟩
  have HA0 := Lib.hid hA0
  have SA0 := Lib.hid (show A0.size = 7 by rw [hA0]; rfl)
  have OA0 := Lib.hid (show A0.all (·.oneCell') = true by rw [hA0]; simp [snC, Value.oneCell'])
  have IA0 := Lib.hid (show (Tryz.prog.info? 55).map (·.size) = some A0.size by rw [SA0.out]; exact IT.out)
  have TA0 := Lib.hid (show A0.toList = snC sn0 by rw [hA0])
  have TH := Lib.hid (L0.there (n := A0.size) (Nat.le_of_eq SA0.out))
  clear hA0 hb L0
  go_wp2_with ((with_reducible refine wpList_store_mid rfl 55 (.tmp 6) (.tmp 17) rfl (w.heap.size + 1) 0 A0 ?hx ?hy TH.out IA0.out OA0.out ?_); (case hx => rfl); (case hy => (rw [HA0.out]; rfl)))
  rw [TA0.out]
  exact bodyPost_ret (v := .tuple #[.agg (snC sn0).toArray, .int .i64 1]) (res_two (p := 6) (u := 7) (d := _) rfl rfl Tryz.underlying55 _ _ (w.heap.size + 1) _ rfl (HG.out.store (A := (snC sn0).toArray) rfl (by simp [snC, Value.oneCell'])) IT.out) rfl ⟨rfl, below_cellsG (by omega) _ _ _ HB.out⟩
set_option maxRecDepth 100000 in
set_option maxHeartbeats 4000000 in
theorem nil20_state (w : World) : Calls Tryz.prog 21 #[.pointer none] w fun en w' => en = .returned (.agg #[.slice none 0 0, .slice none 0 0, .int .u8 0, .int .u8 0, .int .u64 0, .int .u32 0, .int .i64 0, .int .i64 0, .int .u32 0, .slice none 0 0]) ∧ Below w.heap.size w w' := by
  go_enter Tryz.func21, Tryz.ntmps21
  go_upto_region 1 with fail
  have Z0 := show GB 69 (w.alloc (.cells #[.slice none 0 0, .slice none 0 0, .int .u8 0, .int .u8 0, .int .u64 0, .int .u32 0, .int .i64 0, .int .i64 0, .int .u32 0, .slice none 0 0] 69)) w.heap.size #[.slice none 0 0, .slice none 0 0, .int .u8 0, .int .u8 0, .int .u64 0, .int .u32 0, .int .i64 0, .int .i64 0, .int .u32 0, .slice none 0 0] from GB.new 69 w #[.slice none 0 0, .slice none 0 0, .int .u8 0, .int .u8 0, .int .u64 0, .int .u32 0, .int .i64 0, .int .i64 0, .int .u32 0, .slice none 0 0]
  have hb := (Below.refl w.heap.size w).alloc (Nat.le_refl _) (.cells #[.slice none 0 0, .slice none 0 0, .int .u8 0, .int .u8 0, .int .u64 0, .int .u32 0, .int .i64 0, .int .i64 0, .int .u32 0, .slice none 0 0] 69)
  obtain ⟨w0, hw0⟩ : ∃ z, w.alloc (.cells #[.slice none 0 0, .slice none 0 0, .int .u8 0, .int .u8 0, .int .u64 0, .int .u32 0, .int .i64 0, .int .i64 0, .int .u32 0, .slice none 0 0] 69) = z := ⟨_, rfl⟩
  rw [hw0] at Z0 hb ⊢
  clear hw0
  have HG := Lib.hid Z0
  have HB := Lib.hid hb
  have IT := Lib.hid (show (Tryz.prog.info? 69).map (·.size) = some 10 by kernel_rfl)
  have q0 := Z0.c 0 _ rfl
  have f0 := Z0.fr 0
  have q1 := Z0.c 1 _ rfl
  have f1 := Z0.fr 1
  have q2 := Z0.c 2 _ rfl
  have f2 := Z0.fr 2
  have q3 := Z0.c 3 _ rfl
  have f3 := Z0.fr 3
  have q4 := Z0.c 4 _ rfl
  have f4 := Z0.fr 4
  have q5 := Z0.c 5 _ rfl
  have f5 := Z0.fr 5
  have q6 := Z0.c 6 _ rfl
  have f6 := Z0.fr 6
  have q7 := Z0.c 7 _ rfl
  have f7 := Z0.fr 7
  have q8 := Z0.c 8 _ rfl
  have f8 := Z0.fr 8
  have q9 := Z0.c 9 _ rfl
  have f9 := Z0.fr 9
  clear Z0 hb
  go_wp2_with fail
  exact bodyPost_ret (v := .agg #[.slice none 0 0, .slice none 0 0, .int .u8 0, .int .u8 0, .int .u64 0, .int .u32 0, .int .i64 0, .int .i64 0, .int .u32 0, .slice none 0 0]) (res_one (p := 2) (d := _) rfl rfl Tryz.underlying69 _ _ w.heap.size _ rfl (HG.out.ten rfl _ _ _ _ _ _ _ _ _ _) IT.out) rfl ⟨rfl, below_ten HB.out (Nat.le_refl _)⟩
set_option maxRecDepth 100000 in
set_option maxHeartbeats 4000000 in
theorem maid20_any (w : World) : Calls Tryz.prog 26 #[] w fun en w' => en = .returned (.string (bs mdM)) ∧ Below w.heap.size w w' := by
  have R1 : Hid (∀ w, Calls Tryz.prog 70 #[.string { data := #[] }, .string { data := #[97] }] w fun en w' => en = .returned (.tuple #[.string (bs mdM), .int .i64 0]) ∧ Below w.heap.size w w') := fun w => by
    have h := refPut10_any [] [97] w (by decide) (by decide)
    rw [mdM_put] at h; exact h
  go_enter Tryz.func26, Tryz.ntmps26
  go_wp2_with fail
  with_reducible refine (R1.out _).mono ?_
  rintro en w1 ⟨rfl, hb1⟩
  go_wp2
  go_ret
  exact ⟨rfl, hb1⟩
/-- The known point. -/
def owM : Ow20 := ⟨owK, ⟨2, 0, 0, 0, 0, 0⟩, 2⟩
theorem owM_ok : owM.Ok := ⟨owK_ok, ⟨by decide, by decide, by decide, by decide, by decide, by decide⟩, by decide⟩
theorem tickW : (tickM owM (ms0 [(2, 4, 0)])).2.2 = 0 := by decide
def ckW : List UInt8 := ((tickM owM (ms0 [(2, 4, 0)])).2.1.map Sn.d).headD []
theorem tickW1 : (tickM owM (ms0 [(2, 4, 0)])).2.1 = [⟨⟨1, 128, 194, 0, 0, 51⟩, ckW⟩] := rfl
theorem ckW_len : ckW.length = 75 := rfl
def lpW : Ms := (loopM owM (tickM owM (ms0 [(2, 4, 0)])).1 ⟨2, 9, 0, 0, 0, 0⟩ [97, 98]).1
theorem loopW : (loopM owM (tickM owM (ms0 [(2, 4, 0)])).1 ⟨2, 9, 0, 0, 0, 0⟩ [97, 98]).2 = (⟨⟨2, 9, 0, 0, 0, 0⟩, [96, 3, 0, 4, 0, 0, 0, 1, 3, 0, 2, 97, 98, 0]⟩, 0) := rfl
end Go.Proofs.YtlkdfofpnmpidaaGreat

/- law20: the known point. -/
set_option linter.unusedVariables false
set_option linter.unusedSimpArgs false
namespace Go.Proofs.YtlkdfofpnmpidaaGreat
open Go.RowKit

/-- What lies there while the known point is looked at. -/
structure KQ (w W : World) (ov : Value) (x : Mp) (s : Ms) (v : Value) : Prop where
  mm : MM W owM ov x s (.slice none 0 0)
  rw : Rw 7 snC W v [⟨⟨1, 128, 194, 0, 0, 51⟩, ckW⟩]
  aw : ∀ g, v.ownBlock = some g → ¬ x.D (.slice none 0 0) g
  lo : w.heap.size ≤ x.p ∧ w.heap.size ≤ x.q ∧ w.heap.size ≤ x.m ∧ w.heap.size ≤ x.r
  bel : Below w.heap.size w W
theorem KQ.later {w W W' : World} {ov : Value} {x : Mp} {s : Ms} {v : Value} (h : KQ w W ov x s v) (hb : Below W.heap.size W W') : KQ w W' ov x s v :=
  ⟨h.mm.later hb, h.rw.later snC_len hb, h.aw, h.lo, h.bel.trans (hb.mono h.bel.size)⟩
theorem D_none {x : Mp} {B : Nat} (lo : B ≤ x.p ∧ B ≤ x.q ∧ B ≤ x.m ∧ B ≤ x.r) : ∀ k, k < B → ¬ x.D (.slice none 0 0) k := by
  rintro k hk (rfl | rfl | rfl | rfl | h)
  · omega
  · omega
  · omega
  · omega
  · cases h
theorem ms0_ok : (ms0 [(2, 4, 0)]).Ok := ⟨bnd_one (by decide) (by decide) (by decide) (by decide), ⟨by decide, by decide, by decide⟩, by decide, by decide, by decide, by decide, by decide, by decide, by decide, by decide, by decide, by simp [ms0]⟩
set_option maxRecDepth 100000 in
set_option maxHeartbeats 8000000 in
theorem wakes20_any (w : World) : Calls Tryz.prog 7 #[] w fun en w' => en = .returned (.bool true) ∧ Below w.heap.size w w' := by
  have MD : Hid (∀ w, Calls Tryz.prog 26 #[] w fun en w' => en = .returned (.string (bs mdM)) ∧ Below w.heap.size w w') := Lib.hid maid20_any
  have NW : Hid (∀ (g : Nat) w, w.cell? ⟨g, 0, none⟩ = some (.int .u16 2) → Calls Tryz.prog 8 #[.agg #[.int .u8 3, .int .u8 4, .string (bs mdM), .int .u16 1, .slice (some ⟨g, 0, none⟩) 1 1, .int .u8 2, .int .u8 0, .int .u8 0, .int .u8 0, .int .u8 0, .int .u8 0, .int .u8 2]] w fun en w' =>
      ∃ x, en = .returned (.tuple #[.pointer (some ⟨x.p, 0, none⟩), .int .i64 0]) ∧ MM w' owM (.slice (some ⟨g, 0, none⟩) 1 1) x (ms0 [(2, 4, 0)]) (.slice none 0 0) ∧ (w.heap.size ≤ x.p ∧ w.heap.size ≤ x.q ∧ w.heap.size ≤ x.m ∧ w.heap.size ≤ x.r) ∧ Below w.heap.size w w') := Lib.hid fun g w hc => by
    refine (mnew_any owM owM_ok (.slice (some ⟨g, 0, none⟩) 1 1) [2] (by simp) w (.inr ⟨⟨g, 0, none⟩, 1, rfl, .inr ⟨g, 0, rfl, fun j hj i hi => ?_⟩⟩) (by simp)).mono ?_
    · have hj0 : j = 0 := by simpa using hj
      have hi0 : i = 0 := by omega
      subst hj0 hi0
      exact hc
    · rintro en w' (⟨h | h | h, _⟩ | ⟨V, x, hV, -, -, he, hm, hl, hb⟩)
      · rw [show owM.a = owK from rfl, newV_K] at h; cases h
      · exact absurd (show 1 ≤ owM.lw ∧ owM.lw ≤ 4 by decide) h
      · exact absurd h (by decide)
      · rw [show owM.a = owK from rfl, newV_K] at hV; cases hV; exact ⟨x, he, hm, hl, hb⟩
  have TK : Hid (∀ (ov : Value) (x : Mp) (W : World), MM W owM ov x (ms0 [(2, 4, 0)]) (.slice none 0 0) → w.heap.size ≤ W.heap.size → Below w.heap.size w W → (w.heap.size ≤ x.p ∧ w.heap.size ≤ x.q ∧ w.heap.size ≤ x.m ∧ w.heap.size ≤ x.r) → Calls Tryz.prog 11 #[.pointer (some ⟨x.p, 0, none⟩)] W fun en w' =>
      ∃ b off c, en = .returned (.tuple #[.slice (some ⟨b, off, none⟩) 1 c, .int .u8 0]) ∧ KQ w w' ov x (tickM owM (ms0 [(2, 4, 0)])).1 (.slice (some ⟨b, off, none⟩) 1 c)) := Lib.hid fun ov x W hm hz hbw hl => by
    refine (mtick_any owM owM_ok (by decide) ov x _ _ W hm ms0_ok).mono ?_
    rintro en w' ⟨v, he, ho, hm', hf⟩
    rw [tickW] at he
    rw [tickW1] at ho
    have hr := ho.rw snC_len
    obtain ⟨a, c, hv, h | ⟨b, off, ha, -⟩⟩ := hr.shape
    · cases h
    · subst ha
      have hv' : v = .slice (some ⟨b, off, none⟩) 1 c := hv
      subst hv'
      refine ⟨b, off, c, he, hm', hr, fun g hg hd => ?_, hl, hbw.trans (hf.below hz (D_none hl))⟩
      have h1 := (Ow.lt ho hg).1
      have h2 := hm.ltD hd
      omega
  have LO : Hid (∀ (ov : Value) (x : Mp) (v : Value) (W : World), KQ w W ov x (tickM owM (ms0 [(2, 4, 0)])).1 v → Calls Tryz.prog 14 #[.pointer (some ⟨x.p, 0, none⟩), .agg #[.int .u8 2, .int .u8 9, .int .u8 0, .int .u8 0, .int .u8 0, .int .u8 0], .string { data := #[97, 98] }] W fun en w' =>
      en = .returned (.tuple #[.agg #[.int .u8 2, .int .u8 9, .int .u8 0, .int .u8 0, .int .u8 0, .int .u8 0, .string { data := #[96, 3, 0, 4, 0, 0, 0, 1, 3, 0, 2, 97, 98, 0] }], .int .i64 0]) ∧ KQ w w' ov x lpW v) := Lib.hid fun ov x v W h => by
    refine (mloop_any owM owM_ok ov x _ _ ⟨by decide, by decide⟩ ⟨2, 9, 0, 0, 0, 0⟩ ⟨by decide, by decide, by decide, by decide, by decide, by decide⟩ [97, 98] (by decide) W h.mm).mono ?_
    rintro en w' ⟨he, hm', hf⟩
    rw [loopW] at he
    exact ⟨he, hm', h.rw.fr snC_len hf h.aw, h.aw, h.lo, h.bel.trans (hf.below h.bel.size (D_none h.lo))⟩
  have EQ1 : ∀ w, (binOp .eql 25 (.agg #[.int .u8 1, .int .u8 128, .int .u8 194, .int .u8 0, .int .u8 0, .int .u8 51]) (.agg #[.int .u8 1, .int .u8 128, .int .u8 194, .int .u8 0, .int .u8 0, .int .u8 51])).run Tryz.prog w = .ok (.bool true) w := fun w => eql_macG ⟨1, 128, 194, 0, 0, 51⟩ ⟨1, 128, 194, 0, 0, 51⟩ w
  have EQ2 : ∀ w, (binOp .eql 25 (.agg #[.int .u8 2, .int .u8 9, .int .u8 0, .int .u8 0, .int .u8 0, .int .u8 0]) (.agg #[.int .u8 2, .int .u8 9, .int .u8 0, .int .u8 0, .int .u8 0, .int .u8 0])).run Tryz.prog w = .ok (.bool true) w := fun w => eql_macG ⟨2, 9, 0, 0, 0, 0⟩ ⟨2, 9, 0, 0, 0, 0⟩ w
  go_enter Tryz.func7, Tryz.ntmps7
  go_wp2_with fail
  with_reducible refine (MD.out _).mono ?_
  rintro en w1 ⟨rfl, hb1⟩
  have B1 := Lib.hid hb1
  clear hb1
  go_wp2_with fail
  with_reducible refine (NW.out _ _ ?_).mono ?_
  · simp only [World.cell?, heap_alloc_new]; rfl
  rintro en w2 ⟨x, rfl, hm, hl, hb⟩
  have Q0 := Lib.hid (And.intro hm (And.intro (show w.heap.size ≤ x.p ∧ w.heap.size ≤ x.q ∧ w.heap.size ≤ x.m ∧ w.heap.size ≤ x.r by have := B1.out.size; simp at hl; omega) (B1.out.trans ((((Below.refl _ _).alloc (Nat.le_refl _) _).trans (hb.mono (by simp))).mono B1.out.size))))
  obtain ⟨ov, hov⟩ : ∃ z, Value.slice (some ⟨w1.heap.size, 0, none⟩) 1 1 = z := ⟨_, rfl⟩
  rw [hov] at Q0
  clear hm hl hb B1 NW hov
  go_wp2_with fail
  with_reducible refine (TK.out _ _ _ Q0.out.1 Q0.out.2.2.size Q0.out.2.2 Q0.out.2.1).mono ?_
  rintro en w3 ⟨b, off, c, rfl, hq⟩
  have Q3 := Lib.hid hq
  clear hq Q0 TK
  go_wp2_with fail
  with_reducible refine (LO.out _ _ _ _ Q3.out).mono ?_
  rintro en w4 ⟨rfl, hq⟩
  have Q4 := Lib.hid hq
  clear hq Q3 LO
  go_upto_region 6 with fail
  have hb5 : Below w4.heap.size w4 (w4.alloc (.cells #[.int .u8 2, .int .u8 9, .int .u8 0, .int .u8 0, .int .u8 0, .int .u8 0, .string { data := #[96, 3, 0, 4, 0, 0, 0, 1, 3, 0, 2, 97, 98, 0] }] 55)) := (Below.refl _ _).alloc (Nat.le_refl _) _
  have q5 := Q4.out.later hb5
  have g5 : GB 55 (w4.alloc (.cells #[.int .u8 2, .int .u8 9, .int .u8 0, .int .u8 0, .int .u8 0, .int .u8 0, .string { data := #[96, 3, 0, 4, 0, 0, 0, 1, 3, 0, 2, 97, 98, 0] }] 55)) w4.heap.size #[.int .u8 2, .int .u8 9, .int .u8 0, .int .u8 0, .int .u8 0, .int .u8 0, .string { data := #[96, 3, 0, 4, 0, 0, 0, 1, 3, 0, 2, 97, 98, 0] }] := heap_alloc_new _ _
  obtain ⟨w5, hw5⟩ : ∃ z, w4.alloc (.cells #[.int .u8 2, .int .u8 9, .int .u8 0, .int .u8 0, .int .u8 0, .int .u8 0, .string { data := #[96, 3, 0, 4, 0, 0, 0, 1, 3, 0, 2, 97, 98, 0] }] 55) = z := ⟨_, rfl⟩
  rw [hw5] at q5 g5 ⊢
  clear hw5 hb5
  have d0 : w5.cell? ⟨w4.heap.size, 0, none⟩ = some (.int .u8 2) := g5.c 0 _ rfl
  have d1 : w5.cell? ⟨w4.heap.size, 1, none⟩ = some (.int .u8 9) := g5.c 1 _ rfl
  have d2 : w5.cell? ⟨w4.heap.size, 2, none⟩ = some (.int .u8 0) := g5.c 2 _ rfl
  have d3 : w5.cell? ⟨w4.heap.size, 3, none⟩ = some (.int .u8 0) := g5.c 3 _ rfl
  have d4 : w5.cell? ⟨w4.heap.size, 4, none⟩ = some (.int .u8 0) := g5.c 4 _ rfl
  have d5 : w5.cell? ⟨w4.heap.size, 5, none⟩ = some (.int .u8 0) := g5.c 5 _ rfl
  have d6 : w5.cell? ⟨w4.heap.size, 6, none⟩ = some (.string { data := #[96, 3, 0, 4, 0, 0, 0, 1, 3, 0, 2, 97, 98, 0] }) := g5.c 6 _ rfl
  obtain ⟨a, c', hv, h | ⟨b', off', ha, hc⟩⟩ := q5.rw.shape
  · cases h
  have e1 : b = b' ∧ off = off' := by
    subst ha
    have h := hv
    injection h with h1 h2 h3
    injection h1 with h1
    injection h1 with h1 h2
    exact ⟨h1, h2⟩
  obtain ⟨rfl, rfl⟩ := e1
  have e0 : w5.cell? ⟨b, off, none⟩ = some (.int .u8 1) := hc 0 (by decide) 0 (by decide)
  have e1 : w5.cell? ⟨b, off + 1, none⟩ = some (.int .u8 128) := hc 0 (by decide) 1 (by decide)
  have e2 : w5.cell? ⟨b, off + 2, none⟩ = some (.int .u8 194) := hc 0 (by decide) 2 (by decide)
  have e3 : w5.cell? ⟨b, off + 3, none⟩ = some (.int .u8 0) := hc 0 (by decide) 3 (by decide)
  have e4 : w5.cell? ⟨b, off + 4, none⟩ = some (.int .u8 0) := hc 0 (by decide) 4 (by decide)
  have e5 : w5.cell? ⟨b, off + 5, none⟩ = some (.int .u8 51) := hc 0 (by decide) 5 (by decide)
  have e6 : w5.cell? ⟨b, off + 6, none⟩ = some (.string (bs ckW)) := hc 0 (by decide) 6 (by decide)
  have Q5 := Lib.hid q5.bel
  have hsz : (bs ckW).size = 75 := by rw [bs_size]; rfl
  clear q5 g5 hv hc ha Q4
  go_wp2
  go_ret
  exact ⟨rfl, Q5.out⟩
end Go.Proofs.YtlkdfofpnmpidaaGreat
