/- ZB28: the texts ND as one. -/
import Derived.Test.YtpkkjbmgbgakdaaGreatDoorZB27
/- relay: a known frame's VLAN, its way out; what was learnt is looked up, listed. -/
set_option linter.unusedVariables false
namespace Go.Proofs.YtpkkjbmgbgakdaaGreatDoor
open Go.RowKit

theorem isFr_A : isFr #[.int .u8 255, .int .u8 255, .int .u8 255, .int .u8 255, .int .u8 255, .int .u8 255, .int .u8 2, .int .u8 0, .int .u8 0, .int .u8 0, .int .u8 0, .int .u8 1, .bool false, .int .u8 0, .int .u16 0, .int .u16 2048, .string (bs [120])] := ⟨255, 255, 255, 255, 255, 255, 2, 0, 0, 0, 0, 1, false, 0, 0, 2048, [120], rfl⟩
theorem isFr_W : isFr #[.int .u8 1, .int .u8 128, .int .u8 194, .int .u8 0, .int .u8 0, .int .u8 0, .int .u8 2, .int .u8 0, .int .u8 0, .int .u8 0, .int .u8 0, .int .u8 1, .bool false, .int .u8 0, .int .u16 0, .int .u16 19779, .string (bs [120])] := ⟨1, 128, 194, 0, 0, 0, 2, 0, 0, 0, 0, 1, false, 0, 0, 19779, [120], rfl⟩
/-- A block of a known frame: its cells. -/
theorem FB.gb {W : World} {b : Nat} {A : Array Value} (h : FB W b A) : GB 68 W b A := h
set_option maxRecDepth 100000 in
set_option maxHeartbeats 4000000 in
theorem rvidA (r q vm f s : Nat) (V : List Vn) (v : Value) (hV : inF 2 [1, 0, 0, 0, 0, 0, 0, 0] V 0 false 0 = (1, true)) (w : World) (h : RL w r q vm f s 2 [1, 0, 0, 0, 0, 0, 0, 0] V v) :
    Calls Tryz.prog 61 #[.pointer (some ⟨r, 0, none⟩), .int .u8 0, .agg #[.int .u8 255, .int .u8 255, .int .u8 255, .int .u8 255, .int .u8 255, .int .u8 255, .int .u8 2, .int .u8 0, .int .u8 0, .int .u8 0, .int .u8 0, .int .u8 1, .bool false, .int .u8 0, .int .u16 0, .int .u16 2048, .string (bs [120])]] w fun en w' => en = .returned (.tuple #[.int .u16 1, .bool true]) ∧ Below w.heap.size w w' := by
  have RS : Hid (∀ w, Calls Tryz.prog 125 #[.agg #[.int .u8 255, .int .u8 255, .int .u8 255, .int .u8 255, .int .u8 255, .int .u8 255]] w fun en w' => en = .returned (.bool false) ∧ Below w.heap.size w w') := Lib.hid fun w => reserved_any 255 255 255 255 255 255 w
  obtain ⟨A, hA⟩ : ∃ A : Array Value, A = #[.int .u8 255, .int .u8 255, .int .u8 255, .int .u8 255, .int .u8 255, .int .u8 255, .int .u8 2, .int .u8 0, .int .u8 0, .int .u8 0, .int .u8 0, .int .u8 1, .bool false, .int .u8 0, .int .u16 0, .int .u16 2048, .string (bs [120])] := ⟨_, rfl⟩
  have hb := (Below.refl w.heap.size w).alloc (Nat.le_refl _) (.cells A 68)
  have gf := GB.new 68 w A
  have c0 : (w.alloc (.cells A 68)).cell? ⟨w.heap.size, 0, none⟩ = some (.int .u8 255) := gf.c 0 _ (by rw [hA]; rfl)
  have c1 : (w.alloc (.cells A 68)).cell? ⟨w.heap.size, 1, none⟩ = some (.int .u8 255) := gf.c 1 _ (by rw [hA]; rfl)
  have c2 : (w.alloc (.cells A 68)).cell? ⟨w.heap.size, 2, none⟩ = some (.int .u8 255) := gf.c 2 _ (by rw [hA]; rfl)
  have c3 : (w.alloc (.cells A 68)).cell? ⟨w.heap.size, 3, none⟩ = some (.int .u8 255) := gf.c 3 _ (by rw [hA]; rfl)
  have c4 : (w.alloc (.cells A 68)).cell? ⟨w.heap.size, 4, none⟩ = some (.int .u8 255) := gf.c 4 _ (by rw [hA]; rfl)
  have c5 : (w.alloc (.cells A 68)).cell? ⟨w.heap.size, 5, none⟩ = some (.int .u8 255) := gf.c 5 _ (by rw [hA]; rfl)
  have IN : Hid (∀ W, RL W r q vm f s 2 [1, 0, 0, 0, 0, 0, 0, 0] V v → Calls Tryz.prog 64 #[.pointer (some ⟨q, 0, none⟩), .int .u8 0, .agg A] W fun en w' => en = .returned (.tuple #[.int .u16 1, .bool true]) ∧ Below W.heap.size W w') := Lib.hid fun W hW => by
    have := vin_A A q vm 2 _ V 0 false 0 W (by rw [hA]; rfl) (by rw [hA]; rfl) hW.ts (by decide) (by decide)
    rw [hV] at this; exact this
  have hI : isFr A := by rw [hA]; exact isFr_A
  rw [← hA]
  have HI := Lib.hid hI
  clear hA hI
  have h0 := h.later hb
  obtain ⟨w0, hw0⟩ : ∃ z, w.alloc (.cells A 68) = z := ⟨_, rfl⟩
  rw [hw0] at hb gf c0 c1 c2 c3 c4 c5 h0
  have HB := Lib.hid hb
  have HR := Lib.hid h0
  have HG := Lib.hid gf
  clear h hb h0 gf
  go_enter Tryz.func61, Tryz.ntmps61
  go_upto_region 1 with fail
  clear hw0
  go_upto_region 3 with (go_at_call 125; with_reducible refine (RS.out _).mono ?_; rintro e w1 ⟨rfl, hb1⟩)
  have HB1 := Lib.hid (HB.out.trans (hb1.mono HB.out.size))
  have HR1 := Lib.hid (HR.out.later hb1)
  have HG1 := Lib.hid (HG.out.later hb1)
  have HLT := Lib.hid HG.out.lt
  clear c0 c1 c2 c3 c4 c5 hb1 HB HR HG RS
  have INK : Hid (∀ K : Later w1, Calls Tryz.prog 64 #[.pointer (some ⟨q, 0, none⟩), .int .u8 0, .agg A] K.out fun en w' => en = .returned (.tuple #[.int .u16 1, .bool true]) ∧ Below K.out.heap.size K.out w') := Lib.hid fun K => IN.out _ (HR1.out.later K.h)
  have VLK : Hid (∀ K : Later w1, Calls Tryz.prog 126 #[.pointer (some ⟨r, 0, none⟩)] K.out fun en w' => en = .returned (.pointer (some ⟨q, 0, none⟩)) ∧ K.out = w') := Lib.hid fun K => (rvlans_any r _ v _ (HR1.out.later K.h).c0 ⟨_, rfl⟩).mono (by rintro e w' ⟨rfl, rfl⟩; exact ⟨rfl, rfl⟩)
  have FLK : Hid (∀ K : Later w1, (Instr.loadAt 68 (.pointer (some ⟨w.heap.size, 0, none⟩))).run Tryz.prog K.out = .ok (.agg A) K.out) := Lib.hid fun K => fr_load (show FB w1 w.heap.size A from HG1.out) HI.out K
  refine wp_region_later (by kernel_rfl) (by kernel_rfl) ?_
  repeat (go_big_quiet_step (first
    | (go_at_call 126; exact Calls.later_same (VLK.out _))
    | (go_at_call 64; exact Calls.later (INK.out _))))
  refine wpQuiet_load 68 (.tmp 5) w.heap.size A rfl rfl rfl (by rintro _ ⟨k, rfl⟩; exact FLK.out k) ?_
  go_simp
  go_big_quiet_step ((go_at_call 64; exact Calls.later (INK.out _)))
  repeat (go_big_quiet_step (fail))
  refine wpQuiet_nil ?_
  go_simp
  intro K
  go_wp2
  refine bodyPost_ret (v := .tuple #[.int .u16 1, .bool true]) (by simp [results, Tryz.results61, go_sem]) rfl ⟨rfl, HB1.out.trans (K.h.mono HB1.out.size)⟩
set_option maxRecDepth 100000 in
set_option maxHeartbeats 4000000 in
theorem flook_one (f s b c : Nat) (w : World) (h : FT w f s (.slice (some ⟨b, 0, none⟩) 1 c)) (hw : ∀ i, i < 9 → w.cell? ⟨b, i, none⟩ = (enC 0)[i]?) :
    Calls Tryz.prog 209 #[.pointer (some ⟨f, 0, none⟩), .int .u16 1, .agg #[.int .u8 255, .int .u8 255, .int .u8 255, .int .u8 255, .int .u8 255, .int .u8 255]] w fun en w' => en = .returned (.tuple #[.int .u8 0, .bool false]) ∧ Below w.heap.size w w' := by
  obtain ⟨kl, hkl⟩ := Option.isSome_iff_exists.1 keyB
  have HK := Lib.hid hkl
  clear hkl
  have hb0 := ((Below.refl w.heap.size w).alloc (Nat.le_refl _) (.cells #[.int .u8 255, .int .u8 255, .int .u8 255, .int .u8 255, .int .u8 255, .int .u8 255] 41)).alloc (by simp) (.cells #[.int .u16 1, .int .u8 255, .int .u8 255, .int .u8 255, .int .u8 255, .int .u8 255, .int .u8 255] 330)
  have g0 := GB.new 330 (w.alloc (.cells #[.int .u8 255, .int .u8 255, .int .u8 255, .int .u8 255, .int .u8 255, .int .u8 255] 41)) #[.int .u16 1, .int .u8 255, .int .u8 255, .int .u8 255, .int .u8 255, .int .u8 255, .int .u8 255]
  rw [show (w.alloc (.cells #[.int .u8 255, .int .u8 255, .int .u8 255, .int .u8 255, .int .u8 255, .int .u8 255] 41)).heap.size = w.heap.size + 1 by simp] at g0
  obtain ⟨w0, hw0⟩ : ∃ z, (w.alloc (.cells #[.int .u8 255, .int .u8 255, .int .u8 255, .int .u8 255, .int .u8 255, .int .u8 255] 41)).alloc (.cells #[.int .u16 1, .int .u8 255, .int .u8 255, .int .u8 255, .int .u8 255, .int .u8 255, .int .u8 255] 330) = z := ⟨_, rfl⟩
  rw [hw0] at hb0 g0
  have hwl : ∀ i, i < 9 → b < w.heap.size := fun i hi => by have := hw i hi; rw [List.getElem?_eq_getElem (show i < (enC 0).length from hi)] at this; exact World.block_lt_of_cell? _ _ this
  have HW0 := Lib.hid fun (K : Later w0) i (hi : i < 9) => ((K.h.cell (p := ⟨b, i, none⟩) (Nat.lt_of_lt_of_le (hwl i hi) hb0.size)).trans (hb0.cell (p := ⟨b, i, none⟩) (hwl i hi))).trans (hw i hi)
  have HB0 := Lib.hid hb0
  have HF0 := Lib.hid (h.later hb0)
  have HP0 := Lib.hid g0
  clear hw hwl h hb0 g0
  have l0 : ∀ K : Later w0, K.out.cell? ⟨f, 0, none⟩ = some (.slice (some ⟨b, 0, none⟩) 1 c) := fun K => (HF0.out.later K.h).c0
  have l1 : ∀ K : Later w0, K.out.cell? ⟨f, 1, none⟩ = some (.map (some s)) := fun K => (HF0.out.later K.h).c1
  have e0 : ∀ K : Later w0, K.out.cell? ⟨w.heap.size + 1, 0, none⟩ = some (.int .u16 1) := fun K => (HP0.out.later K.h).c 0 _ rfl
  have e1 : ∀ K : Later w0, K.out.cell? ⟨w.heap.size + 1, 1, none⟩ = some (.int .u8 255) := fun K => (HP0.out.later K.h).c 1 _ rfl
  have e2 : ∀ K : Later w0, K.out.cell? ⟨w.heap.size + 1, 2, none⟩ = some (.int .u8 255) := fun K => (HP0.out.later K.h).c 2 _ rfl
  have e3 : ∀ K : Later w0, K.out.cell? ⟨w.heap.size + 1, 3, none⟩ = some (.int .u8 255) := fun K => (HP0.out.later K.h).c 3 _ rfl
  have e4 : ∀ K : Later w0, K.out.cell? ⟨w.heap.size + 1, 4, none⟩ = some (.int .u8 255) := fun K => (HP0.out.later K.h).c 4 _ rfl
  have e5 : ∀ K : Later w0, K.out.cell? ⟨w.heap.size + 1, 5, none⟩ = some (.int .u8 255) := fun K => (HP0.out.later K.h).c 5 _ rfl
  have e6 : ∀ K : Later w0, K.out.cell? ⟨w.heap.size + 1, 6, none⟩ = some (.int .u8 255) := fun K => (HP0.out.later K.h).c 6 _ rfl
  have LK : ∀ K : Later w0, (Instr.lookup 181 (.map (some s)) (.agg #[.int .u16 1, .int .u8 255, .int .u8 255, .int .u8 255, .int .u8 255, .int .u8 255, .int .u8 255]) true).run Tryz.prog K.out = .ok (.tuple #[.int .u8 0, .bool false]) K.out := fun K => flook0 (HF0.out.later K.h).m HK.out
  have IX : Hid (∀ K : Later w0, Calls Tryz.prog 195 #[.slice (some ⟨b, 0, none⟩) 1 c, .func (.func 212) #[.agg #[.int .u16 1, .int .u8 255, .int .u8 255, .int .u8 255, .int .u8 255, .int .u8 255, .int .u8 255]] #[]] K.out fun en w' => en = .returned (.int .i64 (-1)) ∧ Below K.out.heap.size K.out w') := Lib.hid fun K => fidx_one b c K.out (HW0.out K)
  go_enter Tryz.func209, Tryz.ntmps209
  go_upto_region 4 with fail
  clear hw0
  refine wp_region_later (by kernel_rfl) (by kernel_rfl) ?_
  repeat (go_big_quiet_step (fail))
  refine wpQuiet_nil ?_
  rintro _ ⟨K, rfl⟩
  go_upto_region 7 with fail
  have F1 := HF0.out.later K.h
  have P1 := HP0.out.later K.h
  have IX1 : Hid (∀ J : Later K.out, Calls Tryz.prog 195 #[.slice (some ⟨b, 0, none⟩) 1 c, .func (.func 212) #[.agg #[.int .u16 1, .int .u8 255, .int .u8 255, .int .u8 255, .int .u8 255, .int .u8 255, .int .u8 255]] #[]] J.out fun en w' => en = .returned (.int .i64 (-1)) ∧ Below J.out.heap.size J.out w') := Lib.hid fun J => IX.out ⟨J.out, K.h.trans (J.h.mono K.h.size)⟩
  have HB1 := Lib.hid (HB0.out.trans (K.h.mono HB0.out.size))
  obtain ⟨w1, hw1⟩ : ∃ z, K.out = z := ⟨_, rfl⟩
  rw [hw1] at F1 P1 IX1 HB1 ⊢
  clear hw1 l0 l1 e0 e1 e2 e3 e4 e5 e6 LK K HF0 HP0 HW0 IX
  have HF1 := Lib.hid F1
  have HP1 := Lib.hid P1
  clear F1 P1
  have l0 : ∀ K : Later w1, K.out.cell? ⟨f, 0, none⟩ = some (.slice (some ⟨b, 0, none⟩) 1 c) := fun K => (HF1.out.later K.h).c0
  have e0 : ∀ K : Later w1, K.out.cell? ⟨w.heap.size + 1, 0, none⟩ = some (.int .u16 1) := fun K => (HP1.out.later K.h).c 0 _ rfl
  have e1 : ∀ K : Later w1, K.out.cell? ⟨w.heap.size + 1, 1, none⟩ = some (.int .u8 255) := fun K => (HP1.out.later K.h).c 1 _ rfl
  have e2 : ∀ K : Later w1, K.out.cell? ⟨w.heap.size + 1, 2, none⟩ = some (.int .u8 255) := fun K => (HP1.out.later K.h).c 2 _ rfl
  have e3 : ∀ K : Later w1, K.out.cell? ⟨w.heap.size + 1, 3, none⟩ = some (.int .u8 255) := fun K => (HP1.out.later K.h).c 3 _ rfl
  have e4 : ∀ K : Later w1, K.out.cell? ⟨w.heap.size + 1, 4, none⟩ = some (.int .u8 255) := fun K => (HP1.out.later K.h).c 4 _ rfl
  have e5 : ∀ K : Later w1, K.out.cell? ⟨w.heap.size + 1, 5, none⟩ = some (.int .u8 255) := fun K => (HP1.out.later K.h).c 5 _ rfl
  have e6 : ∀ K : Later w1, K.out.cell? ⟨w.heap.size + 1, 6, none⟩ = some (.int .u8 255) := fun K => (HP1.out.later K.h).c 6 _ rfl
  refine wp_region_later (by kernel_rfl) (by kernel_rfl) ?_
  repeat (go_big_quiet_step (first | (go_at_call 195; exact Calls.later (IX1.out _))))
  refine wpQuiet_nil ?_
  rintro _ ⟨K, rfl⟩
  go_wp2
  refine bodyPost_ret (v := .tuple #[.int .u8 0, .bool false]) (by simp [results, Tryz.results209, go_sem]) rfl ⟨rfl, HB1.out.trans (K.h.mono HB1.out.size)⟩
set_option maxRecDepth 100000 in
set_option maxHeartbeats 4000000 in
theorem fclone_one (b c : Nat) (w : World) (hw : ∀ i, i < 9 → w.cell? ⟨b, i, none⟩ = (enC 0)[i]?) : Calls Tryz.prog 137 #[.slice (some ⟨b, 0, none⟩) 1 c] w fun en w' => ∃ a cc, en = .returned (.slice a 1 cc) ∧ Below w.heap.size w w' := by
  have hb0 := (Below.refl w.heap.size w).alloc (Nat.le_refl _) (.cells #[] 185)
  have hwl : ∀ i, i < 9 → b < w.heap.size := fun i hi => by have := hw i hi; rw [List.getElem?_eq_getElem (show i < (enC 0).length from hi)] at this; exact World.block_lt_of_cell? _ _ this
  have hs : Rw 9 enC (w.alloc (.cells #[] 185)) (.slice (some ⟨b, 0, none⟩) 1 c) [0] := .inr ⟨⟨b, 0, none⟩, c, rfl, .inr ⟨b, 0, rfl, fun j hj i hi => by
    obtain rfl : j = 0 := by simpa using hj
    simp only [Nat.zero_mul, Nat.zero_add]
    exact (hb0.cell (p := ⟨b, i, none⟩) (hwl i hi)).trans (hw i hi)⟩⟩
  have ho : Ow 9 enC 185 (w.alloc (.cells #[] 185)) w.heap.size (.slice (some ⟨w.heap.size, 0, none⟩) 0 0) [] := ⟨rfl, .inr ⟨w.heap.size, 0, #[], rfl, Nat.le_refl _, heap_alloc_new w _, Nat.le_refl _, Nat.zero_le _, rfl, rfl⟩⟩
  have HS := Lib.hid hs
  have HO := Lib.hid ho
  have HB := Lib.hid hb0
  have EQ : ∀ W : World, (binOp .eql 83 (.slice (some ⟨b, 0, none⟩) 1 c) (.slice none 0 0)).run Tryz.prog W = .ok (.bool false) W := fun W => by kernel_rfl
  clear hb0 hwl hs ho hw
  go_enter Tryz.func137, Tryz.ntmps137
  go_wp2_with (at_builtin; refine wpList_append_rw enC_len enC_one 185 83 _ 24 Tryz.underlying83 info_entry rfl (by decide) (by decide) rfl (.tmp 5) (.tmp 6) rfl w.heap.size _ _ rfl HO.out _ _ rfl HS.out (by simp) (by simp) ?_; intro v1 w1 ho1 hb1; obtain ⟨g1, cap1, t1, rfl, hg1, hc1, -⟩ := ho1.ne (by simp))
  go_ret
  exact ⟨_, _, rfl, HB.out.trans hb1⟩
set_option maxRecDepth 100000 in
set_option maxHeartbeats 4000000 in
theorem flist_one (f s b c : Nat) (w : World) (h : FT w f s (.slice (some ⟨b, 0, none⟩) 1 c)) (hw : ∀ i, i < 9 → w.cell? ⟨b, i, none⟩ = (enC 0)[i]?) : Calls Tryz.prog 71 #[.pointer (some ⟨f, 0, none⟩)] w fun en w' => ∃ a cc, en = .returned (.slice a 1 cc) ∧ Below w.heap.size w w' := by
  have CL := Lib.hid (fclone_one b c w hw)
  have c0 := h.c0
  clear h hw
  go_enter Tryz.func71, Tryz.ntmps71
  go_wp2_with (go_at_call 137; with_reducible refine CL.out.mono ?_; rintro e w1 ⟨a, cc, rfl, hb1⟩)
  go_ret
  exact ⟨_, _, rfl, hb1⟩
end Go.Proofs.YtpkkjbmgbgakdaaGreatDoor
