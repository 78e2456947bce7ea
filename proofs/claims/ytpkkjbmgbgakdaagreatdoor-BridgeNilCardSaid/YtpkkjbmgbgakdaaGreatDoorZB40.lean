/- ZB40: the texts NV as one. -/
import Derived.Test.YtpkkjbmgbgakdaaGreatDoorZB39
import Derived.Test.YtpkkjbmgbgakdaaGreatDoorZB13
/- bridge: the argument of BridgeNil's command; Of. -/
set_option linter.unusedVariables false
set_option linter.unusedSimpArgs false
namespace Go.Proofs.YtpkkjbmgbgakdaaGreatDoor
open Go.RowKit

/-- A command as a statement has it. -/
structure Cm where
  (a0 a1 a2 a3 a4 : Int)
  (m0 m1 m2 m3 m4 m5 : Int)
  (lv : Int)
  (dom nam : ByteArray)
  (avid aiv : Int)
  (mq : Option Addr)
  (mn mc : Nat)
  (mas mid mpt : Int)
  (mup : Bool)
  (low ip iv il : Int)
  (data : ByteArray)
  (ttl : Int)
def Cm.a (c : Cm) : Array Value := #[.int .u8 c.a0, .int .u8 c.a1, .int .u16 c.a2, .int .u8 c.a3, .int .u8 c.a4, .int .u8 c.m0, .int .u8 c.m1, .int .u8 c.m2, .int .u8 c.m3, .int .u8 c.m4, .int .u8 c.m5, .int .u8 c.lv, .string c.dom, .string c.nam, .int .u16 c.avid, .int .u8 c.aiv, .slice c.mq c.mn c.mc, .int .i64 c.mas, .int .u16 c.mid, .int .u8 c.mpt, .bool c.mup, .int .u8 c.low, .int .u8 c.ip, .int .u16 c.iv, .int .u8 c.il, .string c.data, .int .u8 c.ttl]
def Cm.s (c : Cm) : Array Value := #[.int .u8 c.lv, .string c.dom, .string c.nam, .int .u16 c.avid, .int .u8 c.aiv, .slice c.mq c.mn c.mc]
theorem Cm.one (c : Cm) : c.a.all (·.oneCell') = true := by simp [Cm.a, Value.oneCell']
theorem Cm.size (c : Cm) : c.a.size = 27 := rfl
theorem at5 (c : Cm) (j : Nat) (v : Value) (h : [.int .u8 c.m0, .int .u8 c.m1, .int .u8 c.m2, .int .u8 c.m3, .int .u8 c.m4, .int .u8 c.m5][j]? = some v) : c.a[5 + j]? = some v := by
  match j, h with
  | 0, h => exact h
  | 1, h => exact h
  | 2, h => exact h
  | 3, h => exact h
  | 4, h => exact h
  | 5, h => exact h
  | j + 6, h => simp at h
theorem at17 (c : Cm) (j : Nat) (v : Value) (h : [.int .i64 c.mas, .int .u16 c.mid, .int .u8 c.mpt, .bool c.mup][j]? = some v) : c.a[17 + j]? = some v := by
  match j, h with
  | 0, h => exact h
  | 1, h => exact h
  | 2, h => exact h
  | 3, h => exact h
  | j + 4, h => simp at h
set_option maxRecDepth 100000 in
set_option maxHeartbeats 4000000 in
theorem point_any (a n p : Int) (u : Bool) (w : World) : Calls Tryz.prog 41 #[.agg #[.int .i64 a, .int .u16 n, .int .u8 p, .bool u]] w fun en w' => en = .returned (.agg #[.int .i64 a, .int .u16 n, .int .u8 p, .bool u]) ∧ Below w.heap.size w w' := by
  go_enter Tryz.func41, Tryz.ntmps41
  have c0 : ((w.alloc (.cells #[.int .i64 a, .int .u16 n, .int .u8 p, .bool u] 46)).alloc (.cells #[.int .i64 0, .int .u16 0, .int .u8 0, .bool false] 61)).cell? ⟨w.heap.size, 0, none⟩ = some (.int .i64 a) := ((GB.new 46 w _).later ((Below.refl _ _).alloc (Nat.le_refl _) _)).c 0 _ rfl
  have c1 : ((w.alloc (.cells #[.int .i64 a, .int .u16 n, .int .u8 p, .bool u] 46)).alloc (.cells #[.int .i64 0, .int .u16 0, .int .u8 0, .bool false] 61)).cell? ⟨w.heap.size, 1, none⟩ = some (.int .u16 n) := ((GB.new 46 w _).later ((Below.refl _ _).alloc (Nat.le_refl _) _)).c 1 _ rfl
  have c2 : ((w.alloc (.cells #[.int .i64 a, .int .u16 n, .int .u8 p, .bool u] 46)).alloc (.cells #[.int .i64 0, .int .u16 0, .int .u8 0, .bool false] 61)).cell? ⟨w.heap.size, 2, none⟩ = some (.int .u8 p) := ((GB.new 46 w _).later ((Below.refl _ _).alloc (Nat.le_refl _) _)).c 2 _ rfl
  have c3 : ((w.alloc (.cells #[.int .i64 a, .int .u16 n, .int .u8 p, .bool u] 46)).alloc (.cells #[.int .i64 0, .int .u16 0, .int .u8 0, .bool false] 61)).cell? ⟨w.heap.size, 3, none⟩ = some (.bool u) := ((GB.new 46 w _).later ((Below.refl _ _).alloc (Nat.le_refl _) _)).c 3 _ rfl
  have hb : Below w.heap.size w ((w.alloc (.cells #[.int .i64 a, .int .u16 n, .int .u8 p, .bool u] 46)).alloc (.cells #[.int .i64 a, .int .u16 n, .int .u8 p, .bool u] 61)) := ((Below.refl _ _).alloc (Nat.le_refl _) _).alloc (by simp) _
  have hg := GB.new 61 (w.alloc (.cells #[.int .i64 a, .int .u16 n, .int .u8 p, .bool u] 46)) #[.int .i64 a, .int .u16 n, .int .u8 p, .bool u]
  rw [show (w.alloc (.cells #[.int .i64 a, .int .u16 n, .int .u8 p, .bool u] 46)).heap.size = w.heap.size + 1 by simp] at hg
  go_wp2
  exact bodyPost_ret (v := .agg #[.int .i64 a, .int .u16 n, .int .u8 p, .bool u]) (res_one (p := 2) (d := _) rfl rfl Tryz.underlying61 _ _ (w.heap.size + 1) _ rfl hg (by kernel_rfl)) rfl ⟨rfl, hb⟩
set_option maxRecDepth 100000 in
set_option maxHeartbeats 8000000 in
theorem cof_any (c : Cm) (w : World) : Calls Tryz.prog 14 #[.agg c.a] w fun en w' => en = .returned (.agg c.a) ∧ Below w.heap.size w w' := by
  have hb := (Below.refl w.heap.size w).alloc (Nat.le_refl _) (.cells c.a 50)
  have hb1 := hb.alloc (by simp) (.cells #[.int .u8 0, .int .u8 0, .int .u16 0, .int .u8 0, .int .u8 0, .int .u8 0, .int .u8 0, .int .u8 0, .int .u8 0, .int .u8 0, .int .u8 0, .int .u8 0, .string { data := #[] }, .string { data := #[] }, .int .u16 0, .int .u8 0, .slice none 0 0, .int .i64 0, .int .u16 0, .int .u8 0, .bool false, .int .u8 0, .int .u8 0, .int .u16 0, .int .u8 0, .string { data := #[] }, .int .u8 0] 64)
  have g0 := (GB.new 50 w c.a).later ((Below.refl _ _).alloc (Nat.le_refl _) (.cells #[.int .u8 0, .int .u8 0, .int .u16 0, .int .u8 0, .int .u8 0, .int .u8 0, .int .u8 0, .int .u8 0, .int .u8 0, .int .u8 0, .int .u8 0, .int .u8 0, .string { data := #[] }, .string { data := #[] }, .int .u16 0, .int .u8 0, .slice none 0 0, .int .i64 0, .int .u16 0, .int .u8 0, .bool false, .int .u8 0, .int .u8 0, .int .u16 0, .int .u8 0, .string { data := #[] }, .int .u8 0] 64))
  have g1 := GB.new 64 (w.alloc (.cells c.a 50)) #[.int .u8 0, .int .u8 0, .int .u16 0, .int .u8 0, .int .u8 0, .int .u8 0, .int .u8 0, .int .u8 0, .int .u8 0, .int .u8 0, .int .u8 0, .int .u8 0, .string { data := #[] }, .string { data := #[] }, .int .u16 0, .int .u8 0, .slice none 0 0, .int .i64 0, .int .u16 0, .int .u8 0, .bool false, .int .u8 0, .int .u8 0, .int .u16 0, .int .u8 0, .string { data := #[] }, .int .u8 0]
  rw [show (w.alloc (.cells c.a 50)).heap.size = w.heap.size + 1 by simp] at g1
  go_enter Tryz.func14, Tryz.ntmps14
  go_upto_region 1 with fail
  obtain ⟨w0, hw0⟩ : ∃ z, (w.alloc (.cells c.a 50)).alloc (.cells #[.int .u8 0, .int .u8 0, .int .u16 0, .int .u8 0, .int .u8 0, .int .u8 0, .int .u8 0, .int .u8 0, .int .u8 0, .int .u8 0, .int .u8 0, .int .u8 0, .string { data := #[] }, .string { data := #[] }, .int .u16 0, .int .u8 0, .slice none 0 0, .int .i64 0, .int .u16 0, .int .u8 0, .bool false, .int .u8 0, .int .u8 0, .int .u16 0, .int .u8 0, .string { data := #[] }, .int .u8 0] 64) = z := ⟨_, rfl⟩
  have hs0 : w0.heap.size = w.heap.size + 2 := by rw [← hw0]; simp
  rw [hw0] at hb1 g0 g1 ⊢
  have c11 : w0.cell? ⟨w.heap.size, 11, none⟩ = some (.int .u8 c.lv) := g0.c 11 _ rfl
  have c12 : w0.cell? ⟨w.heap.size, 12, none⟩ = some (.string c.dom) := g0.c 12 _ rfl
  have c13 : w0.cell? ⟨w.heap.size, 13, none⟩ = some (.string c.nam) := g0.c 13 _ rfl
  have c14 : w0.cell? ⟨w.heap.size, 14, none⟩ = some (.int .u16 c.avid) := g0.c 14 _ rfl
  have c15 : w0.cell? ⟨w.heap.size, 15, none⟩ = some (.int .u8 c.aiv) := g0.c 15 _ rfl
  have c16 : w0.cell? ⟨w.heap.size, 16, none⟩ = some (.slice c.mq c.mn c.mc) := g0.c 16 _ rfl
  clear hw0 hb
  have G0 := Lib.hid g0
  have G1 := Lib.hid g1
  have B1 := Lib.hid hb1
  clear g0 g1 hb1
  go_upto_region 2 with fail
  have hb2 := B1.out.alloc (by rw [hs0]; omega) (.cells #[.int .u8 c.lv, .string c.dom, .string c.nam, .int .u16 c.avid, .int .u8 c.aiv, .slice c.mq c.mn c.mc] 60)
  have g0 := G0.out.later ((Below.refl _ _).alloc (Nat.le_refl _) (.cells #[.int .u8 c.lv, .string c.dom, .string c.nam, .int .u16 c.avid, .int .u8 c.aiv, .slice c.mq c.mn c.mc] 60))
  have g1 := G1.out.later ((Below.refl _ _).alloc (Nat.le_refl _) (.cells #[.int .u8 c.lv, .string c.dom, .string c.nam, .int .u16 c.avid, .int .u8 c.aiv, .slice c.mq c.mn c.mc] 60))
  have g2 := GB.new 60 w0 #[.int .u8 c.lv, .string c.dom, .string c.nam, .int .u16 c.avid, .int .u8 c.aiv, .slice c.mq c.mn c.mc]
  rw [hs0] at g2
  obtain ⟨w1, hw1⟩ : ∃ z, w0.alloc (.cells #[.int .u8 c.lv, .string c.dom, .string c.nam, .int .u16 c.avid, .int .u8 c.aiv, .slice c.mq c.mn c.mc] 60) = z := ⟨_, rfl⟩
  rw [hw1] at hb2 g0 g1 g2 ⊢
  clear hw1 c11 c12 c13 c14 c15 c16 hs0 G0 G1 B1
  have dd := (Below.refl w1.heap.size w1).drew
  have B2 := Lib.hid (hb2.trans (dd.mono hb2.size))
  have G1 := Lib.hid (g1.later dd)
  have hS := And.intro (g0.later dd) (g2.later dd)
  clear hb2 g0 g1 g2 dd
  refine wp_region_held_drew (S := fun W => GB 50 W w.heap.size c.a ∧ GB 60 W (w.heap.size + 2) #[.int .u8 c.lv, .string c.dom, .string c.nam, .int .u16 c.avid, .int .u8 c.aiv, .slice c.mq c.mn c.mc]) (by kernel_rfl) hS (fun hHeld => ?_)
  refine wpAnyH_take (i := 0) (v := ?_) rfl (by kernel_rfl) (by kernel_rfl) (by kernel_rfl) (fun _ _ _ h => h) (Or.inl ⟨by rfl, ?hy0⟩) (by assumption) ?_
  case hy0 => (intro w hSw; (try dsimp only at hSw); go_simp; try with_reducible rfl)
  try simp only [Act.put, List.setIfInBounds_toArray, List.set_cons_zero, List.set_cons_succ, List.getElem_toArray, List.getElem_cons_zero, List.getElem_cons_succ]
  refine wpAnyH_take (i := 1) (v := ?_) rfl (by kernel_rfl) (by kernel_rfl) (by kernel_rfl) (fun _ _ _ h => h) (Or.inl ⟨by rfl, ?hy1⟩) (by assumption) ?_
  case hy1 => (intro w' hSw; have c' : w'.cell? ⟨w.heap.size, 0, none⟩ = some (.int .u8 c.a0) := hSw.1.c 0 _ rfl; clear hSw; go_simp; try with_reducible rfl)
  try simp only [Act.put, List.setIfInBounds_toArray, List.set_cons_zero, List.set_cons_succ, List.getElem_toArray, List.getElem_cons_zero, List.getElem_cons_succ]
  refine wpAnyH_take (i := 2) (v := ?_) rfl (by kernel_rfl) (by kernel_rfl) (by kernel_rfl) (fun _ _ _ h => h) (Or.inl ⟨by rfl, ?hy2⟩) (by assumption) ?_
  case hy2 => (intro w hSw; (try dsimp only at hSw); go_simp; try with_reducible rfl)
  try simp only [Act.put, List.setIfInBounds_toArray, List.set_cons_zero, List.set_cons_succ, List.getElem_toArray, List.getElem_cons_zero, List.getElem_cons_succ]
  refine wpAnyH_take (i := 3) (v := ?_) rfl (by kernel_rfl) (by kernel_rfl) (by kernel_rfl) (fun _ _ _ h => h) (Or.inl ⟨by rfl, ?hy3⟩) (by assumption) ?_
  case hy3 => (intro w' hSw; have c' : w'.cell? ⟨w.heap.size, 1, none⟩ = some (.int .u8 c.a1) := hSw.1.c 1 _ rfl; clear hSw; go_simp; try with_reducible rfl)
  try simp only [Act.put, List.setIfInBounds_toArray, List.set_cons_zero, List.set_cons_succ, List.getElem_toArray, List.getElem_cons_zero, List.getElem_cons_succ]
  refine wpAnyH_take (i := 4) (v := ?_) rfl (by kernel_rfl) (by kernel_rfl) (by kernel_rfl) (fun _ _ _ h => h) (Or.inl ⟨by rfl, ?hy4⟩) (by assumption) ?_
  case hy4 => (intro w hSw; (try dsimp only at hSw); go_simp; try with_reducible rfl)
  try simp only [Act.put, List.setIfInBounds_toArray, List.set_cons_zero, List.set_cons_succ, List.getElem_toArray, List.getElem_cons_zero, List.getElem_cons_succ]
  refine wpAnyH_take (i := 5) (v := ?_) rfl (by kernel_rfl) (by kernel_rfl) (by kernel_rfl) (fun _ _ _ h => h) (Or.inl ⟨by rfl, ?hy5⟩) (by assumption) ?_
  case hy5 => (intro w' hSw; have c' : w'.cell? ⟨w.heap.size, 2, none⟩ = some (.int .u16 c.a2) := hSw.1.c 2 _ rfl; clear hSw; go_simp; try with_reducible rfl)
  try simp only [Act.put, List.setIfInBounds_toArray, List.set_cons_zero, List.set_cons_succ, List.getElem_toArray, List.getElem_cons_zero, List.getElem_cons_succ]
  refine wpAnyH_take (i := 6) (v := ?_) rfl (by kernel_rfl) (by kernel_rfl) (by kernel_rfl) (fun _ _ _ h => h) (Or.inl ⟨by rfl, ?hy6⟩) (by assumption) ?_
  case hy6 => (intro w hSw; (try dsimp only at hSw); go_simp; try with_reducible rfl)
  try simp only [Act.put, List.setIfInBounds_toArray, List.set_cons_zero, List.set_cons_succ, List.getElem_toArray, List.getElem_cons_zero, List.getElem_cons_succ]
  refine wpAnyH_take (i := 7) (v := ?_) rfl (by kernel_rfl) (by kernel_rfl) (by kernel_rfl) (fun _ _ _ h => h) (Or.inl ⟨by rfl, ?hy7⟩) (by assumption) ?_
  case hy7 => (intro w' hSw; have c' : w'.cell? ⟨w.heap.size, 3, none⟩ = some (.int .u8 c.a3) := hSw.1.c 3 _ rfl; clear hSw; go_simp; try with_reducible rfl)
  try simp only [Act.put, List.setIfInBounds_toArray, List.set_cons_zero, List.set_cons_succ, List.getElem_toArray, List.getElem_cons_zero, List.getElem_cons_succ]
  refine wpAnyH_take (i := 8) (v := ?_) rfl (by kernel_rfl) (by kernel_rfl) (by kernel_rfl) (fun _ _ _ h => h) (Or.inl ⟨by rfl, ?hy8⟩) (by assumption) ?_
  case hy8 => (intro w hSw; (try dsimp only at hSw); go_simp; try with_reducible rfl)
  try simp only [Act.put, List.setIfInBounds_toArray, List.set_cons_zero, List.set_cons_succ, List.getElem_toArray, List.getElem_cons_zero, List.getElem_cons_succ]
  refine wpAnyH_take (i := 9) (v := ?_) rfl (by kernel_rfl) (by kernel_rfl) (by kernel_rfl) (fun _ _ _ h => h) (Or.inl ⟨by rfl, ?hy9⟩) (by assumption) ?_
  case hy9 => (intro w' hSw; have c' : w'.cell? ⟨w.heap.size, 4, none⟩ = some (.int .u8 c.a4) := hSw.1.c 4 _ rfl; clear hSw; go_simp; try with_reducible rfl)
  try simp only [Act.put, List.setIfInBounds_toArray, List.set_cons_zero, List.set_cons_succ, List.getElem_toArray, List.getElem_cons_zero, List.getElem_cons_succ]
  refine wpAnyH_take (i := 10) (v := ?_) rfl (by kernel_rfl) (by kernel_rfl) (by kernel_rfl) (fun _ _ _ h => h) (Or.inl ⟨by rfl, ?hy10⟩) (by assumption) ?_
  case hy10 => (intro w hSw; (try dsimp only at hSw); go_simp; try with_reducible rfl)
  try simp only [Act.put, List.setIfInBounds_toArray, List.set_cons_zero, List.set_cons_succ, List.getElem_toArray, List.getElem_cons_zero, List.getElem_cons_succ]
  refine wpAnyH_take (i := 11) (v := .agg #[.int .u8 c.m0, .int .u8 c.m1, .int .u8 c.m2, .int .u8 c.m3, .int .u8 c.m4, .int .u8 c.m5]) rfl (by kernel_rfl) (by kernel_rfl) (by kernel_rfl) (fun _ _ _ h => h) (yieldsIf_load_mid (by rfl) 41 (.tmp 33) rfl w.heap.size 5 (by rfl) [.int .u8 c.m0, .int .u8 c.m1, .int .u8 c.m2, .int .u8 c.m3, .int .u8 c.m4, .int .u8 c.m5] _ (fun W hW => fun j v hv => hW.1.c (5 + j) v (at5 c j v hv)) Tryz.underlying41 rfl (by kernel_rfl)) (by assumption) ?_
  try simp only [Act.put, List.setIfInBounds_toArray, List.set_cons_zero, List.set_cons_succ, List.getElem_toArray, List.getElem_cons_zero, List.getElem_cons_succ]
  refine wpAnyH_take (i := 12) (v := .agg #[.int .u8 c.lv, .string c.dom, .string c.nam, .int .u16 c.avid, .int .u8 c.aiv, .slice c.mq c.mn c.mc]) rfl (by kernel_rfl) (by kernel_rfl) (by kernel_rfl) (fun _ _ _ h => h) (yieldsIf_load_mid (by rfl) 60 (.tmp 3) rfl (w.heap.size + 2) 0 (by rfl) [.int .u8 c.lv, .string c.dom, .string c.nam, .int .u16 c.avid, .int .u8 c.aiv, .slice c.mq c.mn c.mc] _ (fun W hW => hW.2.range) Tryz.underlying60 rfl (by kernel_rfl)) (by assumption) ?_
  try simp only [Act.put, List.setIfInBounds_toArray, List.set_cons_zero, List.set_cons_succ, List.getElem_toArray, List.getElem_cons_zero, List.getElem_cons_succ]
  refine wpAnyH_take (i := 13) (v := ?_) rfl (by kernel_rfl) (by kernel_rfl) (by kernel_rfl) (fun _ _ _ h => h) (Or.inl ⟨by rfl, ?hy13⟩) (by assumption) ?_
  case hy13 => (intro w hSw; (try dsimp only at hSw); go_simp; try with_reducible rfl)
  try simp only [Act.put, List.setIfInBounds_toArray, List.set_cons_zero, List.set_cons_succ, List.getElem_toArray, List.getElem_cons_zero, List.getElem_cons_succ]
  refine wpAnyH_take (i := 14) (v := .agg #[.int .i64 c.mas, .int .u16 c.mid, .int .u8 c.mpt, .bool c.mup]) rfl (by kernel_rfl) (by kernel_rfl) (by kernel_rfl) (fun _ _ _ h => h) (yieldsIf_load_mid (by rfl) 46 (.tmp 36) rfl w.heap.size 17 (by rfl) [.int .i64 c.mas, .int .u16 c.mid, .int .u8 c.mpt, .bool c.mup] _ (fun W hW => fun j v hv => hW.1.c (17 + j) v (at17 c j v hv)) Tryz.underlying46 rfl (by kernel_rfl)) (by assumption) ?_
  try simp only [Act.put, List.setIfInBounds_toArray, List.set_cons_zero, List.set_cons_succ, List.getElem_toArray, List.getElem_cons_zero, List.getElem_cons_succ]
  refine wpAnyH_take (i := 16) (v := ?_) rfl (by kernel_rfl) (by kernel_rfl) (by kernel_rfl) (fun _ _ _ h => h) (Or.inl ⟨by rfl, ?hy16⟩) (by assumption) ?_
  case hy16 => (intro w hSw; (try dsimp only at hSw); go_simp; try with_reducible rfl)
  try simp only [Act.put, List.setIfInBounds_toArray, List.set_cons_zero, List.set_cons_succ, List.getElem_toArray, List.getElem_cons_zero, List.getElem_cons_succ]
  refine wpAnyH_take (i := 17) (v := ?_) rfl (by kernel_rfl) (by kernel_rfl) (by kernel_rfl) (fun _ _ _ h => h) (Or.inl ⟨by rfl, ?hy17⟩) (by assumption) ?_
  case hy17 => (intro w' hSw; have c' : w'.cell? ⟨w.heap.size, 21, none⟩ = some (.int .u8 c.low) := hSw.1.c 21 _ rfl; clear hSw; go_simp; try with_reducible rfl)
  try simp only [Act.put, List.setIfInBounds_toArray, List.set_cons_zero, List.set_cons_succ, List.getElem_toArray, List.getElem_cons_zero, List.getElem_cons_succ]
  refine wpAnyH_take (i := 18) (v := ?_) rfl (by kernel_rfl) (by kernel_rfl) (by kernel_rfl) (fun _ _ _ h => h) (Or.inl ⟨by rfl, ?hy18⟩) (by assumption) ?_
  case hy18 => (intro w hSw; (try dsimp only at hSw); go_simp; try with_reducible rfl)
  try simp only [Act.put, List.setIfInBounds_toArray, List.set_cons_zero, List.set_cons_succ, List.getElem_toArray, List.getElem_cons_zero, List.getElem_cons_succ]
  refine wpAnyH_take (i := 19) (v := ?_) rfl (by kernel_rfl) (by kernel_rfl) (by kernel_rfl) (fun _ _ _ h => h) (Or.inl ⟨by rfl, ?hy19⟩) (by assumption) ?_
  case hy19 => (intro w hSw; (try dsimp only at hSw); go_simp; try with_reducible rfl)
  try simp only [Act.put, List.setIfInBounds_toArray, List.set_cons_zero, List.set_cons_succ, List.getElem_toArray, List.getElem_cons_zero, List.getElem_cons_succ]
  refine wpAnyH_take (i := 20) (v := ?_) rfl (by kernel_rfl) (by kernel_rfl) (by kernel_rfl) (fun _ _ _ h => h) (Or.inl ⟨by rfl, ?hy20⟩) (by assumption) ?_
  case hy20 => (intro w' hSw; have c' : w'.cell? ⟨w.heap.size, 22, none⟩ = some (.int .u8 c.ip) := hSw.1.c 22 _ rfl; clear hSw; go_simp; try with_reducible rfl)
  try simp only [Act.put, List.setIfInBounds_toArray, List.set_cons_zero, List.set_cons_succ, List.getElem_toArray, List.getElem_cons_zero, List.getElem_cons_succ]
  refine wpAnyH_take (i := 21) (v := ?_) rfl (by kernel_rfl) (by kernel_rfl) (by kernel_rfl) (fun _ _ _ h => h) (Or.inl ⟨by rfl, ?hy21⟩) (by assumption) ?_
  case hy21 => (intro w hSw; (try dsimp only at hSw); go_simp; try with_reducible rfl)
  try simp only [Act.put, List.setIfInBounds_toArray, List.set_cons_zero, List.set_cons_succ, List.getElem_toArray, List.getElem_cons_zero, List.getElem_cons_succ]
  refine wpAnyH_take (i := 22) (v := ?_) rfl (by kernel_rfl) (by kernel_rfl) (by kernel_rfl) (fun _ _ _ h => h) (Or.inl ⟨by rfl, ?hy22⟩) (by assumption) ?_
  case hy22 => (intro w hSw; (try dsimp only at hSw); go_simp; try with_reducible rfl)
  try simp only [Act.put, List.setIfInBounds_toArray, List.set_cons_zero, List.set_cons_succ, List.getElem_toArray, List.getElem_cons_zero, List.getElem_cons_succ]
  refine wpAnyH_take (i := 23) (v := ?_) rfl (by kernel_rfl) (by kernel_rfl) (by kernel_rfl) (fun _ _ _ h => h) (Or.inl ⟨by rfl, ?hy23⟩) (by assumption) ?_
  case hy23 => (intro w' hSw; have c' : w'.cell? ⟨w.heap.size, 23, none⟩ = some (.int .u16 c.iv) := hSw.1.c 23 _ rfl; clear hSw; go_simp; try with_reducible rfl)
  try simp only [Act.put, List.setIfInBounds_toArray, List.set_cons_zero, List.set_cons_succ, List.getElem_toArray, List.getElem_cons_zero, List.getElem_cons_succ]
  refine wpAnyH_take (i := 24) (v := ?_) rfl (by kernel_rfl) (by kernel_rfl) (by kernel_rfl) (fun _ _ _ h => h) (Or.inl ⟨by rfl, ?hy24⟩) (by assumption) ?_
  case hy24 => (intro w hSw; (try dsimp only at hSw); go_simp; try with_reducible rfl)
  try simp only [Act.put, List.setIfInBounds_toArray, List.set_cons_zero, List.set_cons_succ, List.getElem_toArray, List.getElem_cons_zero, List.getElem_cons_succ]
  refine wpAnyH_take (i := 25) (v := ?_) rfl (by kernel_rfl) (by kernel_rfl) (by kernel_rfl) (fun _ _ _ h => h) (Or.inl ⟨by rfl, ?hy25⟩) (by assumption) ?_
  case hy25 => (intro w hSw; (try dsimp only at hSw); go_simp; try with_reducible rfl)
  try simp only [Act.put, List.setIfInBounds_toArray, List.set_cons_zero, List.set_cons_succ, List.getElem_toArray, List.getElem_cons_zero, List.getElem_cons_succ]
  refine wpAnyH_take (i := 26) (v := ?_) rfl (by kernel_rfl) (by kernel_rfl) (by kernel_rfl) (fun _ _ _ h => h) (Or.inl ⟨by rfl, ?hy26⟩) (by assumption) ?_
  case hy26 => (intro w' hSw; have c' : w'.cell? ⟨w.heap.size, 24, none⟩ = some (.int .u8 c.il) := hSw.1.c 24 _ rfl; clear hSw; go_simp; try with_reducible rfl)
  try simp only [Act.put, List.setIfInBounds_toArray, List.set_cons_zero, List.set_cons_succ, List.getElem_toArray, List.getElem_cons_zero, List.getElem_cons_succ]
  refine wpAnyH_take (i := 27) (v := ?_) rfl (by kernel_rfl) (by kernel_rfl) (by kernel_rfl) (fun _ _ _ h => h) (Or.inl ⟨by rfl, ?hy27⟩) (by assumption) ?_
  case hy27 => (intro w hSw; (try dsimp only at hSw); go_simp; try with_reducible rfl)
  try simp only [Act.put, List.setIfInBounds_toArray, List.set_cons_zero, List.set_cons_succ, List.getElem_toArray, List.getElem_cons_zero, List.getElem_cons_succ]
  refine wpAnyH_take (i := 28) (v := ?_) rfl (by kernel_rfl) (by kernel_rfl) (by kernel_rfl) (fun _ _ _ h => h) (Or.inl ⟨by rfl, ?hy28⟩) (by assumption) ?_
  case hy28 => (intro w hSw; (try dsimp only at hSw); go_simp; try with_reducible rfl)
  try simp only [Act.put, List.setIfInBounds_toArray, List.set_cons_zero, List.set_cons_succ, List.getElem_toArray, List.getElem_cons_zero, List.getElem_cons_succ]
  refine wpAnyH_take (i := 29) (v := ?_) rfl (by kernel_rfl) (by kernel_rfl) (by kernel_rfl) (fun _ _ _ h => h) (Or.inl ⟨by rfl, ?hy29⟩) (by assumption) ?_
  case hy29 => (intro w' hSw; have c' : w'.cell? ⟨w.heap.size, 25, none⟩ = some (.string c.data) := hSw.1.c 25 _ rfl; clear hSw; go_simp; try with_reducible rfl)
  try simp only [Act.put, List.setIfInBounds_toArray, List.set_cons_zero, List.set_cons_succ, List.getElem_toArray, List.getElem_cons_zero, List.getElem_cons_succ]
  refine wpAnyH_take (i := 30) (v := ?_) rfl (by kernel_rfl) (by kernel_rfl) (by kernel_rfl) (fun _ _ _ h => h) (Or.inl ⟨by rfl, ?hy30⟩) (by assumption) ?_
  case hy30 => (intro w hSw; (try dsimp only at hSw); go_simp; try with_reducible rfl)
  try simp only [Act.put, List.setIfInBounds_toArray, List.set_cons_zero, List.set_cons_succ, List.getElem_toArray, List.getElem_cons_zero, List.getElem_cons_succ]
  refine wpAnyH_take (i := 31) (v := ?_) rfl (by kernel_rfl) (by kernel_rfl) (by kernel_rfl) (fun _ _ _ h => h) (Or.inl ⟨by rfl, ?hy31⟩) (by assumption) ?_
  case hy31 => (intro w' hSw; have c' : w'.cell? ⟨w.heap.size, 26, none⟩ = some (.int .u8 c.ttl) := hSw.1.c 26 _ rfl; clear hSw; go_simp; try with_reducible rfl)
  try simp only [Act.put, List.setIfInBounds_toArray, List.set_cons_zero, List.set_cons_succ, List.getElem_toArray, List.getElem_cons_zero, List.getElem_cons_succ]
  refine wpAnyH_ready (rs := [15]) (by kernel_rfl) (by simp) (AllReadyH.cons rfl (fun K hK => ?_) AllReadyH.nil)
  (go_simp; go_at_call 41; refine (point_any _ _ _ _ _).mono ?_; rintro en' w2 ⟨rfl, hb2⟩; have G2 := Lib.hid (G1.out.later hb2); have B3 := Lib.hid (B2.out.trans (hb2.mono B2.out.size)); refine hK.out _ _ ⟨hS.1.later hb2, hS.2.later hb2⟩ (fun hHeld => ?_); clear hK K; try simp only [Act.put, List.setIfInBounds_toArray, List.set_cons_zero, List.set_cons_succ, List.getElem_toArray, List.getElem_cons_zero, List.getElem_cons_succ])
  refine wpAnyH_take (i := 32) (v := ?_) rfl (by kernel_rfl) (by kernel_rfl) (by kernel_rfl) (fun _ _ _ h => h) (Or.inl ⟨by rfl, ?hy32⟩) (by assumption) ?_
  case hy32 => (intro w hSw; (try dsimp only at hSw); go_simp; try with_reducible rfl)
  try simp only [Act.put, List.setIfInBounds_toArray, List.set_cons_zero, List.set_cons_succ, List.getElem_toArray, List.getElem_cons_zero, List.getElem_cons_succ]
  have hS2 : GB 50 w2 w.heap.size c.a ∧ GB 60 w2 (w.heap.size + 2) #[.int .u8 c.lv, .string c.dom, .string c.nam, .int .u16 c.avid, .int .u8 c.aiv, .slice c.mq c.mn c.mc] := ⟨hS.1.later hb2, hS.2.later hb2⟩
  refine wpAnyH_ready (rs := [33]) (by kernel_rfl) (by simp) (AllReadyH.cons rfl (fun K hK => ?_) AllReadyH.nil)
  (refine wp_store_mid 64 (.tmp 2) (.tmp 55) rfl _ 0 c.a rfl (by rfl) (G2.out.there (Nat.le_refl 27)) (by kernel_rfl) c.one ?_; refine hK.out _ _ ⟨GB.cellsOther (by omega) _ _ _ hS2.1, GB.cellsOther (by omega) _ _ _ hS2.2⟩ (fun hHeld => ?_); clear hK K; try simp only [Act.put, List.setIfInBounds_toArray, List.set_cons_zero, List.set_cons_succ, List.getElem_toArray, List.getElem_cons_zero, List.getElem_cons_succ])
  refine wpAnyH_done (by kernel_rfl) ?_ _
  go_wp2
  exact bodyPost_ret (v := .agg c.a) (res_one (p := 2) (d := _) rfl rfl Tryz.underlying64 _ _ (w.heap.size + 1) _ rfl (G2.out.store (by rfl) c.one) (by kernel_rfl)) rfl ⟨rfl, below_cellsG (by omega) _ _ _ B3.out⟩
/-- A truth is given back. -/
def IsB (en : Ending) : Prop := ∃ q, en = .returned (.bool q)
set_option maxRecDepth 100000 in
set_option maxHeartbeats 8000000 in
theorem great_any (c : Cm) (s : ByteArray) (w : World) (b : Nat) (hr : w.rangeAt b 2 c.a.toList) (hs : w.cell? ⟨b, 29, none⟩ = some (.string s)) : Calls Tryz.prog 5 #[.slice (some ⟨b, 0, none⟩) 1 1] w fun en w' => IsB en ∧ Below w.heap.size w w' := by
  have HR := Lib.hid hr
  have HIL : Hid ((Tryz.prog.info? 50).map (·.size) = some c.a.toList.length) := Lib.hid (show _ = some 27 by kernel_rfl)
  have HIZ : Hid ((Tryz.prog.info? 50).map (·.size) = some c.a.size) := Lib.hid (show _ = some 27 by kernel_rfl)
  have hb := below_cells (Nat.le_refl _) c.a.toList 0 _ ((Below.refl w.heap.size w).alloc (Nat.le_refl _) (.cells #[.int .u8 0, .int .u8 0, .int .u16 0, .int .u8 0, .int .u8 0, .int .u8 0, .int .u8 0, .int .u8 0, .int .u8 0, .int .u8 0, .int .u8 0, .int .u8 0, .string { data := #[] }, .string { data := #[] }, .int .u16 0, .int .u8 0, .slice none 0 0, .int .i64 0, .int .u16 0, .int .u8 0, .bool false, .int .u8 0, .int .u8 0, .int .u16 0, .int .u8 0, .string { data := #[] }, .int .u8 0] 50))
  have TH : Hid ((w.alloc (.cells #[.int .u8 0, .int .u8 0, .int .u16 0, .int .u8 0, .int .u8 0, .int .u8 0, .int .u8 0, .int .u8 0, .int .u8 0, .int .u8 0, .int .u8 0, .int .u8 0, .string { data := #[] }, .string { data := #[] }, .int .u16 0, .int .u8 0, .slice none 0 0, .int .i64 0, .int .u16 0, .int .u8 0, .bool false, .int .u8 0, .int .u8 0, .int .u16 0, .int .u8 0, .string { data := #[] }, .int .u8 0] 50)).there w.heap.size 0 c.a.size) := Lib.hid ((GB.new 50 w #[.int .u8 0, .int .u8 0, .int .u16 0, .int .u8 0, .int .u8 0, .int .u8 0, .int .u8 0, .int .u8 0, .int .u8 0, .int .u8 0, .int .u8 0, .int .u8 0, .string { data := #[] }, .string { data := #[] }, .int .u16 0, .int .u8 0, .slice none 0 0, .int .i64 0, .int .u16 0, .int .u8 0, .bool false, .int .u8 0, .int .u8 0, .int .u16 0, .int .u8 0, .string { data := #[] }, .int .u8 0]).there (Nat.le_refl 27))
  have g0 := (GB.new 50 w #[.int .u8 0, .int .u8 0, .int .u16 0, .int .u8 0, .int .u8 0, .int .u8 0, .int .u8 0, .int .u8 0, .int .u8 0, .int .u8 0, .int .u8 0, .int .u8 0, .string { data := #[] }, .string { data := #[] }, .int .u16 0, .int .u8 0, .slice none 0 0, .int .i64 0, .int .u16 0, .int .u8 0, .bool false, .int .u8 0, .int .u8 0, .int .u16 0, .int .u8 0, .string { data := #[] }, .int .u8 0]).store (A := c.a) rfl c.one
  have hs1 := (hb.cell (World.block_lt_of_cell? _ _ hs)).trans hs
  obtain ⟨w0, hw0⟩ : ∃ z, (w.alloc (.cells #[.int .u8 0, .int .u8 0, .int .u16 0, .int .u8 0, .int .u8 0, .int .u8 0, .int .u8 0, .int .u8 0, .int .u8 0, .int .u8 0, .int .u8 0, .int .u8 0, .string { data := #[] }, .string { data := #[] }, .int .u16 0, .int .u8 0, .slice none 0 0, .int .i64 0, .int .u16 0, .int .u8 0, .bool false, .int .u8 0, .int .u8 0, .int .u16 0, .int .u8 0, .string { data := #[] }, .int .u8 0] 50)).setCells w.heap.size 0 c.a.toList = z := ⟨_, rfl⟩
  rw [hw0] at hb g0 hs1
  have k0 : w0.cell? ⟨w.heap.size, 25, none⟩ = some (.string c.data) := g0.c 25 _ rfl
  have k1 : w0.cell? ⟨w.heap.size, 13, none⟩ = some (.string c.nam) := g0.c 13 _ rfl
  have k2 : w0.cell? ⟨w.heap.size, 12, none⟩ = some (.string c.dom) := g0.c 12 _ rfl
  have k3 : w0.cell? ⟨w.heap.size, 16, none⟩ = some (.slice c.mq c.mn c.mc) := g0.c 16 _ rfl
  have HB := Lib.hid hb
  clear hb g0 hr hs
  go_enter Tryz.func5, Tryz.ntmps5
  go_wp2_with fail
  refine wp_loop_rounds 2 ?_
  rw [rounds_succ]
  go_upto_region 7 with (first | ((with_reducible refine wpList_load_mid rfl 50 (.tmp 17) rfl b 2 ?hx c.a.toList _ HR.out Tryz.underlying50 ?hu HIL.out ?_); (case hx => rfl); (case hu => rfl)) | ((with_reducible refine wpList_store_mid rfl 50 (.tmp 4) (.tmp 18) rfl w.heap.size 0 c.a ?hx ?hy TH.out HIZ.out c.one ?_); (case hx => rfl); (case hy => rfl)))
  rw [hw0]
  clear hw0
  by_cases q0 : (2000 : Int) < s.size
  · go_wp2_with fail
    go_ret
    exact ⟨⟨true, rfl⟩, HB.out⟩
  by_cases q1 : (300 : Int) < c.data.size
  · go_wp2_with fail
    go_ret
    exact ⟨⟨true, rfl⟩, HB.out⟩
  by_cases q2 : (100 : Int) < c.nam.size
  · go_wp2_with fail
    go_ret
    exact ⟨⟨true, rfl⟩, HB.out⟩
  by_cases q3 : (100 : Int) < c.dom.size
  · go_wp2_with fail
    go_ret
    exact ⟨⟨true, rfl⟩, HB.out⟩
  by_cases q4 : (20 : Int) < c.mn
  · go_wp2_with fail
    go_ret
    exact ⟨⟨true, rfl⟩, HB.out⟩
  go_wp2_with fail
  rw [rounds_succ]
  go_wp2_with fail
  go_ret
  exact ⟨⟨false, rfl⟩, HB.out⟩
end Go.Proofs.YtpkkjbmgbgakdaaGreatDoor
