/- ZB25: the texts N0, N2 as one. -/
import Derived.Test.YtpkkjbmgbgakdaaGreatDoorZB06
import Derived.Test.YtpkkjbmgbgakdaaGreatDoorZB24
import Derived.Test.YtpkkjbmgbgakdaaGreatDoorZB07
/- tree: machines, their blocks. -/
set_option linter.unusedVariables false
namespace Go.Proofs.YtpkkjbmgbgakdaaGreatDoor
open Go.RowKit

/-- A port. -/
structure TP where
  c : Int
  up : Bool
  h : Bp
  la : Int
  ag : Bool
  sp : Int
/-- A machine. -/
structure TM where
  id : Int
  P : List TP
  rt : Int
  co : Int
  po : Int
  ho : Int
  ve : Int
  fl : Int
def bpC (b : Bp) : List Value := [.int .u64 b.rt, .int .u32 b.co, .int .u64 b.br, .int .u8 b.po, .int .u8 b.ho, .int .u64 b.ve, .int .u8 b.ro, .bool b.pr, .bool b.ag, .bool b.tp, .int .u64 b.ec]
def tpC (p : TP) : List Value := [.int .u32 p.c, .bool p.up, .int .u64 p.h.rt, .int .u32 p.h.co, .int .u64 p.h.br, .int .u8 p.h.po, .int .u8 p.h.ho, .int .u64 p.h.ve, .int .u8 p.h.ro, .bool p.h.pr, .bool p.h.ag, .bool p.h.tp, .int .u64 p.h.ec, .int .i64 p.la, .bool p.ag, .int .i64 p.sp]
theorem tpC_len (p : TP) : (tpC p).length = 16 := rfl
def tmA (T : TM) (v : Value) : Array Value := #[.int .u64 T.id, v, .int .u64 T.rt, .int .u32 T.co, .int .i64 T.po, .int .u8 T.ho, .int .u64 T.ve, .int .u8 T.fl]
/-- A row of ports, and what lies behind it. -/
def RowP (W : World) (g : Nat) (l : List TP) (t : List Value) : Prop := W.heap[g]? = some (.cells (l.flatMap tpC ++ t).toArray 175 (0, 0))
section
variable {W W' : World} {g : Nat} {l : List TP} {t : List Value}
theorem RowP.lt (h : RowP W g l t) : g < W.heap.size := (Array.getElem?_eq_some_iff.1 h).1
theorem RowP.blk (h : RowP W g l t) (e : W'.heap[g]? = W.heap[g]?) : RowP W' g l t := e.trans h
theorem RowP.later (h : RowP W g l t) (hb : Below W.heap.size W W') : RowP W' g l t := h.blk (hb.block g h.lt)
theorem RowP.fr (h : RowP W g l t) (j : Nat) : W.frozen? ⟨g, j, none⟩ = false := by unfold RowP at h; simp [World.frozen?, h]
theorem RowP.c (h : RowP W g l t) (j : Nat) (hj : j < l.length) (i : Nat) (hi : i < 16) (v : Value) (hv : (tpC l[j])[i]? = some v) : W.cell? ⟨g, j * 16 + i, none⟩ = some v := by
  unfold RowP at h
  have hlt : j * 16 + i < (l.flatMap tpC).length := by rw [flat_len tpC_len]; omega
  simp only [World.cell?, h]
  rw [List.getElem?_toArray, List.getElem?_append_left hlt, flat_get tpC_len l j hj i hi, hv]
  simp
theorem flat_set {α : Type} {k : Nat} {f : α → List Value} (hf : ∀ x, (f x).length = k) (i : Nat) (hi : i < k) (u : Value) (y : α) : ∀ (l : List α) (j : Nat) (hj : j < l.length), f y = (f l[j]).set i u → (l.flatMap f).set (j * k + i) u = (l.set j y).flatMap f
  | x :: l, 0, _, he => by
    rw [List.set_cons_zero, List.flatMap_cons, List.flatMap_cons, Nat.zero_mul, Nat.zero_add, List.set_append_left _ _ (by rw [hf]; exact hi)]
    rw [show f y = (f x).set i u from he]
  | x :: l, j + 1, hj, he => by
    rw [List.set_cons_succ, List.flatMap_cons, List.flatMap_cons, List.set_append_right _ _ (by rw [hf, Nat.succ_mul]; omega), hf, show (j + 1) * k + i - k = j * k + i by rw [Nat.succ_mul]; omega]
    rw [flat_set hf i hi u y l j (by simpa using hj) he]
theorem RowP.s (h : RowP W g l t) (j : Nat) (hj : j < l.length) (i : Nat) (hi : i < 16) (u : Value) (y : TP) (he : tpC y = (tpC l[j]).set i u) : RowP (W.setCell ⟨g, j * 16 + i, none⟩ u) g (l.set j y) t := by
  unfold RowP at *
  have hlt : j * 16 + i < (l.flatMap tpC).length := by rw [flat_len tpC_len]; omega
  have e : ((l.flatMap tpC ++ t).toArray).setIfInBounds (j * 16 + i) u = ((l.set j y).flatMap tpC ++ t).toArray := by
    rw [List.setIfInBounds_toArray, List.set_append_left _ _ hlt, flat_set tpC_len i hi u y l j hj he]
  rw [setCell_eq_setRow W g (j * 16 + i) _ _ _ _ h]
  have := setRow_heap W g _ (((l.flatMap tpC ++ t).toArray).setIfInBounds (j * 16 + i) u) _ _ h
  rw [e] at this ⊢
  exact this
end
/-- A machine: its block, its ports' row. -/
structure TR (W : World) (m g cap : Nat) (t : List Value) (T : TM) : Prop where
  tm : GB 169 W m (tmA T (.slice (some ⟨g, 0, none⟩) T.P.length cap))
  row : RowP W g T.P t
  ne : m ≠ g
  n1 : 1 ≤ T.P.length ∧ T.P.length ≤ 8
  cp : T.P.length ≤ cap
  iw : 0 ≤ T.id ∧ T.id < 18446744073709551616
section
variable {W W' : World} {m g cap : Nat} {t : List Value} {T : TM}
theorem TR.blk (h : TR W m g cap t T) (e1 : W'.heap[m]? = W.heap[m]?) (e2 : W'.heap[g]? = W.heap[g]?) : TR W' m g cap t T := ⟨e1.trans h.tm, h.row.blk e2, h.ne, h.n1, h.cp, h.iw⟩
theorem TR.later (h : TR W m g cap t T) (hb : Below W.heap.size W W') : TR W' m g cap t T := h.blk (hb.block m h.tm.lt) (hb.block g h.row.lt)
theorem TR.c0 (h : TR W m g cap t T) : W.cell? ⟨m, 0, none⟩ = some (.int .u64 T.id) := h.tm.c 0 _ rfl
theorem TR.c1 (h : TR W m g cap t T) : W.cell? ⟨m, 1, none⟩ = some (.slice (some ⟨g, 0, none⟩) T.P.length cap) := h.tm.c 1 _ rfl
theorem TR.c2 (h : TR W m g cap t T) : W.cell? ⟨m, 2, none⟩ = some (.int .u64 T.rt) := h.tm.c 2 _ rfl
theorem TR.c3 (h : TR W m g cap t T) : W.cell? ⟨m, 3, none⟩ = some (.int .u32 T.co) := h.tm.c 3 _ rfl
theorem TR.c4 (h : TR W m g cap t T) : W.cell? ⟨m, 4, none⟩ = some (.int .i64 T.po) := h.tm.c 4 _ rfl
theorem TR.c5 (h : TR W m g cap t T) : W.cell? ⟨m, 5, none⟩ = some (.int .u8 T.ho) := h.tm.c 5 _ rfl
theorem TR.c6 (h : TR W m g cap t T) : W.cell? ⟨m, 6, none⟩ = some (.int .u64 T.ve) := h.tm.c 6 _ rfl
theorem TR.c7 (h : TR W m g cap t T) : W.cell? ⟨m, 7, none⟩ = some (.int .u8 T.fl) := h.tm.c 7 _ rfl
end
/-- A host's port. -/
def hp (u : Bool) : TP := ⟨0, u, bp0, 0, false, 0⟩
/-- A machine that has hosts' ports only. -/
def hm (id : Int) (U : List Bool) : TM := ⟨id, U.map hp, id, 0, -1, 0, 1, 0⟩
end Go.Proofs.YtpkkjbmgbgakdaaGreatDoor

/- tree: machines of hosts' ports: at, link, Role, Forwards, Flush, path. -/
set_option linter.unusedVariables false
namespace Go.Proofs.YtpkkjbmgbgakdaaGreatDoor
open Go.RowKit

section
variable {m g cap : Nat} {t : List Value} {T : TM} {w : World}
theorem TR.mono (h : TR w m g cap t T) : ∃ k : Nat, T.P.length = k ∧ 1 ≤ k ∧ k ≤ 8 ∧ k ≤ cap := ⟨_, rfl, h.n1.1, h.n1.2, h.cp⟩
end
set_option maxRecDepth 100000 in
set_option maxHeartbeats 4000000 in
theorem tat_any (m g cap : Nat) (t : List Value) (T : TM) (i : Nat) (hi8 : i < 256) (w : World) (h : TR w m g cap t T) : Calls Tryz.prog 120 #[.pointer (some ⟨m, 0, none⟩), .int .u8 i] w fun en w' => en = .returned (.pointer (if i < T.P.length then some ⟨g, i * 16, none⟩ else none)) ∧ w' = w := by
  have c1 := h.c1
  obtain ⟨n, hn, h1, h8, hc⟩ := h.mono
  rw [hn] at c1 ⊢
  clear h hn
  by_cases hi : i < n
  · have dk : decide ((n : Int) ≤ (i : Int)) = false := decide_eq_false (by omega)
    rw [if_pos hi]
    go_enter Tryz.func120, Tryz.ntmps120
    go_wp2
    go_ret
    exact ⟨rfl, rfl⟩
  · have dk : decide ((n : Int) ≤ (i : Int)) = true := decide_eq_true (by omega)
    rw [if_neg hi]
    go_enter Tryz.func120, Tryz.ntmps120
    go_wp2
    go_ret
    exact ⟨rfl, rfl⟩
set_option maxRecDepth 100000 in
set_option maxHeartbeats 4000000 in
theorem tlink_host (g o : Nat) (u : Bool) (w : World) (c0 : w.cell? ⟨g, o, none⟩ = some (.int .u32 0)) (c1 : w.cell? ⟨g, o + 1, none⟩ = some (.bool u)) : Calls Tryz.prog 83 #[.pointer (some ⟨g, o, none⟩)] w fun en w' => en = .returned (.bool false) ∧ w' = w := by
  cases u
  · go_enter Tryz.func83, Tryz.ntmps83
    go_wp2
    go_ret
    exact ⟨rfl, rfl⟩
  · go_enter Tryz.func83, Tryz.ntmps83
    go_wp2
    go_ret
    exact ⟨rfl, rfl⟩
/-- Is a host's port up? -/
def upH (U : List Bool) (i : Nat) : Bool := (U[i]?).getD false
theorem hostC {w : World} {m g cap : Nat} {t : List Value} {id : Int} {U : List Bool} (h : TR w m g cap t (hm id U)) (i : Nat) (hi : i < U.length) (j : Nat) (hj : j < 16) (v : Value) (hv : (tpC (hp (upH U i)))[j]? = some v) : w.cell? ⟨g, i * 16 + j, none⟩ = some v := by
  refine h.row.c i (by simpa [hm] using hi) j hj v ?_
  rw [← hv]
  simp [hm, upH, hi]
set_option maxRecDepth 100000 in
set_option maxHeartbeats 4000000 in
theorem trole_host (m g cap : Nat) (t : List Value) (id : Int) (U : List Bool) (i : Nat) (hi8 : i < 256) (w : World) (h : TR w m g cap t (hm id U)) : Calls Tryz.prog 57 #[.pointer (some ⟨m, 0, none⟩), .int .u8 i] w fun en w' => en = .returned (.int .u8 (if upH U i then 5 else 0)) ∧ w' = w := by
  have AT := Lib.hid (tat_any m g cap t (hm id U) i hi8 w h)
  by_cases hi : i < U.length
  · have c0 : w.cell? ⟨g, i * 16, none⟩ = some (.int .u32 0) := hostC h i hi 0 (by decide) _ rfl
    have c1 : w.cell? ⟨g, i * 16 + 1, none⟩ = some (.bool (upH U i)) := hostC h i hi 1 (by decide) _ rfl
    have hl : (hm id U).P.length = U.length := by simp [hm]
    obtain ⟨u, hu⟩ : ∃ u, upH U i = u := ⟨_, rfl⟩
    have AT := Lib.hid (show Calls Tryz.prog 120 #[.pointer (some ⟨m, 0, none⟩), .int .u8 i] w fun en w' => en = .returned (.pointer (some ⟨g, i * 16, none⟩)) ∧ w' = w by
      have := AT.out; rw [hl, if_pos hi] at this; exact this)
    rw [hu] at c1 ⊢
    clear h hl hi
    cases u
    · go_enter Tryz.func57, Tryz.ntmps57
      go_wp2_with (go_at_call 120; with_reducible refine AT.out.mono ?_; rintro e w' ⟨rfl, rfl⟩)
      go_ret
      exact ⟨rfl, rfl⟩
    · go_enter Tryz.func57, Tryz.ntmps57
      go_wp2_with (go_at_call 120; with_reducible refine AT.out.mono ?_; rintro e w' ⟨rfl, rfl⟩)
      go_ret
      exact ⟨rfl, rfl⟩
  · have hl : (hm id U).P.length = U.length := by simp [hm]
    have hu : upH U i = false := by simp [upH, Nat.not_lt.1 hi]
    have AT := Lib.hid (show Calls Tryz.prog 120 #[.pointer (some ⟨m, 0, none⟩), .int .u8 i] w fun en w' => en = .returned (.pointer none) ∧ w' = w by
      have := AT.out; rw [hl, if_neg hi] at this; exact this)
    rw [hu]
    clear h hl hi
    go_enter Tryz.func57, Tryz.ntmps57
    go_wp2_with (go_at_call 120; with_reducible refine AT.out.mono ?_; rintro e w' ⟨rfl, rfl⟩)
    go_ret
    exact ⟨rfl, rfl⟩
set_option maxRecDepth 100000 in
set_option maxHeartbeats 4000000 in
theorem tfwd_host (m g cap : Nat) (t : List Value) (id : Int) (U : List Bool) (i : Nat) (hi8 : i < 256) (w : World) (h : TR w m g cap t (hm id U)) : Calls Tryz.prog 72 #[.pointer (some ⟨m, 0, none⟩), .int .u8 i] w fun en w' => en = .returned (.bool (upH U i)) ∧ w' = w := by
  have RO := Lib.hid (trole_host m g cap t id U i hi8 w h)
  obtain ⟨u, hu⟩ : ∃ u, upH U i = u := ⟨_, rfl⟩
  rw [hu] at RO ⊢
  cases u
  · have RO := Lib.hid (show Calls Tryz.prog 57 #[.pointer (some ⟨m, 0, none⟩), .int .u8 i] w fun en w' => en = .returned (.int .u8 0) ∧ w' = w from RO.out)
    go_enter Tryz.func72, Tryz.ntmps72
    go_wp2_with (go_at_call 57; with_reducible refine RO.out.mono ?_; rintro e w' ⟨rfl, rfl⟩)
    go_ret
    exact ⟨rfl, rfl⟩
  · have RO := Lib.hid (show Calls Tryz.prog 57 #[.pointer (some ⟨m, 0, none⟩), .int .u8 i] w fun en w' => en = .returned (.int .u8 5) ∧ w' = w from RO.out)
    go_enter Tryz.func72, Tryz.ntmps72
    go_wp2_with (go_at_call 57; with_reducible refine RO.out.mono ?_; rintro e w' ⟨rfl, rfl⟩)
    go_ret
    exact ⟨rfl, rfl⟩
set_option maxRecDepth 100000 in
set_option maxHeartbeats 4000000 in
theorem tflush_any (m g cap : Nat) (t : List Value) (T : TM) (w : World) (h : TR w m g cap t T) : Calls Tryz.prog 77 #[.pointer (some ⟨m, 0, none⟩)] w fun en w' => en = .returned (.int .u8 T.fl) ∧ TR w' m g cap t { T with fl := 0 } ∧ Only m w w' := by
  have c7 := h.c7
  have f7 := h.tm.fr 7
  have H := Lib.hid h
  clear h
  go_enter Tryz.func77, Tryz.ntmps77
  go_wp2
  go_ret
  exact ⟨rfl, ⟨H.out.tm.set 7 _, H.out.row.blk (by rw [Below.heap_setCell _ _ _ _ (by intro e; simp at e; exact H.out.ne e.symm)]), H.out.ne, H.out.n1, H.out.cp, H.out.iw⟩, Only.set _ _ _ _⟩
end Go.Proofs.YtpkkjbmgbgakdaaGreatDoor
