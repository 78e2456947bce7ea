/- ZB31: the texts N6, NG as one. -/
import Derived.Test.YtpkkjbmgbgakdaaGreatDoorZB30
import Derived.Test.YtpkkjbmgbgakdaaGreatDoorZB29
/- tree: machines of hosts' ports: power, Up. -/
set_option linter.unusedVariables false
namespace Go.Proofs.YtpkkjbmgbgakdaaGreatDoor
open Go.RowKit

theorem setCells_cons (W : World) (g o : Nat) (v : Value) (r : List Value) : W.setCells g o (v :: r) = (W.setCell ⟨g, o, none⟩ v).setCells g (o + 1) r := rfl
theorem tpC_cons (p : TP) : ∃ r, tpC p = .int .u32 p.c :: .bool p.up :: r ∧ r.length = 14 := ⟨_, rfl, rfl⟩
/-- A host's port comes up: one cell turns. -/
theorem host_up {w : World} {m g cap : Nat} {t : List Value} {id : Int} {U : List Bool} (h : TR w m g cap t (hm id U)) (i : Nat) (hi : i < U.length) :
    w.setCells g (i * 16) (tpC (hp true)) = w.setCell ⟨g, i * 16 + 1, none⟩ (.bool true) ∧ TR (w.setCell ⟨g, i * 16 + 1, none⟩ (.bool true)) m g cap t (hm id (U.set i true)) := by
  have hl : i < (hm id U).P.length := by simpa [hm] using hi
  have r := h.row.s i hl 1 (by decide) (.bool true) (hp true) (by rw [show (hm id U).P[i] = hp U[i] by simp [hm]]; rfl)
  have e0 : w.cell? ⟨g, i * 16, none⟩ = some (.int .u32 0) := hostC h i hi 0 (by decide) _ rfl
  refine ⟨?_, ?_⟩
  · obtain ⟨L, eL, hL⟩ := tpC_cons (hp true)
    rw [eL, setCells_cons, setCells_cons]
    show (((w.setCell ⟨g, i * 16, none⟩ (.int .u32 0)).setCell ⟨g, i * 16 + 1, none⟩ (.bool true)).setCells g (i * 16 + 1 + 1) L) = _
    rw [setCell_id e0]
    refine setCells_id _ _ fun j v hv => ?_
    have hj : j < 14 := by have := (List.getElem?_eq_some_iff.1 hv).1; omega
    have := r.c i (by simpa [hm] using hi) (2 + j) (by omega) v (by
      rw [List.getElem_set_self, eL, Nat.add_comm]; exact hv)
    rw [show i * 16 + 1 + 1 + j = i * 16 + (2 + j) by omega]; exact this
  · have e2 : (hm id U).P.set i (hp true) = (hm id (U.set i true)).P := by simp [hm, List.map_set]
    refine ⟨?_, by rw [e2] at r; exact r, h.ne, by have := h.n1; simpa [hm] using this, by have := h.cp; simpa [hm] using this, h.iw⟩
    have := h.tm.other h.ne.symm (o := i * 16 + 1) (.bool true)
    simpa [hm, tmA] using this
set_option maxRecDepth 100000 in
set_option maxHeartbeats 4000000 in
theorem tpower_host (m g cap : Nat) (t : List Value) (U : List Bool) (i : Nat) (hi : i < U.length) (hu : upH U i = false) (w : World) (h : TR w m g cap t (hm 16 U)) : Calls Tryz.prog 75 #[.pointer (some ⟨m, 0, none⟩), .int .u8 i, .bool true] w fun en w' => en = .returned (.slice none 0 0) ∧ TR w' m g cap t (hm 16 (U.set i true)) ∧ Only g w w' := by
  have hl : (hm 16 U).P.length = U.length := by simp [hm]
  have hi8 : i < 256 := by have := h.n1.2; rw [hl] at this; omega
  have AT : Hid (Calls Tryz.prog 120 #[.pointer (some ⟨m, 0, none⟩), .int .u8 i] w fun en w' => en = .returned (.pointer (some ⟨g, i * 16, none⟩)) ∧ w' = w) := Lib.hid (by
    have := tat_any m g cap t (hm 16 U) i hi8 w h; rw [hl, if_pos hi] at this; exact this)
  have c0 : w.cell? ⟨g, i * 16, none⟩ = some (.int .u32 0) := hostC h i hi 0 (by decide) _ rfl
  have c1 : w.cell? ⟨g, i * 16 + 1, none⟩ = some (.bool false) := by have := hostC h i hi 1 (by decide) _ rfl; rw [hu] at this; exact this
  have HU := host_up h i hi
  have TH : Hid (w.there g (i * 16) (Array.size #[Value.int .u32 0, .bool true, .int .u64 0, .int .u32 0, .int .u64 0, .int .u8 0, .int .u8 0, .int .u64 0, .int .u8 0, .bool false, .bool false, .bool false, .int .u64 0, .int .i64 0, .bool false, .int .i64 0])) := Lib.hid fun j hj => by
    have hj : j < 16 := hj
    refine ⟨?_, h.row.fr _⟩
    obtain ⟨v, hv⟩ : ∃ v, (tpC (hp (upH U i)))[j]? = some v := ⟨_, List.getElem?_eq_getElem (by rw [tpC_len]; exact hj)⟩
    rw [hostC h i hi j hj v hv]; rfl
  have HI : Hid ((Tryz.prog.info? 175).map (·.size) = some (Array.size #[Value.int .u32 0, .bool true, .int .u64 0, .int .u32 0, .int .u64 0, .int .u8 0, .int .u8 0, .int .u64 0, .int .u8 0, .bool false, .bool false, .bool false, .int .u64 0, .int .i64 0, .bool false, .int .i64 0])) := Lib.hid (by kernel_rfl)
  have HO : Hid ((#[.int .u32 0, .bool true, .int .u64 0, .int .u32 0, .int .u64 0, .int .u8 0, .int .u8 0, .int .u64 0, .int .u8 0, .bool false, .bool false, .bool false, .int .u64 0, .int .i64 0, .bool false, .int .i64 0] : Array Value).all (·.oneCell') = true) := Lib.hid (by kernel_rfl)
  have hsc := HU.1
  obtain ⟨w1, hw1⟩ : ∃ z, w.setCell ⟨g, i * 16 + 1, none⟩ (.bool true) = z := ⟨_, rfl⟩
  have ho : Only g w w1 := by rw [← hw1]; exact Only.set _ _ _ _
  rw [hw1] at HU hsc
  have hsc : w.setCells g (i * 16) [Value.int .u32 0, .bool true, .int .u64 0, .int .u32 0, .int .u64 0, .int .u8 0, .int .u8 0, .int .u64 0, .int .u8 0, .bool false, .bool false, .bool false, .int .u64 0, .int .i64 0, .bool false, .int .i64 0] = w1 := hsc
  have CH := Lib.hid (tchoose_host m g cap t (U.set i true) w1 HU.2)
  have HT := Lib.hid HU.2
  have HOn := Lib.hid ho
  clear h HU ho hw1
  go_enter Tryz.func75, Tryz.ntmps75
  go_wp2_with (first
    | (go_at_call 120; with_reducible refine AT.out.mono ?_; rintro e w' ⟨rfl, rfl⟩)
    | (go_at_call 82; with_reducible refine CH.out.mono ?_; rintro e w2 ⟨rfl, hb2⟩)
    | ((with_reducible refine wpList_store_mid rfl 175 (.tmp 28) (.tmp 27) rfl g (i * 16) #[Value.int .u32 0, .bool true, .int .u64 0, .int .u32 0, .int .u64 0, .int .u8 0, .int .u8 0, .int .u64 0, .int .u8 0, .bool false, .bool false, .bool false, .int .u64 0, .int .i64 0, .bool false, .int .i64 0] ?hx ?hy TH.out HI.out HO.out ?_); (case hx => rfl); (case hy => rfl)))
  go_ret
  exact ⟨rfl, HT.out.later hb2, HOn.out.trans (below_only hb2)⟩
set_option maxRecDepth 100000 in
set_option maxHeartbeats 4000000 in
theorem tup_host (m g cap : Nat) (t : List Value) (U : List Bool) (i : Nat) (hi : i < U.length) (hu : upH U i = false) (w : World) (h : TR w m g cap t (hm 16 U)) : Calls Tryz.prog 31 #[.pointer (some ⟨m, 0, none⟩), .int .u8 i] w fun en w' => en = .returned (.slice none 0 0) ∧ TR w' m g cap t (hm 16 (U.set i true)) ∧ Only g w w' := by
  have PW := Lib.hid (tpower_host m g cap t U i hi hu w h)
  clear h
  go_enter Tryz.func31, Tryz.ntmps31
  go_wp2_with (go_at_call 75; with_reducible refine PW.out.mono ?_; rintro e w1 ⟨rfl, ht, ho⟩)
  go_ret
  exact ⟨rfl, ht, ho⟩
end Go.Proofs.YtpkkjbmgbgakdaaGreatDoor

/- bridge: its block; small ones. -/
set_option linter.unusedVariables false
set_option linter.unusedSimpArgs false
namespace Go.Proofs.YtpkkjbmgbgakdaaGreatDoor
open Go.RowKit

/-- Where a bridge lies. -/
structure BP where
  b : Nat
  m : Nat
  g : Nat
  cap : Nat
  t : List Value
  r : Nat
  q : Nat
  vm : Nat
  f : Nat
  s : Nat
  c : Nat
def brA (P : BP) (dr : Int) : Array Value := #[.int .u64 16, .pointer (some ⟨P.m, 0, none⟩), .pointer (some ⟨P.r, 0, none⟩), .pointer (some ⟨P.c, 0, none⟩), .slice none 0 0, .int .u64 0, .int .u64 dr]
/-- A bridge of two hosts' ports. -/
structure BS (W : World) (P : BP) (U : List Bool) (o : List Int) (V : List Vn) (v : Value) (dr : Int) : Prop where
  gb : GB 105 W P.b (brA P dr)
  tr : TR W P.m P.g P.cap P.t (hm 16 U)
  rl : RL W P.r P.q P.vm P.f P.s 2 o V v
  nb : P.b ≠ P.m ∧ P.b ≠ P.g ∧ P.b ≠ P.r ∧ P.b ≠ P.q ∧ P.b ≠ P.vm ∧ P.b ≠ P.f ∧ P.b ≠ P.s
  nm : P.m ≠ P.r ∧ P.m ≠ P.q ∧ P.m ≠ P.vm ∧ P.m ≠ P.f ∧ P.m ≠ P.s
  ng : P.g ≠ P.r ∧ P.g ≠ P.q ∧ P.g ≠ P.vm ∧ P.g ≠ P.f ∧ P.g ≠ P.s
  ul : U.length = 2
section
variable {W W' : World} {P : BP} {U : List Bool} {o : List Int} {V : List Vn} {v : Value} {dr : Int}
theorem BS.c1 (h : BS W P U o V v dr) : W.cell? ⟨P.b, 1, none⟩ = some (.pointer (some ⟨P.m, 0, none⟩)) := h.gb.c 1 _ rfl
theorem BS.c2 (h : BS W P U o V v dr) : W.cell? ⟨P.b, 2, none⟩ = some (.pointer (some ⟨P.r, 0, none⟩)) := h.gb.c 2 _ rfl
theorem BS.c6 (h : BS W P U o V v dr) : W.cell? ⟨P.b, 6, none⟩ = some (.int .u64 dr) := h.gb.c 6 _ rfl
theorem BS.later (h : BS W P U o V v dr) (hb : Below W.heap.size W W') : BS W' P U o V v dr := ⟨h.gb.later hb, h.tr.later hb, h.rl.later hb, h.nb, h.nm, h.ng, h.ul⟩
theorem BS.setTR {U' : List Bool} (h : BS W P U o V v dr) (ht : TR W' P.m P.g P.cap P.t (hm 16 U')) (ho : Only P.g W W') (hu : U'.length = 2) : BS W' P U' o V v dr :=
  ⟨h.gb.only ho h.nb.2.1, ht, ⟨h.rl.g.only ho h.ng.1.symm, h.rl.ts.blk (ho.block _ h.rl.ts.tb.lt (by simpa using h.ng.2.1.symm)) (ho.block _ h.rl.ts.vm.lt (by simpa using h.ng.2.2.1.symm)), h.rl.ft.blk (ho.block _ h.rl.ft.g.lt (by simpa using h.ng.2.2.2.1.symm)) (ho.block _ h.rl.ft.m.lt (by simpa using h.ng.2.2.2.2.symm)), h.rl.nr⟩, h.nb, h.nm, h.ng, hu⟩
end
set_option maxRecDepth 100000 in
set_option maxHeartbeats 4000000 in
theorem tflush_id (m g cap : Nat) (t : List Value) (id : Int) (U : List Bool) (w : World) (h : TR w m g cap t (hm id U)) : Calls Tryz.prog 77 #[.pointer (some ⟨m, 0, none⟩)] w fun en w' => en = .returned (.int .u8 0) ∧ w = w' := by
  have c7 : w.cell? ⟨m, 7, none⟩ = some (.int .u8 0) := h.c7
  have f7 := h.tm.fr 7
  have s7 := setCell_id c7
  clear h
  go_enter Tryz.func77, Tryz.ntmps77
  go_wp2
  go_ret
  exact ⟨rfl, rfl⟩
set_option maxRecDepth 100000 in
set_option maxHeartbeats 4000000 in
theorem bflush_any (P : BP) (U : List Bool) (o : List Int) (V : List Vn) (w : World) (h : BS w P U o V (.slice none 0 0) 0) : Calls Tryz.prog 32 #[.pointer (some ⟨P.b, 0, none⟩)] w fun en w' => en = .returned (.tuple #[]) ∧ Below w.heap.size w w' := by
  have HH := Lib.hid fun K : Later w => h.later K.h
  have l1 : ∀ K : Later w, K.out.cell? ⟨P.b, 1, none⟩ = some (.pointer (some ⟨P.m, 0, none⟩)) := fun K => (HH.out K).c1
  have l2 : ∀ K : Later w, K.out.cell? ⟨P.b, 2, none⟩ = some (.pointer (some ⟨P.r, 0, none⟩)) := fun K => (HH.out K).c2
  have BA : Hid (∀ K : Later w, Calls Tryz.prog 34 #[.pointer (some ⟨P.r, 0, none⟩)] K.out fun en w' => en = .returned (.pointer (some ⟨P.f, 0, none⟩)) ∧ K.out = w') := Lib.hid fun K => (rbase_any P.r _ (.slice none 0 0) _ (HH.out K).rl.c1 ⟨_, rfl⟩).mono fun e w' h => ⟨h.1, h.2.symm⟩
  have TF : Hid (∀ K : Later w, Calls Tryz.prog 77 #[.pointer (some ⟨P.m, 0, none⟩)] K.out fun en w' => en = .returned (.int .u8 0) ∧ K.out = w') := Lib.hid fun K => tflush_id P.m P.g P.cap P.t 16 U K.out (HH.out K).tr
  have FF : Hid (∀ K : Later w, Calls Tryz.prog 76 #[.pointer (some ⟨P.f, 0, none⟩), .int .u8 0] K.out fun en w' => en = .returned (.int .i64 0) ∧ Below K.out.heap.size K.out w') := Lib.hid fun K => fflush_nil P.f P.s 0 K.out (HH.out K).rl.ft
  clear h
  go_enter Tryz.func32, Tryz.ntmps32
  refine wp_region_later (by kernel_rfl) (by kernel_rfl) ?_
  repeat (go_big_quiet_step (first
    | (go_at_call 34; exact Calls.later_same (BA.out _))
    | (go_at_call 77; exact Calls.later_same (TF.out _))
    | (go_at_call 76; exact Calls.later (FF.out _))))
  refine wpQuiet_nil ?_
  rintro _ ⟨K, rfl⟩
  go_wp2
  go_end0
  exact ⟨rfl, K.h⟩
set_option maxRecDepth 100000 in
set_option maxHeartbeats 4000000 in
theorem bup_any (P : BP) (U : List Bool) (o : List Int) (V : List Vn) (i : Nat) (hi : i < U.length) (hu : upH U i = false) (w : World) (h : BS w P U o V (.slice none 0 0) 0) : Calls Tryz.prog 10 #[.pointer (some ⟨P.b, 0, none⟩), .int .u8 i] w fun en w' => en = .returned (.tuple #[]) ∧ BS w' P (U.set i true) o V (.slice none 0 0) 0 ∧ Only P.g w w' := by
  have TU := Lib.hid (tup_host P.m P.g P.cap P.t U i hi hu w h.tr)
  have FL := Lib.hid (bflush_any P (U.set i true) o V)
  have c1 := h.c1
  have HH := Lib.hid h
  clear h
  go_enter Tryz.func10, Tryz.ntmps10
  go_wp2_with (first
    | (go_at_call 31; with_reducible refine TU.out.mono ?_; rintro e w1 ⟨rfl, ht1, ho1⟩; have B1 := Lib.hid (HH.out.setTR ht1 ho1 (by rw [List.length_set]; exact HH.out.ul)))
    | (go_at_call 32; with_reducible refine (FL.out _ B1.out).mono ?_; rintro e w2 ⟨rfl, hb2⟩))
  go_end0
  exact ⟨rfl, B1.out.later hb2, ho1.trans (below_only hb2)⟩
end Go.Proofs.YtpkkjbmgbgakdaaGreatDoor
