/- ZB32: the texts NH, NJ as one. -/
import Derived.Test.YtpkkjbmgbgakdaaGreatDoorZB31
import Derived.Maps.OwnSet
/- bridge: what each command does: a map of functions. -/
set_option linter.unusedVariables false
set_option linter.unusedSimpArgs false
namespace Go.Proofs.YtpkkjbmgbgakdaaGreatDoor
open Go.RowKit
open Go.Maps (Keyed int_keyed keyOf_int_mk)

theorem u8_keyed : Keyed Tryz.prog 5 := int_keyed Tryz.underlying5
/-- How a function reads: its number. -/
def fEl (v : Value) : Option (DataW Unit × List MemPlace) :=
  match v with
  | .func fn first captured => if first.size = 0 ∧ captured.size = 0 then (match fn with
    | .func n => some (.lit (.int .i64 (n : Int)), [])
    | _ => none) else none
  | _ => none
theorem fEl_mk (n : Nat) : fEl (.func (.func n) #[] #[]) = some (.lit (.int .i64 (n : Int)), []) := rfl
theorem fEl_inv {v : Value} {y : DataW Unit × List MemPlace} (h : fEl v = some y) : ∃ n : Nat, v = .func (.func n) #[] #[] ∧ y.1 = .lit (.int .i64 (n : Int)) := by
  unfold fEl at h
  split at h
  · rename_i fn first captured
    split at h
    · rename_i hs
      have h1 : first = #[] := Array.eq_empty_of_size_eq_zero hs.1
      have h2 : captured = #[] := Array.eq_empty_of_size_eq_zero hs.2
      subst h1 h2
      split at h
      · rename_i n
        injection h with h
        exact ⟨n, rfl, by rw [← h]⟩
      · cases h
    · cases h
  · cases h
def dsD : DataW Unit := .map [(.int .u8 1, .lit (.int .i64 97)), (.int .u8 2, .lit (.int .i64 97)), (.int .u8 3, .lit (.int .i64 97)), (.int .u8 4, .lit (.int .i64 97)), (.int .u8 5, .lit (.int .i64 97)), (.int .u8 6, .lit (.int .i64 98)), (.int .u8 7, .lit (.int .i64 99)), (.int .u8 8, .lit (.int .i64 100)), (.int .u8 9, .lit (.int .i64 101)), (.int .u8 10, .lit (.int .i64 101)), (.int .u8 11, .lit (.int .i64 102)), (.int .u8 12, .lit (.int .i64 102))]
/-- The block of 'does'. -/
def DMap (W : World) (b : Nat) : Prop := W.ownsMap Tryz.prog 5 fEl b 12 dsD
set_option maxRecDepth 100000 in
set_option maxHeartbeats 4000000 in
theorem does_any (w : World) : Calls Tryz.prog 40 #[] w fun en w' => ∃ b : Nat, en = .returned (.map (some b)) ∧ DMap w' b ∧ Below w.heap.size w w' := by
  have hm0 := World.ownsMap_made w Tryz.prog 5 fEl
  obtain ⟨w1, run1, hm1, hg1⟩ := hm0.update u8_keyed Tryz.underlying133 (by decide) (key := .int .u8 1) (val := .func (.func 97) #[] #[]) (kl := .int .u8 1) (d := .lit (.int .i64 97)) (ps := []) (keyOf_int_mk Tryz.underlying5 (by decide)) (fEl_mk 97)
  obtain ⟨w2, run2, hm2, hg2⟩ := hm1.update u8_keyed Tryz.underlying133 (by decide) (key := .int .u8 2) (val := .func (.func 97) #[] #[]) (kl := .int .u8 2) (d := .lit (.int .i64 97)) (ps := []) (keyOf_int_mk Tryz.underlying5 (by decide)) (fEl_mk 97)
  obtain ⟨w3, run3, hm3, hg3⟩ := hm2.update u8_keyed Tryz.underlying133 (by decide) (key := .int .u8 3) (val := .func (.func 97) #[] #[]) (kl := .int .u8 3) (d := .lit (.int .i64 97)) (ps := []) (keyOf_int_mk Tryz.underlying5 (by decide)) (fEl_mk 97)
  obtain ⟨w4, run4, hm4, hg4⟩ := hm3.update u8_keyed Tryz.underlying133 (by decide) (key := .int .u8 4) (val := .func (.func 97) #[] #[]) (kl := .int .u8 4) (d := .lit (.int .i64 97)) (ps := []) (keyOf_int_mk Tryz.underlying5 (by decide)) (fEl_mk 97)
  obtain ⟨w5, run5, hm5, hg5⟩ := hm4.update u8_keyed Tryz.underlying133 (by decide) (key := .int .u8 5) (val := .func (.func 97) #[] #[]) (kl := .int .u8 5) (d := .lit (.int .i64 97)) (ps := []) (keyOf_int_mk Tryz.underlying5 (by decide)) (fEl_mk 97)
  obtain ⟨w6, run6, hm6, hg6⟩ := hm5.update u8_keyed Tryz.underlying133 (by decide) (key := .int .u8 6) (val := .func (.func 98) #[] #[]) (kl := .int .u8 6) (d := .lit (.int .i64 98)) (ps := []) (keyOf_int_mk Tryz.underlying5 (by decide)) (fEl_mk 98)
  obtain ⟨w7, run7, hm7, hg7⟩ := hm6.update u8_keyed Tryz.underlying133 (by decide) (key := .int .u8 7) (val := .func (.func 99) #[] #[]) (kl := .int .u8 7) (d := .lit (.int .i64 99)) (ps := []) (keyOf_int_mk Tryz.underlying5 (by decide)) (fEl_mk 99)
  obtain ⟨w8, run8, hm8, hg8⟩ := hm7.update u8_keyed Tryz.underlying133 (by decide) (key := .int .u8 8) (val := .func (.func 100) #[] #[]) (kl := .int .u8 8) (d := .lit (.int .i64 100)) (ps := []) (keyOf_int_mk Tryz.underlying5 (by decide)) (fEl_mk 100)
  obtain ⟨w9, run9, hm9, hg9⟩ := hm8.update u8_keyed Tryz.underlying133 (by decide) (key := .int .u8 9) (val := .func (.func 101) #[] #[]) (kl := .int .u8 9) (d := .lit (.int .i64 101)) (ps := []) (keyOf_int_mk Tryz.underlying5 (by decide)) (fEl_mk 101)
  obtain ⟨w10, run10, hm10, hg10⟩ := hm9.update u8_keyed Tryz.underlying133 (by decide) (key := .int .u8 10) (val := .func (.func 101) #[] #[]) (kl := .int .u8 10) (d := .lit (.int .i64 101)) (ps := []) (keyOf_int_mk Tryz.underlying5 (by decide)) (fEl_mk 101)
  obtain ⟨w11, run11, hm11, hg11⟩ := hm10.update u8_keyed Tryz.underlying133 (by decide) (key := .int .u8 11) (val := .func (.func 102) #[] #[]) (kl := .int .u8 11) (d := .lit (.int .i64 102)) (ps := []) (keyOf_int_mk Tryz.underlying5 (by decide)) (fEl_mk 102)
  obtain ⟨w12, run12, hm12, hg12⟩ := hm11.update u8_keyed Tryz.underlying133 (by decide) (key := .int .u8 12) (val := .func (.func 102) #[] #[]) (kl := .int .u8 12) (d := .lit (.int .i64 102)) (ps := []) (keyOf_int_mk Tryz.underlying5 (by decide)) (fEl_mk 102)
  have hb0 : Below w.heap.size w (w.alloc (.map #[] 0)) := (Below.refl _ _).alloc (Nat.le_refl _) _
  have hb1 := hb0.grown hg1 hb0.size (fun k hk => by injection hk with hk; omega)
  have hb2 := hb1.grown hg2 hb1.size (fun k hk => by injection hk with hk; omega)
  have hb3 := hb2.grown hg3 hb2.size (fun k hk => by injection hk with hk; omega)
  have hb4 := hb3.grown hg4 hb3.size (fun k hk => by injection hk with hk; omega)
  have hb5 := hb4.grown hg5 hb4.size (fun k hk => by injection hk with hk; omega)
  have hb6 := hb5.grown hg6 hb5.size (fun k hk => by injection hk with hk; omega)
  have hb7 := hb6.grown hg7 hb6.size (fun k hk => by injection hk with hk; omega)
  have hb8 := hb7.grown hg8 hb7.size (fun k hk => by injection hk with hk; omega)
  have hb9 := hb8.grown hg9 hb8.size (fun k hk => by injection hk with hk; omega)
  have hb10 := hb9.grown hg10 hb9.size (fun k hk => by injection hk with hk; omega)
  have hb11 := hb10.grown hg11 hb10.size (fun k hk => by injection hk with hk; omega)
  have hb12 := hb11.grown hg12 hb11.size (fun k hk => by injection hk with hk; omega)
  have HM := Lib.hid hm12
  have HB := Lib.hid hb12
  have run0 : (Instr.makeMap 133 none).run Tryz.prog w = .ok (.map (some w.heap.size)) (w.alloc (.map #[] 0)) := rfl
  clear hm0 hm1 hm2 hm3 hm4 hm5 hm6 hm7 hm8 hm9 hm10 hm11 hm12 hg1 hg2 hg3 hg4 hg5 hg6 hg7 hg8 hg9 hg10 hg11 hg12 hb0 hb1 hb2 hb3 hb4 hb5 hb6 hb7 hb8 hb9 hb10 hb11 hb12
  go_enter Tryz.func40, Tryz.ntmps40
  go_wp2
  go_ret
  exact ⟨_, rfl, HM.out, HB.out⟩
set_option maxRecDepth 100000 in
theorem dmap_look {W : World} {q : Nat} (h : DMap W q) (b : Int) (h0 : 0 ≤ b ∧ b < 256) (n : Nat) (hn : ∀ z : DataW Unit, dsD.atKey (.int .u8 b) z = .lit (.int .i64 (n : Int))) :
    (Instr.lookup 133 (.map (some q)) (.int .u8 b) true).run Tryz.prog W = .ok (.tuple #[.func (.func n) #[] #[], .bool true]) W := by
  obtain ⟨es, clock, hb, F, hs, hD⟩ := h
  have hw : (Lit.int .u8 b).wf = true := by simp [Lit.wf, IntKind.min, IntKind.max, IntKind.bits, IntKind.signed]; omega
  have hz : (zeroValue 131).run Tryz.prog W = .ok .nilFunc W := by kernel_rfl
  rcases Maps.fit_look true u8_keyed Tryz.underlying133 hz hb F (keyOf_int_mk Tryz.underlying5 hw) with ⟨hrun, _, hat⟩ | ⟨e0, y, _, _, hrun, hRv, hat, _⟩
  · rw [← hD] at hat
    have a := hat (.lit (.bool false))
    rw [hn] at a
    injection a with a; cases a
  · rw [← hD] at hat
    have a := hat (.lit (.bool false))
    rw [hn] at a
    obtain ⟨n', hx, hy⟩ := fEl_inv hRv
    rw [hy] at a
    injection a with a
    injection a with _ a
    have e : n = n' := by exact_mod_cast a
    rw [hrun, hx, ← e]
    rfl
end Go.Proofs.YtpkkjbmgbgakdaaGreatDoor

/- bridge: the commands on VLANs. -/
set_option linter.unusedVariables false
set_option linter.unusedSimpArgs false
namespace Go.Proofs.YtpkkjbmgbgakdaaGreatDoor
open Go.RowKit

section
variable {W W' : World} {P : BP} {U : List Bool} {o o' : List Int} {V V' : List Vn} {v : Value} {dr : Int}
theorem BS.setTS {p : Nat} (h : BS W P U o V v dr) (ht : TS W' P.q 2 P.vm o' V') (ho : Only p W W') (hp : p = P.q ∨ p = P.vm) : BS W' P U o' V' v dr := by
  have nb := h.nb
  have nm := h.nm
  have ng := h.ng
  have nr := h.rl.nr
  have hne : ∀ x, x ≠ P.q → x ≠ P.vm → x ≠ p := fun x h1 h2 => by rcases hp with rfl | rfl <;> assumption
  have bl : ∀ x, x < W.heap.size → x ≠ P.q → x ≠ P.vm → W'.heap[x]? = W.heap[x]? := fun x hx h1 h2 => ho.block x hx (by simpa using hne x h1 h2)
  exact ⟨h.gb.only ho (hne _ nb.2.2.2.1 nb.2.2.2.2.1), h.tr.blk (bl _ h.tr.tm.lt nm.2.1 nm.2.2.1) (bl _ h.tr.row.lt ng.2.1 ng.2.2.1), ⟨h.rl.g.only ho (hne _ nr.1 nr.2.1), ht, h.rl.ft.blk (bl _ h.rl.ft.g.lt nr.2.2.2.2.1.symm nr.2.2.2.2.2.2.1.symm) (bl _ h.rl.ft.m.lt nr.2.2.2.2.2.1.symm nr.2.2.2.2.2.2.2.symm), nr⟩, nb, nm, ng, h.ul⟩
end
set_option maxRecDepth 100000 in
set_option maxHeartbeats 4000000 in
theorem btableV (P : BP) (U : List Bool) (o : List Int) (v : Value) (dr : Int) (w : World) (h : BS w P U o [] v dr) : Calls Tryz.prog 97 #[.pointer (some ⟨P.b, 0, none⟩), .agg #[.int .u8 1, .int .u8 0, .int .u16 1, .int .u8 3, .int .u8 3, .int .u8 0, .int .u8 0, .int .u8 0, .int .u8 0, .int .u8 0, .int .u8 0, .int .u8 0, .string { data := #[] }, .string { data := #[] }, .int .u16 0, .int .u8 0, .slice none 0 0, .int .i64 0, .int .u16 0, .int .u8 0, .bool false, .int .u8 0, .int .u8 0, .int .u16 0, .int .u8 0, .string { data := #[] }, .int .u8 0]] w fun en w' => en = .returned (.tuple #[.slice none 0 0, .int .i64 0, .int .i64 0]) ∧ BS w' P U o [(1, 3, 3)] v dr ∧ Only P.vm w w' := by
  have hb := (Below.refl w.heap.size w).alloc (Nat.le_refl _) (.cells #[.int .u8 1, .int .u8 0, .int .u16 1, .int .u8 3, .int .u8 3, .int .u8 0, .int .u8 0, .int .u8 0, .int .u8 0, .int .u8 0, .int .u8 0, .int .u8 0, .string { data := #[] }, .string { data := #[] }, .int .u16 0, .int .u8 0, .slice none 0 0, .int .i64 0, .int .u16 0, .int .u8 0, .bool false, .int .u8 0, .int .u8 0, .int .u16 0, .int .u8 0, .string { data := #[] }, .int .u8 0] 64)
  have g1 := GB.new 64 w #[.int .u8 1, .int .u8 0, .int .u16 1, .int .u8 3, .int .u8 3, .int .u8 0, .int .u8 0, .int .u8 0, .int .u8 0, .int .u8 0, .int .u8 0, .int .u8 0, .string { data := #[] }, .string { data := #[] }, .int .u16 0, .int .u8 0, .slice none 0 0, .int .i64 0, .int .u16 0, .int .u8 0, .bool false, .int .u8 0, .int .u8 0, .int .u16 0, .int .u8 0, .string { data := #[] }, .int .u8 0]
  have h0 := h.later hb
  obtain ⟨w0, hw0⟩ : ∃ z, w.alloc (.cells #[.int .u8 1, .int .u8 0, .int .u16 1, .int .u8 3, .int .u8 3, .int .u8 0, .int .u8 0, .int .u8 0, .int .u8 0, .int .u8 0, .int .u8 0, .int .u8 0, .string { data := #[] }, .string { data := #[] }, .int .u16 0, .int .u8 0, .slice none 0 0, .int .i64 0, .int .u16 0, .int .u8 0, .bool false, .int .u8 0, .int .u8 0, .int .u16 0, .int .u8 0, .string { data := #[] }, .int .u8 0] 64) = z := ⟨_, rfl⟩
  rw [hw0] at hb g1 h0
  have HB := Lib.hid hb
  have HG := Lib.hid g1
  have HH := Lib.hid fun K : Later w0 => h0.later K.h
  have l2 : ∀ K : Later w0, K.out.cell? ⟨P.b, 2, none⟩ = some (.pointer (some ⟨P.r, 0, none⟩)) := fun K => (HH.out K).c2
  have VL : Hid (∀ K : Later w0, Calls Tryz.prog 126 #[.pointer (some ⟨P.r, 0, none⟩)] K.out fun en w' => en = .returned (.pointer (some ⟨P.q, 0, none⟩)) ∧ K.out = w') := Lib.hid fun K => (rvlans_any P.r _ v _ (HH.out K).rl.c0 ⟨_, rfl⟩).mono fun e w' h => ⟨h.1, h.2.symm⟩
  have BA : Hid (∀ K : Later w0, Calls Tryz.prog 34 #[.pointer (some ⟨P.r, 0, none⟩)] K.out fun en w' => en = .returned (.pointer (some ⟨P.f, 0, none⟩)) ∧ K.out = w') := Lib.hid fun K => (rbase_any P.r _ v _ (HH.out K).rl.c1 ⟨_, rfl⟩).mono fun e w' h => ⟨h.1, h.2.symm⟩
  clear h hb g1 h0
  go_enter Tryz.func97, Tryz.ntmps97
  go_upto_region 1 with fail
  clear hw0
  refine wp_region_later (by kernel_rfl) (by kernel_rfl) ?_
  repeat (go_big_quiet_step (first
    | (go_at_call 126; exact Calls.later_same (VL.out _))
    | (go_at_call 34; exact Calls.later_same (BA.out _))))
  refine wpQuiet_nil ?_
  rintro _ ⟨K, rfl⟩
  have GK := HG.out.later K.h
  have c0 : K.out.cell? ⟨w.heap.size, 0, none⟩ = some (.int .u8 1) := GK.c 0 _ rfl
  have c2 : K.out.cell? ⟨w.heap.size, 2, none⟩ = some (.int .u16 1) := GK.c 2 _ rfl
  have c3 : K.out.cell? ⟨w.heap.size, 3, none⟩ = some (.int .u8 3) := GK.c 3 _ rfl
  have c4 : K.out.cell? ⟨w.heap.size, 4, none⟩ = some (.int .u8 3) := GK.c 4 _ rfl
  have SE : Hid (Calls Tryz.prog 42 #[.pointer (some ⟨P.q, 0, none⟩), .int .u16 1, .int .u8 3, .int .u8 3] K.out fun en w' => en = .returned (.int .i64 0) ∧ TS w' P.q 2 P.vm o [(1, 3, 3)] ∧ Only P.vm K.out w') := Lib.hid (vset_any P.q P.vm 2 o [] 1 3 3 K.out (HH.out K).rl.ts (by decide) (by decide) (by decide))
  have HK := Lib.hid (HH.out K)
  have HBK := Lib.hid (HB.out.trans (K.h.mono HB.out.size))
  clear GK l2 VL BA
  go_wp2_with (go_at_call 42; with_reducible refine SE.out.mono ?_; rintro e w2 ⟨rfl, hts, hon⟩)
  refine bodyPost_ret (v := .tuple #[.slice none 0 0, .int .i64 0, .int .i64 0]) (by simp [results, Tryz.results97, go_sem]) rfl ⟨rfl, HK.out.setTS hts hon (Or.inr rfl), (below_only HBK.out).trans hon⟩
set_option maxRecDepth 100000 in
set_option maxHeartbeats 4000000 in
theorem btableO (P : BP) (U : List Bool) (V : List Vn) (v : Value) (dr : Int) (w : World) (h : BS w P U [0, 0, 0, 0, 0, 0, 0, 0] V v dr) : Calls Tryz.prog 97 #[.pointer (some ⟨P.b, 0, none⟩), .agg #[.int .u8 3, .int .u8 0, .int .u16 1, .int .u8 0, .int .u8 0, .int .u8 0, .int .u8 0, .int .u8 0, .int .u8 0, .int .u8 0, .int .u8 0, .int .u8 0, .string { data := #[] }, .string { data := #[] }, .int .u16 0, .int .u8 0, .slice none 0 0, .int .i64 0, .int .u16 0, .int .u8 0, .bool false, .int .u8 0, .int .u8 0, .int .u16 0, .int .u8 0, .string { data := #[] }, .int .u8 0]] w fun en w' => en = .returned (.tuple #[.slice none 0 0, .int .i64 0, .int .i64 0]) ∧ BS w' P U [1, 0, 0, 0, 0, 0, 0, 0] V v dr ∧ Only P.q w w' := by
  have hb := (Below.refl w.heap.size w).alloc (Nat.le_refl _) (.cells #[.int .u8 3, .int .u8 0, .int .u16 1, .int .u8 0, .int .u8 0, .int .u8 0, .int .u8 0, .int .u8 0, .int .u8 0, .int .u8 0, .int .u8 0, .int .u8 0, .string { data := #[] }, .string { data := #[] }, .int .u16 0, .int .u8 0, .slice none 0 0, .int .i64 0, .int .u16 0, .int .u8 0, .bool false, .int .u8 0, .int .u8 0, .int .u16 0, .int .u8 0, .string { data := #[] }, .int .u8 0] 64)
  have g1 := GB.new 64 w #[.int .u8 3, .int .u8 0, .int .u16 1, .int .u8 0, .int .u8 0, .int .u8 0, .int .u8 0, .int .u8 0, .int .u8 0, .int .u8 0, .int .u8 0, .int .u8 0, .string { data := #[] }, .string { data := #[] }, .int .u16 0, .int .u8 0, .slice none 0 0, .int .i64 0, .int .u16 0, .int .u8 0, .bool false, .int .u8 0, .int .u8 0, .int .u16 0, .int .u8 0, .string { data := #[] }, .int .u8 0]
  have h0 := h.later hb
  obtain ⟨w0, hw0⟩ : ∃ z, w.alloc (.cells #[.int .u8 3, .int .u8 0, .int .u16 1, .int .u8 0, .int .u8 0, .int .u8 0, .int .u8 0, .int .u8 0, .int .u8 0, .int .u8 0, .int .u8 0, .int .u8 0, .string { data := #[] }, .string { data := #[] }, .int .u16 0, .int .u8 0, .slice none 0 0, .int .i64 0, .int .u16 0, .int .u8 0, .bool false, .int .u8 0, .int .u8 0, .int .u16 0, .int .u8 0, .string { data := #[] }, .int .u8 0] 64) = z := ⟨_, rfl⟩
  rw [hw0] at hb g1 h0
  have HB := Lib.hid hb
  have HG := Lib.hid g1
  have HH := Lib.hid fun K : Later w0 => h0.later K.h
  have l2 : ∀ K : Later w0, K.out.cell? ⟨P.b, 2, none⟩ = some (.pointer (some ⟨P.r, 0, none⟩)) := fun K => (HH.out K).c2
  have VL : Hid (∀ K : Later w0, Calls Tryz.prog 126 #[.pointer (some ⟨P.r, 0, none⟩)] K.out fun en w' => en = .returned (.pointer (some ⟨P.q, 0, none⟩)) ∧ K.out = w') := Lib.hid fun K => (rvlans_any P.r _ v _ (HH.out K).rl.c0 ⟨_, rfl⟩).mono fun e w' h => ⟨h.1, h.2.symm⟩
  have BA : Hid (∀ K : Later w0, Calls Tryz.prog 34 #[.pointer (some ⟨P.r, 0, none⟩)] K.out fun en w' => en = .returned (.pointer (some ⟨P.f, 0, none⟩)) ∧ K.out = w') := Lib.hid fun K => (rbase_any P.r _ v _ (HH.out K).rl.c1 ⟨_, rfl⟩).mono fun e w' h => ⟨h.1, h.2.symm⟩
  clear h hb g1 h0
  go_enter Tryz.func97, Tryz.ntmps97
  go_upto_region 1 with fail
  clear hw0
  refine wp_region_later (by kernel_rfl) (by kernel_rfl) ?_
  repeat (go_big_quiet_step (first
    | (go_at_call 126; exact Calls.later_same (VL.out _))
    | (go_at_call 34; exact Calls.later_same (BA.out _))))
  refine wpQuiet_nil ?_
  rintro _ ⟨K, rfl⟩
  have GK := HG.out.later K.h
  have c0 : K.out.cell? ⟨w.heap.size, 0, none⟩ = some (.int .u8 3) := GK.c 0 _ rfl
  have c1 : K.out.cell? ⟨w.heap.size, 1, none⟩ = some (.int .u8 0) := GK.c 1 _ rfl
  have c2 : K.out.cell? ⟨w.heap.size, 2, none⟩ = some (.int .u16 1) := GK.c 2 _ rfl
  have SE : Hid (Calls Tryz.prog 44 #[.pointer (some ⟨P.q, 0, none⟩), .int .u8 0, .int .u16 1] K.out fun en w' => en = .returned (.int .i64 0) ∧ TS w' P.q 2 P.vm [1, 0, 0, 0, 0, 0, 0, 0] V ∧ Only P.q K.out w') := Lib.hid (vsetOwn_any P.q P.vm 2 _ V 0 1 K.out (HH.out K).rl.ts (by decide) (by decide))
  have HK := Lib.hid (HH.out K)
  have HBK := Lib.hid (HB.out.trans (K.h.mono HB.out.size))
  clear GK l2 VL BA
  go_wp2_with (go_at_call 44; with_reducible refine SE.out.mono ?_; rintro e w2 ⟨rfl, hts, hon⟩)
  refine bodyPost_ret (v := .tuple #[.slice none 0 0, .int .i64 0, .int .i64 0]) (by simp [results, Tryz.results97, go_sem]) rfl ⟨rfl, HK.out.setTS hts hon (Or.inl rfl), (below_only HBK.out).trans hon⟩
end Go.Proofs.YtpkkjbmgbgakdaaGreatDoor
