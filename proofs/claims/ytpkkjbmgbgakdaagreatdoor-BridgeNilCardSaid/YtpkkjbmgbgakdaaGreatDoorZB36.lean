/- ZB36: the texts NP as one. -/
import Derived.Test.YtpkkjbmgbgakdaaGreatDoorZB35
/- bridge: the known frame is relayed. -/
set_option linter.unusedVariables false
set_option linter.unusedSimpArgs false
namespace Go.Proofs.YtpkkjbmgbgakdaaGreatDoor
open Go.RowKit Go.Shelf

attribute [local go_sem] Oper.semAt_some
theorem info_sent : (Tryz.prog.info? 93).map (fun i => (i.zero, i.size, i.bytes)) = some (some (.agg #[.int .u8 0, .string { data := #[] }]), 2, 24) := by kernel_rfl
theorem pt2 (p : Pt 2) : p.1 = 1 := (by decide : ∀ p : Fin 8, (2 : Int) / 2 ^ (p : Nat) % 2 = 1 → p.val = 1) ⟨p.1, p.2.1⟩ p.2.2
theorem ownFrom_block {β : Type} (B k : Nat) (c : Array Value) (e : TypeId) (fz : Nat × Nat) : OwnFrom B (fun (_ : β) W => W.heap[k]? = some (.cells c e fz)) := fun _ X Y row hs hg hr => by
  refine (hg.block k (Array.getElem?_eq_some_iff.1 hs).1 (fun e' => ?_)).trans hs
  obtain ⟨_, o, ho, hc⟩ := hr k e'.symm
  rw [hs] at ho
  cases ho
  cases hc
section
variable {W W' : World} {P : BP} {U : List Bool} {o : List Int} {V : List Vn} {v v' : Value} {dr : Int}
theorem BS.setRL (h : BS W P U o V v dr) (hr : RL W' P.r P.q P.vm P.f P.s 2 o V v') (ho : Only P.f W W') : BS W' P U o V v' dr :=
  ⟨h.gb.only ho h.nb.2.2.2.2.2.1, h.tr.blk (ho.block _ h.tr.tm.lt (by simpa using h.nm.2.2.2.1)) (ho.block _ h.tr.row.lt (by simpa using h.ng.2.2.2.1)), hr, h.nb, h.nm, h.ng, h.ul⟩
end
section
variable {α : Type} {k : Nat} {f : α → List Value} {w : World} {ops : Array Oper} {rest : List Oper} {o : Oper} {a : Act} {Q : Exit → Act → World → Prop} {K : Act → World → Prop}
/-- 'append(b, x...)': the row's own block alone may change. -/
theorem wp_append_rwG (hf : ∀ x, (f x).length = k) (h1c : ∀ x, ∀ u ∈ f x, u.oneCell' = true) (E S : TypeId) (z : Value) (by_ : Nat) (hu : Tryz.prog.underlying S = some (.slice E)) (hi : (Tryz.prog.info? E).map (fun i => (i.zero, i.size, i.bytes)) = some (some z, k, by_)) (hz : z.cells.size = k) (hk : 0 < k) (hby : by_ ≤ 1000)
    (s x : Operand) (ho : o.op = .call { callee := .builtin .append, args := #[s, x], argTypes := #[S, S] })
    (B : Nat) (v : Value) (l : List α) (hs : a.eval s = v) (hown : Ow k f E w B v l) (g c : Nat) (t : List α) (hx : a.eval x = .slice (some ⟨g, 0, none⟩) t.length c) (hsrc : ∀ j (hj : j < t.length) i, i < k → w.cell? ⟨g, j * k + i, none⟩ = (f t[j])[i]?)
    (hsz : l.length + t.length ≤ 100000000000) (hB : B ≤ w.heap.size)
    (h : ∀ v' w', Ow k f E w' B v' (l ++ t) → w.grownBy w' v.ownBlock → Below B w w' → K (a.put o.dst v') w') : o.wp Tryz.prog a w K Q := by
  obtain ⟨i, hi, hz0, hz1, hz2⟩ := info_parts hi
  refine wp_append_own w s x S ho B E i z k by_ hu hi hz0 hz1 hz2 hz hk v l.length (l.flatMap f) hs hown ⟨g, 0, none⟩ t.length c (t.flatMap f) hx (flat_len hf t)
      (fun j u hj => ?_) (fun u hu => ?_) (by unfold maxLen; omega) (by have : (l.length + t.length) * by_ ≤ 100000000000 * 1000 := Nat.mul_le_mul hsz hby; omega) hB (fun v' w' h1 h2 _ => ?_)
  · have hj' : j < t.length * k := by have := (List.getElem?_eq_some_iff.1 hj).1; rw [flat_len hf] at this; exact this
    rw [Go.WideShapes.add_plain]
    have hd : j / k < t.length := Nat.div_lt_of_lt_mul (by rw [Nat.mul_comm]; exact hj')
    have hm : j % k < k := Nat.mod_lt _ hk
    have e : j = j / k * k + j % k := by rw [Nat.mul_comm]; exact (Nat.div_add_mod j k).symm
    have hg := flat_get hf t (j / k) hd (j % k) hm
    rw [← e, hj] at hg
    have := hsrc (j / k) hd (j % k) hm
    rw [← hg, ← e] at this
    simpa using this
  · obtain ⟨y, _, hy⟩ := List.mem_flatMap.1 hu
    exact h1c y u hy
  · refine h v' w' ?_ h2 ((Below.refl _ _).grown h2 hB (fun k hk => (World.ownsRow.lt hown k hk).1))
    unfold Ow
    rw [List.length_append, List.flatMap_append]; exact h1
theorem Ow.cellsAt {E : TypeId} {B : Nat} {v : Value} {l : List α} (hown : Ow k f E w B v l) : ∀ j, v.ownBlock = some j → ∃ c, w.heap[j]? = some (.cells c E (0, 0)) := fun j hj => by
  rcases hown.2 with ⟨rfl, _⟩ | ⟨g, cap, cur, rfl, _, hh, _⟩
  · cases hj
  · injection hj with hj
    exact ⟨cur, by rw [← hj]; exact hh⟩
end
theorem rwCells {W : World} {sg : Nat} (h : Rw 2 stC W (.slice (some ⟨sg, 0, none⟩) 1 1) [()]) : ∀ j (hj : j < [()].length) i, i < 2 → W.cell? ⟨sg, j * 2 + i, none⟩ = (stC [()][j])[i]? := fun j hj i hi => by
  rcases h with ⟨h1, _⟩ | ⟨ad, c, h1, h0 | ⟨b, off, h3, h2⟩⟩
  · cases h1
  · cases h0
  · injection h1 with h1 _ _
    injection h1 with h1
    rw [h3] at h1
    injection h1 with h1 h4 _
    subst h1 h4
    have := h2 j hj i hi
    simpa using this
theorem keepsFrom_below {B : Nat} {W W' : World} (hb : Below W.heap.size W W') : KeepsFrom B W W' := ⟨hb.size, fun k o _ hk _ => (hb.block k (Array.getElem?_eq_some_iff.1 hk).1).trans hk⟩
theorem keepsFrom_grown {B : Nat} {W W' : World} {row : Option Nat} (hg : W.grownBy W' row) (hr : ∀ j, row = some j → ∃ c e fz, W.heap[j]? = some (.cells c e fz)) : KeepsFrom B W W' := ⟨hg.size, fun k o _ hk ho => by
  refine (hg.block k (Array.getElem?_eq_some_iff.1 hk).1 (fun e => ?_)).trans hk
  obtain ⟨c, t, fz, hc⟩ := hr k e.symm
  rw [hc] at hk
  cases hk
  cases ho⟩
section
variable {W W' W0 : World} {P : BP} {U U0 : List Bool} {o o0 : List Int} {V V0 : List Vn} {v v0 : Value} {dr dr0 : Int}
theorem BS.below {B : Nat} (h : BS W P U o V v dr) (h0 : BS W0 P U0 o0 V0 v0 dr0) (hB : W0.heap.size ≤ B) (hb : Below B W W') : BS W' P U o V v dr := by
  have bl : ∀ x, x < W0.heap.size → W'.heap[x]? = W.heap[x]? := fun x hx => hb.block x (Nat.lt_of_lt_of_le hx hB)
  exact ⟨(bl _ h0.gb.lt).trans h.gb, h.tr.blk (bl _ h0.tr.tm.lt) (bl _ h0.tr.row.lt), ⟨(bl _ h0.rl.g.lt).trans h.rl.g, h.rl.ts.blk (bl _ h0.rl.ts.tb.lt) (bl _ h0.rl.ts.vm.lt), h.rl.ft.blk (bl _ h0.rl.ft.g.lt) (bl _ h0.rl.ft.m.lt), h.rl.nr⟩, h.nb, h.nm, h.ng, h.ul⟩
end
set_option maxRecDepth 100000 in
set_option maxHeartbeats 8000000 in
theorem brelayed_in (P : BP) (o : List Int) (dr : Int) (w : World) (h : BS w P [true, true] o [(1, 3, 3)] (.slice none 0 0) dr) :
    CallsIn Fence.wide 3 Tryz.prog 95 #[.pointer (some ⟨P.b, 0, none⟩), .int .i64 0, .int .u16 1, .agg #[.int .u8 255, .int .u8 255, .int .u8 255, .int .u8 255, .int .u8 255, .int .u8 255, .int .u8 2, .int .u8 0, .int .u8 0, .int .u8 0, .int .u8 0, .int .u8 1, .bool false, .int .u8 0, .int .u16 0, .int .u16 2048, .string (bs [120])]] w fun en w' => (∃ g c, en = .returned (.slice (some ⟨g, 0, none⟩) 1 c) ∧ Rw 2 stC w' (.slice (some ⟨g, 0, none⟩) 1 c) [()] ∧ w.heap.size ≤ g) ∧ (∃ g c, BS w' P [true, true] o [(1, 3, 3)] (.slice (some ⟨g, 0, none⟩) 1 c) dr ∧ Ow 9 enC 185 w' w.heap.size (.slice (some ⟨g, 0, none⟩) 1 c) [0]) ∧ Only P.f w w' := by
  obtain ⟨A, hA⟩ : ∃ A : Array Value, A = #[.int .u8 255, .int .u8 255, .int .u8 255, .int .u8 255, .int .u8 255, .int .u8 255, .int .u8 2, .int .u8 0, .int .u8 0, .int .u8 0, .int .u8 0, .int .u8 1, .bool false, .int .u8 0, .int .u16 0, .int .u16 2048, .string (bs [120])] := ⟨_, rfl⟩
  have GO : Hid (∀ W, BS W P [true, true] o [(1, 3, 3)] (.slice none 0 0) dr → Calls Tryz.prog 156 #[.pointer (some ⟨P.r, 0, none⟩), .int .i64 0, .int .u16 1, .agg A, .int .u8 3] W fun en w' => en = .returned (.int .u8 2) ∧ (∃ g cap, BS w' P [true, true] o [(1, 3, 3)] (.slice (some ⟨g, 0, none⟩) 1 cap) dr ∧ W.heap.size ≤ g ∧ Ow 9 enC 185 w' W.heap.size (.slice (some ⟨g, 0, none⟩) 1 cap) [0]) ∧ Only P.f W w') := Lib.hid fun W hW => by
    rw [hA]
    exact (goesA P.r P.q P.vm P.f P.s o W hW.rl).mono (by rintro e w' ⟨h1, ⟨g, cap, h2, h3, h4⟩, h5⟩; exact ⟨h1, ⟨g, cap, hW.setRL h2 h5, h3, h4⟩, h5⟩)
  have OU : Hid (∀ W v, BS W P [true, true] o [(1, 3, 3)] v dr → Calls Tryz.prog 158 #[.pointer (some ⟨P.b, 0, none⟩), .int .u8 1, .int .u16 1, .agg A] W fun en w' => ∃ g, en = .returned (.slice (some ⟨g, 0, none⟩) 1 1) ∧ Rw 2 stC w' (.slice (some ⟨g, 0, none⟩) 1 1) [()] ∧ W.heap.size ≤ g ∧ Below W.heap.size W w') := Lib.hid fun W v hW => by rw [hA]; exact boutA P [true, true] o v dr W hW
  have FW : Hid (∀ W, BS W P [true, true] o [(1, 3, 3)] (.slice none 0 0) dr → Calls Tryz.prog 157 #[.pointer (some ⟨P.b, 0, none⟩)] W fun en w' => en = .returned (.int .u8 3) ∧ Below W.heap.size W w') := Lib.hid fun W hW => callsIn_wide.1 (bforwards_in P o _ _ dr W hW)
  have hI : isFr A := by rw [hA]; exact isFr_A
  rw [← hA]
  clear hA
  have HIL := Lib.hid (frame_infoL hI)
  clear hI
  obtain ⟨n, hn⟩ : ∃ z, w.heap.size = z := ⟨_, rfl⟩
  have hpf : P.f < n := by rw [← hn]; exact h.rl.ft.g.lt
  have b1 := (Below.refl w.heap.size w).alloc (Nat.le_refl _) (.cells #[.pointer (some ⟨P.b, 0, none⟩)] 27)
  have gB := GB.new 27 w #[.pointer (some ⟨P.b, 0, none⟩)]
  have z1 : (w.alloc (.cells #[.pointer (some ⟨P.b, 0, none⟩)] 27)).heap.size = n + 1 := by rw [← hn]; simp
  obtain ⟨wa, hwa⟩ : ∃ z, w.alloc (.cells #[.pointer (some ⟨P.b, 0, none⟩)] 27) = z := ⟨_, rfl⟩
  rw [hwa] at b1 gB z1
  have b2 := (Below.refl wa.heap.size wa).alloc (Nat.le_refl _) (.cells #[.int .u16 1] 39)
  have gV := GB.new 39 wa #[.int .u16 1]
  have z2 : (wa.alloc (.cells #[.int .u16 1] 39)).heap.size = n + 2 := by simp [z1]
  obtain ⟨wb, hwb⟩ : ∃ z, wa.alloc (.cells #[.int .u16 1] 39) = z := ⟨_, rfl⟩
  rw [hwb] at b2 gV z2
  have b3 := (Below.refl wb.heap.size wb).alloc (Nat.le_refl _) (.cells A 68)
  have gF := GB.new 68 wb A
  have z3 : (wb.alloc (.cells A 68)).heap.size = n + 3 := by simp [z2]
  obtain ⟨wc, hwc⟩ : ∃ z, wb.alloc (.cells A 68) = z := ⟨_, rfl⟩
  rw [hwc] at b3 gF z3
  have b4 := ((Below.refl wc.heap.size wc).alloc (Nat.le_refl _) (.cells #[.slice none 0 0] 54)).drew
  have gO := (GB.new 54 wc #[.slice none 0 0]).drew
  have z4 : (wc.alloc (.cells #[.slice none 0 0] 54)).drew.heap.size = n + 4 := by show (wc.alloc _).heap.size = _; simp [z3]
  obtain ⟨wd, hwd⟩ : ∃ z, wc.alloc (.cells #[.slice none 0 0] 54) = z := ⟨_, rfl⟩
  rw [hwd] at b4 gO z4
  have b34 := b3.trans (b4.mono b3.size)
  have b234 := b2.trans (b34.mono b2.size)
  have bal := b1.trans (b234.mono b1.size)
  have h0 := h.later bal
  replace gB := gB.later b234
  replace gV := gV.later b34
  replace gF := gF.later b4
  rw [hn] at gB
  rw [z1] at gV
  rw [z2] at gF
  rw [z3] at gO
  have HW := Lib.hid (And.intro h0 (And.intro bal (And.intro z4 gO)))
  have HG := Lib.hid (And.intro gB (And.intro gV gF))
  have SX : Hid (∀ W, Below (n + 3) wd.drew W → W.cell? ⟨n, 0, none⟩ = some (.pointer (some ⟨P.b, 0, none⟩)) ∧ W.cell? ⟨P.b, 2, none⟩ = some (.pointer (some ⟨P.r, 0, none⟩)) ∧ W.cell? ⟨n + 1, 0, none⟩ = some (.int .u16 1) ∧ GB 68 W (n + 2) A) := Lib.hid fun W hb =>
    ⟨(gB.below (by omega) hb).c 0 _ rfl, (h0.gb.below (by have := h.gb.lt; omega) hb).c 2 _ rfl, (gV.below (by omega) hb).c 0 _ rfl, gF.below (by omega) hb⟩
  have HH := Lib.hid h
  clear b1 b2 b3 b4 b34 b234 bal z4 gB gV gF gO h0 h
  refine callsIn_of_wp_marks Tryz.func95 rfl trivial ?_ rfl
  simp only [Tryz.ntmps95, List.size_toArray, List.length_cons, List.length_nil, Nat.reduceAdd, Nat.reduceSub, Array.replicate_succ, Array.replicate_zero, List.push_toArray, List.append_toArray, List.nil_append, List.cons_append]
  gi_wp2
  refine wpIn_wide.2 ?_
  clear hwa hwb hwc hwd z1 z2 z3
  have BD := Below.refl (n + 3) wd.drew
  refine wp_region_noPanic ?_
  refine wp_region_held_drew (S := fun W => W.cell? ⟨n, 0, none⟩ = some (.pointer (some ⟨P.b, 0, none⟩)) ∧ W.cell? ⟨P.b, 2, none⟩ = some (.pointer (some ⟨P.r, 0, none⟩)) ∧ W.cell? ⟨n + 1, 0, none⟩ = some (.int .u16 1) ∧ GB 68 W (n + 2) A) (by kernel_rfl) (SX.out _ BD) (fun hHeld => ?_)
  refine wpAnyH_take (i := 0) (v := ?_) rfl (by kernel_rfl) (by kernel_rfl) (by kernel_rfl) (fun _ _ _ h => h) (Or.inl ⟨by rfl, ?hy0⟩) (by assumption) ?_
  case hy0 => (intro w hSw; (try dsimp only at hSw); go_simp; try with_reducible rfl)
  try simp only [Act.put, List.setIfInBounds_toArray, List.set_cons_zero, List.set_cons_succ, List.getElem_toArray, List.getElem_cons_zero, List.getElem_cons_succ]
  refine wpAnyH_take (i := 1) (v := ?_) rfl (by kernel_rfl) (by kernel_rfl) (by kernel_rfl) (fun _ _ _ h => h) (Or.inl ⟨by rfl, ?hy1⟩) (by assumption) ?_
  case hy1 => (intro w hSw; (try dsimp only at hSw); go_simp; try with_reducible rfl)
  try simp only [Act.put, List.setIfInBounds_toArray, List.set_cons_zero, List.set_cons_succ, List.getElem_toArray, List.getElem_cons_zero, List.getElem_cons_succ]
  refine wpAnyH_take (i := 2) (v := ?_) rfl (by kernel_rfl) (by kernel_rfl) (by kernel_rfl) (fun _ _ _ h => h) (Or.inl ⟨by rfl, ?hy2⟩) (by assumption) ?_
  case hy2 => (intro w hSw; (try dsimp only at hSw); go_simp; try with_reducible rfl)
  try simp only [Act.put, List.setIfInBounds_toArray, List.set_cons_zero, List.set_cons_succ, List.getElem_toArray, List.getElem_cons_zero, List.getElem_cons_succ]
  refine wpAnyH_take (i := 3) (v := ?_) rfl (by kernel_rfl) (by kernel_rfl) (by kernel_rfl) (fun _ _ _ h => h) (Or.inl ⟨by rfl, ?hy3⟩) (by assumption) ?_
  case hy3 => (intro w hSw; (try dsimp only at hSw); go_simp; try with_reducible rfl)
  try simp only [Act.put, List.setIfInBounds_toArray, List.set_cons_zero, List.set_cons_succ, List.getElem_toArray, List.getElem_cons_zero, List.getElem_cons_succ]
  refine wpAnyH_take (i := 4) (v := ?_) rfl (by kernel_rfl) (by kernel_rfl) (by kernel_rfl) (fun _ _ _ h => h) (Or.inl ⟨by rfl, ?hy4⟩) (by assumption) ?_
  case hy4 => (intro w hSw; (try dsimp only at hSw); go_simp; try with_reducible rfl)
  try simp only [Act.put, List.setIfInBounds_toArray, List.set_cons_zero, List.set_cons_succ, List.getElem_toArray, List.getElem_cons_zero, List.getElem_cons_succ]
  refine wpAnyH_take (i := 5) (v := ?_) rfl (by kernel_rfl) (by kernel_rfl) (by kernel_rfl) (fun _ _ _ h => h) (Or.inl ⟨by rfl, ?hy5⟩) (by assumption) ?_
  case hy5 => (intro w hSw; (try dsimp only at hSw); go_simp; try with_reducible rfl)
  try simp only [Act.put, List.setIfInBounds_toArray, List.set_cons_zero, List.set_cons_succ, List.getElem_toArray, List.getElem_cons_zero, List.getElem_cons_succ]
  refine wpAnyH_take (i := 6) (v := .agg A) rfl (by kernel_rfl) (by kernel_rfl) (by kernel_rfl) (fun _ _ _ h => h) (Or.inl ⟨by rfl, ?hy6⟩) (by assumption) ?_
  case hy6 => (intro W hSw; exact execLoad rfl rfl (hSw.2.2.2.loadAt Tryz.underlying68 rfl HIL.out))
  try simp only [Act.put, List.setIfInBounds_toArray, List.set_cons_zero, List.set_cons_succ, List.getElem_toArray, List.getElem_cons_zero, List.getElem_cons_succ]
  refine wpAnyH_take (i := 7) (v := ?_) rfl (by kernel_rfl) (by kernel_rfl) (by kernel_rfl) (fun _ _ _ h => h) (Or.inl ⟨by rfl, ?hy7⟩) (by assumption) ?_
  case hy7 => (intro w hSw; (try dsimp only at hSw); go_simp; try with_reducible rfl)
  try simp only [Act.put, List.setIfInBounds_toArray, List.set_cons_zero, List.set_cons_succ, List.getElem_toArray, List.getElem_cons_zero, List.getElem_cons_succ]
  refine wpAnyH_ready (rs := [8]) (by kernel_rfl) (by simp) (AllReadyH.cons rfl (fun K hK => ?_) AllReadyH.nil)
  (go_simp; go_at_call 157; (with_reducible refine (FW.out _ HW.out.1).mono ?_); rintro en w5 ⟨rfl, hb⟩; have B5 := Lib.hid (show Below (n + 3) wd.drew w5 from hb.mono (by rw [HW.out.2.2.1]; omega)); have H5 := Lib.hid (And.intro (HW.out.1.later hb) (And.intro (HW.out.2.2.2.later hb) (Nat.le_trans (Nat.le_of_eq HW.out.2.2.1.symm) hb.size))); have O5 := Lib.hid (HW.out.2.1.trans (hb.mono HW.out.2.1.size)); refine hK.out _ _ (SX.out _ B5.out) (fun hHeld => ?_); clear hK K hb; try simp only [Act.put, List.setIfInBounds_toArray, List.set_cons_zero, List.set_cons_succ, List.getElem_toArray, List.getElem_cons_zero, List.getElem_cons_succ])
  have S6 : Hid (∀ W, Only P.f w5 W → W.cell? ⟨n, 0, none⟩ = some (.pointer (some ⟨P.b, 0, none⟩)) ∧ W.cell? ⟨n + 1, 0, none⟩ = some (.int .u16 1) ∧ GB 68 W (n + 2) A ∧ GB 54 W (n + 3) #[.slice none 0 0]) := Lib.hid fun W ho =>
    ⟨((HG.out.1.below (by omega) B5.out).only ho (by omega)).c 0 _ rfl, ((HG.out.2.1.below (by omega) B5.out).only ho (by omega)).c 0 _ rfl, (HG.out.2.2.below (by omega) B5.out).only ho (by omega), H5.out.2.1.only ho (by omega)⟩
  refine wpAnyH_ready (rs := [9]) (by kernel_rfl) (by simp) (AllReadyH.cons rfl (fun K hK => ?_) AllReadyH.nil)
  (go_simp; go_at_call 156; (with_reducible refine (GO.out _ H5.out.1).mono ?_); rintro en w6 ⟨rfl, ⟨fg, fcap, hs6, hfg, how⟩, hon⟩; have T6 := Lib.hid (S6.out _ hon); have H6 := Lib.hid (And.intro hs6 (And.intro hfg (And.intro how hon))); refine hK.out _ _ ⟨T6.out.1, H6.out.1.c2, T6.out.2.1, T6.out.2.2.1⟩ (fun hHeld => ?_); clear hK K hs6 hfg how hon; try simp only [Act.put, List.setIfInBounds_toArray, List.set_cons_zero, List.set_cons_succ, List.getElem_toArray, List.getElem_cons_zero, List.getElem_cons_succ])
  have c2b : (w6.alloc (.cells #[.int .u8 2] 5)).cell? ⟨P.b, 2, none⟩ = some (.pointer (some ⟨P.r, 0, none⟩)) := (H6.out.1.later ((Below.refl _ _).alloc (Nat.le_refl _) _)).c2
  refine wpAnyH_ready (rs := [10]) (by kernel_rfl) (by simp) (AllReadyH.cons rfl (fun K hK => ?_) AllReadyH.nil)
  (go_simp; go_at_call 155; refine (ports_any 2 _).mono ?_; rintro en w7 ⟨rfl, rfl⟩; refine hK.out _ _ ⟨(((Below.refl _ _).alloc (Nat.le_refl _) _).cell (World.block_lt_of_cell? _ _ T6.out.1)).trans T6.out.1, c2b, (((Below.refl _ _).alloc (Nat.le_refl _) _).cell (World.block_lt_of_cell? _ _ T6.out.2.1)).trans T6.out.2.1, T6.out.2.2.1.later ((Below.refl _ _).alloc (Nat.le_refl _) _)⟩ (fun hHeld => ?_); clear hK K; try simp only [Act.put, List.setIfInBounds_toArray, List.set_cons_zero, List.set_cons_succ, List.getElem_toArray, List.getElem_cons_zero, List.getElem_cons_succ])
  refine wpAnyH_done (by kernel_rfl) ?_ _
  refine NoPanic.normal ?_
  have HR := Lib.hid H6.out.1
  have hz6 : n + 4 ≤ w6.heap.size := Nat.le_trans H5.out.2.2 H6.out.2.2.2.size
  obtain ⟨cc, hcc⟩ : ∃ cc, w6.heap[fg]? = some (.cells cc 185 (0, 0)) := by
    have ho : w6.ownsRow w5.heap.size 185 9 (.slice (some ⟨fg, 0, none⟩) 1 fcap) 1 ([0].flatMap enC) := H6.out.2.2.1
    rcases ho.2 with ⟨h1, _⟩ | ⟨g', cap', cur, h1, _, h3, _⟩
    · cases h1
    · injection h1 with h1 _ _
      injection h1 with h1
      injection h1 with h1 _ _
      exact ⟨cur, by rw [h1]; exact h3⟩
  have b7 := (Below.refl w6.heap.size w6).alloc (Nat.le_refl _) (.cells #[.int .u8 2] 5)
  have gS := (GB.new 5 w6 #[.int .u8 2]).c 0 _ rfl
  have hb7 := T6.out.2.2.2.later b7
  have hcc7 : (w6.alloc (.cells #[.int .u8 2] 5)).heap[fg]? = some (.cells cc 185 (0, 0)) := (b7.block fg (Array.getElem?_eq_some_iff.1 hcc).1).trans hcc
  have hs7 : (w6.alloc (.cells #[.int .u8 2] 5)).heap.size = w6.heap.size + 1 := by simp
  have hb73 := b7.mono (show n + 3 ≤ w6.heap.size by omega)
  obtain ⟨w7, hw7⟩ : ∃ z, w6.alloc (.cells #[.int .u8 2] 5) = z := ⟨_, rfl⟩
  rw [hw7] at gS hb7 hcc7 hs7 hb73 ⊢
  obtain ⟨m, hm⟩ : ∃ z, w6.heap.size = z := ⟨_, rfl⟩
  rw [hm] at gS hs7 hz6 ⊢
  clear hHeld c2b b7 hw7
  gi_wp2
  refine wpIn_rangeFunc_ownG rfl (by decide) (gf := 207) (lb := #[.pointer (some ⟨m, 0, none⟩)]) rfl trivial (enters_of Tryz.func207 (by kernel_rfl) rfl) (portsStops 2 (by decide) m w7 (by omega) gS) kpB_t (kpB_b (by omega)) (Below.refl _ _) (fun _ => rfl)
    (fun pre W => (∃ v, Boxed W (n + 3) 54 v ∧ W.ownsRow (m + 1) 93 2 v (pre.map fun _ => ()).length ((pre.map fun _ => ()).flatMap stC) ∧ True) ∧ Below (n + 3) w7 W ∧ W.heap[fg]? = some (.cells cc 185 (0, 0)))
    (fun _ _ _ => False)
    (OwnFrom.and (Own.from (holdsRow_own (m + 1) (n + 3) 54 93 2 (fun pre : List (Pt 2) => (pre.map fun _ => ()).length) (fun pre => (pre.map fun _ => ()).flatMap stC) (fun _ _ => True)) _) (OwnFrom.and (ownFrom_below (by omega) (by omega)) (ownFrom_block _ fg cc _ _)))
    (fun _ _ _ _ _ hs _ _ => hs)
    ⟨⟨_, hb7, World.ownsRow_nil _ _ _ _, trivial⟩, Below.refl _ _, hcc7⟩
    (fun p => { tmps := #[.pointer (some ⟨P.b, 0, none⟩), .int .i64 0, .int .u16 1, .agg A, .pointer (some ⟨n, 0, none⟩), undef, .pointer (some ⟨n + 1, 0, none⟩), .pointer (some ⟨n + 2, 0, none⟩), .slice none 0 0, .pointer (some ⟨n + 3, 0, none⟩), .int .u8 (p.1 : Int), .pointer (some ⟨P.b, 0, none⟩), .pointer (some ⟨P.b, 0, none⟩), .pointer (some ⟨P.b, 2, none⟩), .pointer (some ⟨P.r, 0, none⟩), .int .i64 0, .int .u16 1, .agg A, .pointer (some ⟨P.b, 0, none⟩), .int .u8 3, .int .u8 2, .func (.func 207) #[] #[.pointer (some ⟨m, 0, none⟩)], .int .u8 (p.1 : Int), undef, undef, undef, undef, undef, undef, undef, undef], defers := [] }) ?assign ?body ?done ?stop
  case assign =>
    intro l x W K hK
    gi_wp2
    exact hK
  case body =>
    rintro l pre p W ⟨⟨v, hv, hrow, -⟩, hB, hcw⟩ hlt
    rw [pt2 p]
    have hmW : m < W.heap.size := by have := hB.size; omega
    have hfm : fg < m := by rw [← hm]; exact (Array.getElem?_eq_some_iff.1 hcc).1
    have hfn : n + 4 ≤ fg := Nat.le_trans H5.out.2.2 H6.out.2.1
    have hB7 := hB
    replace hB := hb73.trans hB
    have hBW : BS W P [true, true] o [(1, 3, 3)] (.slice (some ⟨fg, 0, none⟩) 1 fcap) dr := HR.out.below HH.out (by rw [hn]; omega) hB
    have cB : W.drew.cell? ⟨n, 0, none⟩ = some (.pointer (some ⟨P.b, 0, none⟩)) := (hB.cell (p := ⟨n, 0, none⟩) (by show n < n + 3; omega)).trans T6.out.1
    have cV : W.drew.cell? ⟨n + 1, 0, none⟩ = some (.int .u16 1) := (hB.cell (p := ⟨n + 1, 0, none⟩) (by show n + 1 < n + 3; omega)).trans T6.out.2.1
    have gF : GB 68 W.drew (n + 2) A := (T6.out.2.2.1.below (B := n + 3) (by omega) hB).drew
    have cO : W.drew.cell? ⟨n + 3, 0, none⟩ = some v := hv.cell
    have OW := Lib.hid (OU.out W.drew _ (hBW.later (Below.refl _ _).drew))
    have OR : Hid (Ow 2 stC 93 W (m + 1) v (pre.map fun _ => ())) := Lib.hid hrow
    have HV := Lib.hid hv
    have HBW := Lib.hid hB
    have HCW := Lib.hid hcw
    have HB7 := Lib.hid hB7
    clear hv hrow hB hcw hBW hB7
    gi_wp2
    refine wpIn_region_held_drew (S := fun W => W.cell? ⟨n, 0, none⟩ = some (.pointer (some ⟨P.b, 0, none⟩)) ∧ W.cell? ⟨n + 1, 0, none⟩ = some (.int .u16 1) ∧ GB 68 W (n + 2) A) (by kernel_rfl) (by kernel_rfl) (fun ⟨_, _, h⟩ => h) ⟨cB, cV, gF⟩ (fun hHeld => ?_)
    refine wpAnyH_take (i := 1) (v := ?_) rfl (by kernel_rfl) (by kernel_rfl) (by kernel_rfl) (fun _ _ _ h => h) (Or.inl ⟨by rfl, ?hy1⟩) (by assumption) ?_
    case hy1 => (intro w hSw; (try dsimp only at hSw); go_simp; try with_reducible rfl)
    try simp only [Act.put, List.setIfInBounds_toArray, List.set_cons_zero, List.set_cons_succ, List.getElem_toArray, List.getElem_cons_zero, List.getElem_cons_succ]
    refine wpAnyH_take (i := 2) (v := ?_) rfl (by kernel_rfl) (by kernel_rfl) (by kernel_rfl) (fun _ _ _ h => h) (Or.inl ⟨by rfl, ?hy2⟩) (by assumption) ?_
    case hy2 => (intro w hSw; (try dsimp only at hSw); go_simp; try with_reducible rfl)
    try simp only [Act.put, List.setIfInBounds_toArray, List.set_cons_zero, List.set_cons_succ, List.getElem_toArray, List.getElem_cons_zero, List.getElem_cons_succ]
    refine wpAnyH_take (i := 3) (v := ?_) rfl (by kernel_rfl) (by kernel_rfl) (by kernel_rfl) (fun _ _ _ h => h) (Or.inl ⟨by rfl, ?hy3⟩) (by assumption) ?_
    case hy3 => (intro w hSw; (try dsimp only at hSw); go_simp; try with_reducible rfl)
    try simp only [Act.put, List.setIfInBounds_toArray, List.set_cons_zero, List.set_cons_succ, List.getElem_toArray, List.getElem_cons_zero, List.getElem_cons_succ]
    refine wpAnyH_take (i := 4) (v := .agg A) rfl (by kernel_rfl) (by kernel_rfl) (by kernel_rfl) (fun _ _ _ h => h) (Or.inl ⟨by rfl, ?hy4⟩) (by assumption) ?_
    case hy4 => (intro W hSw; exact execLoad rfl rfl (hSw.2.2.loadAt Tryz.underlying68 rfl HIL.out))
    try simp only [Act.put, List.setIfInBounds_toArray, List.set_cons_zero, List.set_cons_succ, List.getElem_toArray, List.getElem_cons_zero, List.getElem_cons_succ]
    refine wpAnyH_ready (rs := [0, 5]) (by kernel_rfl) (by simp) (AllReadyH.cons rfl (fun K hK => ?_) (AllReadyH.cons rfl (fun K hK => ?_) AllReadyH.nil))
    · (go_simp; refine hK.out _ _ ⟨cB, cV, gF⟩ (fun hHeld => ?_); clear hK K; try simp only [Act.put, List.setIfInBounds_toArray, List.set_cons_zero, List.set_cons_succ, List.getElem_toArray, List.getElem_cons_zero, List.getElem_cons_succ])
      refine wpAnyH_ready (rs := [5]) (by kernel_rfl) (by simp) (AllReadyH.cons rfl (fun K hK => ?_) AllReadyH.nil)
      (go_simp; go_at_call 158; (with_reducible refine OW.out.mono ?_); rintro en w8 ⟨sg, rfl, hrs, hsg, hb⟩; have B8 := Lib.hid (show Below W.heap.size W w8 from (Below.refl _ _).drew.trans hb); have R8 := Lib.hid hrs; have cO8 := (B8.out.cell (World.block_lt_of_cell? _ _ cO)).trans cO; have gF8 : GB 68 w8 (n + 2) A := (show GB 68 W (n + 2) A from gF).later B8.out; refine hK.out _ _ ⟨(B8.out.cell (World.block_lt_of_cell? _ _ cB)).trans cB, (B8.out.cell (World.block_lt_of_cell? _ _ cV)).trans cV, gF8⟩ (fun hHeld => ?_); clear hK K hrs hb; try simp only [Act.put, List.setIfInBounds_toArray, List.set_cons_zero, List.set_cons_succ, List.getElem_toArray, List.getElem_cons_zero, List.getElem_cons_succ])
      have SR : Hid (∀ j (hj : j < [()].length) i, i < 2 → w8.cell? ⟨sg, j * 2 + i, none⟩ = (stC [()][j])[i]?) := Lib.hid (rwCells R8.out)
      have O8 := Lib.hid (OR.out.later B8.out)
      have hpl : pre.length < 8 := hlt
      have hm8 : m + 1 ≤ w8.heap.size := by have := B8.out.size; omega
      refine wpAnyH_ready (rs := [6]) (by kernel_rfl) (by simp) (AllReadyH.cons rfl (fun K hK => ?_) AllReadyH.nil)
      (rw [if_pos (by rfl)]; refine wp_append_rwG stC_len stC_one 93 54 _ 24 Tryz.underlying54 info_sent rfl (by decide) (by decide) (.tmp 23) (.tmp 28) rfl (m + 1) v (pre.map fun _ => ()) rfl O8.out sg 1 [()] rfl SR.out (by simp; omega) hm8 ?_; intro v9 w9 ho9 hg9 hb9; have O9 := Lib.hid ho9; have G9 := Lib.hid hg9; have B9 := Lib.hid hb9; refine hK.out _ _ ⟨(hb9.cell (p := ⟨n, 0, none⟩) (by show n < m + 1; omega)).trans ((B8.out.cell (World.block_lt_of_cell? _ _ cB)).trans cB), (hb9.cell (p := ⟨n + 1, 0, none⟩) (by show n + 1 < m + 1; omega)).trans ((B8.out.cell (World.block_lt_of_cell? _ _ cV)).trans cV), gF8.below (by omega) hb9⟩ (fun hHeld => ?_); clear hK K ho9 hg9 hb9; try simp only [Act.put, List.setIfInBounds_toArray, List.set_cons_zero, List.set_cons_succ, List.getElem_toArray, List.getElem_cons_zero, List.getElem_cons_succ])
      obtain ⟨g1, cap1, t1, hv1, hg1, hc1, -⟩ := O9.out.ne (by simp)
      rw [show ((pre.map fun _ => ()) ++ [()]).length = pre.length + 1 by simp] at hv1
      subst hv1
      have hv9 : GB 54 w9 (n + 3) #[v] := ((show GB 54 W (n + 3) #[v] from HV.out).later B8.out).below (B := m + 1) (by omega) B9.out
      have cO9 : w9.cell? ⟨n + 3, 0, none⟩ = some v := hv9.c 0 _ rfl
      have f9 := hv9.fr 0
      refine wpAnyH_ready (rs := [7]) (by kernel_rfl) (by simp) (AllReadyH.cons rfl (fun K hK => ?_) AllReadyH.nil)
      (go_simp; refine hK.out _ _ ⟨by rw [World.cell?_setCell_far _ _ _ _ (by show n + 3 ≠ n; omega)]; exact hHeld.1, by rw [World.cell?_setCell_far _ _ _ _ (by show n + 3 ≠ n + 1; omega)]; exact hHeld.2.1, hHeld.2.2.other (by omega) _⟩ (fun hHeld => ?_); clear hK K; try simp only [Act.put, List.setIfInBounds_toArray, List.set_cons_zero, List.set_cons_succ, List.getElem_toArray, List.getElem_cons_zero, List.getElem_cons_succ])
      refine wpAnyH_done (by kernel_rfl) ?_ _
      have hrow : Ow 2 stC 93 (w9.setCell ⟨n + 3, 0, none⟩ (.slice (some ⟨g1, 0, none⟩) (pre.length + 1) cap1)) (m + 1) (.slice (some ⟨g1, 0, none⟩) (pre.length + 1) cap1) ((pre ++ [p]).map fun _ => ()) := by
        rw [show ((pre ++ [p]).map fun _ => ()) = (pre.map fun _ => ()) ++ [()] by simp]
        exact O9.out.setB (by omega) 0 _
      refine ⟨((keepsFrom_below B8.out).trans (keepsFrom_grown G9.out (fun j hj => by obtain ⟨c, hc⟩ := O8.out.cellsAt j hj; exact ⟨c, _, _, hc⟩))).trans ((KeepsOthers.setCell _ _ _).from _), kpB_t (kpB_t ⟨B8.out.cell (p := ⟨m, 0, none⟩) hmW, B8.out.size⟩ ⟨B9.out.cell (p := ⟨m, 0, none⟩) (Nat.lt_succ_self _), G9.out.size⟩) ⟨World.cell?_setCell_far _ _ _ _ (by show n + 3 ≠ m; omega), by simp [World.setCell]⟩, ⟨_, hv9.set 0 _, hrow, trivial⟩, ?_, ?_⟩
      · exact below_set ((HB7.out.trans (B8.out.mono (by omega))).trans (B9.out.mono (by omega))) (Nat.le_refl _) _
      · rw [Below.heap_setCell _ _ _ _ (by intro e; simp at e; omega)]
        exact (B9.out.block fg (by omega)).trans ((B8.out.block fg (by omega)).trans HCW.out)
    · (go_simp; go_at_call 158; (with_reducible refine OW.out.mono ?_); rintro en w8 ⟨sg, rfl, hrs, hsg, hb⟩; have B8 := Lib.hid (show Below W.heap.size W w8 from (Below.refl _ _).drew.trans hb); have R8 := Lib.hid hrs; have cO8 := (B8.out.cell (World.block_lt_of_cell? _ _ cO)).trans cO; have gF8 : GB 68 w8 (n + 2) A := (show GB 68 W (n + 2) A from gF).later B8.out; refine hK.out _ _ ⟨(B8.out.cell (World.block_lt_of_cell? _ _ cB)).trans cB, (B8.out.cell (World.block_lt_of_cell? _ _ cV)).trans cV, gF8⟩ (fun hHeld => ?_); clear hK K hrs hb; try simp only [Act.put, List.setIfInBounds_toArray, List.set_cons_zero, List.set_cons_succ, List.getElem_toArray, List.getElem_cons_zero, List.getElem_cons_succ])
      refine wpAnyH_ready (rs := [0]) (by kernel_rfl) (by simp) (AllReadyH.cons rfl (fun K hK => ?_) AllReadyH.nil)
      (go_simp; refine hK.out _ _ hHeld (fun hHeld => ?_); clear hK K; try simp only [Act.put, List.setIfInBounds_toArray, List.set_cons_zero, List.set_cons_succ, List.getElem_toArray, List.getElem_cons_zero, List.getElem_cons_succ])
      have SR : Hid (∀ j (hj : j < [()].length) i, i < 2 → w8.cell? ⟨sg, j * 2 + i, none⟩ = (stC [()][j])[i]?) := Lib.hid (rwCells R8.out)
      have O8 := Lib.hid (OR.out.later B8.out)
      have hpl : pre.length < 8 := hlt
      have hm8 : m + 1 ≤ w8.heap.size := by have := B8.out.size; omega
      refine wpAnyH_ready (rs := [6]) (by kernel_rfl) (by simp) (AllReadyH.cons rfl (fun K hK => ?_) AllReadyH.nil)
      (rw [if_pos (by rfl)]; refine wp_append_rwG stC_len stC_one 93 54 _ 24 Tryz.underlying54 info_sent rfl (by decide) (by decide) (.tmp 23) (.tmp 28) rfl (m + 1) v (pre.map fun _ => ()) rfl O8.out sg 1 [()] rfl SR.out (by simp; omega) hm8 ?_; intro v9 w9 ho9 hg9 hb9; have O9 := Lib.hid ho9; have G9 := Lib.hid hg9; have B9 := Lib.hid hb9; refine hK.out _ _ ⟨(hb9.cell (p := ⟨n, 0, none⟩) (by show n < m + 1; omega)).trans ((B8.out.cell (World.block_lt_of_cell? _ _ cB)).trans cB), (hb9.cell (p := ⟨n + 1, 0, none⟩) (by show n + 1 < m + 1; omega)).trans ((B8.out.cell (World.block_lt_of_cell? _ _ cV)).trans cV), gF8.below (by omega) hb9⟩ (fun hHeld => ?_); clear hK K ho9 hg9 hb9; try simp only [Act.put, List.setIfInBounds_toArray, List.set_cons_zero, List.set_cons_succ, List.getElem_toArray, List.getElem_cons_zero, List.getElem_cons_succ])
      obtain ⟨g1, cap1, t1, hv1, hg1, hc1, -⟩ := O9.out.ne (by simp)
      rw [show ((pre.map fun _ => ()) ++ [()]).length = pre.length + 1 by simp] at hv1
      subst hv1
      have hv9 : GB 54 w9 (n + 3) #[v] := ((show GB 54 W (n + 3) #[v] from HV.out).later B8.out).below (B := m + 1) (by omega) B9.out
      have cO9 : w9.cell? ⟨n + 3, 0, none⟩ = some v := hv9.c 0 _ rfl
      have f9 := hv9.fr 0
      refine wpAnyH_ready (rs := [7]) (by kernel_rfl) (by simp) (AllReadyH.cons rfl (fun K hK => ?_) AllReadyH.nil)
      (go_simp; refine hK.out _ _ ⟨by rw [World.cell?_setCell_far _ _ _ _ (by show n + 3 ≠ n; omega)]; exact hHeld.1, by rw [World.cell?_setCell_far _ _ _ _ (by show n + 3 ≠ n + 1; omega)]; exact hHeld.2.1, hHeld.2.2.other (by omega) _⟩ (fun hHeld => ?_); clear hK K; try simp only [Act.put, List.setIfInBounds_toArray, List.set_cons_zero, List.set_cons_succ, List.getElem_toArray, List.getElem_cons_zero, List.getElem_cons_succ])
      refine wpAnyH_done (by kernel_rfl) ?_ _
      have hrow : Ow 2 stC 93 (w9.setCell ⟨n + 3, 0, none⟩ (.slice (some ⟨g1, 0, none⟩) (pre.length + 1) cap1)) (m + 1) (.slice (some ⟨g1, 0, none⟩) (pre.length + 1) cap1) ((pre ++ [p]).map fun _ => ()) := by
        rw [show ((pre ++ [p]).map fun _ => ()) = (pre.map fun _ => ()) ++ [()] by simp]
        exact O9.out.setB (by omega) 0 _
      refine ⟨((keepsFrom_below B8.out).trans (keepsFrom_grown G9.out (fun j hj => by obtain ⟨c, hc⟩ := O8.out.cellsAt j hj; exact ⟨c, _, _, hc⟩))).trans ((KeepsOthers.setCell _ _ _).from _), kpB_t (kpB_t ⟨B8.out.cell (p := ⟨m, 0, none⟩) hmW, B8.out.size⟩ ⟨B9.out.cell (p := ⟨m, 0, none⟩) (Nat.lt_succ_self _), G9.out.size⟩) ⟨World.cell?_setCell_far _ _ _ _ (by show n + 3 ≠ m; omega), by simp [World.setCell]⟩, ⟨_, hv9.set 0 _, hrow, trivial⟩, ?_, ?_⟩
      · exact below_set ((HB7.out.trans (B8.out.mono (by omega))).trans (B9.out.mono (by omega))) (Nat.le_refl _) _
      · rw [Below.heap_setCell _ _ _ _ (by intro e; simp at e; omega)]
        exact (B9.out.block fg (by omega)).trans ((B8.out.block fg (by omega)).trans HCW.out)
  case done =>
    rintro D ys W hD rfl ⟨⟨v, hv, hrow, -⟩, hB, hcw⟩ hK
    have hrow : W.ownsRow (m + 1) 93 2 v 1 ([()].flatMap stC) := hrow
    obtain ⟨g1, cap1, t1, rfl, hg1, hc1, -⟩ := Ow.ne (l := [()]) hrow (by decide)
    have hc := hv.cell
    have hfm : fg < m := by rw [← hm]; exact (Array.getElem?_eq_some_iff.1 hcc).1
    have R1 := Lib.hid hrow
    have B1 := Lib.hid (hb73.trans hB)
    have C1 := Lib.hid hcw
    have D1 : m + 1 ≤ D := by omega
    have S1 := Lib.hid hB.size
    clear hrow hB hcw hv
    gi_wp2
    refine ⟨by simp, .inl ⟨_, _, rfl, run_takeDeferred hK, ?_⟩⟩
    have hDW : D < W.heap.size := (Array.getElem?_eq_some_iff.1 hK).1
    have bP : Below (n + 3) w6 (W.putObj D (.deferred none)) := B1.out.trans ((Below.refl _ W).grown (grownBy_putObj' W D _) (by omega) (fun k e => by cases e; omega))
    have a := (below_only O5.out).trans H6.out.2.2.2
    have r2 : Ow 2 stC 93 (W.putObj D (.deferred none)) (m + 1) (.slice (some ⟨g1, 0, none⟩) 1 cap1) [()] := ownsRow_putObj R1.out _ hK rfl
    have hfb : (W.putObj D (.deferred none)).heap[fg]? = w6.heap[fg]? := (World.putObj_heap_other (by omega)).trans (C1.out.trans hcc.symm)
    have ho9 : w6.ownsRow w5.heap.size 185 9 (.slice (some ⟨fg, 0, none⟩) 1 fcap) 1 ([0].flatMap enC) := H6.out.2.2.1
    refine ⟨_, results_tmp rfl _ _ _, ⟨g1, cap1, rfl, r2.rw stC_len, by omega⟩, ⟨fg, fcap, HR.out.below HH.out (by rw [hn]; omega) bP, ⟨ho9.1, ?_⟩⟩, ⟨bP.os.trans a.os, bP.tape.trans a.tape, bP.output.trans a.output, Nat.le_trans a.size bP.size, fun k hk hne => (bP.block k (by omega)).trans (a.block k hk hne)⟩⟩
    rcases ho9.2 with ⟨h1, _⟩ | ⟨g', cap', cur, h1, h2, h3, h4⟩
    · cases h1
    · have e1 := h1
      injection h1 with h1 _ _
      injection h1 with h1
      injection h1 with h1 _ _
      subst h1
      exact .inr ⟨fg, cap', cur, e1, by rw [← hn]; exact Nat.le_trans O5.out.size h2, hfb.trans h3, h4⟩
  case stop =>
    rintro D c pre W _ _ h _
    exact h.elim
end Go.Proofs.YtpkkjbmgbgakdaaGreatDoor
