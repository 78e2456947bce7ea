/- ZP43: the texts C6, Y12 as one. -/
import Derived.Test.YtlkdfofpnmpidaaGreatZP17
import Derived.Test.YtlkdfofpnmpidaaGreatZP42
/- cfm: the reference's Take; heads. -/
set_option linter.unusedVariables false
namespace Go.Proofs.YtlkdfofpnmpidaaGreat
open Go.RowKit

theorem TlR.blk {w w' : World} {B : Nat} {v : Value} {l : List Th} (h : TlR w B v l) (ho : ∀ g, B ≤ g → w'.heap[g]? = w.heap[g]?) : TlR w' B v l := by
  obtain ⟨h1, h2⟩ := h
  refine ⟨h1, ?_⟩
  rcases h2 with h2 | ⟨g, cap, cur, hv, hg, hh, r⟩
  · exact .inl h2
  · exact .inr ⟨g, cap, cur, hv, hg, by rw [ho g hg]; exact hh, r⟩
theorem TlR.set {w : World} {B p o : Nat} {v : Value} {l : List Th} (h : TlR w B v l) (hp : p < B) (x : Value) : TlR (w.setCell ⟨p, o, Option.none⟩ x) B v l :=
  h.blk fun g hg => Below.heap_setCell _ _ _ _ (by intro e; simp at e; omega)
theorem TlR.drew {w : World} {B : Nat} {v : Value} {l : List Th} (h : TlR w B v l) : TlR w.drew B v l := h.blk fun _ _ => rfl
/-- A head. -/
def hdV : List UInt8 → Int × Int × Bool
  | x :: y :: _ :: _ :: _ => ((x.toNat : Int) / 32, (y.toNat : Int), true)
  | _ => (0, 0, false)
theorem hdV_short (s : List UInt8) (h : s.length < 4) : hdV s = (0, 0, false) := by
  match s, h with
  | [], _ => rfl
  | [_], _ => rfl
  | [_, _], _ => rfl
  | [_, _, _], _ => rfl
set_option maxRecDepth 100000 in
set_option maxHeartbeats 8000000 in
theorem refTake12_any (s : List UInt8) (w : World) (hl : s.length ≤ 100000) : Calls Tryz.prog 56 #[.string (bs s)] w fun en w' =>
    ∃ v', en = .returned (.tuple #[.agg #[.int .u8 (tkP s).1, .int .u8 (tkP s).2.1, .int .u8 (tkP s).2.2.1, .string (bs (tkP s).2.2.2.1), v'], .int .i64 (tkP s).2.2.2.2.2]) ∧ TlR w' w.heap.size v' (tkP s).2.2.2.2.1 ∧ Below w.heap.size w w' := by
  have hsz := bs_size s
  obtain ⟨R, hR⟩ : ∃ R, tkP s = R := ⟨_, rfl⟩
  have HR := Lib.hid hR
  rw [hR]; clear hR
  by_cases h4 : s.length < 4
  · have d4 : decide ((s.length : Int) < 4) = true := decide_eq_true (by omega)
    have hRR : R = (0, 0, 0, [], [], 3) := by rw [← HR.out]; exact tkP_short s h4
    have HRR := Lib.hid hRR
    clear hRR h4
    go_enter Tryz.func56, Tryz.ntmps56
    go_wp2_with fail
    refine bodyPost_ret (v := .tuple #[.agg #[.int .u8 0, .int .u8 0, .int .u8 0, .string (bs []), .slice none 0 0], .int .i64 3]) (by simp [results, Tryz.results56, go_sem]; rfl) rfl ⟨.slice none 0 0, by rw [HRR.out], by rw [HRR.out]; exact TlR.none _ _, (Below.refl _ _).alloc (Nat.le_refl _) _⟩
  have d4 : decide ((s.length : Int) < 4) = false := decide_eq_false (by omega)
  obtain ⟨x, y, z, n, r, hs⟩ := list4 s (by omega)
  obtain ⟨X, eX⟩ : ∃ i : Int, (x.toNat : Int) = i := ⟨_, rfl⟩
  have gX := bsAt s 0 x X (by rw [hs]; rfl) eX
  have xb : 0 ≤ X ∧ X < 256 := by have := x.toNat_lt; omega
  have wm : IntKind.u8.wrap (X.tmod 32) = X % 32 := by rw [Int.tmod_eq_emod_of_nonneg xb.1]; exact IntWalk.u8_in _ (by omega)
  have wm2 : X.tmod 32 = X % 32 := Int.tmod_eq_emod_of_nonneg xb.1
  have L4 : 4 ≤ s.length := by omega
  by_cases hx : X % 32 = 0
  rotate_left
  · have dx : (X % 32 != 0) = true := by rw [bne_iff_ne]; exact hx
    have hRR : R = (0, 0, 0, [], [], 4) := by rw [← HR.out, hs, tkP_cons, if_pos (by omega)]
    have HRR := Lib.hid hRR
    clear hRR h4 hs hx
    go_enter Tryz.func56, Tryz.ntmps56
    go_wp2_with fail
    refine bodyPost_ret (v := .tuple #[.agg #[.int .u8 0, .int .u8 0, .int .u8 0, .string (bs []), .slice none 0 0], .int .i64 4]) (by simp [results, Tryz.results56, go_sem]; rfl) rfl ⟨.slice none 0 0, by rw [HRR.out], by rw [HRR.out]; exact TlR.none _ _, (Below.refl _ _).alloc (Nat.le_refl _) _⟩
  have dx : (X % 32 != 0) = false := by rw [hx]; rfl
  obtain ⟨Y, eY⟩ : ∃ i : Int, (y.toNat : Int) = i := ⟨_, rfl⟩
  obtain ⟨Z, eZ⟩ : ∃ i : Int, (z.toNat : Int) = i := ⟨_, rfl⟩
  obtain ⟨m, em⟩ : ∃ i : Nat, n.toNat = i := ⟨_, rfl⟩
  have gY := bsAt s 1 y Y (by rw [hs]; rfl) eY
  have gZ := bsAt s 2 z Z (by rw [hs]; rfl) eZ
  have gN := bsAt s 3 n (m : Int) (by rw [hs]; rfl) (by rw [em])
  have yb : 0 ≤ Y ∧ Y < 256 := by have := y.toNat_lt; omega
  have zb : 0 ≤ Z ∧ Z < 256 := by have := z.toNat_lt; omega
  have nb : m < 256 := by have := n.toNat_lt; omega
  have sl : s.length = 4 + r.length := by rw [hs]; simp; omega
  have w3 : IntKind.i64.wrap (m : Int) = (m : Int) := IntWalk.i64_in _ (by omega)
  by_cases hn : r.length < m
  · have dn : decide ((s.length : Int) < 4 + (m : Int)) = true := decide_eq_true (by omega)
    have hRR : R = (0, 0, 0, [], [], 3) := by rw [← HR.out, hs, tkP_cons, if_neg (by omega), if_pos (by omega)]
    have HRR := Lib.hid hRR
    clear hRR h4 hs hx hn sl
    go_enter Tryz.func56, Tryz.ntmps56
    go_wp2_with fail
    refine bodyPost_ret (v := .tuple #[.agg #[.int .u8 0, .int .u8 0, .int .u8 0, .string (bs []), .slice none 0 0], .int .i64 3]) (by simp [results, Tryz.results56, go_sem]; rfl) rfl ⟨.slice none 0 0, by rw [HRR.out], by rw [HRR.out]; exact TlR.none _ _, (Below.refl _ _).alloc (Nat.le_refl _) _⟩
  have dn : decide ((s.length : Int) < 4 + (m : Int)) = false := decide_eq_false (by omega)
  have ex1 : (bs s).extract (4 + m) s.length = bs (r.drop m) := by
    rw [bs_drop _ _ _ (Nat.le_refl _), hs, show 4 + m = m + 4 by omega]; rfl
  have ex2 : (bs s).extract 4 (4 + m) = bs (r.take m) := by
    rw [bs_extract, hs, show 4 + m - 4 = m by omega]; rfl
  obtain ⟨L, t7, g, h7⟩ : ∃ a b c, takeT (r.drop m) = (a, b, c) := ⟨_, _, _, rfl⟩
  have K7 : ∀ w, Calls Tryz.prog 100 #[.string (bs (r.drop m))] w fun en w' => ∃ v', en = .returned (.tuple #[v', .string (bs t7), .int .i64 g]) ∧ TlR w' w.heap.size v' L ∧ Below w.heap.size w w' := fun w => by
    have h := refTake11_any _ (r.drop m) w (Nat.le_refl _) (by simp; omega)
    rw [h7] at h; exact h
  have hRR : (g = 0 ∧ R = (X / 32, Y, Z, r.take m, L, 0)) ∨ (g ≠ 0 ∧ R = (0, 0, 0, [], [], g)) := by
    rw [← HR.out, hs, tkP_cons, if_neg (by omega), if_neg (by omega), eX, eY, eZ, em, h7]
    by_cases hg : g = 0
    · left; rw [if_pos hg]; exact ⟨hg, rfl⟩
    · right; rw [if_neg hg]; exact ⟨hg, rfl⟩
  obtain ⟨F, hF⟩ : ∃ F, r.take m = F := ⟨_, rfl⟩
  obtain ⟨D, hD⟩ : ∃ D, r.drop m = D := ⟨_, rfl⟩
  rw [hF] at ex2 hRR
  rw [hD] at ex1 K7
  have HRR := Lib.hid hRR
  have KK7 := Lib.hid K7
  have wq : IntKind.u8.wrap (X.tdiv 32) = X / 32 := by rw [Int.tdiv_eq_ediv_of_nonneg xb.1]; exact IntWalk.u8_in _ (by omega)
  have hmr : 4 + m ≤ s.length := by omega
  clear hRR K7 h4 hs hx eX eY eZ em hn h7 hF hD sl
  go_enter Tryz.func56, Tryz.ntmps56
  go_wp2_with fail
  have pz := PB.new 115 w 0 0 0 [] (.slice none 0 0)
  have hb0 : Below w.heap.size w (w.alloc (.cells #[.int .u8 0, .int .u8 0, .int .u8 0, .string { data := #[] }, .slice none 0 0] 115)) := (Below.refl _ _).alloc (Nat.le_refl _) _
  obtain ⟨w0, hw0⟩ : ∃ w0, w.alloc (.cells #[.int .u8 0, .int .u8 0, .int .u8 0, .string { data := #[] }, .slice none 0 0] 115) = w0 := ⟨_, rfl⟩
  have pz0 : PB 115 w0 w.heap.size 0 0 0 [] (.slice none 0 0) := by rw [← hw0]; exact pz
  rw [hw0] at hb0 ⊢
  clear hw0 pz
  with_reducible refine (KK7.out _).mono ?_
  rintro en w1 ⟨v', rfl, hown, hb1⟩
  have pz1 := pz0.later hb1
  have hz0 := pz0.lt
  have HO := Lib.hid hown
  have HB1 := Lib.hid (hb0.trans (hb1.mono hb0.size))
  have HZ0 := Lib.hid hz0
  obtain ⟨sa, sc, rfl, _⟩ := hown.tls.shape
  have z0 := pz1.c0
  have z1 := pz1.c1
  have z2 := pz1.c2
  have z3 := pz1.c3
  have z4 := pz1.c4
  have y0 := pz1.fr 0
  have y1 := pz1.fr 1
  have y2 := pz1.fr 2
  have y3 := pz1.fr 3
  have y4 := pz1.fr 4
  clear pz0 pz1 hb0 hb1 hown hz0
  rcases HRR.out with ⟨h0, h3⟩ | ⟨h0, h3⟩
  · have d0 : (g != 0) = false := by rw [h0]; rfl
    have H3 := Lib.hid h3
    clear h0 h3
    go_wp2_with fail
    go_region
    all_goals go_wp2_with fail
    all_goals refine bodyPost_ret (v := .tuple #[.agg #[.int .u8 (X / 32), .int .u8 Y, .int .u8 Z, .string (bs F), .slice sa L.length sc], .int .i64 0]) (by simp [results, Tryz.results56, go_sem, z0, z1, z2, z3, z4]) rfl ⟨.slice sa L.length sc, by rw [H3.out], ?_, Below.drew (below_set (below_set (below_set (below_set (below_set HB1.out (Nat.le_refl _) _) (Nat.le_refl _) _) (Nat.le_refl _) _) (Nat.le_refl _) _) (Nat.le_refl _) _)⟩
    all_goals rw [H3.out]
    all_goals exact (TlR.drew (((((HO.out.set HZ0.out _).set HZ0.out _).set HZ0.out _).set HZ0.out _).set HZ0.out _)).mono (by have := HZ0.out; omega)
  · have d0 : (g != 0) = true := by rw [bne_iff_ne]; exact h0
    have H3 := Lib.hid h3
    clear h0 h3
    go_wp2_with fail
    refine bodyPost_ret (v := .tuple #[.agg #[.int .u8 0, .int .u8 0, .int .u8 0, .string (bs []), .slice none 0 0], .int .i64 g]) (by simp [results, Tryz.results56, go_sem, z0, z1, z2, z3, z4]; rfl) rfl ⟨.slice none 0 0, by rw [H3.out], by rw [H3.out]; exact TlR.none _ _, below_set (below_set (below_set (below_set (below_set HB1.out (Nat.le_refl _) _) (Nat.le_refl _) _) (Nat.le_refl _) _) (Nat.le_refl _) _) (Nat.le_refl _) _⟩
end Go.Proofs.YtlkdfofpnmpidaaGreat

/- mep: Take, walked. -/
set_option linter.unusedVariables false
set_option linter.unusedSimpArgs false
namespace Go.Proofs.YtlkdfofpnmpidaaGreat
open Go.RowKit

/-- What lies there while a message is taken. -/
structure TQ (w W : World) (o : Ow20) (ov : Value) (x : Mp) (s : Ms) (wv wv' : Value) (sr ds : Mc) : Prop where
  mm : MM W o ov x s wv'
  b4 : GB 31 W w.heap.size #[.pointer (some ⟨x.p, 0, none⟩)]
  b5 : GB 25 W (w.heap.size + 1) #[.int .u8 sr.a, .int .u8 sr.b, .int .u8 sr.c, .int .u8 sr.d, .int .u8 sr.e, .int .u8 sr.f]
  b6 : GB 25 W (w.heap.size + 2) #[.int .u8 ds.a, .int .u8 ds.b, .int .u8 ds.c, .int .u8 ds.d, .int .u8 ds.e, .int .u8 ds.f]
  fr : Fr (x.D wv) w W
  ob : ∀ g, wv'.ownBlock = some g → wv.ownBlock = some g ∨ w.heap.size + 3 ≤ g
section
variable {w W W' : World} {o : Ow20} {ov : Value} {x : Mp} {s s' s0 : Ms} {wv wv' wv'' : Value} {sr ds : Mc}
theorem TQ.later (h : TQ w W o ov x s wv wv' sr ds) (hb : Below W.heap.size W W') : TQ w W' o ov x s wv wv' sr ds :=
  ⟨h.mm.later hb, h.b4.later hb, h.b5.later hb, h.b6.later hb, h.fr.trans (.of_below hb), h.ob⟩
theorem TQ.drew (h : TQ w W o ov x s wv wv' sr ds) : TQ w W.drew o ov x s wv wv' sr ds := h.later (Below.refl _ _).drew
theorem TQ.alloc (h : TQ w W o ov x s wv wv' sr ds) (b : Obj) : TQ w (W.alloc b) o ov x s wv wv' sr ds := h.later ((Below.refl _ _).alloc (Nat.le_refl _) b)
theorem TQ.begin (h : MM w o ov x s wv) : TQ w (((w.alloc (.cells #[.pointer (some ⟨x.p, 0, none⟩)] 31)).alloc (.cells #[.int .u8 sr.a, .int .u8 sr.b, .int .u8 sr.c, .int .u8 sr.d, .int .u8 sr.e, .int .u8 sr.f] 25)).alloc (.cells #[.int .u8 ds.a, .int .u8 ds.b, .int .u8 ds.c, .int .u8 ds.d, .int .u8 ds.e, .int .u8 ds.f] 25)) o ov x s wv wv sr ds := by
  have h1 : Below w.heap.size w (w.alloc (.cells #[.pointer (some ⟨x.p, 0, none⟩)] 31)) := (Below.refl _ _).alloc (Nat.le_refl _) _
  have h2 : Below w.heap.size w ((w.alloc (.cells #[.pointer (some ⟨x.p, 0, none⟩)] 31)).alloc (.cells #[.int .u8 sr.a, .int .u8 sr.b, .int .u8 sr.c, .int .u8 sr.d, .int .u8 sr.e, .int .u8 sr.f] 25)) := h1.alloc h1.size _
  have h3 : Below w.heap.size w (((w.alloc (.cells #[.pointer (some ⟨x.p, 0, none⟩)] 31)).alloc (.cells #[.int .u8 sr.a, .int .u8 sr.b, .int .u8 sr.c, .int .u8 sr.d, .int .u8 sr.e, .int .u8 sr.f] 25)).alloc (.cells #[.int .u8 ds.a, .int .u8 ds.b, .int .u8 ds.c, .int .u8 ds.d, .int .u8 ds.e, .int .u8 ds.f] 25)) := h2.alloc h2.size _
  refine ⟨h.later h3, ?_, ?_, ?_, .of_below h3, fun g hg => .inl hg⟩
  · exact ((GB.new _ w _).later ((Below.refl _ _).alloc (Nat.le_refl _) _)).later ((Below.refl _ _).alloc (Nat.le_refl _) _)
  · have := (GB.new 25 (w.alloc (.cells #[.pointer (some ⟨x.p, 0, none⟩)] 31)) #[.int .u8 sr.a, .int .u8 sr.b, .int .u8 sr.c, .int .u8 sr.d, .int .u8 sr.e, .int .u8 sr.f]).later ((Below.refl _ _).alloc (Nat.le_refl _) (.cells #[.int .u8 ds.a, .int .u8 ds.b, .int .u8 ds.c, .int .u8 ds.d, .int .u8 ds.e, .int .u8 ds.f] 25))
    rw [show (w.alloc (.cells #[.pointer (some ⟨x.p, 0, none⟩)] 31)).heap.size = w.heap.size + 1 by simp] at this
    exact this
  · have := GB.new 25 ((w.alloc (.cells #[.pointer (some ⟨x.p, 0, none⟩)] 31)).alloc (.cells #[.int .u8 sr.a, .int .u8 sr.b, .int .u8 sr.c, .int .u8 sr.d, .int .u8 sr.e, .int .u8 sr.f] 25)) #[.int .u8 ds.a, .int .u8 ds.b, .int .u8 ds.c, .int .u8 ds.d, .int .u8 ds.e, .int .u8 ds.f]
    rw [show ((w.alloc (.cells #[.pointer (some ⟨x.p, 0, none⟩)] 31)).alloc (.cells #[.int .u8 sr.a, .int .u8 sr.b, .int .u8 sr.c, .int .u8 sr.d, .int .u8 sr.e, .int .u8 sr.f] 25)).heap.size = w.heap.size + 2 by simp] at this
    exact this
/-- A step that keeps to the point's blocks. -/
theorem TQ.step (h0 : MM w o ov x s0 wv) (h : TQ w W o ov x s wv wv' sr ds) (hm : MM W' o ov x s' wv'') (hf : Fr (x.D wv') W W') (hb : ∀ g, wv''.ownBlock = some g → wv'.ownBlock = some g ∨ W.heap.size ≤ g) : TQ w W' o ov x s' wv wv'' sr ds := by
  have hs := h.b6.lt
  have nD : ∀ k, w.heap.size ≤ k → k < w.heap.size + 3 → ¬ x.D wv' k := by
    rintro k hk hk3 (rfl | rfl | rfl | rfl | hk')
    · have := h0.ltD (.inl rfl); omega
    · have := h0.ltD (.inr (.inl rfl)); omega
    · have := h0.ltD (.inr (.inr (.inl rfl))); omega
    · have := h0.ltD (.inr (.inr (.inr (.inl rfl)))); omega
    · rcases h.ob k hk' with e | e
      · have := h0.ltD (.inr (.inr (.inr (.inr e)))); omega
      · omega
  refine ⟨hm, h.b4.fr' hf (nD _ (by omega) (by omega)), h.b5.fr' hf (nD _ (by omega) (by omega)), h.b6.fr' hf (nD _ (by omega) (by omega)), ?_, fun g hg => ?_⟩
  · refine ⟨hf.os.trans h.fr.os, hf.tape.trans h.fr.tape, hf.output.trans h.fr.output, Nat.le_trans h.fr.size hf.size, fun k hk hd => (hf.block k (Nat.lt_of_lt_of_le hk h.fr.size) ?_).trans (h.fr.block k hk hd)⟩
    rintro (e | e | e | e | e)
    · exact hd (.inl e)
    · exact hd (.inr (.inl e))
    · exact hd (.inr (.inr (.inl e)))
    · exact hd (.inr (.inr (.inr (.inl e))))
    · rcases h.ob k e with e | e
      · exact hd (.inr (.inr (.inr (.inr e))))
      · omega
  · rcases hb g hg with e | e
    · exact h.ob g e
    · exact .inr (by omega)
end
theorem takeT_b : ∀ (n : Nat) (s : List UInt8), s.length ≤ n → ∀ x ∈ (takeT s).1, x.2.length ≤ s.length
  | _, [], _ => by rw [takeT_nil]; simp
  | n + 1, c :: s, hn => by
    have ih := takeT_b n (s.drop (2 + ((s.getD 0 0).toNat * 256 + (s.getD 1 0).toNat))) (by simp at hn ⊢; omega)
    rw [takeT]
    split
    · simp
    · split
      · simp
      · split
        · simp
        · split
          · intro x hx
            rcases List.mem_cons.1 hx with rfl | hx
            · simp only [List.length_take, List.length_drop, List.length_cons]; omega
            · have := ih x hx
              simp only [List.length_drop] at this
              simp only [List.length_cons]; omega
          · simp
theorem takeT_len3 : ∀ (n : Nat) (s : List UInt8), s.length ≤ n → 3 * (takeT s).1.length ≤ s.length
  | _, [], _ => by rw [takeT_nil]; simp
  | n + 1, c :: s, hn => by
    have ih := takeT_len3 n (s.drop (2 + ((s.getD 0 0).toNat * 256 + (s.getD 1 0).toNat))) (by simp at hn ⊢; omega)
    simp only [List.length_drop] at ih
    rw [takeT]
    split
    · simp
    · split
      · simp
      · rename_i h2
        split
        · simp
        · split
          · simp only [List.length_cons]; omega
          · simp
theorem tkP_b (d : List UInt8) (hd : d.length ≤ 1600) : PdB (tkP d).1 (tkP d).2.1 (tkP d).2.2.1 (tkP d).2.2.2.1 (tkP d).2.2.2.2.1 := by
  have hz : ∀ e : Int, PdB ((0, 0, 0, [], [], e) : Int × Int × Int × List UInt8 × List Th × Int).1 0 0 [] [] := fun e => ⟨by simp, by simp, by simp, by simp, by simp, by simp, by simp [putT]⟩
  unfold tkP
  split
  · rename_i a b c n r
    split
    · exact hz _
    · split
      · exact hz _
      · split
        · have h1 := takeT_len3 (r.drop n.toNat).length (r.drop n.toNat) (Nat.le_refl _)
          have h2 := takeT_b (r.drop n.toNat).length (r.drop n.toNat) (Nat.le_refl _)
          have h3 : (r.drop n.toNat).length ≤ 1600 := by simp only [List.length_drop, List.length_cons] at hd ⊢; omega
          have ha := a.toNat_lt
          have hb := b.toNat_lt
          have hc := c.toNat_lt
          have hn := n.toNat_lt
          have hps : ∀ x ∈ (takeT (r.drop n.toNat)).1, x.2.length ≤ 2000 := fun x hx => by have := h2 x hx; omega
          exact ⟨by simp only; omega, by simp only; omega, by simp only; omega, by simp only [List.length_take]; omega, by simp only; omega, hps, putT_pm (by simp only; omega) hps⟩
        · exact hz _
  · exact hz _
end Go.Proofs.YtlkdfofpnmpidaaGreat
