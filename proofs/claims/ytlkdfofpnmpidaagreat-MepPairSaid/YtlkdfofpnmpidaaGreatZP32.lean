/- ZP32: the texts E7 as one. -/
import Derived.Test.YtlkdfofpnmpidaaGreatZP31
import Derived.Test.YtlkdfofpnmpidaaGreatZP17
import Derived.Laws.CopyRow
import Derived.Deep.OwnRows
/- lbm: Answer. -/
set_option linter.unusedVariables false
namespace Go.Proofs.YtlkdfofpnmpidaaGreat
open Go.RowKit

/-- A message's answer, and the error. -/
def ansL (a b c : Int) (f : List UInt8) (l : List Th) : Int × Int × Int × List UInt8 × List Th × Int :=
  if (tkL a b f l).2.2.2.2 = 0 ∧ (tkL a b f l).2.1 = false then (a, 2, c, f, l, 0) else (0, 0, 0, [], [], 4)
/-- The zeros of a row of things. -/
def zT (n : Nat) : Array Value := madeCells #[.int .u8 0, .string { data := #[] }] (n * 2)
theorem make_things (n : Nat) (hn : n ≤ 100000) (W : World) : (Instr.makeSlice 101 (.int .i64 (n : Int)) (.int .i64 (n : Int))).run Tryz.prog W = .ok (.slice (some ⟨W.heap.size, 0, none⟩) n n) (W.alloc (.cells (zT n) 182)) := by
  obtain ⟨i, hi, hzz⟩ := Option.map_eq_some_iff.1 info_T
  simp only [Prod.mk.injEq] at hzz
  obtain ⟨hz, hs, hb⟩ := hzz
  have h := run_make W 101 182 i _ Tryz.underlying101 hi hz .i64 .i64 (n : Int) (n : Int) (by omega) (by omega) (by rw [hb]; omega) (by omega)
  rw [hs] at h
  exact h
theorem copy_things (W : World) (g n B : Nat) (Z : Array Value) (hz : Z.size = n * 2) (hn : n ≤ 100000) (hg : W.heap[g]? = some (.cells Z 182 (0, 0))) (hB : B ≤ g) (v : Value) (l : List Th) (hv : Tls W v l) (hl : l.length = n) (ty : TypeId) :
    ∃ W', (Builtin.copy_ #[101, 101] ty #[.slice (some ⟨g, 0, none⟩) n n, v]).run Tryz.prog W = .ok (goInt n) W' ∧ TlT W' B (.slice (some ⟨g, 0, none⟩) n n) l ∧ Below g W W' := by
  obtain ⟨i, hi, hzz⟩ := Option.map_eq_some_iff.1 info_T
  simp only [Prod.mk.injEq] at hzz
  obtain ⟨hzv, hs, hb⟩ := hzz
  subst hl
  obtain ⟨ad, cp, rfl, hc⟩ := hv.shape
  by_cases h0 : l = []
  · subst h0
    refine ⟨W, ?_, ⟨rfl, .inr ⟨g, 0, Z, rfl, hB, hg, Nat.le_refl _, by decide, hz, by simp⟩⟩, Below.refl _ _⟩
    have hL : ∀ (x : Addr), (loadCells x 0).run Tryz.prog W = .ok #[] W := fun x => by simpa using run_loadCells_list (P := Tryz.prog) W x [] (by simp)
    cases ad <;> simp [Builtin.copy_, run_underlying Tryz.underlying101, Builtin.lenOf, Builtin.firstCells, sizeOf, typeInfo, hi, storeCells, hL]
  · obtain ⟨b, off, rfl, hcell⟩ := hc.resolve_left h0
    have hlen := thV_len l
    have hsrc : ∀ j x, (l.flatMap thV)[j]? = some x → W.cell? ((⟨b, off, none⟩ : Addr).add j) = some x := by
      intro j x hx
      rw [Go.WideShapes.add_plain]
      have hj : j < l.length * 2 := by rw [← hlen]; exact (List.getElem?_eq_some_iff.1 hx).1
      rcases Nat.mod_two_eq_zero_or_one j with hm | hm
      · obtain ⟨k, rfl⟩ : ∃ k, j = k * 2 := ⟨j / 2, by omega⟩
        rw [thV_get0 l k (by omega)] at hx; rw [← Option.some.inj hx]; exact (hcell k (by omega)).1
      · obtain ⟨k, rfl⟩ : ∃ k, j = k * 2 + 1 := ⟨j / 2, by omega⟩
        rw [thV_get1 l k (by omega)] at hx; rw [← Option.some.inj hx]; exact (hcell k (by omega)).2
    have hL := run_loadCells_list (P := Tryz.prog) W ⟨b, off, none⟩ _ hsrc
    rw [hlen] at hL
    have h1 : ∀ x ∈ l.flatMap thV, x.oneCell' = true := by
      intro x hx
      obtain ⟨t, -, ht⟩ := List.mem_flatMap.1 hx
      rcases List.mem_cons.1 ht with h | h
      · rw [h]; rfl
      · rw [List.mem_singleton.1 h]; rfl
    obtain ⟨xs, hxs⟩ : ∃ xs, l.flatMap thV = xs := ⟨_, rfl⟩
    unfold TlT
    rw [hxs] at hlen hL h1 ⊢
    have hst := run_storeCells_at Tryz.prog g 0 182 xs 0 Z W hg (by omega) h1
    have e : (Z.toList.take (0 + 0) ++ xs ++ Z.toList.drop (0 + 0 + xs.length)).toArray = xs.toArray := by
      rw [List.drop_eq_nil_of_le (by rw [hlen]; simp; omega)]; simp
    rw [e] at hst
    refine ⟨W.setRow g xs.toArray, ?_, ⟨hlen, .inr ⟨g, l.length, xs.toArray, rfl, hB, setRow_heap W g Z _ 182 _ hg, Nat.le_refl _, Nat.le_trans hn (by decide), by simpa using hlen, by rw [← hlen]; simp⟩⟩, ⟨rfl, rfl, rfl, by simp [World.setRow], fun k hk => setRow_other W g k xs.toArray (by omega)⟩⟩
    simp [Builtin.copy_, run_underlying Tryz.underlying101, Builtin.lenOf, Builtin.firstCells, sizeOf, typeInfo, hi, hs, hL, hst]
/-- Answer's state: the message's block, the result's block. -/
structure AS (w W : World) (a b c : Int) (f : List UInt8) (v : Value) : Prop where
  pb : PB 103 W w.heap.size a b c f v
  pz : PB 103 W (w.heap.size + 1) 0 0 0 [] (.slice none 0 0)
  bel : Below w.heap.size w W
section
variable {w W W' : World} {a b c : Int} {f : List UInt8} {v : Value}
theorem AS.later (h : AS w W a b c f v) (hb : Below W.heap.size W W') : AS w W' a b c f v := ⟨h.pb.later hb, h.pz.later hb, h.bel.trans (hb.mono h.bel.size)⟩
theorem AS.lt (h : AS w W a b c f v) : w.heap.size + 1 < W.heap.size := h.pz.lt
theorem AS.fill (h : AS w W a b c f v) {n : Nat} (hb : Below W.heap.size (W.alloc (.cells (zT n) 182)) W') : AS w W' a b c f v := by
  have h1 := h.later ((Below.refl _ _).alloc (Nat.le_refl _) (.cells (zT n) 182))
  have hl := h.lt
  exact ⟨h1.pb.below (by omega) hb, h1.pz.below (by omega) hb, h1.bel.trans (hb.mono (by omega))⟩
end
set_option maxRecDepth 100000 in
set_option maxHeartbeats 8000000 in
theorem lbanswer_any (v : Value) (l : List Th) (a b c : Int) (f : List UInt8) (w : World) (hf : f.length ≤ 1000) (hb : 0 ≤ b ∧ b < 256) (hv : Tls w v l) (hl : l.length ≤ 1000) : Calls Tryz.prog 125 #[.agg #[.int .u8 a, .int .u8 b, .int .u8 c, .string (bs f), v]] w fun en w' =>
    ∃ v', en = .returned (.tuple #[.agg #[.int .u8 (ansL a b c f l).1, .int .u8 (ansL a b c f l).2.1, .int .u8 (ansL a b c f l).2.2.1, .string (bs (ansL a b c f l).2.2.2.1), v'], .int .i64 (ansL a b c f l).2.2.2.2.2]) ∧ TlT w' w.heap.size v' (ansL a b c f l).2.2.2.2.1 ∧ Below w.heap.size w w' := by
  obtain ⟨vx, vk, hvv, -⟩ := hv.shape
  obtain ⟨vn, hvn⟩ : ∃ n, l.length = n := ⟨_, rfl⟩
  rw [hvn] at hvv
  subst hvv
  obtain ⟨ta, tq, tn, td, te, hT⟩ : ∃ ta tq tn td te, tkL a b f l = (ta, tq, tn, td, te) := ⟨_, _, _, _, _, rfl⟩
  obtain ⟨R, hR⟩ : ∃ R, ansL a b c f l = R := ⟨_, rfl⟩
  rw [hR]
  have hRR : R = if te = 0 ∧ tq = false then (a, 2, c, f, l, 0) else (0, 0, 0, [], [], 4) := by rw [← hR]; unfold ansL; rw [hT]
  have HRR := Lib.hid hRR
  have T1 : Hid (∀ w, Tls w (.slice vx vn vk) l → Calls Tryz.prog 126 #[.agg #[.int .u8 a, .int .u8 b, .int .u8 c, .string (bs f), .slice vx vn vk]] w fun en w' => en = .returned (.tuple #[.agg #[.int .u8 ta, .bool tq, .int .u32 tn, .string (bs td)], .int .i64 te]) ∧ Below w.heap.size w w') := fun w hv => by
    have h := lbtake_any (.slice vx vn vk) l a b c f w hf hb hv hl
    rw [hT] at h; exact h
  have HN := Lib.hid (And.intro hvn (show vn ≤ 1000 by omega))
  have hmk : ∀ W : World, (Instr.makeSlice 101 (.int .i64 (vn : Int)) (.int .i64 (vn : Int))).run Tryz.prog W = .ok (.slice (some ⟨W.heap.size, 0, none⟩) vn vn) (W.alloc (.cells (zT vn) 182)) := fun W => make_things vn (by omega) W
  have CP : Hid (∀ W W1 : World, Below w.heap.size w W1 → W = W1.alloc (.cells (zT vn) 182) → ∀ ty, ∃ W', (Builtin.copy_ #[101, 101] ty #[.slice (some ⟨W1.heap.size, 0, none⟩) vn vn, .slice vx vn vk]).run Tryz.prog W = .ok (goInt vn) W' ∧ TlT W' W1.heap.size (.slice (some ⟨W1.heap.size, 0, none⟩) vn vn) l ∧ Below W1.heap.size W W') := by
    rintro W W1 h1 rfl ty
    exact copy_things _ W1.heap.size vn W1.heap.size (zT vn) (by simp [zT, madeCells]) (by omega) (heap_alloc_new W1 _) (Nat.le_refl _) _ l (hv.later (h1.trans (((Below.refl _ _).alloc (Nat.le_refl _) _).mono h1.size))) hvn ty
  have HV := Lib.hid hv
  clear hRR hR hT hf hb hl hvn
  go_enter Tryz.func125, Tryz.ntmps125
  go_upto_region 1 with fail
  have pb0 := (PB.new 103 w a b c f (.slice vx vn vk)).later ((Below.refl _ _).alloc (Nat.le_refl _) (.cells #[.int .u8 0, .int .u8 0, .int .u8 0, .string { data := #[] }, .slice none 0 0] 103))
  have pz : PB 103 ((w.alloc (.cells #[.int .u8 a, .int .u8 b, .int .u8 c, .string (bs f), .slice vx vn vk] 103)).alloc (.cells #[.int .u8 0, .int .u8 0, .int .u8 0, .string { data := #[] }, .slice none 0 0] 103)) (w.heap.size + 1) 0 0 0 [] (.slice none 0 0) := by
    have := PB.new 103 (w.alloc (.cells #[.int .u8 a, .int .u8 b, .int .u8 c, .string (bs f), .slice vx vn vk] 103)) 0 0 0 [] (.slice none 0 0)
    rw [show (w.alloc (.cells #[.int .u8 a, .int .u8 b, .int .u8 c, .string (bs f), .slice vx vn vk] 103)).heap.size = w.heap.size + 1 by simp] at this
    exact this
  have hb0 : Below w.heap.size w ((w.alloc (.cells #[.int .u8 a, .int .u8 b, .int .u8 c, .string (bs f), .slice vx vn vk] 103)).alloc (.cells #[.int .u8 0, .int .u8 0, .int .u8 0, .string { data := #[] }, .slice none 0 0] 103)) := ((Below.refl _ _).alloc (Nat.le_refl _) _).alloc (by simp) _
  obtain ⟨w0, hw0⟩ : ∃ k, (w.alloc (.cells #[.int .u8 a, .int .u8 b, .int .u8 c, .string (bs f), .slice vx vn vk] 103)).alloc (.cells #[.int .u8 0, .int .u8 0, .int .u8 0, .string { data := #[] }, .slice none 0 0] 103) = k := ⟨_, rfl⟩
  rw [hw0] at pb0 pz hb0 ⊢
  have AS0 := Lib.hid (AS.mk pb0 pz hb0)
  have c0 := pb0.c0
  have c1 := pb0.c1
  have c2 := pb0.c2
  have c3 := pb0.c3
  have c4 := pb0.c4
  clear hw0 pb0 pz hb0 hv
  go_wp2_with fail
  with_reducible refine (T1.out _ (HV.out.later AS0.out.bel)).mono ?_
  rintro en w1 ⟨rfl, hb1⟩
  have AS1 := Lib.hid (AS0.out.later hb1)
  clear hb1 AS0 c0 c1 c2 c3 c4
  go_upto_region 2 with fail
  have lb := LB.new 125 w1 ta tq tn td
  have aa := (Below.refl w1.heap.size w1).alloc (Nat.le_refl _) (.cells #[.int .u8 ta, .bool tq, .int .u32 tn, .string (bs td)] 125)
  obtain ⟨q, hq⟩ : ∃ k, w1.heap.size = k := ⟨_, rfl⟩
  obtain ⟨w2, hw2⟩ : ∃ k, w1.alloc (.cells #[.int .u8 ta, .bool tq, .int .u32 tn, .string (bs td)] 125) = k := ⟨_, rfl⟩
  rw [hw2] at lb aa ⊢
  have AS2 := Lib.hid (AS1.out.later aa)
  rw [hq] at lb ⊢
  have l1 := lb.c1
  clear lb aa hw2 hq AS1
  have z0 := AS2.out.pz.c0
  have z1 := AS2.out.pz.c1
  have z2 := AS2.out.pz.c2
  have z3 := AS2.out.pz.c3
  have z4 := AS2.out.pz.c4
  have y0 := AS2.out.pz.fr 0
  have y1 := AS2.out.pz.fr 1
  have y2 := AS2.out.pz.fr 2
  have y3 := AS2.out.pz.fr 3
  have y4 := AS2.out.pz.fr 4
  by_cases hok : te = 0 ∧ tq = false
  rotate_left
  · have hR2 : R = (0, 0, 0, [], [], 4) := by rw [HRR.out, if_neg hok]
    have HR2 := Lib.hid hR2
    clear hR2 hmk
    by_cases he : te = 0
    · have de : (te != 0) = false := by rw [he]; rfl
      obtain rfl : tq = true := by
        cases tq
        · exact absurd ⟨he, rfl⟩ hok
        · rfl
      clear hok he
      go_wp2_with fail
      refine bodyPost_ret (v := .tuple #[.agg #[.int .u8 0, .int .u8 0, .int .u8 0, .string (bs []), .slice none 0 0], .int .i64 4]) (by simp [results, Tryz.results125, go_sem, z0, z1, z2, z3, z4]; rfl) rfl ⟨_, by rw [HR2.out], by rw [HR2.out]; exact TlT.none _ _, below_set (below_set (below_set (below_set (below_set AS2.out.bel (by omega) _) (by omega) _) (by omega) _) (by omega) _) (by omega) _⟩
    · have de : (te != 0) = true := by rw [bne_iff_ne]; exact he
      clear hok he
      go_wp2_with fail
      refine bodyPost_ret (v := .tuple #[.agg #[.int .u8 0, .int .u8 0, .int .u8 0, .string (bs []), .slice none 0 0], .int .i64 4]) (by simp [results, Tryz.results125, go_sem, z0, z1, z2, z3, z4]; rfl) rfl ⟨_, by rw [HR2.out], by rw [HR2.out]; exact TlT.none _ _, below_set (below_set (below_set (below_set (below_set AS2.out.bel (by omega) _) (by omega) _) (by omega) _) (by omega) _) (by omega) _⟩
  have hR2 : R = (a, 2, c, f, l, 0) := by rw [HRR.out, if_pos hok]
  have HR2 := Lib.hid hR2
  obtain ⟨rfl, rfl⟩ := hok
  clear hR2 z0 z1 z2 z3 z4 y0 y1 y2 y3 y4
  have c4 := AS2.out.pb.c4
  go_upto_region 5 with fail
  have HC := CP.out _ w2 AS2.out.bel rfl
  have AS3 := Lib.hid (fun W' (h : Below w2.heap.size (w2.alloc (.cells (zT vn) 182)) W') => AS2.out.fill h)
  have hlt := AS2.out.lt
  have k4 := (AS2.out.later ((Below.refl _ _).alloc (Nat.le_refl _) (.cells (zT vn) 182))).pb.c4
  obtain ⟨g, hg⟩ : ∃ k, w2.heap.size = k := ⟨_, rfl⟩
  obtain ⟨w3, hw3⟩ : ∃ k, w2.alloc (.cells (zT vn) 182) = k := ⟨_, rfl⟩
  rw [hw3] at HC AS3 k4 ⊢
  rw [hg] at HC AS3 hlt ⊢
  have HLT := Lib.hid hlt
  clear hw3 hg AS2 l1 c4 hmk CP hlt
  obtain ⟨w4, hcp, ht4, hb4⟩ := HC 3
  have AS4 := Lib.hid (AS3.out _ hb4)
  have HT4 := Lib.hid ht4
  clear ht4 hb4 AS3 HC
  go_upto_region 6 with fail
  clear hcp k4
  have r1 := AS4.out.pb.fr 1
  have r4 := AS4.out.pb.fr 4
  have k1 := AS4.out.pb.c1
  have k4 := AS4.out.pb.c4
  go_upto_region 7 with fail
  have pb5 := (AS4.out.pb.set1 2).setv4 (.slice (some ⟨g, 0, none⟩) vn vn)
  have pz5 := (AS4.out.pz.other (t := w.heap.size) (o := 1) (by omega) (.int .u8 2)).other (t := w.heap.size) (o := 4) (by omega) (.slice (some ⟨g, 0, none⟩) vn vn)
  have ht5 := (HT4.out.set (p := w.heap.size) (o := 1) (by have := HLT.out; omega) (.int .u8 2)).set (p := w.heap.size) (o := 4) (by have := HLT.out; omega) (.slice (some ⟨g, 0, none⟩) vn vn)
  have hb5 : Below w.heap.size w ((w4.setCell ⟨w.heap.size, 1, none⟩ (.int .u8 2)).setCell ⟨w.heap.size, 4, none⟩ (.slice (some ⟨g, 0, none⟩) vn vn)) := below_set (below_set AS4.out.bel (by omega) _) (by omega) _
  obtain ⟨w5, hw5⟩ : ∃ k, (w4.setCell ⟨w.heap.size, 1, none⟩ (.int .u8 2)).setCell ⟨w.heap.size, 4, none⟩ (.slice (some ⟨g, 0, none⟩) vn vn) = k := ⟨_, rfl⟩
  rw [hw5] at pb5 pz5 ht5 hb5 ⊢
  clear hw5 r1 r4 k1 k4 AS4 HT4
  have c0 := pb5.c0
  have c1 := pb5.c1
  have c2 := pb5.c2
  have c3 := pb5.c3
  have c4 := pb5.c4
  have z0 := pz5.c0
  have z1 := pz5.c1
  have z2 := pz5.c2
  have z3 := pz5.c3
  have z4 := pz5.c4
  have y0 := pz5.fr 0
  have y1 := pz5.fr 1
  have y2 := pz5.fr 2
  have y3 := pz5.fr 3
  have y4 := pz5.fr 4
  have HT5 := Lib.hid ht5
  have HB5 := Lib.hid hb5
  clear pb5 pz5 ht5 hb5
  go_wp2_with fail
  refine bodyPost_ret (v := .tuple #[.agg #[.int .u8 a, .int .u8 2, .int .u8 c, .string (bs f), .slice (some ⟨g, 0, none⟩) vn vn], .int .i64 0]) (by simp [results, Tryz.results125, go_sem, z0, z1, z2, z3, z4]) rfl ⟨_, by rw [HR2.out], by rw [HR2.out]; exact (((((HT5.out.set (by have := HLT.out; omega) _).set (by have := HLT.out; omega) _).set (by have := HLT.out; omega) _).set (by have := HLT.out; omega) _).set (by have := HLT.out; omega) _).mono (by have := HLT.out; omega), below_set (below_set (below_set (below_set (below_set HB5.out (by omega) _) (by omega) _) (by omega) _) (by omega) _) (by omega) _⟩
end Go.Proofs.YtlkdfofpnmpidaaGreat
