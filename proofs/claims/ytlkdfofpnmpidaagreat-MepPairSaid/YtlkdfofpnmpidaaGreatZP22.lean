/- ZP22: the texts G1, GE, G3 as one. -/
import Derived.Test.YtlkdfofpnmpidaaGreatZP21
import Derived.Test.YtlkdfofpnmpidaaGreatZP17
import Derived.Deep.RegionHeld3
/- ltm: Put. -/
set_option linter.unusedVariables false
namespace Go.Proofs.YtlkdfofpnmpidaaGreat
open Go.RowKit

/-- A trace's bytes. -/
def byTr (t : Tr) : List UInt8 := be 4 t.nm ++ [byt t.tl] ++ t.fr.by ++ t.tt.by
/-- A trace's message: its numbers, its fixed part, the error. -/
def putTr (t : Tr) : Int × Int × Int × List UInt8 × Int := if 7 < t.lv then (0, 0, 0, [], 2) else (t.lv, 5, 128, byTr t, 0)
theorem byTr_len (t : Tr) : (byTr t).length = 17 := by simp [byTr, be_length, Mc.by_len]
set_option maxRecDepth 100000 in
set_option maxHeartbeats 8000000 in
theorem ltput_any (t : Tr) (w : World) (ht : t.Ok) : Calls Tryz.prog 50 #[.agg #[.int .u8 t.lv, .int .u32 t.nm, .int .u8 t.tl, .int .u8 t.fr.a, .int .u8 t.fr.b, .int .u8 t.fr.c, .int .u8 t.fr.d, .int .u8 t.fr.e, .int .u8 t.fr.f, .int .u8 t.tt.a, .int .u8 t.tt.b, .int .u8 t.tt.c, .int .u8 t.tt.d, .int .u8 t.tt.e, .int .u8 t.tt.f]] w fun en w' =>
    en = .returned (.tuple #[.agg #[.int .u8 (putTr t).1, .int .u8 (putTr t).2.1, .int .u8 (putTr t).2.2.1, .string (bs (putTr t).2.2.2.1), .slice none 0 0], .int .i64 (putTr t).2.2.2.2]) ∧ Below w.heap.size w w' := by
  obtain ⟨R, hR⟩ : ∃ R, putTr t = R := ⟨_, rfl⟩
  rw [hR]
  have HR := Lib.hid hR
  have HT := Lib.hid ht
  clear hR ht
  go_enter Tryz.func50, Tryz.ntmps50
  go_upto_region 1 with fail
  have g0 := (GB.new 132 w #[.int .u8 t.lv, .int .u32 t.nm, .int .u8 t.tl, .int .u8 t.fr.a, .int .u8 t.fr.b, .int .u8 t.fr.c, .int .u8 t.fr.d, .int .u8 t.fr.e, .int .u8 t.fr.f, .int .u8 t.tt.a, .int .u8 t.tt.b, .int .u8 t.tt.c, .int .u8 t.tt.d, .int .u8 t.tt.e, .int .u8 t.tt.f]).later ((Below.refl _ _).alloc (Nat.le_refl _) (.cells #[.int .u8 0, .int .u8 0, .int .u8 0, .string { data := #[] }, .slice none 0 0] 103))
  have pz : PB 103 ((w.alloc (.cells #[.int .u8 t.lv, .int .u32 t.nm, .int .u8 t.tl, .int .u8 t.fr.a, .int .u8 t.fr.b, .int .u8 t.fr.c, .int .u8 t.fr.d, .int .u8 t.fr.e, .int .u8 t.fr.f, .int .u8 t.tt.a, .int .u8 t.tt.b, .int .u8 t.tt.c, .int .u8 t.tt.d, .int .u8 t.tt.e, .int .u8 t.tt.f] 132)).alloc (.cells #[.int .u8 0, .int .u8 0, .int .u8 0, .string { data := #[] }, .slice none 0 0] 103)) (w.heap.size + 1) 0 0 0 [] (.slice none 0 0) := by
    have := PB.new 103 (w.alloc (.cells #[.int .u8 t.lv, .int .u32 t.nm, .int .u8 t.tl, .int .u8 t.fr.a, .int .u8 t.fr.b, .int .u8 t.fr.c, .int .u8 t.fr.d, .int .u8 t.fr.e, .int .u8 t.fr.f, .int .u8 t.tt.a, .int .u8 t.tt.b, .int .u8 t.tt.c, .int .u8 t.tt.d, .int .u8 t.tt.e, .int .u8 t.tt.f] 132)) 0 0 0 [] (.slice none 0 0)
    rw [show (w.alloc (.cells #[.int .u8 t.lv, .int .u32 t.nm, .int .u8 t.tl, .int .u8 t.fr.a, .int .u8 t.fr.b, .int .u8 t.fr.c, .int .u8 t.fr.d, .int .u8 t.fr.e, .int .u8 t.fr.f, .int .u8 t.tt.a, .int .u8 t.tt.b, .int .u8 t.tt.c, .int .u8 t.tt.d, .int .u8 t.tt.e, .int .u8 t.tt.f] 132)).heap.size = w.heap.size + 1 by simp] at this
    exact this
  have hb0 : Below w.heap.size w ((w.alloc (.cells #[.int .u8 t.lv, .int .u32 t.nm, .int .u8 t.tl, .int .u8 t.fr.a, .int .u8 t.fr.b, .int .u8 t.fr.c, .int .u8 t.fr.d, .int .u8 t.fr.e, .int .u8 t.fr.f, .int .u8 t.tt.a, .int .u8 t.tt.b, .int .u8 t.tt.c, .int .u8 t.tt.d, .int .u8 t.tt.e, .int .u8 t.tt.f] 132)).alloc (.cells #[.int .u8 0, .int .u8 0, .int .u8 0, .string { data := #[] }, .slice none 0 0] 103)) := ((Below.refl _ _).alloc (Nat.le_refl _) _).alloc (by simp) _
  obtain ⟨w0, hw0⟩ : ∃ k, (w.alloc (.cells #[.int .u8 t.lv, .int .u32 t.nm, .int .u8 t.tl, .int .u8 t.fr.a, .int .u8 t.fr.b, .int .u8 t.fr.c, .int .u8 t.fr.d, .int .u8 t.fr.e, .int .u8 t.fr.f, .int .u8 t.tt.a, .int .u8 t.tt.b, .int .u8 t.tt.c, .int .u8 t.tt.d, .int .u8 t.tt.e, .int .u8 t.tt.f] 132)).alloc (.cells #[.int .u8 0, .int .u8 0, .int .u8 0, .string { data := #[] }, .slice none 0 0] 103) = k := ⟨_, rfl⟩
  rw [hw0] at g0 pz hb0 ⊢
  have c0 : w0.cell? ⟨w.heap.size, 0, none⟩ = some (.int .u8 t.lv) := g0.c 0 _ rfl
  have z0 := pz.c0
  have z1 := pz.c1
  have z2 := pz.c2
  have z3 := pz.c3
  have z4 := pz.c4
  have y0 := pz.fr 0
  have y1 := pz.fr 1
  have y2 := pz.fr 2
  have y3 := pz.fr 3
  have y4 := pz.fr 4
  have G0 := Lib.hid g0
  have PZ0 := Lib.hid pz
  have HB0 := Lib.hid hb0
  have HL := Lib.hid pz.lt
  clear hw0 g0 pz hb0
  by_cases h7 : 7 < t.lv
  · have d7 : decide ((7 : Int) < t.lv) = true := decide_eq_true h7
    have hRR : R = (0, 0, 0, [], 2) := by rw [← HR.out]; unfold putTr; rw [if_pos h7]
    have HRR := Lib.hid hRR
    clear hRR h7
    go_wp2_with fail
    refine bodyPost_ret (v := .tuple #[.agg #[.int .u8 0, .int .u8 0, .int .u8 0, .string (bs []), .slice none 0 0], .int .i64 2]) (by simp [results, Tryz.results50, go_sem, z0, z1, z2, z3, z4]; rfl) rfl ⟨by rw [HRR.out], below_set (below_set (below_set (below_set (below_set HB0.out (by omega) _) (by omega) _) (by omega) _) (by omega) _) (by omega) _⟩
  have d7 : decide ((7 : Int) < t.lv) = false := decide_eq_false h7
  have hRR : R = (t.lv, 5, 128, byTr t, 0) := by rw [← HR.out]; unfold putTr; rw [if_neg h7]
  have HRR := Lib.hid hRR
  clear hRR h7 z0 z1 z2 z3 z4 y0 y1 y2 y3 y4
  go_upto_region 3 with fail
  obtain ⟨B, hB⟩ : ∃ B, w0.heap.size = B := ⟨_, rfl⟩
  have HBB := Lib.hid hB
  clear hB
  obtain ⟨X, hX⟩ : ∃ X, be 4 t.nm = X := ⟨_, rfl⟩
  have hXl : X.length = 4 := by rw [← hX]; exact be_length _ _
  have P1 : Hid (∀ W, B ≤ W.heap.size → Calls Tryz.prog 79 #[.slice none 0 0, .int .u32 t.nm] W fun e w' => ∃ v', e = .returned v' ∧ Bys w' B v' X ∧ Below W.heap.size W w') := fun W hW => by
    rw [← hX]
    refine (put_uint32 W.heap.size _ [] t.nm W (Nat.le_refl _) (Bys.none _ _) HT.out.nm.1 HT.out.nm.2 (by decide)).mono ?_
    rintro en w' ⟨v', h1, h2, h3⟩
    rw [List.nil_append] at h2
    exact ⟨v', h1, World.ownsRow.mono h2 hW, h3⟩
  have SR := Lib.hid (fun W : World => src_one W t.tl HT.out.tl 5)
  have L0 := Lib.hid (Below.refl B w0)
  go_cut [4] (fun s4 wx => Hid (Bys wx B s4 (X ++ [byt t.tl])) ∧ Hid (Below B w0 wx))
  case first =>
    have Ld := Lib.hid (L0.out.drew)
    have k1 : w0.drew.cell? ⟨w.heap.size, 1, none⟩ = some (.int .u32 t.nm) := G0.out.c 1 _ rfl
    have k2 : w0.drew.cell? ⟨w.heap.size, 2, none⟩ = some (.int .u8 t.tl) := G0.out.c 2 _ rfl
    have m2 : (w0.alloc (.cells #[.int .u8 t.tl] 5)).drew.cell? ⟨w.heap.size, 1, none⟩ = some (.int .u32 t.nm) := ((G0.out.later ((Below.refl _ _).alloc (Nat.le_refl _) _)).drew).c 1 _ rfl
    have hBd : B ≤ w0.drew.heap.size := Nat.le_of_eq HBB.out.symm
    have hBa : B ≤ (w0.alloc (.cells #[.int .u8 t.tl] 5)).drew.heap.size := by show B ≤ (w0.alloc _).heap.size; simp; have := HBB.out; omega
    have hBc : B ≤ (w0.drew.alloc (.cells #[.int .u8 t.tl] 5)).heap.size := by simp; have := HBB.out; omega
    have HBd := Lib.hid hBd
    have HBa := Lib.hid hBa
    have HBc := Lib.hid hBc
    have Lc := Lib.hid (Ld.out.alloc hBd (.cells #[.int .u8 t.tl] 5))
    have La := Lib.hid ((L0.out.alloc (Nat.le_of_eq HBB.out.symm) (.cells #[.int .u8 t.tl] 5)).drew)
    have hlt0 : w.heap.size < w0.drew.heap.size := Nat.lt_of_succ_lt HL.out
    have HLT := Lib.hid hlt0
    clear hBd hBa hBc hlt0
    go_region_law (first
      | (go_simp; go_at_call 79; (first
          | ((with_reducible refine (P1.out w0.drew HBd.out).mono ?_); rintro en wx ⟨vx, rfl, hox, hbx⟩; have Lx := Lib.hid (Ld.out.trans (hbx.mono HBd.out)); have kx : wx.cell? ⟨w.heap.size, 2, none⟩ = some (.int .u8 t.tl) := (hbx.cell (p := ⟨w.heap.size, 2, none⟩) HLT.out).trans k2)
          | ((with_reducible refine (P1.out _ HBc.out).mono ?_); rintro en wx ⟨vx, rfl, hox, hbx⟩; have hSx := (SR.out _).later hbx; have Lx := Lib.hid (Lc.out.trans (hbx.mono HBc.out)))
          | ((with_reducible refine (P1.out _ HBa.out).mono ?_); rintro en wx ⟨vx, rfl, hox, hbx⟩; have hSx := ((SR.out w0).later (Below.refl _ _).drew).later hbx; have Lx := Lib.hid (La.out.trans (hbx.mono HBa.out)))))
      | (refine step_append_src rfl (.tmp 11) (.tmp 14) rfl B _ X (by rfl) (by first | exact hox | exact hox.alloc _) _ [byt t.tl] (by rfl) (by first | exact SR.out _ | exact hSx) (by simp [hXl]) (by have h1 := Lx.out.size; have := HBB.out; simp; omega) ?_; intro v1 w3 hown1 hb3))
    all_goals go_wp2_with fail
    all_goals go_meet
    all_goals first
      | exact ⟨Lib.hid hown1, Lib.hid (Lx.out.trans hb3)⟩
      | exact ⟨Lib.hid hown1, Lib.hid ((Lx.out.alloc (by have h1 := Lx.out.size; have := HBB.out; omega) _).trans hb3)⟩
  case rest =>
    obtain ⟨HO1, HB1⟩ := hcut
    have hwB : w.heap.size + 1 < B := by have := HL.out; have := HBB.out; omega
    have HWB := Lib.hid hwB
    have S3 : Hid (∀ W, Below B w0 W → Src W (.slice (some ⟨w.heap.size, 3, none⟩) 6 6) t.fr.by) := fun W h => by
      have g := G0.out.below (show w.heap.size < B by omega) h
      exact srcM (g.c 3 _ rfl) (g.c 4 _ rfl) (g.c 5 _ rfl) (g.c 6 _ rfl) (g.c 7 _ rfl) (g.c 8 _ rfl) HT.out.fr
    have S9 : Hid (∀ W, Below B w0 W → Src W (.slice (some ⟨w.heap.size, 9, none⟩) 6 6) t.tt.by) := fun W h => by
      have g := G0.out.below (show w.heap.size < B by omega) h
      exact srcM (g.c 9 _ rfl) (g.c 10 _ rfl) (g.c 11 _ rfl) (g.c 12 _ rfl) (g.c 13 _ rfl) (g.c 14 _ rfl) HT.out.tt
    have HW0 := Lib.hid (Nat.le_of_eq HBB.out.symm)
    clear hwB L0 SR P1
    go_upto_region 4 with fail
    go_cut [4] (fun s4 wx => Hid (Bys wx B s4 (byTr t)) ∧ Hid (Below B w0 wx))
    case first =>
      have L1 := Lib.hid (HB1.out.drew)
      go_region_law (first
        | (refine step_append_src rfl (.tmp 16) (.tmp 18) rfl B _ (X ++ [byt t.tl]) (by rfl) (by exact HO1.out) _ t.fr.by (by rfl) (by exact S3.out _ L1.out) (by simp [hXl, Mc.by_len]) (by exact Nat.le_trans HW0.out L1.out.size) ?_; intro v1 w3 hown1 hb3)
        | (refine step_append_src rfl (.tmp 19) (.tmp 21) rfl B _ _ (by rfl) (by exact hown1) _ t.tt.by (by rfl) (by exact S9.out _ (L1.out.trans hb3)) (by simp [hXl, Mc.by_len]) (by exact Nat.le_trans HW0.out (L1.out.trans hb3).size) ?_; intro v2 w4 hown2 hb4))
      all_goals go_wp2_with fail
      all_goals go_meet
      all_goals exact ⟨Lib.hid (by unfold byTr; rw [hX]; exact hown2), Lib.hid ((L1.out.trans hb3).trans hb4)⟩
    case rest =>
      clear HO1 HB1 S3 S9
      obtain ⟨HO2, HB2⟩ := hcut
      have hstr := run_string_bys HO2.out
      have g2 := G0.out.below (show w.heap.size < B by have := HWB.out; omega) HB2.out
      have p2 := PZ0.out.below (show w.heap.size + 1 < B from HWB.out) HB2.out
      have c0 : wc.cell? ⟨w.heap.size, 0, none⟩ = some (.int .u8 t.lv) := g2.c 0 _ rfl
      have z0 := p2.c0
      have z1 := p2.c1
      have z2 := p2.c2
      have z3 := p2.c3
      have z4 := p2.c4
      have y0 := p2.fr 0
      have y1 := p2.fr 1
      have y2 := p2.fr 2
      have y3 := p2.fr 3
      have y4 := p2.fr 4
      have HB3 := Lib.hid (HB0.out.trans (HB2.out.mono (by have := HWB.out; omega)))
      clear g2 p2 HO2 HB2 hX hXl G0 PZ0 HB0
      go_wp2_with fail
      refine bodyPost_ret (v := .tuple #[.agg #[.int .u8 t.lv, .int .u8 5, .int .u8 128, .string (bs (byTr t)), .slice none 0 0], .int .i64 0]) (by simp [results, Tryz.results50, go_sem, z0, z1, z2, z3, z4]) rfl ⟨by rw [HRR.out], below_set (below_set (below_set (below_set (below_set HB3.out (by omega) _) (by omega) _) (by omega) _) (by omega) _) (by omega) _⟩
end Go.Proofs.YtlkdfofpnmpidaaGreat

/- Laws of a message's block (as E1 has them, without its imports). -/
set_option linter.unusedVariables false
namespace Go.Proofs.YtlkdfofpnmpidaaGreat
open Go.RowKit

theorem PB.sets5G {T : TypeId} {W : World} {q : Nat} {a b c a' b' c' : Int} {f f' : List UInt8} {v v' : Value} (h : PB T W q a b c f v) :
    PB T (((((W.setCell ⟨q, 0, none⟩ (.int .u8 a')).setCell ⟨q, 1, none⟩ (.int .u8 b')).setCell ⟨q, 2, none⟩ (.int .u8 c')).setCell ⟨q, 3, none⟩ (.string (bs f'))).setCell ⟨q, 4, none⟩ v') q a' b' c' f' v' := by
  unfold PB at *
  simp [World.setCell, Array.getElem?_modify, h]
theorem PB.setv4G {T : TypeId} {W : World} {q : Nat} {a b c : Int} {f : List UInt8} {v : Value} (h : PB T W q a b c f v) (d : Value) : PB T (W.setCell ⟨q, 4, none⟩ d) q a b c f d := by
  unfold PB at *; simp [World.setCell, Array.getElem?_modify, h]
end Go.Proofs.YtlkdfofpnmpidaaGreat

/- ltm: a reply's port, put. -/
set_option linter.unusedVariables false
namespace Go.Proofs.YtlkdfofpnmpidaaGreat
open Go.RowKit

theorem part_u8G (cs : Array Value) (k : Nat) (w : World) : (part 5 cs k).run Tryz.prog w = match cs[k]? with | some v => .ok v w | none => (stuck "part: no such cell" : Sem Value).run Tryz.prog w := by
  have hi : (isAgg 5).run Tryz.prog w = .ok false w := by kernel_rfl
  cases h : cs[k]? <;> simp [part, hi, h]
theorem equalIn_macG (d : Nat) (m n : Mc) (w : World) : (Op.equalIn (d + 2) 25 (.agg #[.int .u8 m.a, .int .u8 m.b, .int .u8 m.c, .int .u8 m.d, .int .u8 m.e, .int .u8 m.f]) (.agg #[.int .u8 n.a, .int .u8 n.b, .int .u8 n.c, .int .u8 n.d, .int .u8 n.e, .int .u8 n.f])).run Tryz.prog w = .ok (decide (m = n)) w := by
  have hs : (sizeOf 5).run Tryz.prog w = .ok 1 w := by kernel_rfl
  have he : ∀ x y : Int, (Op.equalIn (d + 1) 5 (.int .u8 x) (.int .u8 y)).run Tryz.prog w = .ok (x == y) w := fun x y => run_equalIn_int w d 5 .u8 .u8 x y Tryz.underlying5
  rw [Op.equalIn]
  simp only [Sem.run_bind, run_underlying Tryz.underlying25, Result.andThen_ok, hs]
  rw [Std.Legacy.Range.forIn_eq_forIn_range']
  rw [show ({ start := 0, stop := 6, step := 1, step_pos := by decide } : Std.Legacy.Range).size = 6 from rfl]
  rw [show List.range' 0 6 1 = [0, 1, 2, 3, 4, 5] from by decide]
  simp [part_u8G, he, Sem.run_ite]
  cases m with | mk a b c e f g => cases n with | mk a' b' c' e' f' g' =>
  simp only [Mc.mk.injEq]
  by_cases h1 : a = a' <;> by_cases h2 : b = b' <;> by_cases h3 : c = c' <;> by_cases h4 : e = e' <;> by_cases h5 : f = f' <;> by_cases h6 : g = g' <;> simp [h1, h2, h3, h4, h5, h6]
theorem neq_macG (m n : Mc) (w : World) : (binOp .neq 25 (.agg #[.int .u8 m.a, .int .u8 m.b, .int .u8 m.c, .int .u8 m.d, .int .u8 m.e, .int .u8 m.f]) (.agg #[.int .u8 n.a, .int .u8 n.b, .int .u8 n.c, .int .u8 n.d, .int .u8 n.e, .int .u8 n.f])).run Tryz.prog w = .ok (.bool (!decide (m = n))) w := by
  simp only [binOp]
  simp [Op.equal, Op.maxDepth, equalIn_macG 9998]
/-- A port's things. -/
def prtL (k : UInt8) (m : Mc) : List Th := if m = mc0 then [] else [(k, 1 :: m.by)]
set_option maxRecDepth 100000 in
set_option maxHeartbeats 8000000 in
theorem port_any (k : UInt8) (K : Int) (hk : (k.toNat : Int) = K) (m : Mc) (hm : m.Ok) (q : Nat) (a b c : Int) (f : List UInt8) (v : Value) (L : List Th) (w : World) (hp : PB 103 w q a b c f v) (ht : TlT w (q + 1) v L) (hL : L.length ≤ 100) :
    Calls Tryz.prog 145 #[.int .u8 K, .agg #[.int .u8 m.a, .int .u8 m.b, .int .u8 m.c, .int .u8 m.d, .int .u8 m.e, .int .u8 m.f], .pointer (some ⟨q, 0, none⟩)] w fun en w' => en = .returned (.tuple #[]) ∧ ∃ v', PB 103 w' q a b c f v' ∧ TlT w' (q + 1) v' (L ++ prtL k m) ∧ Below q w w' := by
  have hqlt := hp.lt
  have HP := Lib.hid hp
  have HT := Lib.hid ht
  have HM := Lib.hid hm
  clear hp ht hm
  go_enter Tryz.func145, Tryz.ntmps145
  go_upto_region 1 with fail
  have bb : Below w.heap.size w (w.alloc (.cells #[.int .u8 m.a, .int .u8 m.b, .int .u8 m.c, .int .u8 m.d, .int .u8 m.e, .int .u8 m.f] 25)) := (Below.refl _ _).alloc (Nat.le_refl _) _
  have gm := GB.new 25 w #[.int .u8 m.a, .int .u8 m.b, .int .u8 m.c, .int .u8 m.d, .int .u8 m.e, .int .u8 m.f]
  obtain ⟨u, hu⟩ : ∃ u, w.heap.size = u := ⟨_, rfl⟩
  obtain ⟨w0, hw0⟩ : ∃ k, w.alloc (.cells #[.int .u8 m.a, .int .u8 m.b, .int .u8 m.c, .int .u8 m.d, .int .u8 m.e, .int .u8 m.f] 25) = k := ⟨_, rfl⟩
  rw [hw0] at bb gm ⊢
  have HP0 := Lib.hid (HP.out.later bb)
  have HT0 := Lib.hid (HT.out.later bb)
  have HB0 := Lib.hid (bb.mono (show q ≤ w.heap.size by omega))
  have HS0 := Lib.hid (show q < u by omega)
  have HU0 := Lib.hid (show u < w0.heap.size by have := gm.lt; omega)
  rw [hu] at gm ⊢
  have GM := Lib.hid gm
  have c0 : w0.cell? ⟨u, 0, none⟩ = some (.int .u8 m.a) := gm.c 0 _ rfl
  have c1 : w0.cell? ⟨u, 1, none⟩ = some (.int .u8 m.b) := gm.c 1 _ rfl
  have c2 : w0.cell? ⟨u, 2, none⟩ = some (.int .u8 m.c) := gm.c 2 _ rfl
  have c3 : w0.cell? ⟨u, 3, none⟩ = some (.int .u8 m.d) := gm.c 3 _ rfl
  have c4 : w0.cell? ⟨u, 4, none⟩ = some (.int .u8 m.e) := gm.c 4 _ rfl
  have c5 : w0.cell? ⟨u, 5, none⟩ = some (.int .u8 m.f) := gm.c 5 _ rfl
  clear bb gm hu hw0 HP HT hqlt
  by_cases h0 : m = mc0
  · have d0 : decide (m = mc0) = true := decide_eq_true h0
    have hpr : prtL k m = [] := by unfold prtL; rw [if_pos h0]
    have HPR := Lib.hid hpr
    have hne : ∀ W : World, (binOp .neq 25 (.agg #[.int .u8 m.a, .int .u8 m.b, .int .u8 m.c, .int .u8 m.d, .int .u8 m.e, .int .u8 m.f]) (.agg #[.int .u8 0, .int .u8 0, .int .u8 0, .int .u8 0, .int .u8 0, .int .u8 0])).run Tryz.prog W = .ok (.bool false) W := fun W => (neq_macG m mc0 W).trans (by rw [d0]; rfl)
    clear h0 d0 hpr
    go_wp2_with fail
    go_end0
    exact ⟨rfl, v, HP0.out, by rw [HPR.out, List.append_nil]; exact HT0.out, HB0.out⟩
  have d0 : decide (m = mc0) = false := decide_eq_false h0
  have hpr : prtL k m = [(k, 1 :: m.by)] := by unfold prtL; rw [if_neg h0]
  have HPR : Hid (prtL k m = [(k, 1 :: m.by)]) := Lib.hid hpr
  have hne : ∀ W : World, (binOp .neq 25 (.agg #[.int .u8 m.a, .int .u8 m.b, .int .u8 m.c, .int .u8 m.d, .int .u8 m.e, .int .u8 m.f]) (.agg #[.int .u8 0, .int .u8 0, .int .u8 0, .int .u8 0, .int .u8 0, .int .u8 0])).run Tryz.prog W = .ok (.bool true) W := fun W => (neq_macG m mc0 W).trans (by rw [d0]; rfl)
  clear h0 d0 hpr
  go_upto_region 2 with fail
  have SM : Hid (∀ W, Below w0.heap.size w0 W → Src W (.slice (some ⟨u, 0, none⟩) 6 6) m.by) := fun W h => by
    have g := GM.out.later h
    exact srcM (g.c 0 _ rfl) (g.c 1 _ rfl) (g.c 2 _ rfl) (g.c 3 _ rfl) (g.c 4 _ rfl) (g.c 5 _ rfl) HM.out
  have BL : Hid (∀ W : World, Bys (W.alloc (.cells #[.int .u8 1] 5)) W.heap.size (.slice (some ⟨W.heap.size, 0, none⟩) 1 1) [1]) := fun W => Bys.lit W W.heap.size #[.int .u8 1] [1] (Nat.le_refl _) rfl (by simp)
  clear c0 c1 c2 c3 c4 c5 hne
  have p4 : w0.drew.cell? ⟨q, 4, none⟩ = some v := HP0.out.c4
  have p4a : (w0.alloc (.cells #[.int .u8 1] 5)).drew.cell? ⟨q, 4, none⟩ = some v := (HP0.out.later ((Below.refl _ _).alloc (Nat.le_refl _) _)).c4
  have L0 := Lib.hid (Below.refl w0.heap.size w0)
  have Ld := Lib.hid L0.out.drew
  have La := Lib.hid ((L0.out.alloc (Nat.le_refl _) (.cells #[.int .u8 1] 5)).drew)
  have Lc := Lib.hid (Ld.out.alloc (Nat.le_refl _) (.cells #[.int .u8 1] 5))
  obtain ⟨X, hX⟩ : ∃ X, 1 :: m.by = X := ⟨_, rfl⟩
  have HX := Lib.hid hX
  rw [hX] at HPR
  clear hX
  have TL : Hid (∀ W : World, Tls (W.alloc (.cells #[.int .u8 K, .string (bs (X))] 182)) (.slice (some ⟨W.heap.size, 0, none⟩) 1 1) [(k, X)]) := fun W => by
    rw [← hk]; exact (TlT.lit W 0 (k, X) (Nat.zero_le _)).tls
  have HQ0 := Lib.hid (show q + 1 ≤ w0.heap.size by have := HP0.out.lt; omega)
  go_region_law (first
    | (refine step_append_src rfl (.tmp 11) (.tmp 12) rfl w0.heap.size _ [1] (by rfl) (by first | exact BL.out w0.drew | exact (BL.out w0).later (Below.refl _ _).drew) _ m.by (by rfl) (by first | exact SM.out _ Lc.out | exact SM.out _ La.out) (by simp [Mc.by_len]) (by first | exact Lc.out.size | exact La.out.size) ?_; intro v1 w3 hown1 hb3; have hcv : (convert 39 9 v1).run Tryz.prog w3 = .ok (.string (bs X)) w3 := (by rw [← HX.out]; exact run_string_bys hown1); (first | (have L3 := Lib.hid (Lc.out.trans hb3)) | (have L3 := Lib.hid (La.out.trans hb3))); have P3 := Lib.hid (HP0.out.later L3.out); have m3 := P3.out.c4; have m3a := (P3.out.later ((Below.refl w3.heap.size w3).alloc (Nat.le_refl _) (.cells #[.int .u8 K, .string (bs (X))] 182))).c4)
    | (refine step_append_T rfl (.tmp 9) (.tmp 16) rfl (q + 1) _ L (by rfl) (by exact HT0.out.later (L3.out.alloc L3.out.size _)) _ [(k, X)] (by rfl) (by exact TL.out _) (by simp; omega) (by exact Nat.le_trans HQ0.out (L3.out.alloc L3.out.size _).size) ?_; intro v2 w5 hown2 hb5; obtain ⟨a5, k5, hv5, _⟩ := hown2.tls.shape; obtain ⟨n5, hn5⟩ : ∃ n, (L ++ [(k, X)]).length = n := ⟨_, rfl⟩; rw [hn5] at hv5; subst hv5; clear hn5; have P5 := Lib.hid ((HP0.out.later (L3.out.alloc L3.out.size _)).below (Nat.lt_succ_self q) hb5); have m4 := P5.out.c4; have f4 := P5.out.fr 4))
  all_goals go_wp2_with fail
  all_goals
    go_end0
    refine ⟨rfl, _, P5.out.setv4G _, ?_, ?_⟩
    · rw [HPR.out]; exact hown2.set (Nat.lt_succ_self q) _
    · exact below_set ((HB0.out.trans ((L3.out.alloc L3.out.size _).mono (by have := HQ0.out; omega))).trans (hb5.mono (Nat.le_succ q))) (Nat.le_refl q) _
end Go.Proofs.YtlkdfofpnmpidaaGreat
