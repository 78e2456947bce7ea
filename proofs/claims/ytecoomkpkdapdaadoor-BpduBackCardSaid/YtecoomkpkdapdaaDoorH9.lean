/- bpdu: the reference's num and Take. -/
import Derived.Test.YtecoomkpkdapdaaDoorH3
import Derived.Test.YtecoomkpkdapdaaDoorH8
import Derived.Test.YtecoomkpkdapdaaDoorW7c
set_option linter.unusedVariables false
set_option linter.unusedSimpArgs false
namespace Go.Proofs.YtecoomkpkdapdaaDoor
open Go.RowKit

set_option maxRecDepth 100000 in
set_option maxHeartbeats 4000000 in
theorem refnum_any (l : List UInt8) (w : World) (hl : l.length ≤ 8) : Calls Tryd.prog 29 #[.string (bs l)] w fun en w' => en = .returned (.int .u64 (numOf l)) ∧ Below w.heap.size w w' := by
  obtain ⟨n, hn⟩ : ∃ n, numOf l = n := ⟨_, rfl⟩
  rw [hn]
  have hsz := bs_size l
  have R1 : Hid (∀ w, Calls Tryd.prog 48 #[.agg #[.string (bs l), .int .i64 0], .int .i64 (l.length : Int)] w fun en w' => en = .returned (.tuple #[.int .u64 n, .agg #[.string { data := #[] }, .int .i64 0]]) ∧ Below w.heap.size w w') := Lib.hid fun w => by
    have h := refNum_any l 0 l.length w (by omega) hl
    rw [show rdText l 0 (l.length : Int) = (l, [], 0) from rest_all l, hn] at h; exact h
  clear hn
  go_enter Tryd.func29, Tryd.ntmps29
  go_wp2_with fail
  with_reducible refine (R1.out _).mono ?_
  rintro en w1 ⟨rfl, hb1⟩
  go_wp2
  go_ret
  exact ⟨rfl, hb1.alloc hb1.size _⟩
/-- The state: the result's block, the word's block. -/
structure RT5 (w W : World) (q : Nat) (b : Bp) : Prop where
  z : GB 27 W w.heap.size #[.int .u64 0, .int .u32 0, .int .u64 0, .int .u8 0, .int .u8 0, .int .u64 0, .int .u8 0, .bool false, .bool false, .bool false, .int .u64 0]
  bb : BB 27 W q b
  bel : Below w.heap.size w W
  hq : w.heap.size < q
section
variable {w W W' : World} {q : Nat} {b b' : Bp}
theorem RT5.later (h : RT5 w W q b) (hb : Below W.heap.size W W') : RT5 w W' q b := ⟨h.z.later hb, h.bb.later hb, h.bel.trans (hb.mono h.bel.size), h.hq⟩
theorem RT5.drew (h : RT5 w W q b) : RT5 w W.drew q b := h.later (Below.refl _ _).drew
theorem RT5.range (h : RT5 w W q b) {A : Array Value} (hA : A = #[.int .u64 b.rt, .int .u32 b.co, .int .u64 b.br, .int .u8 b.po, .int .u8 b.ho, .int .u64 b.ve, .int .u8 b.ro, .bool b.pr, .bool b.ag, .bool b.tp, .int .u64 b.ec]) : W.rangeAt q 0 A.toList := by rw [hA]; exact h.bb.gb.range
theorem RT5.put (h : RT5 w W q b) (o : Nat) (v : Value) (hb : BB 27 (W.setCell ⟨q, o, none⟩ v) q b') : RT5 w (W.setCell ⟨q, o, none⟩ v) q b' :=
  ⟨h.z.other (by have := h.hq; omega) _, hb, below_set h.bel (by have := h.hq; omega) _, h.hq⟩
end
set_option maxRecDepth 100000 in
set_option maxHeartbeats 4000000 in
theorem refTakeShort_any (s : List UInt8) (w : World) (hl : s.length < 42) : Calls Tryd.prog 13 #[.string (bs s)] w fun en w' => en = .returned (.tuple #[.agg #[.int .u64 0, .int .u32 0, .int .u64 0, .int .u8 0, .int .u8 0, .int .u64 0, .int .u8 0, .bool false, .bool false, .bool false, .int .u64 0], .int .i64 3]) ∧ Below w.heap.size w w' := by
  have hsz := bs_size s
  have d0 : decide ((s.length : Int) < 42) = true := decide_eq_true (by omega)
  obtain ⟨AZ, hAZ⟩ : ∃ A : Array Value, A = #[.int .u64 0, .int .u32 0, .int .u64 0, .int .u8 0, .int .u8 0, .int .u64 0, .int .u8 0, .bool false, .bool false, .bool false, .int .u64 0] := ⟨_, rfl⟩
  have hs : AZ.size = 11 := by rw [hAZ]; rfl
  have oz : AZ.all (·.oneCell') = true := by rw [hAZ]; simp [Value.oneCell']
  have IZ : Hid ((Tryd.prog.info? 27).map (·.size) = some AZ.size) := Lib.hid (by rw [hs]; kernel_rfl)
  have HS := Lib.hid hs
  have OZ := Lib.hid oz
  have HAZ := Lib.hid hAZ
  clear hl hAZ hs oz
  go_enter Tryd.func13, Tryd.ntmps13
  go_upto_region 1 with fail
  have z0 := GB.new 27 w #[.int .u64 0, .int .u32 0, .int .u64 0, .int .u8 0, .int .u8 0, .int .u64 0, .int .u8 0, .bool false, .bool false, .bool false, .int .u64 0]
  have hb0 : Below w.heap.size w (w.alloc (.cells #[.int .u64 0, .int .u32 0, .int .u64 0, .int .u8 0, .int .u8 0, .int .u64 0, .int .u8 0, .bool false, .bool false, .bool false, .int .u64 0] 27)) := (Below.refl _ _).alloc (Nat.le_refl _) _
  obtain ⟨w0, hw0⟩ : ∃ k, w.alloc (.cells #[.int .u64 0, .int .u32 0, .int .u64 0, .int .u8 0, .int .u8 0, .int .u64 0, .int .u8 0, .bool false, .bool false, .bool false, .int .u64 0] 27) = k := ⟨_, rfl⟩
  rw [hw0] at z0 hb0 ⊢
  have TH := Lib.hid (z0.there (n := AZ.size) (by rw [HS.out]; exact Nat.le_refl _))
  have G1 := Lib.hid (z0.store (A := AZ) (by rw [HS.out]; rfl) OZ.out)
  have HB0 := Lib.hid hb0
  clear hw0 z0 hb0
  go_wp2_with ((with_reducible refine wpList_store_mid rfl 27 (.tmp 2) (.tmp 10) rfl w.heap.size 0 AZ ?hx ?hy TH.out IZ.out OZ.out ?_); (case hx => rfl); (case hy => (rw [HAZ.out]; rfl)))
  exact bodyPost_ret (v := .tuple #[.agg AZ, .int .i64 3]) (res_two (d := _) rfl rfl Tryd.underlying27 _ _ w.heap.size _ rfl G1.out IZ.out) rfl ⟨by rw [HAZ.out], below_cellsG (Nat.le_refl _) _ _ _ HB0.out⟩
/-- The word of the parts. -/
def bpP (p4 p5 p6 p9 p10 : List UInt8) (c2 c3 c7 c8 : UInt8) : Bp := ⟨numOf p4, numOf p5, numOf p6, (c7.toNat : Int), (c8.toNat : Int), numOf p9, (c2.toNat : Int), decide ((c3.toNat : Int) % 2 = 1), decide ((c3.toNat : Int) / 2 % 2 = 1), decide ((c3.toNat : Int) / 4 % 2 = 1), numOf p10⟩
/-- The reference's answer, of bytes in their parts. -/
def refA (b : Bp) (Q z : List UInt8) : Bp × Int := if mayB b = true ∧ z.all (· == 0) = true ∧ byB b = Q then (b, 0) else (bp0, 4)
theorem Bp.ok_of (p4 p5 p6 p9 p10 : List UInt8) (c2 c3 c7 c8 : UInt8) (h4 : p4.length = 8) (h5 : p5.length = 4) (h6 : p6.length = 8) (h9 : p9.length = 8) (h10 : p10.length = 8) : (bpP p4 p5 p6 p9 p10 c2 c3 c7 c8).Ok := by
  refine ⟨?_, ?_, ?_, ?_, ?_, ?_, ?_, ?_⟩
  · exact ⟨(numOf_bd _).1, numOf_lt _ 8 _ (by omega) (by decide)⟩
  · exact ⟨(numOf_bd _).1, numOf_lt _ 4 _ (by omega) (by decide)⟩
  · exact ⟨(numOf_bd _).1, numOf_lt _ 8 _ (by omega) (by decide)⟩
  · have := c7.toNat_lt; show 0 ≤ (c7.toNat : Int) ∧ (c7.toNat : Int) < 256; omega
  · have := c8.toNat_lt; show 0 ≤ (c8.toNat : Int) ∧ (c8.toNat : Int) < 256; omega
  · exact ⟨(numOf_bd _).1, numOf_lt _ 8 _ (by omega) (by decide)⟩
  · have := c2.toNat_lt; show 0 ≤ (c2.toNat : Int) ∧ (c2.toNat : Int) < 256; omega
  · exact ⟨(numOf_bd _).1, numOf_lt _ 8 _ (by omega) (by decide)⟩
theorem get_mid (a b c : List UInt8) (k : Nat) (x : UInt8) (ha : a.length = k) (hb : b = [x]) (s : List UInt8) (hs : s = a ++ (b ++ c)) : ∀ h : k < (bs s).size, (bs s)[k]'h = x := fun h => by
  subst hb hs
  rw [bs_get _ _ h (by simp; omega)]
  rw [List.getElem_append_right (by omega)]
  simp [ha]
theorem ext_mid (a b c : List UInt8) (k m : Nat) (ha : a.length = k) (hb : k + b.length = m) (s : List UInt8) (hs : s = a ++ (b ++ c)) : (bs s).extract k m = bs b := by
  subst hs
  rw [bs_extract]
  congr 1
  rw [List.drop_append_of_le_length (by omega), ← ha, List.drop_length, List.nil_append, List.take_append_of_le_length (by omega), List.take_of_length_le (by omega)]
theorem zf_of (z : List UInt8) (S : ByteArray) (gz : ∀ (k : Nat) (hk : k < z.length) (h : 42 + k < S.size), S[42 + k]'h = z[k]) :
    ∃ zf : Nat → Bool, zf 42 = true ∧ (∀ m (h : m < S.size), 42 ≤ m → m < 42 + z.length → zf (m + 1) = (zf m && decide ((S[m].toNat : Int) = 0))) ∧ zf (42 + z.length) = z.all (· == 0) := by
  refine ⟨fun m => (z.take (m - 42)).all (· == 0), by simp, ?_, by simp⟩
  intro m h h1 h2
  obtain ⟨k, rfl⟩ : ∃ k, m = 42 + k := ⟨m - 42, by omega⟩
  have hk : k < z.length := by omega
  rw [gz k hk h]
  show (z.take (42 + k + 1 - 42)).all (· == 0) = ((z.take (42 + k - 42)).all (· == 0) && _)
  rw [show 42 + k + 1 - 42 = k + 1 by omega, show 42 + k - 42 = k by omega, ← List.take_append_getElem (h := hk), List.all_append]
  congr 1
  simp only [List.all_cons, List.all_nil, Bool.and_true]
  rw [Bool.eq_iff_iff, beq_iff_eq, decide_eq_true_eq]
  constructor
  · intro e; rw [e]; rfl
  · intro e
    have : z[k].toNat = (0 : UInt8).toNat := by have : (0 : UInt8).toNat = 0 := rfl; omega
    exact UInt8.toNat_inj.mp this
set_option maxRecDepth 100000 in
set_option maxHeartbeats 16000000 in
theorem refTake05_any (p1 p4 p5 p6 p9 p10 z : List UInt8) (c2 c3 c7 c8 : UInt8) (w : World) (h1 : p1.length = 2) (h4 : p4.length = 8) (h5 : p5.length = 4) (h6 : p6.length = 8) (h9 : p9.length = 8) (h10 : p10.length = 8) (hzl : z.length ≤ 10000) (s Q : List UInt8)
    (hQ : Q = p1 ++ ([c2] ++ ([c3] ++ (p4 ++ (p5 ++ (p6 ++ ([c7] ++ ([c8] ++ (p9 ++ p10))))))))) (hs : s = Q ++ z) :
    Calls Tryd.prog 13 #[.string (bs s)] w fun en w' => en = .returned (.tuple #[.agg #[.int .u64 (refA (bpP p4 p5 p6 p9 p10 c2 c3 c7 c8) Q z).1.rt, .int .u32 (refA (bpP p4 p5 p6 p9 p10 c2 c3 c7 c8) Q z).1.co, .int .u64 (refA (bpP p4 p5 p6 p9 p10 c2 c3 c7 c8) Q z).1.br, .int .u8 (refA (bpP p4 p5 p6 p9 p10 c2 c3 c7 c8) Q z).1.po, .int .u8 (refA (bpP p4 p5 p6 p9 p10 c2 c3 c7 c8) Q z).1.ho, .int .u64 (refA (bpP p4 p5 p6 p9 p10 c2 c3 c7 c8) Q z).1.ve, .int .u8 (refA (bpP p4 p5 p6 p9 p10 c2 c3 c7 c8) Q z).1.ro, .bool (refA (bpP p4 p5 p6 p9 p10 c2 c3 c7 c8) Q z).1.pr, .bool (refA (bpP p4 p5 p6 p9 p10 c2 c3 c7 c8) Q z).1.ag, .bool (refA (bpP p4 p5 p6 p9 p10 c2 c3 c7 c8) Q z).1.tp, .int .u64 (refA (bpP p4 p5 p6 p9 p10 c2 c3 c7 c8) Q z).1.ec], .int .i64 (refA (bpP p4 p5 p6 p9 p10 c2 c3 c7 c8) Q z).2]) ∧ Below w.heap.size w w' := by
  obtain ⟨R, hR⟩ : ∃ R, refA (bpP p4 p5 p6 p9 p10 c2 c3 c7 c8) Q z = R := ⟨_, rfl⟩
  rw [hR]
  have hok := Bp.ok_of p4 p5 p6 p9 p10 c2 c3 c7 c8 h4 h5 h6 h9 h10
  have hQl : Q.length = 42 := by rw [hQ]; simp [h1, h4, h5, h6, h9, h10]
  have hsl : s.length = 42 + z.length := by rw [hs, List.length_append, hQl]
  have hsz : (bs s).size = 42 + z.length := by rw [bs_size, hsl]
  have g2 := get_mid p1 [c2] ([c3] ++ (p4 ++ (p5 ++ (p6 ++ ([c7] ++ ([c8] ++ (p9 ++ (p10 ++ z)))))))) 2 c2 h1 rfl s (by rw [hs, hQ]; simp only [List.append_assoc])
  have g3 := get_mid (p1 ++ [c2]) [c3] (p4 ++ (p5 ++ (p6 ++ ([c7] ++ ([c8] ++ (p9 ++ (p10 ++ z))))))) 3 c3 (by simp [h1]) rfl s (by rw [hs, hQ]; simp only [List.append_assoc])
  have g24 := get_mid (p1 ++ [c2] ++ [c3] ++ p4 ++ p5 ++ p6) [c7] ([c8] ++ (p9 ++ (p10 ++ z))) 24 c7 (by simp [h1, h4, h5, h6]) rfl s (by rw [hs, hQ]; simp only [List.append_assoc])
  have g25 := get_mid (p1 ++ [c2] ++ [c3] ++ p4 ++ p5 ++ p6 ++ [c7]) [c8] (p9 ++ (p10 ++ z)) 25 c8 (by simp [h1, h4, h5, h6]) rfl s (by rw [hs, hQ]; simp only [List.append_assoc])
  have e4 := ext_mid (p1 ++ [c2] ++ [c3]) p4 (p5 ++ (p6 ++ ([c7] ++ ([c8] ++ (p9 ++ (p10 ++ z)))))) 4 12 (by simp [h1]) (by omega) s (by rw [hs, hQ]; simp only [List.append_assoc])
  have e5 := ext_mid (p1 ++ [c2] ++ [c3] ++ p4) p5 (p6 ++ ([c7] ++ ([c8] ++ (p9 ++ (p10 ++ z))))) 12 16 (by simp [h1, h4]) (by omega) s (by rw [hs, hQ]; simp only [List.append_assoc])
  have e6 := ext_mid (p1 ++ [c2] ++ [c3] ++ p4 ++ p5) p6 ([c7] ++ ([c8] ++ (p9 ++ (p10 ++ z)))) 16 24 (by simp [h1, h4, h5]) (by omega) s (by rw [hs, hQ]; simp only [List.append_assoc])
  have e9 := ext_mid (p1 ++ [c2] ++ [c3] ++ p4 ++ p5 ++ p6 ++ [c7] ++ [c8]) p9 (p10 ++ z) 26 34 (by simp [h1, h4, h5, h6]) (by omega) s (by rw [hs, hQ]; simp only [List.append_assoc])
  have e10 := ext_mid (p1 ++ [c2] ++ [c3] ++ p4 ++ p5 ++ p6 ++ [c7] ++ [c8] ++ p9) p10 z 34 42 (by simp [h1, h4, h5, h6, h9]) (by omega) s (by rw [hs, hQ]; simp only [List.append_assoc])
  have eQ : (bs s).extract 0 42 = bs Q := by rw [bs_take, hs, List.take_append_of_le_length (by omega), List.take_of_length_le (by omega)]
  have gz : ∀ (k : Nat) (hk : k < z.length) (h : 42 + k < (bs s).size), (bs s)[42 + k]'h = z[k] := fun k hk h => by
    rw [bs_get _ _ h (by rw [hsl]; omega)]
    subst hs
    rw [List.getElem_append_right (by omega)]
    simp [hQl]
  obtain ⟨y4, hy4⟩ : ∃ n, numOf p4 = n := ⟨_, rfl⟩
  obtain ⟨y5, hy5⟩ : ∃ n, numOf p5 = n := ⟨_, rfl⟩
  obtain ⟨y6, hy6⟩ : ∃ n, numOf p6 = n := ⟨_, rfl⟩
  obtain ⟨y9, hy9⟩ : ∃ n, numOf p9 = n := ⟨_, rfl⟩
  obtain ⟨y10, hy10⟩ : ∃ n, numOf p10 = n := ⟨_, rfl⟩
  have N4 : Hid (∀ w, Calls Tryd.prog 29 #[.string (bs p4)] w fun en w' => en = .returned (.int .u64 y4) ∧ Below w.heap.size w w') := Lib.hid fun w => by rw [← hy4]; exact refnum_any p4 w (by omega)
  have N5 : Hid (∀ w, Calls Tryd.prog 29 #[.string (bs p5)] w fun en w' => en = .returned (.int .u64 y5) ∧ Below w.heap.size w w') := Lib.hid fun w => by rw [← hy5]; exact refnum_any p5 w (by omega)
  have N6 : Hid (∀ w, Calls Tryd.prog 29 #[.string (bs p6)] w fun en w' => en = .returned (.int .u64 y6) ∧ Below w.heap.size w w') := Lib.hid fun w => by rw [← hy6]; exact refnum_any p6 w (by omega)
  have N9 : Hid (∀ w, Calls Tryd.prog 29 #[.string (bs p9)] w fun en w' => en = .returned (.int .u64 y9) ∧ Below w.heap.size w w') := Lib.hid fun w => by rw [← hy9]; exact refnum_any p9 w (by omega)
  have N10 : Hid (∀ w, Calls Tryd.prog 29 #[.string (bs p10)] w fun en w' => en = .returned (.int .u64 y10) ∧ Below w.heap.size w w') := Lib.hid fun w => by rw [← hy10]; exact refnum_any p10 w (by omega)
  have w5 : IntKind.u32.wrap y5 = y5 := IntWalk.u32_in _ (by have h1 : 0 ≤ numOf p5 := hok.co.1; have h2 : numOf p5 < 4294967296 := hok.co.2; rw [← hy5]; exact ⟨h1, by omega⟩)
  obtain ⟨x2, hx2⟩ : ∃ n : Nat, c2.toNat = n := ⟨_, rfl⟩
  obtain ⟨x3, hx3⟩ : ∃ n : Nat, c3.toNat = n := ⟨_, rfl⟩
  obtain ⟨x7, hx7⟩ : ∃ n : Nat, c7.toNat = n := ⟨_, rfl⟩
  obtain ⟨x8, hx8⟩ : ∃ n : Nat, c8.toNat = n := ⟨_, rfl⟩
  have b3 : x3 < 256 := by rw [← hx3]; exact c3.toNat_lt
  obtain ⟨P1, hP1⟩ : ∃ X, decide ((x3 : Int) % 2 = 1) = X := ⟨_, rfl⟩
  obtain ⟨P2, hP2⟩ : ∃ X, decide ((x3 : Int) / 2 % 2 = 1) = X := ⟨_, rfl⟩
  obtain ⟨P4, hP4⟩ : ∃ X, decide ((x3 : Int) / 4 % 2 = 1) = X := ⟨_, rfl⟩
  have q1 : ((x3 : Int) % 2 == 1) = P1 := by rw [← hP1]; rfl
  have q2 : ((x3 : Int) / 2 % 2 == 1) = P2 := by rw [← hP2]; rfl
  have q4 : ((x3 : Int) / 4 % 2 == 1) = P4 := by rw [← hP4]; rfl
  obtain ⟨B, hB⟩ : ∃ B : Bp, (⟨y4, y5, y6, (x7 : Int), (x8 : Int), y9, (x2 : Int), P1, P2, P4, y10⟩ : Bp) = B := ⟨_, rfl⟩
  have hbp : bpP p4 p5 p6 p9 p10 c2 c3 c7 c8 = B := by unfold bpP; rw [hy4, hy5, hy6, hy9, hy10, hx2, hx3, hx7, hx8, hP1, hP2, hP4, hB]
  rw [hbp] at hR hok
  obtain ⟨M, hM⟩ : ∃ M, mayB B = M := ⟨_, rfl⟩
  obtain ⟨A, hA⟩ : ∃ A : Array Value, A = #[.int .u64 B.rt, .int .u32 B.co, .int .u64 B.br, .int .u8 B.po, .int .u8 B.ho, .int .u64 B.ve, .int .u8 B.ro, .bool B.pr, .bool B.ag, .bool B.tp, .int .u64 B.ec] := ⟨_, rfl⟩
  have MY : Hid (∀ w, Calls Tryd.prog 9 #[.agg A] w fun en w' => en = .returned (.bool M) ∧ Below w.heap.size w w') := Lib.hid fun w => by
    have h := refMay05_any B w hok
    rw [hM] at h; rw [hA]; exact h
  have BY : Hid (∀ w, Calls Tryd.prog 11 #[.agg A] w fun en w' => en = .returned (.string (bs (byB B))) ∧ Below w.heap.size w w') := Lib.hid (by rw [hA]; exact fun w => refBytes05_any B w hok)
  have HRR : Hid (R = if M = true ∧ z.all (· == 0) = true ∧ byB B = Q then (B, 0) else (bp0, 4)) := Lib.hid (by rw [← hR]; unfold refA; rw [hM])
  have hsA : A.size = 11 := by rw [hA]; rfl
  have o1 : A.all (·.oneCell') = true := by rw [hA]; simp [Value.oneCell']
  have HI : Hid ((Tryd.prog.info? 27).map (·.size) = some A.size) := Lib.hid (by rw [hsA]; kernel_rfl)
  have HIL : Hid ((Tryd.prog.info? 27).map (·.size) = some A.toList.length) := Lib.hid (by rw [Array.length_toList]; exact HI.out)
  have HS := Lib.hid hsA
  have O1 := Lib.hid o1
  have HA := Lib.hid hA
  have HB := Lib.hid hB
  have GZ := Lib.hid gz
  obtain ⟨n, hn⟩ : ∃ n, z.length = n := ⟨_, rfl⟩
  obtain ⟨S, hS, hsz, g2, g3, g24, g25, e4, e5, e6, e9, e10, eQ⟩ : ∃ S : ByteArray, bs s = S ∧ S.size = 42 + n ∧ (∀ h : 2 < S.size, S[2]'h = c2) ∧ (∀ h : 3 < S.size, S[3]'h = c3) ∧ (∀ h : 24 < S.size, S[24]'h = c7) ∧ (∀ h : 25 < S.size, S[25]'h = c8) ∧ S.extract 4 12 = bs p4 ∧ S.extract 12 16 = bs p5 ∧ S.extract 16 24 = bs p6 ∧ S.extract 26 34 = bs p9 ∧ S.extract 34 42 = bs p10 ∧ S.extract 0 42 = bs Q :=
    ⟨_, rfl, by rw [← hn]; exact hsz, g2, g3, g24, g25, e4, e5, e6, e9, e10, eQ⟩
  rw [hS] at GZ ⊢
  obtain ⟨zf, hz0, hzs, hzn⟩ := zf_of z S GZ.out
  rw [hn] at hzs hzn
  have HZS := Lib.hid hzs
  obtain ⟨Zb, hZb⟩ : ∃ Zb, z.all (· == 0) = Zb := ⟨_, rfl⟩
  rw [hZb] at hzn HRR
  have HZN := Lib.hid hzn
  have HZ0 := Lib.hid hz0
  clear hzs hzn hz0 hZb GZ
  have hn10 : n ≤ 10000 := by rw [← hn]; exact hzl
  have HN := Lib.hid hn
  have H42 := Lib.hid (show (42 : Int) ≤ 42 + (n : Int) by omega)
  have HX := Lib.hid (And.intro hx2 (And.intro hx3 (And.intro hx7 hx8)))
  have d0 : decide (((42 : Int) + (n : Int)) < 42) = false := decide_eq_false (by omega)
  have hst : ((bs (byB B)).toList == (bs Q).toList) = decide (byB B = Q) := bs_tl_eq _ _
  have hst2 : (bs (byB B) == bs Q) = decide (byB B = Q) := bs_beq _ _
  have HST := Lib.hid (And.intro hst hst2)
  clear hR hok hQl hsl hs hQ gz hy4 hy5 hy6 hy9 hy10 hbp hM hA hsA o1 hB hS hn hzl h1 h4 h5 h6 h9 h10 hP1 hP2 hP4 hst hst2
  go_enter Tryd.func13, Tryd.ntmps13
  go_upto_region 1 with fail
  have z0 := GB.new 27 w #[.int .u64 0, .int .u32 0, .int .u64 0, .int .u8 0, .int .u8 0, .int .u64 0, .int .u8 0, .bool false, .bool false, .bool false, .int .u64 0]
  have hb0 : Below w.heap.size w (w.alloc (.cells #[.int .u64 0, .int .u32 0, .int .u64 0, .int .u8 0, .int .u8 0, .int .u64 0, .int .u8 0, .bool false, .bool false, .bool false, .int .u64 0] 27)) := (Below.refl _ _).alloc (Nat.le_refl _) _
  obtain ⟨w0, hw0⟩ : ∃ k, w.alloc (.cells #[.int .u64 0, .int .u32 0, .int .u64 0, .int .u8 0, .int .u8 0, .int .u64 0, .int .u8 0, .bool false, .bool false, .bool false, .int .u64 0] 27) = k := ⟨_, rfl⟩
  rw [hw0] at z0 hb0 ⊢
  have Z0 := Lib.hid z0
  have HB0 := Lib.hid hb0
  clear hw0 z0 hb0
  go_upto_region 4 with fail
  have bb : Below w0.heap.size w0 (w0.alloc (.cells #[.int .u64 0, .int .u32 0, .int .u64 0, .int .u8 0, .int .u8 0, .int .u64 0, .int .u8 0, .bool false, .bool false, .bool false, .int .u64 0] 27)) := (Below.refl _ _).alloc (Nat.le_refl _) _
  have nb := BB.new 27 w0 bp0
  have z2 := Z0.out.later bb
  have b2 := HB0.out.trans (bb.mono HB0.out.size)
  have HQ := Lib.hid (show w.heap.size < w0.heap.size from Z0.out.lt)
  obtain ⟨q, hq⟩ : ∃ k, w0.heap.size = k := ⟨_, rfl⟩
  obtain ⟨w2, hw2⟩ : ∃ k, w0.alloc (.cells #[.int .u64 0, .int .u32 0, .int .u64 0, .int .u8 0, .int .u8 0, .int .u64 0, .int .u8 0, .bool false, .bool false, .bool false, .int .u64 0] 27) = k := ⟨_, rfl⟩
  have nb' : BB 27 w2 q bp0 := by rw [← hw2, ← hq]; exact nb
  rw [hw2] at z2 b2 ⊢
  rw [hq] at HQ ⊢
  have T2 : Hid (RT5 w w2 q bp0) := Lib.hid ⟨z2, nb', b2, HQ.out⟩
  obtain ⟨hx2, hx3, hx7, hx8⟩ := HX.out
  clear bb nb z2 b2 hw2 hq nb' Z0 HB0 HQ HX
  have c_ := T2.out.bb.c6
  have f_ := T2.out.bb.fr 6
  go_upto_region 5 with fail
  have nb : BB 27 (w2.setCell ⟨q, 6, none⟩ (.int .u8 (x2 : Int))) q ⟨0, 0, 0, 0, 0, 0, (x2 : Int), false, false, false, 0⟩ := T2.out.bb.s6 (x2 : Int)
  have T3 := Lib.hid (T2.out.put 6 _ nb)
  obtain ⟨w3, hw⟩ : ∃ k, w2.setCell ⟨q, 6, none⟩ (.int .u8 (x2 : Int)) = k := ⟨_, rfl⟩
  rw [hw] at T3 ⊢
  clear nb hw c_ f_ T2
  have c_ := T3.out.bb.c7
  have f_ := T3.out.bb.fr 7
  go_upto_region 6 with fail
  have nb : BB 27 (w3.setCell ⟨q, 7, none⟩ (.bool P1)) q ⟨0, 0, 0, 0, 0, 0, (x2 : Int), P1, false, false, 0⟩ := T3.out.bb.s7 P1
  have T4 := Lib.hid (T3.out.put 7 _ nb)
  obtain ⟨w4, hw⟩ : ∃ k, w3.setCell ⟨q, 7, none⟩ (.bool P1) = k := ⟨_, rfl⟩
  rw [hw] at T4 ⊢
  clear nb hw c_ f_ T3
  have c_ := T4.out.bb.c8
  have f_ := T4.out.bb.fr 8
  go_upto_region 7 with fail
  have nb : BB 27 (w4.setCell ⟨q, 8, none⟩ (.bool P2)) q ⟨0, 0, 0, 0, 0, 0, (x2 : Int), P1, P2, false, 0⟩ := T4.out.bb.s8 P2
  have T5 := Lib.hid (T4.out.put 8 _ nb)
  obtain ⟨w5, hw⟩ : ∃ k, w4.setCell ⟨q, 8, none⟩ (.bool P2) = k := ⟨_, rfl⟩
  rw [hw] at T5 ⊢
  clear nb hw c_ f_ T4
  have c_ := T5.out.bb.c9
  have f_ := T5.out.bb.fr 9
  go_upto_region 8 with fail
  have nb : BB 27 (w5.setCell ⟨q, 9, none⟩ (.bool P4)) q ⟨0, 0, 0, 0, 0, 0, (x2 : Int), P1, P2, P4, 0⟩ := T5.out.bb.s9 P4
  have T6 := Lib.hid (T5.out.put 9 _ nb)
  obtain ⟨w6, hw⟩ : ∃ k, w5.setCell ⟨q, 9, none⟩ (.bool P4) = k := ⟨_, rfl⟩
  rw [hw] at T6 ⊢
  clear nb hw c_ f_ T5
  go_wp2_with fail
  with_reducible refine (N4.out _).mono ?_
  rintro en w7 ⟨rfl, hb_⟩
  have T7 := Lib.hid (T6.out.later hb_)
  clear hb_ T6 N4
  have c_ := T7.out.bb.c0
  have f_ := T7.out.bb.fr 0
  go_upto_region 9 with fail
  have nb : BB 27 (w7.setCell ⟨q, 0, none⟩ (.int .u64 y4)) q ⟨y4, 0, 0, 0, 0, 0, (x2 : Int), P1, P2, P4, 0⟩ := T7.out.bb.s0 y4
  have T8 := Lib.hid (T7.out.put 0 _ nb)
  obtain ⟨w8, hw⟩ : ∃ k, w7.setCell ⟨q, 0, none⟩ (.int .u64 y4) = k := ⟨_, rfl⟩
  rw [hw] at T8 ⊢
  clear nb hw c_ f_ T7
  go_wp2_with fail
  with_reducible refine (N5.out _).mono ?_
  rintro en w9 ⟨rfl, hb_⟩
  have T9 := Lib.hid (T8.out.later hb_)
  clear hb_ T8 N5
  have c_ := T9.out.bb.c1
  have f_ := T9.out.bb.fr 1
  go_upto_region 10 with fail
  have nb : BB 27 (w9.setCell ⟨q, 1, none⟩ (.int .u32 y5)) q ⟨y4, y5, 0, 0, 0, 0, (x2 : Int), P1, P2, P4, 0⟩ := T9.out.bb.s1 y5
  have T10 := Lib.hid (T9.out.put 1 _ nb)
  obtain ⟨w10, hw⟩ : ∃ k, w9.setCell ⟨q, 1, none⟩ (.int .u32 y5) = k := ⟨_, rfl⟩
  rw [hw] at T10 ⊢
  clear nb hw c_ f_ T9
  go_wp2_with fail
  with_reducible refine (N6.out _).mono ?_
  rintro en w11 ⟨rfl, hb_⟩
  have T11 := Lib.hid (T10.out.later hb_)
  clear hb_ T10 N6
  have c_ := T11.out.bb.c2
  have f_ := T11.out.bb.fr 2
  go_upto_region 11 with fail
  have nb : BB 27 (w11.setCell ⟨q, 2, none⟩ (.int .u64 y6)) q ⟨y4, y5, y6, 0, 0, 0, (x2 : Int), P1, P2, P4, 0⟩ := T11.out.bb.s2 y6
  have T12 := Lib.hid (T11.out.put 2 _ nb)
  obtain ⟨w12, hw⟩ : ∃ k, w11.setCell ⟨q, 2, none⟩ (.int .u64 y6) = k := ⟨_, rfl⟩
  rw [hw] at T12 ⊢
  clear nb hw c_ f_ T11
  have c_ := T12.out.bb.c3
  have f_ := T12.out.bb.fr 3
  go_upto_region 12 with fail
  have nb : BB 27 (w12.setCell ⟨q, 3, none⟩ (.int .u8 (x7 : Int))) q ⟨y4, y5, y6, (x7 : Int), 0, 0, (x2 : Int), P1, P2, P4, 0⟩ := T12.out.bb.s3 (x7 : Int)
  have T13 := Lib.hid (T12.out.put 3 _ nb)
  obtain ⟨w13, hw⟩ : ∃ k, w12.setCell ⟨q, 3, none⟩ (.int .u8 (x7 : Int)) = k := ⟨_, rfl⟩
  rw [hw] at T13 ⊢
  clear nb hw c_ f_ T12
  have c_ := T13.out.bb.c4
  have f_ := T13.out.bb.fr 4
  go_upto_region 13 with fail
  have nb : BB 27 (w13.setCell ⟨q, 4, none⟩ (.int .u8 (x8 : Int))) q ⟨y4, y5, y6, (x7 : Int), (x8 : Int), 0, (x2 : Int), P1, P2, P4, 0⟩ := T13.out.bb.s4 (x8 : Int)
  have T14 := Lib.hid (T13.out.put 4 _ nb)
  obtain ⟨w14, hw⟩ : ∃ k, w13.setCell ⟨q, 4, none⟩ (.int .u8 (x8 : Int)) = k := ⟨_, rfl⟩
  rw [hw] at T14 ⊢
  clear nb hw c_ f_ T13
  go_wp2_with fail
  with_reducible refine (N9.out _).mono ?_
  rintro en w15 ⟨rfl, hb_⟩
  have T15 := Lib.hid (T14.out.later hb_)
  clear hb_ T14 N9
  have c_ := T15.out.bb.c5
  have f_ := T15.out.bb.fr 5
  go_upto_region 14 with fail
  have nb : BB 27 (w15.setCell ⟨q, 5, none⟩ (.int .u64 y9)) q ⟨y4, y5, y6, (x7 : Int), (x8 : Int), y9, (x2 : Int), P1, P2, P4, 0⟩ := T15.out.bb.s5 y9
  have T16 := Lib.hid (T15.out.put 5 _ nb)
  obtain ⟨w16, hw⟩ : ∃ k, w15.setCell ⟨q, 5, none⟩ (.int .u64 y9) = k := ⟨_, rfl⟩
  rw [hw] at T16 ⊢
  clear nb hw c_ f_ T15
  go_wp2_with fail
  with_reducible refine (N10.out _).mono ?_
  rintro en w17 ⟨rfl, hb_⟩
  have T17 := Lib.hid (T16.out.later hb_)
  clear hb_ T16 N10
  have c_ := T17.out.bb.c10
  have f_ := T17.out.bb.fr 10
  go_upto_region 15 with fail
  have nb : BB 27 (w17.setCell ⟨q, 10, none⟩ (.int .u64 y10)) q ⟨y4, y5, y6, (x7 : Int), (x8 : Int), y9, (x2 : Int), P1, P2, P4, y10⟩ := T17.out.bb.s10 y10
  have T18 := Lib.hid (T17.out.put 10 _ nb)
  obtain ⟨w18, hw⟩ : ∃ k, w17.setCell ⟨q, 10, none⟩ (.int .u64 y10) = k := ⟨_, rfl⟩
  rw [hw] at T18 ⊢
  clear nb hw c_ f_ T17
  rw [HB.out] at T18
  clear g2 g3 g24 g25 e4 e5 e6 e9 e10 q1 q2 q4 hx2 hx3 hx7 hx8
  obtain ⟨W0, hW0⟩ : ∃ k, w18 = k := ⟨_, rfl⟩
  rw [hW0] at T18 ⊢
  clear hW0
  have T := T18
  clear T18
  go_wp2_with fail
  go_loop [5, 6] (fun t i => ∃ m : Nat, 42 ≤ m ∧ m ≤ 42 + n ∧ i = .int .i64 (m : Int) ∧ t = .bool (zf m)) (fun _ i => 42 + n - (intOf i).toNat)
  case atStart => exact ⟨42, by omega, by omega, rfl, by rw [HZ0.out]⟩
  case round =>
    obtain ⟨m, hm1, hm2, rfl, rfl⟩ := hrel
    by_cases hlt : m < 42 + n
    · have hms : m < S.size := by omega
      have zs := HZS.out m hms hm1 hlt
      cases hz : zf m
      · rw [hz] at zs
        go_wp2
        go_round
        case rel => exact ⟨m + 1, by omega, by omega, by go_num, by rw [zs]; rfl⟩
        case measure => simp [intOf]; omega
      · rw [hz] at zs
        obtain ⟨c, hc⟩ : ∃ c : Nat, S[m].toNat = c := ⟨_, rfl⟩
        rw [hc] at zs
        go_wp2
        go_round
        case rel => exact ⟨m + 1, by omega, by omega, by go_num, by rw [zs, Bool.true_and]; rfl⟩
        case measure => simp [intOf]; omega
    · obtain rfl : m = 42 + n := by omega
      rw [HZN.out]
      clear hm1 hm2 hlt
      cases M with
      | false =>
        go_wp2_with fail
        have T := Lib.hid T.out.drew
        refine wp_region_held_drew (S := fun W => W.rangeAt q 0 A.toList) (by kernel_rfl) (T.out.range HA.out) (fun hHeld => ?_)
        refine wpAnyH_take (i := 0) (v := .agg A.toList.toArray) rfl (by kernel_rfl) (by kernel_rfl) (by kernel_rfl) (fun _ _ _ h => h) (yieldsIf_load_mid (by rfl) 27 (.tmp 4) rfl q 0 rfl A.toList _ (fun w h => h) Tryd.underlying27 rfl HIL.out) (by assumption) ?_
        try simp only [Act.put, List.setIfInBounds_toArray, List.set_cons_zero, List.set_cons_succ, List.toArray_toList, List.getElem_toArray, List.getElem_cons_zero, List.getElem_cons_succ]
        refine wpAnyH_ready (rs := [1]) (by kernel_rfl) (by simp) (AllReadyH.cons rfl (fun K hK => ?_) AllReadyH.nil)
        (go_simp; go_at_call 9; (with_reducible refine (MY.out _).mono ?_); rintro en' wx1 ⟨rfl, ho_⟩; have T := Lib.hid (T.out.later ho_); clear ho_; refine hK.out _ _ (T.out.range HA.out) (fun hHeld => ?_); clear hK K; try simp only [Act.put, List.setIfInBounds_toArray, List.set_cons_zero, List.set_cons_succ, List.getElem_toArray, List.getElem_cons_zero, List.getElem_cons_succ])
        refine wpAnyH_take (i := 2) (v := ?_) rfl (by kernel_rfl) (by kernel_rfl) (by kernel_rfl) (fun _ _ _ h => h) (Or.inl ⟨by rfl, ?hy2⟩) (by assumption) ?_
        case hy2 => (intro w hSw; (try dsimp only at hSw); go_simp; try with_reducible rfl)
        try simp only [Act.put, List.setIfInBounds_toArray, List.set_cons_zero, List.set_cons_succ, List.getElem_toArray, List.getElem_cons_zero, List.getElem_cons_succ]
        refine wpAnyH_take (i := 3) (v := ?_) rfl (by kernel_rfl) (by kernel_rfl) (by kernel_rfl) (fun _ _ _ h => h) (Or.inl ⟨by rfl, ?hy3⟩) (by assumption) ?_
        case hy3 => (intro w hSw; (try dsimp only at hSw); go_simp; try with_reducible rfl)
        try simp only [Act.put, List.setIfInBounds_toArray, List.set_cons_zero, List.set_cons_succ, List.getElem_toArray, List.getElem_cons_zero, List.getElem_cons_succ]
        refine wpAnyH_take (i := 4) (v := undef) rfl (by kernel_rfl) (by kernel_rfl) (by kernel_rfl) (fun _ _ _ h => h) (Or.inr ⟨by rfl, rfl⟩) (by assumption) ?_
        try simp only [Act.put, List.setIfInBounds_toArray, List.set_cons_zero, List.set_cons_succ, List.getElem_toArray, List.getElem_cons_zero, List.getElem_cons_succ]
        refine wpAnyH_take (i := 5) (v := undef) rfl (by kernel_rfl) (by kernel_rfl) (by kernel_rfl) (fun _ _ _ h => h) (Or.inr ⟨by rfl, rfl⟩) (by assumption) ?_
        try simp only [Act.put, List.setIfInBounds_toArray, List.set_cons_zero, List.set_cons_succ, List.getElem_toArray, List.getElem_cons_zero, List.getElem_cons_succ]
        refine wpAnyH_take (i := 6) (v := ?_) rfl (by kernel_rfl) (by kernel_rfl) (by kernel_rfl) (fun _ _ _ h => h) (Or.inl ⟨by rfl, ?hy6⟩) (by assumption) ?_
        case hy6 => (intro w hSw; (try dsimp only at hSw); go_simp; try with_reducible rfl)
        try simp only [Act.put, List.setIfInBounds_toArray, List.set_cons_zero, List.set_cons_succ, List.getElem_toArray, List.getElem_cons_zero, List.getElem_cons_succ]
        refine wpAnyH_take (i := 7) (v := ?_) rfl (by kernel_rfl) (by kernel_rfl) (by kernel_rfl) (fun _ _ _ h => h) (Or.inl ⟨by rfl, ?hy7⟩) (by assumption) ?_
        case hy7 => (intro w hSw; (try dsimp only at hSw); go_simp; try with_reducible rfl)
        try simp only [Act.put, List.setIfInBounds_toArray, List.set_cons_zero, List.set_cons_succ, List.getElem_toArray, List.getElem_cons_zero, List.getElem_cons_succ]
        refine wpAnyH_take (i := 8) (v := undef) rfl (by kernel_rfl) (by kernel_rfl) (by kernel_rfl) (fun _ _ _ h => h) (Or.inr ⟨by rfl, rfl⟩) (by assumption) ?_
        try simp only [Act.put, List.setIfInBounds_toArray, List.set_cons_zero, List.set_cons_succ, List.getElem_toArray, List.getElem_cons_zero, List.getElem_cons_succ]
        refine wpAnyH_take (i := 9) (v := undef) rfl (by kernel_rfl) (by kernel_rfl) (by kernel_rfl) (fun _ _ _ h => h) (Or.inr ⟨by rfl, rfl⟩) (by assumption) ?_
        try simp only [Act.put, List.setIfInBounds_toArray, List.set_cons_zero, List.set_cons_succ, List.getElem_toArray, List.getElem_cons_zero, List.getElem_cons_succ]
        refine wpAnyH_take (i := 10) (v := undef) rfl (by kernel_rfl) (by kernel_rfl) (by kernel_rfl) (fun _ _ _ h => h) (Or.inr ⟨by rfl, rfl⟩) (by assumption) ?_
        try simp only [Act.put, List.setIfInBounds_toArray, List.set_cons_zero, List.set_cons_succ, List.getElem_toArray, List.getElem_cons_zero, List.getElem_cons_succ]
        refine wpAnyH_take (i := 11) (v := undef) rfl (by kernel_rfl) (by kernel_rfl) (by kernel_rfl) (fun _ _ _ h => h) (Or.inr ⟨by rfl, rfl⟩) (by assumption) ?_
        try simp only [Act.put, List.setIfInBounds_toArray, List.set_cons_zero, List.set_cons_succ, List.getElem_toArray, List.getElem_cons_zero, List.getElem_cons_succ]
        refine wpAnyH_take (i := 12) (v := undef) rfl (by kernel_rfl) (by kernel_rfl) (by kernel_rfl) (fun _ _ _ h => h) (Or.inr ⟨by rfl, rfl⟩) (by assumption) ?_
        try simp only [Act.put, List.setIfInBounds_toArray, List.set_cons_zero, List.set_cons_succ, List.getElem_toArray, List.getElem_cons_zero, List.getElem_cons_succ]
        refine wpAnyH_take (i := 13) (v := ?_) rfl (by kernel_rfl) (by kernel_rfl) (by kernel_rfl) (fun _ _ _ h => h) (Or.inl ⟨by rfl, ?hy13⟩) (by assumption) ?_
        case hy13 => (intro w hSw; (try dsimp only at hSw); go_simp; try with_reducible rfl)
        try simp only [Act.put, List.setIfInBounds_toArray, List.set_cons_zero, List.set_cons_succ, List.getElem_toArray, List.getElem_cons_zero, List.getElem_cons_succ]
        refine wpAnyH_done (by kernel_rfl) ?_ _
        have HR0 : Hid (R = (bp0, 4)) := Lib.hid (by rw [HRR.out, if_neg (by simp)])
        obtain ⟨AZ, hAZ⟩ : ∃ A : Array Value, A = #[.int .u64 0, .int .u32 0, .int .u64 0, .int .u8 0, .int .u8 0, .int .u64 0, .int .u8 0, .bool false, .bool false, .bool false, .int .u64 0] := ⟨_, rfl⟩
        have hs : AZ.size = 11 := by rw [hAZ]; rfl
        have oz : AZ.all (·.oneCell') = true := by rw [hAZ]; simp [Value.oneCell']
        have IZ : Hid ((Tryd.prog.info? 27).map (·.size) = some AZ.size) := Lib.hid (by rw [hs]; kernel_rfl)
        have TH := Lib.hid (T.out.z.there (n := AZ.size) (by rw [hs]; exact Nat.le_refl _))
        have G1 := Lib.hid (T.out.z.store (A := AZ) (by rw [hs]; rfl) oz)
        have OZ := Lib.hid oz
        have HAZ := Lib.hid hAZ
        clear hAZ hs oz
        go_wp2_with ((with_reducible refine wpList_store_mid rfl 27 (.tmp 2) (.tmp 89) rfl w.heap.size 0 AZ ?hx ?hy TH.out IZ.out OZ.out ?_); (case hx => rfl); (case hy => (rw [HAZ.out]; rfl)))
        exact bodyPost_ret (v := .tuple #[.agg AZ, .int .i64 4]) (res_two (d := _) rfl rfl Tryd.underlying27 _ _ w.heap.size _ rfl G1.out IZ.out) rfl ⟨by rw [HAZ.out, HR0.out]; rfl, below_cellsG (Nat.le_refl _) _ _ _ T.out.bel⟩
      | true =>
        cases Zb with
        | false =>
          go_wp2_with fail
          have T := Lib.hid T.out.drew
          refine wp_region_held_drew (S := fun W => W.rangeAt q 0 A.toList) (by kernel_rfl) (T.out.range HA.out) (fun hHeld => ?_)
          refine wpAnyH_take (i := 0) (v := .agg A.toList.toArray) rfl (by kernel_rfl) (by kernel_rfl) (by kernel_rfl) (fun _ _ _ h => h) (yieldsIf_load_mid (by rfl) 27 (.tmp 4) rfl q 0 rfl A.toList _ (fun w h => h) Tryd.underlying27 rfl HIL.out) (by assumption) ?_
          try simp only [Act.put, List.setIfInBounds_toArray, List.set_cons_zero, List.set_cons_succ, List.toArray_toList, List.getElem_toArray, List.getElem_cons_zero, List.getElem_cons_succ]
          refine wpAnyH_ready (rs := [1]) (by kernel_rfl) (by simp) (AllReadyH.cons rfl (fun K hK => ?_) AllReadyH.nil)
          (go_simp; go_at_call 9; (with_reducible refine (MY.out _).mono ?_); rintro en' wx1 ⟨rfl, ho_⟩; have T := Lib.hid (T.out.later ho_); clear ho_; refine hK.out _ _ (T.out.range HA.out) (fun hHeld => ?_); clear hK K; try simp only [Act.put, List.setIfInBounds_toArray, List.set_cons_zero, List.set_cons_succ, List.getElem_toArray, List.getElem_cons_zero, List.getElem_cons_succ])
          refine wpAnyH_take (i := 2) (v := ?_) rfl (by kernel_rfl) (by kernel_rfl) (by kernel_rfl) (fun _ _ _ h => h) (Or.inl ⟨by rfl, ?hy2⟩) (by assumption) ?_
          case hy2 => (intro w hSw; (try dsimp only at hSw); go_simp; try with_reducible rfl)
          try simp only [Act.put, List.setIfInBounds_toArray, List.set_cons_zero, List.set_cons_succ, List.getElem_toArray, List.getElem_cons_zero, List.getElem_cons_succ]
          refine wpAnyH_take (i := 3) (v := ?_) rfl (by kernel_rfl) (by kernel_rfl) (by kernel_rfl) (fun _ _ _ h => h) (Or.inl ⟨by rfl, ?hy3⟩) (by assumption) ?_
          case hy3 => (intro w hSw; (try dsimp only at hSw); go_simp; try with_reducible rfl)
          try simp only [Act.put, List.setIfInBounds_toArray, List.set_cons_zero, List.set_cons_succ, List.getElem_toArray, List.getElem_cons_zero, List.getElem_cons_succ]
          refine wpAnyH_take (i := 4) (v := ?_) rfl (by kernel_rfl) (by kernel_rfl) (by kernel_rfl) (fun _ _ _ h => h) (Or.inl ⟨by rfl, ?hy4⟩) (by assumption) ?_
          case hy4 => (intro w hSw; (try dsimp only at hSw); go_simp; try with_reducible rfl)
          try simp only [Act.put, List.setIfInBounds_toArray, List.set_cons_zero, List.set_cons_succ, List.getElem_toArray, List.getElem_cons_zero, List.getElem_cons_succ]
          refine wpAnyH_take (i := 5) (v := ?_) rfl (by kernel_rfl) (by kernel_rfl) (by kernel_rfl) (fun _ _ _ h => h) (Or.inl ⟨by rfl, ?hy5⟩) (by assumption) ?_
          case hy5 => (intro w hSw; (try dsimp only at hSw); go_simp; try with_reducible rfl)
          try simp only [Act.put, List.setIfInBounds_toArray, List.set_cons_zero, List.set_cons_succ, List.getElem_toArray, List.getElem_cons_zero, List.getElem_cons_succ]
          refine wpAnyH_take (i := 6) (v := ?_) rfl (by kernel_rfl) (by kernel_rfl) (by kernel_rfl) (fun _ _ _ h => h) (Or.inl ⟨by rfl, ?hy6⟩) (by assumption) ?_
          case hy6 => (intro w hSw; (try dsimp only at hSw); go_simp; try with_reducible rfl)
          try simp only [Act.put, List.setIfInBounds_toArray, List.set_cons_zero, List.set_cons_succ, List.getElem_toArray, List.getElem_cons_zero, List.getElem_cons_succ]
          refine wpAnyH_take (i := 7) (v := ?_) rfl (by kernel_rfl) (by kernel_rfl) (by kernel_rfl) (fun _ _ _ h => h) (Or.inl ⟨by rfl, ?hy7⟩) (by assumption) ?_
          case hy7 => (intro w hSw; (try dsimp only at hSw); go_simp; try with_reducible rfl)
          try simp only [Act.put, List.setIfInBounds_toArray, List.set_cons_zero, List.set_cons_succ, List.getElem_toArray, List.getElem_cons_zero, List.getElem_cons_succ]
          refine wpAnyH_take (i := 8) (v := undef) rfl (by kernel_rfl) (by kernel_rfl) (by kernel_rfl) (fun _ _ _ h => h) (Or.inr ⟨by rfl, rfl⟩) (by assumption) ?_
          try simp only [Act.put, List.setIfInBounds_toArray, List.set_cons_zero, List.set_cons_succ, List.getElem_toArray, List.getElem_cons_zero, List.getElem_cons_succ]
          refine wpAnyH_take (i := 9) (v := undef) rfl (by kernel_rfl) (by kernel_rfl) (by kernel_rfl) (fun _ _ _ h => h) (Or.inr ⟨by rfl, rfl⟩) (by assumption) ?_
          try simp only [Act.put, List.setIfInBounds_toArray, List.set_cons_zero, List.set_cons_succ, List.getElem_toArray, List.getElem_cons_zero, List.getElem_cons_succ]
          refine wpAnyH_take (i := 10) (v := undef) rfl (by kernel_rfl) (by kernel_rfl) (by kernel_rfl) (fun _ _ _ h => h) (Or.inr ⟨by rfl, rfl⟩) (by assumption) ?_
          try simp only [Act.put, List.setIfInBounds_toArray, List.set_cons_zero, List.set_cons_succ, List.getElem_toArray, List.getElem_cons_zero, List.getElem_cons_succ]
          refine wpAnyH_take (i := 11) (v := undef) rfl (by kernel_rfl) (by kernel_rfl) (by kernel_rfl) (fun _ _ _ h => h) (Or.inr ⟨by rfl, rfl⟩) (by assumption) ?_
          try simp only [Act.put, List.setIfInBounds_toArray, List.set_cons_zero, List.set_cons_succ, List.getElem_toArray, List.getElem_cons_zero, List.getElem_cons_succ]
          refine wpAnyH_take (i := 12) (v := undef) rfl (by kernel_rfl) (by kernel_rfl) (by kernel_rfl) (fun _ _ _ h => h) (Or.inr ⟨by rfl, rfl⟩) (by assumption) ?_
          try simp only [Act.put, List.setIfInBounds_toArray, List.set_cons_zero, List.set_cons_succ, List.getElem_toArray, List.getElem_cons_zero, List.getElem_cons_succ]
          refine wpAnyH_take (i := 13) (v := ?_) rfl (by kernel_rfl) (by kernel_rfl) (by kernel_rfl) (fun _ _ _ h => h) (Or.inl ⟨by rfl, ?hy13⟩) (by assumption) ?_
          case hy13 => (intro w hSw; (try dsimp only at hSw); go_simp; try with_reducible rfl)
          try simp only [Act.put, List.setIfInBounds_toArray, List.set_cons_zero, List.set_cons_succ, List.getElem_toArray, List.getElem_cons_zero, List.getElem_cons_succ]
          refine wpAnyH_done (by kernel_rfl) ?_ _
          have HR0 : Hid (R = (bp0, 4)) := Lib.hid (by rw [HRR.out, if_neg (by simp)])
          obtain ⟨AZ, hAZ⟩ : ∃ A : Array Value, A = #[.int .u64 0, .int .u32 0, .int .u64 0, .int .u8 0, .int .u8 0, .int .u64 0, .int .u8 0, .bool false, .bool false, .bool false, .int .u64 0] := ⟨_, rfl⟩
          have hs : AZ.size = 11 := by rw [hAZ]; rfl
          have oz : AZ.all (·.oneCell') = true := by rw [hAZ]; simp [Value.oneCell']
          have IZ : Hid ((Tryd.prog.info? 27).map (·.size) = some AZ.size) := Lib.hid (by rw [hs]; kernel_rfl)
          have TH := Lib.hid (T.out.z.there (n := AZ.size) (by rw [hs]; exact Nat.le_refl _))
          have G1 := Lib.hid (T.out.z.store (A := AZ) (by rw [hs]; rfl) oz)
          have OZ := Lib.hid oz
          have HAZ := Lib.hid hAZ
          clear hAZ hs oz
          go_wp2_with ((with_reducible refine wpList_store_mid rfl 27 (.tmp 2) (.tmp 89) rfl w.heap.size 0 AZ ?hx ?hy TH.out IZ.out OZ.out ?_); (case hx => rfl); (case hy => (rw [HAZ.out]; rfl)))
          exact bodyPost_ret (v := .tuple #[.agg AZ, .int .i64 4]) (res_two (d := _) rfl rfl Tryd.underlying27 _ _ w.heap.size _ rfl G1.out IZ.out) rfl ⟨by rw [HAZ.out, HR0.out]; rfl, below_cellsG (Nat.le_refl _) _ _ _ T.out.bel⟩
        | true =>
          obtain ⟨E, hE⟩ : ∃ E, decide (byB B = Q) = E := ⟨_, rfl⟩
          have st1 := HST.out.1
          have st2 := HST.out.2
          rw [hE] at st1 st2
          go_wp2_with fail
          have T := Lib.hid T.out.drew
          refine wp_region_held_drew (S := fun W => W.rangeAt q 0 A.toList) (by kernel_rfl) (T.out.range HA.out) (fun hHeld => ?_)
          refine wpAnyH_take (i := 0) (v := .agg A.toList.toArray) rfl (by kernel_rfl) (by kernel_rfl) (by kernel_rfl) (fun _ _ _ h => h) (yieldsIf_load_mid (by rfl) 27 (.tmp 4) rfl q 0 rfl A.toList _ (fun w h => h) Tryd.underlying27 rfl HIL.out) (by assumption) ?_
          try simp only [Act.put, List.setIfInBounds_toArray, List.set_cons_zero, List.set_cons_succ, List.toArray_toList, List.getElem_toArray, List.getElem_cons_zero, List.getElem_cons_succ]
          refine wpAnyH_ready (rs := [1]) (by kernel_rfl) (by simp) (AllReadyH.cons rfl (fun K hK => ?_) AllReadyH.nil)
          (go_simp; go_at_call 9; (with_reducible refine (MY.out _).mono ?_); rintro en' wx1 ⟨rfl, ho_⟩; have T := Lib.hid (T.out.later ho_); clear ho_; refine hK.out _ _ (T.out.range HA.out) (fun hHeld => ?_); clear hK K; try simp only [Act.put, List.setIfInBounds_toArray, List.set_cons_zero, List.set_cons_succ, List.getElem_toArray, List.getElem_cons_zero, List.getElem_cons_succ])
          refine wpAnyH_take (i := 2) (v := ?_) rfl (by kernel_rfl) (by kernel_rfl) (by kernel_rfl) (fun _ _ _ h => h) (Or.inl ⟨by rfl, ?hy2⟩) (by assumption) ?_
          case hy2 => (intro w hSw; (try dsimp only at hSw); go_simp; try with_reducible rfl)
          try simp only [Act.put, List.setIfInBounds_toArray, List.set_cons_zero, List.set_cons_succ, List.getElem_toArray, List.getElem_cons_zero, List.getElem_cons_succ]
          refine wpAnyH_take (i := 3) (v := ?_) rfl (by kernel_rfl) (by kernel_rfl) (by kernel_rfl) (fun _ _ _ h => h) (Or.inl ⟨by rfl, ?hy3⟩) (by assumption) ?_
          case hy3 => (intro w hSw; (try dsimp only at hSw); go_simp; try with_reducible rfl)
          try simp only [Act.put, List.setIfInBounds_toArray, List.set_cons_zero, List.set_cons_succ, List.getElem_toArray, List.getElem_cons_zero, List.getElem_cons_succ]
          refine wpAnyH_take (i := 4) (v := ?_) rfl (by kernel_rfl) (by kernel_rfl) (by kernel_rfl) (fun _ _ _ h => h) (Or.inl ⟨by rfl, ?hy4⟩) (by assumption) ?_
          case hy4 => (intro w hSw; (try dsimp only at hSw); go_simp; try with_reducible rfl)
          try simp only [Act.put, List.setIfInBounds_toArray, List.set_cons_zero, List.set_cons_succ, List.getElem_toArray, List.getElem_cons_zero, List.getElem_cons_succ]
          refine wpAnyH_take (i := 5) (v := ?_) rfl (by kernel_rfl) (by kernel_rfl) (by kernel_rfl) (fun _ _ _ h => h) (Or.inl ⟨by rfl, ?hy5⟩) (by assumption) ?_
          case hy5 => (intro w hSw; (try dsimp only at hSw); go_simp; try with_reducible rfl)
          try simp only [Act.put, List.setIfInBounds_toArray, List.set_cons_zero, List.set_cons_succ, List.getElem_toArray, List.getElem_cons_zero, List.getElem_cons_succ]
          refine wpAnyH_take (i := 6) (v := ?_) rfl (by kernel_rfl) (by kernel_rfl) (by kernel_rfl) (fun _ _ _ h => h) (Or.inl ⟨by rfl, ?hy6⟩) (by assumption) ?_
          case hy6 => (intro w hSw; (try dsimp only at hSw); go_simp; try with_reducible rfl)
          try simp only [Act.put, List.setIfInBounds_toArray, List.set_cons_zero, List.set_cons_succ, List.getElem_toArray, List.getElem_cons_zero, List.getElem_cons_succ]
          refine wpAnyH_take (i := 7) (v := ?_) rfl (by kernel_rfl) (by kernel_rfl) (by kernel_rfl) (fun _ _ _ h => h) (Or.inl ⟨by rfl, ?hy7⟩) (by assumption) ?_
          case hy7 => (intro w hSw; (try dsimp only at hSw); go_simp; try with_reducible rfl)
          try simp only [Act.put, List.setIfInBounds_toArray, List.set_cons_zero, List.set_cons_succ, List.getElem_toArray, List.getElem_cons_zero, List.getElem_cons_succ]
          refine wpAnyH_take (i := 8) (v := .agg A.toList.toArray) rfl (by kernel_rfl) (by kernel_rfl) (by kernel_rfl) (fun _ _ _ h => h) (yieldsIf_load_mid (by rfl) 27 (.tmp 4) rfl q 0 rfl A.toList _ (fun w h => h) Tryd.underlying27 rfl HIL.out) (by assumption) ?_
          try simp only [Act.put, List.setIfInBounds_toArray, List.set_cons_zero, List.set_cons_succ, List.toArray_toList, List.getElem_toArray, List.getElem_cons_zero, List.getElem_cons_succ]
          refine wpAnyH_take (i := 10) (v := ?_) rfl (by kernel_rfl) (by kernel_rfl) (by kernel_rfl) (fun _ _ _ h => h) (Or.inl ⟨by rfl, ?hy10⟩) (by assumption) ?_
          case hy10 => (intro w hSw; (try dsimp only at hSw); go_simp; try with_reducible rfl)
          try simp only [Act.put, List.setIfInBounds_toArray, List.set_cons_zero, List.set_cons_succ, List.getElem_toArray, List.getElem_cons_zero, List.getElem_cons_succ]
          refine wpAnyH_take (i := 11) (v := ?_) rfl (by kernel_rfl) (by kernel_rfl) (by kernel_rfl) (fun _ _ _ h => h) (Or.inl ⟨by rfl, ?hy11⟩) (by assumption) ?_
          case hy11 => (intro w hSw; (try dsimp only at hSw); go_simp; (try rw [if_pos H42.out]); try with_reducible rfl)
          try simp only [Act.put, List.setIfInBounds_toArray, List.set_cons_zero, List.set_cons_succ, List.getElem_toArray, List.getElem_cons_zero, List.getElem_cons_succ]
          refine wpAnyH_ready (rs := [9]) (by kernel_rfl) (by simp) (AllReadyH.cons rfl (fun K hK => ?_) AllReadyH.nil)
          (go_simp; go_at_call 11; (with_reducible refine (BY.out _).mono ?_); rintro en' wx9 ⟨rfl, ho_⟩; have T := Lib.hid (T.out.later ho_); clear ho_; refine hK.out _ _ (T.out.range HA.out) (fun hHeld => ?_); clear hK K; try simp only [Act.put, List.setIfInBounds_toArray, List.set_cons_zero, List.set_cons_succ, List.getElem_toArray, List.getElem_cons_zero, List.getElem_cons_succ])
          refine wpAnyH_take (i := 12) (v := ?_) rfl (by kernel_rfl) (by kernel_rfl) (by kernel_rfl) (fun _ _ _ h => h) (Or.inl ⟨by rfl, ?hy12⟩) (by assumption) ?_
          case hy12 => (intro w hSw; (try dsimp only at hSw); go_simp; try with_reducible rfl)
          try simp only [Act.put, List.setIfInBounds_toArray, List.set_cons_zero, List.set_cons_succ, List.getElem_toArray, List.getElem_cons_zero, List.getElem_cons_succ]
          refine wpAnyH_take (i := 13) (v := ?_) rfl (by kernel_rfl) (by kernel_rfl) (by kernel_rfl) (fun _ _ _ h => h) (Or.inl ⟨by rfl, ?hy13⟩) (by assumption) ?_
          case hy13 => (intro w hSw; (try dsimp only at hSw); go_simp; try with_reducible rfl)
          try simp only [Act.put, List.setIfInBounds_toArray, List.set_cons_zero, List.set_cons_succ, List.getElem_toArray, List.getElem_cons_zero, List.getElem_cons_succ]
          refine wpAnyH_done (by kernel_rfl) ?_ _
          cases E with
          | false =>
            have HR0 : Hid (R = (bp0, 4)) := Lib.hid (by rw [HRR.out, if_neg (by simp only [not_and]; intro _ _; exact of_decide_eq_false hE)])
            obtain ⟨AZ, hAZ⟩ : ∃ A : Array Value, A = #[.int .u64 0, .int .u32 0, .int .u64 0, .int .u8 0, .int .u8 0, .int .u64 0, .int .u8 0, .bool false, .bool false, .bool false, .int .u64 0] := ⟨_, rfl⟩
            have hs : AZ.size = 11 := by rw [hAZ]; rfl
            have oz : AZ.all (·.oneCell') = true := by rw [hAZ]; simp [Value.oneCell']
            have IZ : Hid ((Tryd.prog.info? 27).map (·.size) = some AZ.size) := Lib.hid (by rw [hs]; kernel_rfl)
            have TH := Lib.hid (T.out.z.there (n := AZ.size) (by rw [hs]; exact Nat.le_refl _))
            have G1 := Lib.hid (T.out.z.store (A := AZ) (by rw [hs]; rfl) oz)
            have OZ := Lib.hid oz
            have HAZ := Lib.hid hAZ
            clear hAZ hs oz
            go_wp2_with ((with_reducible refine wpList_store_mid rfl 27 (.tmp 2) (.tmp 89) rfl w.heap.size 0 AZ ?hx ?hy TH.out IZ.out OZ.out ?_); (case hx => rfl); (case hy => (rw [HAZ.out]; rfl)))
            exact bodyPost_ret (v := .tuple #[.agg AZ, .int .i64 4]) (res_two (d := _) rfl rfl Tryd.underlying27 _ _ w.heap.size _ rfl G1.out IZ.out) rfl ⟨by rw [HAZ.out, HR0.out]; rfl, below_cellsG (Nat.le_refl _) _ _ _ T.out.bel⟩
          | true =>
            have HR0 : Hid (R = (B, 0)) := Lib.hid (by rw [HRR.out, if_pos ⟨by trivial, by trivial, of_decide_eq_true hE⟩])
            have TH := Lib.hid (T.out.z.there (n := A.size) (by rw [HS.out]; exact Nat.le_refl _))
            have G1 := Lib.hid (T.out.z.store (A := A) (by rw [HS.out]; rfl) O1.out)
            have HG := Lib.hid (show _ from T.out.range HA.out)
            go_wp2_with (first | ((with_reducible refine wpList_load_mid rfl 27 (.tmp 4) rfl q 0 ?hx A.toList _ HG.out Tryd.underlying27 ?hu HIL.out ?_); (case hx => rfl); (case hu => rfl)) | ((with_reducible refine wpList_store_mid rfl 27 (.tmp 2) (.tmp 90) rfl w.heap.size 0 A ?hx ?hy TH.out HI.out O1.out ?_); (case hx => rfl); (case hy => rfl)))
            exact bodyPost_ret (v := .tuple #[.agg A, .int .i64 0]) (res_two (d := _) rfl rfl Tryd.underlying27 _ _ w.heap.size _ rfl G1.out HI.out) rfl ⟨by rw [HA.out, HR0.out], below_cellsG (Nat.le_refl _) _ _ _ T.out.bel⟩
end Go.Proofs.YtecoomkpkdapdaaDoor
