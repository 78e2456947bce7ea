/- ZP48: the texts SC as one. -/
import Derived.Test.YtlkdfofpnmpidaaGreatZP25
import Derived.Test.YtlkdfofpnmpidaaGreatZP47
/- SC: the texts S15, S16, S17, S18 as one. -/
/- law18: rows of acts, of checks that were heard; great; same. -/
set_option linter.unusedVariables false
set_option linter.unusedSimpArgs false
namespace Go.Proofs.YtlkdfofpnmpidaaGreat
open Go.RowKit

/-- A check. -/
structure Ck where
  lv : Int
  rd : Bool
  iv : Int
  sq : Int
  me : Int
  md : List UInt8
def ckC (c : Ck) : List Value := [.int .u8 c.lv, .bool c.rd, .int .u8 c.iv, .int .u32 c.sq, .int .u16 c.me, .string (bs c.md)]
/-- An act; a check that was heard, behind so many ticks. -/
structure Ak where
  dq : Int
  c : Ck
structure Hd where
  at' : Int
  c : Ck
def akC (x : Ak) : List Value := .int .u8 x.dq :: ckC x.c
def hdC (x : Hd) : List Value := .int .i64 x.at' :: ckC x.c
theorem akC_len (x : Ak) : (akC x).length = 7 := rfl
theorem hdC_len (x : Hd) : (hdC x).length = 7 := rfl
def Ak.Ok (x : Ak) : Prop := (0 ≤ x.dq ∧ x.dq < 256) ∧ CkA x.c.lv x.c.iv x.c.sq x.c.me x.c.md
/-- Is a text of theirs too great? -/
def grA (l : List Ak) : Bool := l.any fun x => decide (100 < x.c.md.length)
def grB (a : Ow8) (ks : List Int) (l : List Ak) : Bool := decide (150 < l.length) || (decide (20 < ks.length) || (decide (100 < a.md.length) || grA l))
end Go.Proofs.YtlkdfofpnmpidaaGreat

/- ref18: May. -/
set_option linter.unusedVariables false
set_option linter.unusedSimpArgs false
namespace Go.Proofs.YtlkdfofpnmpidaaGreat
open Go.RowKit

/-- Is one of the others one that may be? -/
def okX (a : Ow8) (pre : List Int) (k : Int) : Bool := !decide (k < 1) && (!decide (8191 < k) && (!(k == a.mp) && !pre.contains k))
def okL (a : Ow8) : List Int → List Int → Bool
  | _, [] => true
  | pre, k :: r => okX a pre k && okL a (pre ++ [k]) r
def mayR (a : Ow8) (ks : List Int) : Bool := !decide (8 < ks.length) && (mayC a.lv a.iv a.mp a.md && okL a [] ks)
theorem _root_.Go.RowKit.Below.drewN2 {B : Nat} {w w' : World} {n : Nat} (h : Below B w w') : Below B w (w'.drewN n) := ⟨h.os, h.tape, h.output, h.size, h.block⟩
set_option maxRecDepth 100000 in
set_option maxHeartbeats 16000000 in
theorem may18_any (a : Ow8) (ha : a.Ok) (sv : Value) (ks : List Int) (w : World) (hK : Rw 1 u1 w sv ks) (hkl : ks.length ≤ 1000) : Calls Tryz.prog 30 #[.agg (ow8A a), sv] w fun en w' => en = .returned (.bool (mayR a ks)) ∧ Below w.heap.size w w' := by
  obtain ⟨sa, sc, rfl, hsh⟩ := hK.shape
  have HSH := Lib.hid hsh
  obtain ⟨K, hKK⟩ : ∃ K, mayC a.lv a.iv a.mp a.md = K := ⟨_, rfl⟩
  have MY : Hid (∀ w, Calls Tryz.prog 74 #[.agg #[.int .u8 a.lv, .bool false, .int .u8 a.iv, .int .u32 0, .int .u16 a.mp, .string (bs a.md)]] w fun en w' => en = .returned (.bool K) ∧ Below w.heap.size w w') := Lib.hid fun w => by
    rw [← hKK]; exact refMay13_any a.lv false a.iv 0 a.mp a.md w ha.md
  obtain ⟨L, hL⟩ : ∃ L, ks.length = L := ⟨_, rfl⟩
  obtain ⟨R, hR⟩ : ∃ R, mayR a ks = R := ⟨_, rfl⟩
  have HR : Hid (R = (!decide (8 < L) && (K && okL a [] ks))) := Lib.hid (by rw [← hR, ← hKK, ← hL]; rfl)
  have HL := Lib.hid hL
  have hL1 : L ≤ 1000 := by omega
  rw [hL, hR]
  clear hK hsh hKK hL hR hkl ha
  unfold ow8A
  go_enter Tryz.func30, Tryz.ntmps30
  go_upto_region 1 with fail
  have g0 : GB 97 (w.alloc (.cells #[.int .u8 a.lv, .int .u16 a.mp, .int .u8 a.iv, .string (bs a.md)] 97)) w.heap.size (ow8A a) := heap_alloc_new _ _
  have b0 : Below w.heap.size w (w.alloc (.cells #[.int .u8 a.lv, .int .u16 a.mp, .int .u8 a.iv, .string (bs a.md)] 97)) := (Below.refl _ _).alloc (Nat.le_refl _) _
  obtain ⟨w0, hw0⟩ : ∃ k, w.alloc (.cells #[.int .u8 a.lv, .int .u16 a.mp, .int .u8 a.iv, .string (bs a.md)] 97) = k := ⟨_, rfl⟩
  rw [hw0] at g0 b0 ⊢
  have B0 := Lib.hid b0
  have G0 := Lib.hid g0
  have c0 : w0.cell? ⟨w.heap.size, 0, none⟩ = some (.int .u8 a.lv) := g0.c 0 _ rfl
  have c1 : w0.cell? ⟨w.heap.size, 1, none⟩ = some (.int .u16 a.mp) := g0.c 1 _ rfl
  have c2 : w0.cell? ⟨w.heap.size, 2, none⟩ = some (.int .u8 a.iv) := g0.c 2 _ rfl
  have c3 : w0.cell? ⟨w.heap.size, 3, none⟩ = some (.string (bs a.md)) := g0.c 3 _ rfl
  clear hw0 g0 b0
  by_cases h8 : 8 < L
  · have d8 : decide ((8 : Int) < (L : Int)) = true := decide_eq_true (by omega)
    have HZ : Hid (R = false) := Lib.hid (by rw [HR.out, decide_eq_true h8]; rfl)
    go_wp2
    go_ret
    exact ⟨by rw [HZ.out]; rfl, B0.out⟩
  have d8 : decide ((8 : Int) < (L : Int)) = false := decide_eq_false (by omega)
  have HR2 : Hid (R = (K && okL a [] ks)) := Lib.hid (by rw [HR.out, decide_eq_false h8]; rfl)
  have hL8 : L ≤ 8 := by omega
  clear h8 HR
  cases K
  · have HZ : Hid (R = false) := Lib.hid (by rw [HR2.out]; rfl)
    go_wp2_with (go_at_call 74; with_reducible refine (MY.out _).mono ?_; rintro en w1 ⟨rfl, hb1⟩)
    go_ret
    exact ⟨by rw [HZ.out]; rfl, B0.out.trans (hb1.mono B0.out.size)⟩
  have HR3 : Hid (R = okL a [] ks) := Lib.hid (by rw [HR2.out]; rfl)
  clear HR2
  go_wp2_with (go_at_call 74; with_reducible refine (MY.out _).mono ?_; rintro en w1 ⟨rfl, hb1⟩)
  have B1 := Lib.hid (B0.out.trans (hb1.mono B0.out.size))
  have G1 := Lib.hid (G0.out.later hb1)
  clear hb1 B0 G0 c0 c1 c2 c3 MY
  go_loopw [5, 6] (fun i _ wr => ∃ j : Nat, j ≤ L ∧ i = .int .i64 j ∧ Hid (Below w1.heap.size w1 wr) ∧ Hid (R = okL a (ks.take j) (ks.drop j))) (fun i _ _ => L - (intOf i).toNat)
  case atStart => exact ⟨0, Nat.zero_le _, rfl, Lib.hid (Below.refl _ _), Lib.hid (by rw [List.take_zero, List.drop_zero]; exact HR3.out)⟩
  case round =>
    obtain ⟨j, hj, rfl, HBW, HJ⟩ := hrel
    have hjb : (j : Int) < 1000 := by omega
    by_cases hlt : j < L
    rotate_left
    · obtain rfl : j = L := by omega
      have dk : decide ((j : Int) < (j : Int)) = false := decide_eq_false (by omega)
      have HZ : Hid (R = true) := Lib.hid (by rw [HJ.out, List.drop_of_length_le (by rw [HL.out]; exact Nat.le_refl _)]; rfl)
      clear hlt hj
      go_wp2
      go_ret
      exact ⟨by rw [HZ.out]; rfl, B1.out.trans (HBW.out.mono B1.out.size)⟩
    have dk : decide ((j : Int) < (L : Int)) = true := decide_eq_true (by omega)
    obtain ⟨b, off, rfl, hcc⟩ := HSH.out.resolve_left (by intro h; have := HL.out; rw [h] at this; simp at this; omega)
    have cell : Hid (∀ t (ht : t < ks.length) W, Below w1.heap.size w1 W → W.cell? ⟨b, off + t, none⟩ = some (.int .u16 ks[t])) := Lib.hid fun t ht W hW => by
      have h1 : w.cell? ⟨b, off + t, none⟩ = some (.int .u16 ks[t]) := by
        have := hcc t ht 0 (by decide)
        simp only [Nat.mul_one, Nat.add_zero] at this
        rw [this]; rfl
      exact ((B1.out.trans (hW.mono B1.out.size)).cell (World.block_lt_of_cell? w _ h1)).trans h1
    have hjl : j < ks.length := by rw [HL.out]; exact hlt
    obtain ⟨x, hx⟩ : ∃ x, ks[j] = x := ⟨_, rfl⟩
    have HXE : Hid (∀ t (ht : t < ks.length), t = j → ks[t] = x) := Lib.hid (by intro t ht e; subst e; exact hx)
    have cx : wr.cell? ⟨b, off + j, none⟩ = some (.int .u16 x) := by rw [← hx]; exact cell.out j hjl wr HBW.out
    have cm : wr.cell? ⟨w.heap.size, 1, none⟩ = some (.int .u16 a.mp) := (G1.out.later HBW.out).c 1 _ rfl
    have HJ2 : Hid (R = (okX a (ks.take j) x && okL a (ks.take (j + 1)) (ks.drop (j + 1)))) := Lib.hid (by
      have e : ks.take (j + 1) = ks.take j ++ [x] := by rw [List.take_add_one, List.getElem?_eq_getElem hjl, hx]; rfl
      rw [HJ.out, List.drop_eq_getElem_cons hjl, hx, e]; rfl)
    have HJL := Lib.hid hjl
    clear hcc hx HJ hjl
    by_cases h1 : x < 1
    · have e1 : decide (x < 1) = true := decide_eq_true h1
      have HZ : Hid (R = false) := Lib.hid (by rw [HJ2.out]; unfold okX; rw [e1]; rfl)
      clear h1
      go_upto_region 6 with fail
      go_quiet (fail)
      go_wp2
      go_ret
      exact ⟨by rw [HZ.out]; rfl, (B1.out.trans (HBW.out.mono B1.out.size)).drewN2⟩
    have e1 : decide (x < 1) = false := decide_eq_false h1
    by_cases h2 : 8191 < x
    · have e2 : decide (8191 < x) = true := decide_eq_true h2
      have HZ : Hid (R = false) := Lib.hid (by rw [HJ2.out]; unfold okX; rw [e1, e2]; rfl)
      clear h1 h2
      go_upto_region 6 with fail
      go_quiet (fail)
      go_wp2
      go_ret
      exact ⟨by rw [HZ.out]; rfl, (B1.out.trans (HBW.out.mono B1.out.size)).drewN2⟩
    have e2 : decide (8191 < x) = false := decide_eq_false h2
    by_cases h3 : x = a.mp
    · have e3 : (x == a.mp) = true := by rw [h3]; simp
      have HZ : Hid (R = false) := Lib.hid (by rw [HJ2.out]; unfold okX; rw [e1, e2, e3]; rfl)
      clear h1 h2 h3
      go_upto_region 6 with fail
      go_quiet (fail)
      go_wp2
      go_ret
      exact ⟨by rw [HZ.out]; rfl, (B1.out.trans (HBW.out.mono B1.out.size)).drewN2⟩
    have e3 : (x == a.mp) = false := by rw [beq_eq_false_iff_ne]; exact h3
    have HJ3 : Hid (R = (!(ks.take j).contains x && okL a (ks.take (j + 1)) (ks.drop (j + 1)))) := Lib.hid (by rw [HJ2.out]; unfold okX; rw [e1, e2, e3]; rfl)
    clear h1 h2 h3 HJ2
    go_upto_region 6 with fail
    go_quiet (fail)
    go_wp2_with fail
    have cm2 : True := trivial
    clear cx cm e1 e2 e3
    go_loopw [6] (fun k wx => ∃ t : Nat, t ≤ j ∧ k = .int .i64 t ∧ Hid (Below w1.heap.size w1 wx) ∧ Hid ((ks.take t).contains x = false)) (fun k _ => j - (intOf k).toNat)
    case atStart => exact ⟨0, Nat.zero_le _, rfl, Lib.hid HBW.out.drewN2, Lib.hid (by simp)⟩
    case round =>
      obtain ⟨t, ht, rfl, HBX, HT⟩ := hrel
      have htb : (t : Int) < 1000 := by omega
      by_cases hlt2 : t < j
      rotate_left
      · obtain rfl : t = j := by omega
        have dk2 : decide ((t : Int) < (t : Int)) = false := decide_eq_false (by omega)
        have HZ : Hid (R = okL a (ks.take (t + 1)) (ks.drop (t + 1))) := Lib.hid (by rw [HJ3.out, HT.out]; rfl)
        clear hlt2 ht HT HJ3
        go_wp2
        exact ⟨⟨t + 1, by omega, by go_num, HBX, HZ⟩, by simp [intOf]; omega⟩
      · have dk2 : decide ((t : Int) < (j : Int)) = true := decide_eq_true (by omega)
        have htl : t < ks.length := by have := HL.out; omega
        obtain ⟨y, hy⟩ : ∃ y, ks[t] = y := ⟨_, rfl⟩
        have cy : wr.cell? ⟨b, off + t, none⟩ = some (.int .u16 y) := by rw [← hy]; exact cell.out t htl wr HBX.out
        have cx2 : wr.cell? ⟨b, off + j, none⟩ = some (.int .u16 x) := by
          have hjl : j < ks.length := by have := HL.out; omega
          rw [← HXE.out j hjl rfl]; exact cell.out j hjl wr HBX.out
        have HTE : Hid (ks.take (t + 1) = ks.take t ++ [y]) := Lib.hid (by rw [List.take_add_one, List.getElem?_eq_getElem htl, hy]; rfl)
        clear hy htl
        by_cases he : y = x
        · have e1 : (y == x) = true := by rw [he]; simp
          have HZ : Hid (R = false) := Lib.hid (by
            have h1 : (ks.take j).contains x = true := by
              have h2 : x ∈ ks.take (t + 1) := by rw [HTE.out, he]; simp
              exact List.contains_iff_mem.2 (List.take_subset_take_left ks (by omega) h2)
            rw [HJ3.out, h1]; rfl)
          clear he
          go_upto_region 11 with fail
          go_quiet (fail)
          go_wp2
          go_ret
          exact ⟨by rw [HZ.out]; rfl, (B1.out.trans (HBX.out.mono B1.out.size)).drewN2⟩
        · have e1 : (y == x) = false := by rw [beq_eq_false_iff_ne]; exact he
          have HZ : Hid ((ks.take (t + 1)).contains x = false) := Lib.hid (by
            rw [HTE.out, List.contains_append, HT.out]
            simp
            exact fun h => he h.symm)
          clear he
          go_upto_region 11 with fail
          go_quiet (fail)
          go_wp2
          exact ⟨⟨t + 1, by omega, by go_num, Lib.hid HBX.out.drewN2, HZ⟩, by simp [intOf]; omega⟩
end Go.Proofs.YtlkdfofpnmpidaaGreat

/- ref18: Kind; law18: same. -/
set_option linter.unusedVariables false
set_option linter.unusedSimpArgs false
namespace Go.Proofs.YtlkdfofpnmpidaaGreat
open Go.RowKit

/-- What a check is: 0 nothing, 1 another one is there, 2 an error, 3 a cross connect. -/
def kindC (a : Ow8) (ks : List Int) (c : Ck) : Int :=
  if refC a c.lv c.iv c.me c.md = true then 0 else if c.lv < a.lv ∨ c.md ≠ a.md then 3 else if c.me ∈ ks ∧ c.iv = a.iv then 1 else 2
def ckA (c : Ck) : Array Value := #[.int .u8 c.lv, .bool c.rd, .int .u8 c.iv, .int .u32 c.sq, .int .u16 c.me, .string (bs c.md)]
set_option maxRecDepth 100000 in
set_option maxHeartbeats 16000000 in
theorem kindR_any (a : Ow8) (c : Ck) (hmd : c.md.length ≤ 1000) (sv : Value) (ks : List Int) (w : World) (hK : Rw 1 u1 w sv ks) (hkl : ks.length ≤ 1000) : Calls Tryz.prog 131 #[.agg (ow8A a), sv, .agg (ckA c)] w fun en w' => en = .returned (.int .i64 (kindC a ks c)) ∧ Below w.heap.size w w' := by
  obtain ⟨sa, sc, rfl, hsh⟩ := hK.shape
  have HSH := Lib.hid hsh
  obtain ⟨K, hKK⟩ : ∃ K, mayC c.lv c.iv c.me c.md = K := ⟨_, rfl⟩
  have MY : Hid (∀ w, Calls Tryz.prog 74 #[.agg (ckA c)] w fun en w' => en = .returned (.bool K) ∧ Below w.heap.size w w') := Lib.hid fun w => by
    rw [← hKK]; exact refMay13_any c.lv c.rd c.iv c.sq c.me c.md w hmd
  obtain ⟨L, hL⟩ : ∃ L, ks.length = L := ⟨_, rfl⟩
  obtain ⟨R, hR⟩ : ∃ R, kindC a ks c = R := ⟨_, rfl⟩
  have HR : Hid (R = if (!K || decide (a.lv < c.lv)) = true then 0 else if c.lv < a.lv ∨ c.md ≠ a.md then 3 else if c.me ∈ ks ∧ c.iv = a.iv then 1 else 2) := Lib.hid (by rw [← hR, ← hKK]; rfl)
  have HL := Lib.hid hL
  have hL1 : L ≤ 1000 := by omega
  rw [hL, hR]
  clear hK hsh hKK hL hR hkl hmd
  unfold ow8A ckA at *
  go_enter Tryz.func131, Tryz.ntmps131
  go_upto_region 1 with fail
  have g0 : GB 97 (w.alloc (.cells #[.int .u8 a.lv, .int .u16 a.mp, .int .u8 a.iv, .string (bs a.md)] 97)) w.heap.size (ow8A a) := heap_alloc_new _ _
  have b1 : Below (w.alloc (.cells #[.int .u8 a.lv, .int .u16 a.mp, .int .u8 a.iv, .string (bs a.md)] 97)).heap.size (w.alloc (.cells #[.int .u8 a.lv, .int .u16 a.mp, .int .u8 a.iv, .string (bs a.md)] 97)) ((w.alloc (.cells #[.int .u8 a.lv, .int .u16 a.mp, .int .u8 a.iv, .string (bs a.md)] 97)).alloc (.cells #[.int .u8 c.lv, .bool c.rd, .int .u8 c.iv, .int .u32 c.sq, .int .u16 c.me, .string (bs c.md)] 118)) := (Below.refl _ _).alloc (Nat.le_refl _) _
  have g1 := g0.later b1
  have g2 : CB 118 ((w.alloc (.cells #[.int .u8 a.lv, .int .u16 a.mp, .int .u8 a.iv, .string (bs a.md)] 97)).alloc (.cells #[.int .u8 c.lv, .bool c.rd, .int .u8 c.iv, .int .u32 c.sq, .int .u16 c.me, .string (bs c.md)] 118)) (w.heap.size + 1) c.lv c.rd c.iv c.sq c.me c.md := by
    have g := CB.new 118 (w.alloc (.cells #[.int .u8 a.lv, .int .u16 a.mp, .int .u8 a.iv, .string (bs a.md)] 97)) c.lv c.rd c.iv c.sq c.me c.md
    rw [World.size_alloc] at g; exact g
  have b2 : Below w.heap.size w ((w.alloc (.cells #[.int .u8 a.lv, .int .u16 a.mp, .int .u8 a.iv, .string (bs a.md)] 97)).alloc (.cells #[.int .u8 c.lv, .bool c.rd, .int .u8 c.iv, .int .u32 c.sq, .int .u16 c.me, .string (bs c.md)] 118)) := ((Below.refl _ _).alloc (Nat.le_refl _) _).alloc (by simp) _
  obtain ⟨w0, hw0⟩ : ∃ k, (w.alloc (.cells #[.int .u8 a.lv, .int .u16 a.mp, .int .u8 a.iv, .string (bs a.md)] 97)).alloc (.cells #[.int .u8 c.lv, .bool c.rd, .int .u8 c.iv, .int .u32 c.sq, .int .u16 c.me, .string (bs c.md)] 118) = k := ⟨_, rfl⟩
  rw [hw0] at g1 g2 b2 ⊢
  have HS := Lib.hid (And.intro g1 (And.intro g2 b2))
  clear hw0 g0 b1 g1 g2 b2
  have c0 := HS.out.2.1.c0
  have c1 := HS.out.2.1.c1
  have c2 := HS.out.2.1.c2
  have c3 := HS.out.2.1.c3
  have c4 := HS.out.2.1.c4
  have c5 := HS.out.2.1.c5
  go_wp2_with fail
  with_reducible refine (MY.out _).mono ?_
  rintro en w1 ⟨rfl, hb1⟩
  have S := Lib.hid (And.intro (HS.out.1.later hb1) (And.intro (HS.out.2.1.later hb1) (HS.out.2.2.trans (hb1.mono HS.out.2.2.size))))
  clear hb1 HS c0 c1 c2 c3 c4 c5 MY
  have c0 := S.out.2.1.c0
  have c2 := S.out.2.1.c2
  have c4 := S.out.2.1.c4
  have c5 := S.out.2.1.c5
  have k0 : w1.cell? ⟨w.heap.size, 0, none⟩ = some (.int .u8 a.lv) := S.out.1.c 0 _ rfl
  have k2 : w1.cell? ⟨w.heap.size, 2, none⟩ = some (.int .u8 a.iv) := S.out.1.c 2 _ rfl
  have k3 : w1.cell? ⟨w.heap.size, 3, none⟩ = some (.string (bs a.md)) := S.out.1.c 3 _ rfl
  cases K
  · have HZ : Hid (R = 0) := Lib.hid (by rw [HR.out]; rfl)
    go_wp2
    go_ret
    exact ⟨by rw [HZ.out]; rfl, S.out.2.2⟩
  by_cases h1 : a.lv < c.lv
  · have d1 : decide (a.lv < c.lv) = true := decide_eq_true h1
    have HZ : Hid (R = 0) := Lib.hid (by rw [HR.out, d1]; rfl)
    clear h1
    go_wp2
    go_ret
    exact ⟨by rw [HZ.out]; rfl, S.out.2.2⟩
  have d1 : decide (a.lv < c.lv) = false := decide_eq_false h1
  have HR2 : Hid (R = if c.lv < a.lv ∨ c.md ≠ a.md then 3 else if c.me ∈ ks ∧ c.iv = a.iv then 1 else 2) := Lib.hid (by rw [HR.out, d1]; rfl)
  clear HR
  by_cases h2 : c.lv < a.lv
  · have d2 : decide (c.lv < a.lv) = true := decide_eq_true h2
    have HZ : Hid (R = 3) := Lib.hid (by rw [HR2.out, if_pos (.inl h2)])
    clear h1 h2
    go_wp2
    go_ret
    exact ⟨by rw [HZ.out]; rfl, S.out.2.2⟩
  have d2 : decide (c.lv < a.lv) = false := decide_eq_false h2
  by_cases h3 : c.md = a.md
  rotate_left
  · have d3 : ((bs c.md).toList == (bs a.md).toList) = false := by rw [bs_tl, bs_tl, beq_eq_false_iff_ne]; exact h3
    have HZ : Hid (R = 3) := Lib.hid (by rw [HR2.out, if_pos (.inr h3)])
    clear h1 h2 h3
    go_wp2
    go_ret
    exact ⟨by rw [HZ.out]; rfl, S.out.2.2⟩
  have d3 : ((bs c.md).toList == (bs a.md).toList) = true := by rw [h3]; simp
  have HR3 : Hid (R = if c.me ∈ ks ∧ c.iv = a.iv then 1 else 2) := Lib.hid (by rw [HR2.out, if_neg]; rintro (h | h); exact h2 h; exact h h3)
  clear h1 h2 h3 HR2
  go_wp2_with fail
  clear c0 c2 c4 c5 k0 k2 k3 d1 d2 d3
  go_loopw [7] (fun i wr => ∃ j : Nat, j ≤ L ∧ i = .int .i64 j ∧ Hid (Below w1.heap.size w1 wr) ∧ Hid (c.me ∈ ks.take j → c.iv ≠ a.iv)) (fun i _ => L - (intOf i).toNat)
  case atStart => exact ⟨0, Nat.zero_le _, rfl, Lib.hid (Below.refl _ _), Lib.hid (by simp)⟩
  case round =>
    obtain ⟨j, hj, rfl, HBW, HJ⟩ := hrel
    have hjb : (j : Int) < 1001 := by omega
    by_cases hlt : j < L
    rotate_left
    · obtain rfl : j = L := by omega
      have dk : decide ((j : Int) < (j : Int)) = false := decide_eq_false (by omega)
      have HZ : Hid (R = 2) := Lib.hid (by
        rw [HR3.out, if_neg]
        rintro ⟨h1, h2⟩
        exact HJ.out (by rw [List.take_of_length_le (by rw [HL.out]; exact Nat.le_refl _)]; exact h1) h2)
      clear hlt hj
      go_wp2
      go_ret
      exact ⟨by rw [HZ.out]; rfl, S.out.2.2.trans (HBW.out.mono S.out.2.2.size)⟩
    have dk : decide ((j : Int) < (L : Int)) = true := decide_eq_true (by omega)
    obtain ⟨b, off, rfl, hcc⟩ := HSH.out.resolve_left (by intro h; have := HL.out; rw [h] at this; simp at this; omega)
    have hjl : j < ks.length := by rw [HL.out]; exact hlt
    obtain ⟨x, hx⟩ : ∃ x, ks[j] = x := ⟨_, rfl⟩
    have hxc : w.cell? ⟨b, off + j, none⟩ = some (.int .u16 x) := by
      have := hcc j hjl 0 (by decide)
      simp only [Nat.mul_one, Nat.add_zero] at this
      rw [this, ← hx]; rfl
    have cx : wr.cell? ⟨b, off + j, none⟩ = some (.int .u16 x) := ((S.out.2.2.trans (HBW.out.mono S.out.2.2.size)).cell (World.block_lt_of_cell? w _ hxc)).trans hxc
    have c2 := (S.out.2.1.later HBW.out).c2
    have c4 := (S.out.2.1.later HBW.out).c4
    have k2 : wr.cell? ⟨w.heap.size, 2, none⟩ = some (.int .u8 a.iv) := (S.out.1.later HBW.out).c 2 _ rfl
    have HTE : Hid (ks.take (j + 1) = ks.take j ++ [x]) := Lib.hid (by rw [List.take_add_one, List.getElem?_eq_getElem hjl, hx]; rfl)
    have HIN : Hid (x ∈ ks) := Lib.hid (by rw [← hx]; exact List.getElem_mem _)
    clear hcc hx hxc hjl
    by_cases h1 : x = c.me
    · have e1 : (x == c.me) = true := by rw [h1]; simp
      by_cases h2 : c.iv = a.iv
      · have e2 : (c.iv == a.iv) = true := by rw [h2]; simp
        have HZ : Hid (R = 1) := Lib.hid (by rw [HR3.out, if_pos ⟨by rw [← h1]; exact HIN.out, h2⟩])
        clear h1 h2
        go_upto_region 8 with fail
        go_quiet (fail)
        go_wp2
        go_ret
        exact ⟨by rw [HZ.out]; rfl, (S.out.2.2.trans (HBW.out.mono S.out.2.2.size)).drewN2⟩
      · have e2 : (c.iv == a.iv) = false := by rw [beq_eq_false_iff_ne]; exact h2
        have HZ : Hid (c.me ∈ ks.take (j + 1) → c.iv ≠ a.iv) := Lib.hid (fun _ => h2)
        clear h1 h2
        go_upto_region 8 with fail
        go_quiet (fail)
        go_wp2
        exact ⟨⟨j + 1, by omega, by go_num, Lib.hid HBW.out.drewN2, HZ⟩, by simp [intOf]; omega⟩
    · have e1 : (x == c.me) = false := by rw [beq_eq_false_iff_ne]; exact h1
      have HZ : Hid (c.me ∈ ks.take (j + 1) → c.iv ≠ a.iv) := Lib.hid (fun h => by
        rw [HTE.out, List.mem_append] at h
        rcases h with h | h
        · exact HJ.out h
        · exact absurd (List.mem_singleton.1 h).symm h1)
      clear h1
      go_upto_region 8 with fail
      go_quiet (fail)
      go_wp2
      exact ⟨⟨j + 1, by omega, by go_num, Lib.hid HBW.out.drewN2, HZ⟩, by simp [intOf]; omega⟩
end Go.Proofs.YtlkdfofpnmpidaaGreat

/- ref18: Left. -/
set_option linter.unusedVariables false
set_option linter.unusedSimpArgs false
namespace Go.Proofs.YtlkdfofpnmpidaaGreat
open Go.RowKit

/-- Is what was heard passed over? For how long it lasts yet. -/
def skipC (a : Ow8) (ks : List Int) (kd me : Int) (h : Hd) : Bool := (kindC a ks h.c != kd) || (kd == 1 && h.c.me != me)
def stepC (a : Ow8) (ks : List Int) (kd me now : Int) (m : Int) (h : Hd) : Int :=
  if skipC a ks kd me h = true then m else if m < lastC h.c.iv - (now - h.at') then lastC h.c.iv - (now - h.at') else m
def mostC (a : Ow8) (ks : List Int) (l : List Hd) (kd me now : Int) : Int := l.foldl (stepC a ks kd me now) 0
def leftC (a : Ow8) (ks : List Int) (l : List Hd) (kd me now : Int) : Int :=
  if kd = 1 ∧ mostC a ks l kd me now < lastC a.iv - now then lastC a.iv - now else mostC a ks l kd me now
structure Hd.Ok (h : Hd) : Prop where
  a : 0 ≤ h.at' ∧ h.at' ≤ 1000
  m : h.c.md.length ≤ 1000
  e : 0 ≤ h.c.me ∧ h.c.me < 65536
theorem lastC_b (n : Int) : 0 ≤ lastC n ∧ lastC n ≤ 35 := by unfold lastC; split <;> (try split) <;> omega
theorem stepC_b {a : Ow8} {ks : List Int} {kd me now m : Int} {h : Hd} (hm : 0 ≤ m ∧ m ≤ 2000) (hh : h.Ok) (hn : 0 ≤ now ∧ now ≤ 1000) : 0 ≤ stepC a ks kd me now m h ∧ stepC a ks kd me now m h ≤ 2000 := by
  have := lastC_b h.c.iv
  have := hh.a
  unfold stepC
  split
  · exact hm
  · split <;> omega
set_option maxRecDepth 100000 in
set_option maxHeartbeats 16000000 in
theorem left18_any (a : Ow8) (sv lv : Value) (ks : List Int) (l : List Hd) (kd me now : Int) (w : World) (hK : Rw 1 u1 w sv ks) (hkl : ks.length ≤ 1000) (hL : Rw 7 hdC w lv l) (hl : l.length ≤ 1000) (hok : ∀ h ∈ l, h.Ok) (hn : 0 ≤ now ∧ now ≤ 1000) :
    Calls Tryz.prog 116 #[.agg (ow8A a), sv, lv, .int .i64 kd, .int .u16 me, .int .i64 now] w fun en w' => en = .returned (.int .i64 (leftC a ks l kd me now)) ∧ Below w.heap.size w w' := by
  obtain ⟨la, lc, rfl, hsh⟩ := hL.shape
  have HSH := Lib.hid hsh
  have HK := Lib.hid hK
  have HOK := Lib.hid hok
  have HKL := Lib.hid hkl
  obtain ⟨R, hR⟩ : ∃ R, leftC a ks l kd me now = R := ⟨_, rfl⟩
  have HR := Lib.hid hR
  obtain ⟨L, hLL⟩ : ∃ L, l.length = L := ⟨_, rfl⟩
  have HL := Lib.hid hLL
  have hL1 : L ≤ 1000 := by omega
  obtain ⟨NA, hNA⟩ : ∃ N, lastC a.iv = N := ⟨_, rfl⟩
  have hNAb : 0 ≤ NA ∧ NA ≤ 35 := by rw [← hNA]; exact lastC_b _
  have LAS : Hid (∀ w, Calls Tryz.prog 136 #[.int .u8 a.iv] w fun en w' => en = .returned (.int .i64 NA) ∧ w' = w) := Lib.hid fun w => by rw [← hNA]; exact refLasts_any a.iv w
  have HNA := Lib.hid hNA
  rw [hLL, hR]
  clear hK hL hsh hR hkl hok hl hLL hNA
  unfold ow8A
  go_enter Tryz.func116, Tryz.ntmps116
  go_upto_region 1 with fail
  have g0 : GB 97 (w.alloc (.cells #[.int .u8 a.lv, .int .u16 a.mp, .int .u8 a.iv, .string (bs a.md)] 97)) w.heap.size (ow8A a) := heap_alloc_new _ _
  have b0 : Below w.heap.size w (w.alloc (.cells #[.int .u8 a.lv, .int .u16 a.mp, .int .u8 a.iv, .string (bs a.md)] 97)) := (Below.refl _ _).alloc (Nat.le_refl _) _
  obtain ⟨w0, hw0⟩ : ∃ k, w.alloc (.cells #[.int .u8 a.lv, .int .u16 a.mp, .int .u8 a.iv, .string (bs a.md)] 97) = k := ⟨_, rfl⟩
  rw [hw0] at g0 b0 ⊢
  have B0 := Lib.hid b0
  have G0 := Lib.hid g0
  clear hw0 g0 b0
  go_wp2_with fail
  go_loopw [13, 14, 15] (fun m i _ wr => ∃ (j : Nat) (M : Int), j ≤ L ∧ i = .int .i64 j ∧ m = .int .i64 M ∧ (0 ≤ M ∧ M ≤ 2000) ∧ Hid (mostC a ks l kd me now = (l.drop j).foldl (stepC a ks kd me now) M) ∧ Hid (Below w0.heap.size w0 wr)) (fun _ i _ _ => L - (intOf i).toNat)
  case atStart => exact ⟨0, 0, Nat.zero_le _, rfl, rfl, by omega, Lib.hid (by rw [List.drop_zero]; rfl), Lib.hid (Below.refl _ _)⟩
  case round =>
    obtain ⟨j, M, hj, rfl, rfl, hM, HJ, HBW⟩ := hrel
    have hjb : (j : Int) < 1001 := by omega
    by_cases hlt : j < L
    rotate_left
    · obtain rfl : j = L := by omega
      have dk : decide ((j : Int) < (j : Int)) = false := decide_eq_false (by omega)
      have HM2 : Hid (mostC a ks l kd me now = M) := Lib.hid (by rw [HJ.out, List.drop_of_length_le (by rw [HL.out]; exact Nat.le_refl _)]; rfl)
      have k2 : wr.cell? ⟨w.heap.size, 2, none⟩ = some (.int .u8 a.iv) := (G0.out.later HBW.out).c 2 _ rfl
      have HR2 : Hid (R = if kd = 1 ∧ M < NA - now then NA - now else M) := Lib.hid (by rw [← HR.out]; unfold leftC; rw [HM2.out, HNA.out])
      have HB := Lib.hid (B0.out.trans (HBW.out.mono B0.out.size))
      clear hlt hj HM2 HR HJ
      by_cases h1 : kd = 1
      · have e1 : (kd == 1) = true := by rw [h1]; rfl
        by_cases h2 : M < NA - now
        · have e2 : decide (M < NA - now) = true := decide_eq_true h2
          have HZ : Hid (R = NA - now) := Lib.hid (by rw [HR2.out, if_pos ⟨h1, h2⟩])
          clear h2
          go_wp2_with (go_at_call 136; with_reducible refine (LAS.out _).mono ?_; rintro en w' ⟨rfl, rfl⟩)
          go_ret
          exact ⟨by rw [HZ.out]; rfl, HB.out⟩
        · have e2 : decide (M < NA - now) = false := decide_eq_false h2
          have HZ : Hid (R = M) := Lib.hid (by rw [HR2.out, if_neg]; exact fun h => h2 h.2)
          clear h2
          go_wp2_with (go_at_call 136; with_reducible refine (LAS.out _).mono ?_; rintro en w' ⟨rfl, rfl⟩)
          go_ret
          exact ⟨by rw [HZ.out]; rfl, HB.out⟩
      · have e1 : (kd == 1) = false := by rw [beq_eq_false_iff_ne]; exact h1
        have HZ : Hid (R = M) := Lib.hid (by rw [HR2.out, if_neg]; exact fun h => h1 h.1)
        clear h1
        go_wp2
        go_ret
        exact ⟨by rw [HZ.out]; rfl, HB.out⟩
    have dk : decide ((j : Int) < (L : Int)) = true := decide_eq_true (by omega)
    obtain ⟨b, off, rfl, hcc⟩ := HSH.out.resolve_left (by intro h; have := HL.out; rw [h] at this; simp at this; omega)
    have hjl : j < l.length := by rw [HL.out]; exact hlt
    obtain ⟨x, hx⟩ : ∃ x, l[j] = x := ⟨_, rfl⟩
    have hxo : x.Ok := by rw [← hx]; exact HOK.out _ (List.getElem_mem _)
    have HXO := Lib.hid hxo
    have cellx : Hid (∀ i v, i < 7 → (hdC x)[i]? = some v → ∀ W, Below w0.heap.size w0 W → W.cell? ⟨b, off + j * 7 + i, none⟩ = some v) := Lib.hid fun i v hi hv W hW => by
      have h1 : w.cell? ⟨b, off + j * 7 + i, none⟩ = some v := by rw [hcc j hjl i hi, hx]; exact hv
      exact ((B0.out.trans (hW.mono B0.out.size)).cell (World.block_lt_of_cell? w _ h1)).trans h1
    have HJ2 : Hid (mostC a ks l kd me now = (l.drop (j + 1)).foldl (stepC a ks kd me now) (stepC a ks kd me now M x)) := Lib.hid (by
      rw [HJ.out, List.drop_eq_getElem_cons hjl, hx]; rfl)
    have LX : Hid (∀ (kk : Later wr), Below w0.heap.size w0 kk.out) := Lib.hid fun kk => HBW.out.trans (kk.h.mono HBW.out.size)
    clear hcc hjl hx HJ hxo
    obtain ⟨SK, hSK⟩ : ∃ z, skipC a ks kd me x = z := ⟨_, rfl⟩
    have HSK := Lib.hid hSK
    clear hSK
    go_upto_region 5 with fail
    go_cut [45] (fun s45 wx => s45 = .bool SK ∧ Hid (Below w0.heap.size w0 wx))
    case first =>
      obtain ⟨KD, hKD⟩ : ∃ z, kindC a ks x.c = z := ⟨_, rfl⟩
      have MB : ∀ kk : Later wr, Calls Tryz.prog 131 #[.agg #[.int .u8 a.lv, .int .u16 a.mp, .int .u8 a.iv, .string (bs a.md)], sv, .agg #[.int .u8 x.c.lv, .bool x.c.rd, .int .u8 x.c.iv, .int .u32 x.c.sq, .int .u16 x.c.me, .string (bs x.c.md)]] kk.out fun e w' => e = .returned (.int .i64 KD) ∧ Below kk.out.heap.size kk.out w' := fun kk => by
        rw [← hKD]
        exact kindR_any a x.c HXO.out.m sv ks kk.out (HK.out.later u1_len (B0.out.trans ((LX.out kk).mono B0.out.size))) HKL.out
      have k0 : ∀ kk : Later wr, kk.out.cell? ⟨w.heap.size, 0, none⟩ = some (.int .u8 a.lv) := fun kk => (G0.out.later (LX.out kk)).c 0 _ rfl
      have k1 : ∀ kk : Later wr, kk.out.cell? ⟨w.heap.size, 1, none⟩ = some (.int .u16 a.mp) := fun kk => (G0.out.later (LX.out kk)).c 1 _ rfl
      have k2 : ∀ kk : Later wr, kk.out.cell? ⟨w.heap.size, 2, none⟩ = some (.int .u8 a.iv) := fun kk => (G0.out.later (LX.out kk)).c 2 _ rfl
      have k3 : ∀ kk : Later wr, kk.out.cell? ⟨w.heap.size, 3, none⟩ = some (.string (bs a.md)) := fun kk => (G0.out.later (LX.out kk)).c 3 _ rfl
      have x1 : ∀ kk : Later wr, kk.out.cell? ⟨b, off + j * 7 + 1, none⟩ = some (.int .u8 x.c.lv) := fun kk => cellx.out 1 _ (by decide) rfl _ (LX.out kk)
      have x2 : ∀ kk : Later wr, kk.out.cell? ⟨b, off + j * 7 + 2, none⟩ = some (.bool x.c.rd) := fun kk => cellx.out 2 _ (by decide) rfl _ (LX.out kk)
      have x3 : ∀ kk : Later wr, kk.out.cell? ⟨b, off + j * 7 + 3, none⟩ = some (.int .u8 x.c.iv) := fun kk => cellx.out 3 _ (by decide) rfl _ (LX.out kk)
      have x4 : ∀ kk : Later wr, kk.out.cell? ⟨b, off + j * 7 + 4, none⟩ = some (.int .u32 x.c.sq) := fun kk => cellx.out 4 _ (by decide) rfl _ (LX.out kk)
      have x5 : ∀ kk : Later wr, kk.out.cell? ⟨b, off + j * 7 + 5, none⟩ = some (.int .u16 x.c.me) := fun kk => cellx.out 5 _ (by decide) rfl _ (LX.out kk)
      have x6 : ∀ kk : Later wr, kk.out.cell? ⟨b, off + j * 7 + 6, none⟩ = some (.string (bs x.c.md)) := fun kk => cellx.out 6 _ (by decide) rfl _ (LX.out kk)
      have hS : SK = ((KD != kd) || (kd == 1 && x.c.me != me)) := by rw [← HSK.out, ← hKD]; rfl
      clear hKD
      obtain ⟨E1, hE1⟩ : ∃ z, (KD != kd) = z := ⟨_, rfl⟩
      obtain ⟨E2, hE2⟩ : ∃ z, (kd == 1) = z := ⟨_, rfl⟩
      obtain ⟨E3, hE3⟩ : ∃ z, (x.c.me != me) = z := ⟨_, rfl⟩
      rw [hE1, hE2, hE3] at hS
      have HS := Lib.hid hS
      clear hS
      cases E1 <;> cases E2
      all_goals
        refine wp_region_later (by kernel_rfl) (by kernel_rfl) ?_
        repeat (go_big_quiet_step (first | (go_at_call 131; exact Calls.later (MB _))))
        refine wpQuiet_nil ?_
        rintro _ ⟨kk, rfl⟩
        go_wp2_with fail
        go_meet
        exact ⟨by rw [HS.out]; rfl, Lib.hid (LX.out kk)⟩
    case rest =>
      obtain ⟨rfl, HB5⟩ := hcut
      cases SK
      rotate_left
      · have HJ3 : Hid (mostC a ks l kd me now = (l.drop (j + 1)).foldl (stepC a ks kd me now) M) := Lib.hid (by rw [HJ2.out]; unfold stepC; rw [HSK.out]; rfl)
        go_wp2
        exact ⟨⟨j + 1, M, by omega, by go_num, rfl, hM, HJ3, HB5⟩, by simp [intOf]; omega⟩
      · obtain ⟨NX, hNX⟩ : ∃ z, lastC x.c.iv = z := ⟨_, rfl⟩
        have hNXb : 0 ≤ NX ∧ NX ≤ 35 := by rw [← hNX]; exact lastC_b _
        have HJ3 : Hid (mostC a ks l kd me now = (l.drop (j + 1)).foldl (stepC a ks kd me now) (if M < NX - (now - x.at') then NX - (now - x.at') else M)) := Lib.hid (by rw [HJ2.out]; unfold stepC; rw [HSK.out, hNX]; rfl)
        have LAX : Hid (∀ w, Calls Tryz.prog 136 #[.int .u8 x.c.iv] w fun en w' => en = .returned (.int .i64 NX) ∧ w' = w) := Lib.hid fun w => by rw [← hNX]; exact refLasts_any x.c.iv w
        have hxa := HXO.out.a
        clear hNX HJ2 HSK
        go_upto_region 6 with fail
        go_cut [15] (fun s15 wx => s15 = .int .i64 (NX - (now - x.at')) ∧ Hid (Below w0.heap.size w0 wx))
        case first =>
          have LX2 : Hid (∀ (kk : Later wc), Below w0.heap.size w0 kk.out) := Lib.hid fun kk => HB5.out.trans (kk.h.mono HB5.out.size)
          have MB : ∀ kk : Later wc, Calls Tryz.prog 136 #[.int .u8 x.c.iv] kk.out fun e w' => e = .returned (.int .i64 NX) ∧ kk.out = w' := fun kk => (LAX.out _).mono fun _ _ h => ⟨h.1, h.2.symm⟩
          have x0 : ∀ kk : Later wc, kk.out.cell? ⟨b, off + j * 7, none⟩ = some (.int .i64 x.at') := fun kk => cellx.out 0 _ (by decide) rfl _ (LX2.out kk)
          have x3 : ∀ kk : Later wc, kk.out.cell? ⟨b, off + j * 7 + 3, none⟩ = some (.int .u8 x.c.iv) := fun kk => cellx.out 3 _ (by decide) rfl _ (LX2.out kk)
          refine wp_region_later (by kernel_rfl) (by kernel_rfl) ?_
          repeat (go_big_quiet_step (first | (go_at_call 136; exact Calls.later_same (MB _))))
          refine wpQuiet_nil ?_
          rintro _ ⟨kk, rfl⟩
          go_wp2_with fail
          go_meet
          exact ⟨by first | rfl | go_num, Lib.hid (LX2.out kk)⟩
        case rest =>
          obtain ⟨rfl, HB6⟩ := hcut
          obtain ⟨Z, hZ⟩ : ∃ z, NX - (now - x.at') = z := ⟨_, rfl⟩
          have hZb : Z ≤ 2000 := by omega
          rw [hZ] at HJ3 ⊢
          clear hZ
          by_cases hm : M < Z
          · have e1 : decide (M < Z) = true := decide_eq_true hm
            have HJ4 : Hid (mostC a ks l kd me now = (l.drop (j + 1)).foldl (stepC a ks kd me now) Z) := Lib.hid (by rw [HJ3.out, if_pos hm])
            go_wp2
            exact ⟨⟨j + 1, Z, by omega, by go_num, rfl, by omega, HJ4, HB6⟩, by simp [intOf]; omega⟩
          · have e1 : decide (M < Z) = false := decide_eq_false hm
            have HJ4 : Hid (mostC a ks l kd me now = (l.drop (j + 1)).foldl (stepC a ks kd me now) M) := Lib.hid (by rw [HJ3.out, if_neg hm])
            go_wp2
            exact ⟨⟨j + 1, M, by omega, by go_num, rfl, hM, HJ4, HB6⟩, by simp [intOf]; omega⟩
end Go.Proofs.YtlkdfofpnmpidaaGreat
