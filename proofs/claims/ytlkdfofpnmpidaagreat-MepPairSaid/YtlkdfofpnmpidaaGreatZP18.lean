/- ZP18: the texts D1, S1, RW as one. -/
import Derived.Test.YtlkdfofpnmpidaaGreatZP12
import Derived.Test.YtlkdfofpnmpidaaGreatZP17
import Derived.Deep.RegionHeld3
import Derived.Test.YtlkdfofpnmpidaaGreatZP05
import Derived.Test.YtlkdfofpnmpidaaGreatZP06
import Derived.Test.YtlkdfofpnmpidaaGreatZP01
import Derived.Test.YtlkdfofpnmpidaaGreatZP02
import Derived.Deep.Slices
import Derived.Deep.Onto
import Derived.Laws.OwnMore
/- ccm: Put. -/
set_option linter.unusedVariables false
namespace Go.Proofs.YtlkdfofpnmpidaaGreat
open Go.RowKit

/-- A check's fixed part. -/
def fxC (sq me : Int) (m : List UInt8) : List UInt8 := be 4 sq ++ be 2 me ++ m ++ List.replicate 16 0
/-- A check's message: its numbers, its fixed part, the error. -/
def putC (lv : Int) (rd : Bool) (iv sq me : Int) (m : List UInt8) : Int × Int × Int × List UInt8 × Int :=
  if mayC lv iv me m = true then (lv, 1, iv + (if rd = true then 128 else 0), fxC sq me m, 0) else (0, 0, 0, [], 2)
theorem mayC_iv {lv iv me : Int} {m : List UInt8} (h : mayC lv iv me m = true) : iv = 4 ∨ iv = 5 := by
  unfold mayC at h
  simp only [Bool.and_eq_true, decide_eq_true_eq] at h
  exact (tick_pos iv).1 h.2.1
set_option maxRecDepth 100000 in
set_option maxHeartbeats 8000000 in
theorem ccput_any (xlv : Int) (xrd : Bool) (xiv xsq xme : Int) (xm : List UInt8) (w : World) (hm : xm.length ≤ 1000) (hsq : 0 ≤ xsq ∧ xsq < 4294967296) (hme : 0 ≤ xme ∧ xme < 65536) : Calls Tryz.prog 37 #[.agg #[.int .u8 xlv, .bool xrd, .int .u8 xiv, .int .u32 xsq, .int .u16 xme, .string (bs xm)]] w fun en w' =>
    en = .returned (.tuple #[.agg #[.int .u8 (putC xlv xrd xiv xsq xme xm).1, .int .u8 (putC xlv xrd xiv xsq xme xm).2.1, .int .u8 (putC xlv xrd xiv xsq xme xm).2.2.1, .string (bs (putC xlv xrd xiv xsq xme xm).2.2.2.1), .slice none 0 0], .int .i64 (putC xlv xrd xiv xsq xme xm).2.2.2.2]) ∧ Below w.heap.size w w' := by
  obtain ⟨R, hR⟩ : ∃ R, putC xlv xrd xiv xsq xme xm = R := ⟨_, rfl⟩
  rw [hR]
  obtain ⟨K, hK⟩ : ∃ K, mayC xlv xiv xme xm = K := ⟨_, rfl⟩
  have M1 : Hid (∀ w, Calls Tryz.prog 77 #[.agg #[.int .u8 xlv, .bool xrd, .int .u8 xiv, .int .u32 xsq, .int .u16 xme, .string (bs xm)]] w fun en w' => en = .returned (.bool K) ∧ Below w.heap.size w w') := by
    rw [← hK]; exact fun w => may13_any xlv xrd xiv xsq xme xm w hm
  have HR := Lib.hid hR
  have HK := Lib.hid hK
  have HM := Lib.hid hm
  have HSQ := Lib.hid hsq
  have HME := Lib.hid hme
  clear hR hK hm hsq hme
  go_enter Tryz.func37, Tryz.ntmps37
  go_upto_region 1 with fail
  have cb0 := (CB.new 107 w xlv xrd xiv xsq xme xm).later ((Below.refl _ _).alloc (Nat.le_refl _) (.cells #[.int .u8 0, .int .u8 0, .int .u8 0, .string { data := #[] }, .slice none 0 0] 103))
  have pz : PB 103 ((w.alloc (.cells #[.int .u8 xlv, .bool xrd, .int .u8 xiv, .int .u32 xsq, .int .u16 xme, .string (bs xm)] 107)).alloc (.cells #[.int .u8 0, .int .u8 0, .int .u8 0, .string { data := #[] }, .slice none 0 0] 103)) (w.heap.size + 1) 0 0 0 [] (.slice none 0 0) := by
    have := PB.new 103 (w.alloc (.cells #[.int .u8 xlv, .bool xrd, .int .u8 xiv, .int .u32 xsq, .int .u16 xme, .string (bs xm)] 107)) 0 0 0 [] (.slice none 0 0)
    rw [show (w.alloc (.cells #[.int .u8 xlv, .bool xrd, .int .u8 xiv, .int .u32 xsq, .int .u16 xme, .string (bs xm)] 107)).heap.size = w.heap.size + 1 by simp] at this
    exact this
  have hb0 : Below w.heap.size w ((w.alloc (.cells #[.int .u8 xlv, .bool xrd, .int .u8 xiv, .int .u32 xsq, .int .u16 xme, .string (bs xm)] 107)).alloc (.cells #[.int .u8 0, .int .u8 0, .int .u8 0, .string { data := #[] }, .slice none 0 0] 103)) := ((Below.refl _ _).alloc (Nat.le_refl _) _).alloc (by simp) _
  obtain ⟨w0, hw0⟩ : ∃ k, (w.alloc (.cells #[.int .u8 xlv, .bool xrd, .int .u8 xiv, .int .u32 xsq, .int .u16 xme, .string (bs xm)] 107)).alloc (.cells #[.int .u8 0, .int .u8 0, .int .u8 0, .string { data := #[] }, .slice none 0 0] 103) = k := ⟨_, rfl⟩
  rw [hw0] at cb0 pz hb0 ⊢
  have c0 := cb0.c0
  have c1 := cb0.c1
  have c2 := cb0.c2
  have c3 := cb0.c3
  have c4 := cb0.c4
  have c5 := cb0.c5
  have CB0 := Lib.hid cb0
  have PZ0 := Lib.hid pz
  have HB0 := Lib.hid hb0
  clear hw0 cb0 pz hb0
  go_wp2_with fail
  with_reducible refine (M1.out _).mono ?_
  rintro en w1 ⟨rfl, hb1⟩
  have CB1 := Lib.hid (CB0.out.later hb1)
  have PZ1 := Lib.hid (PZ0.out.later hb1)
  have HB1 := Lib.hid (HB0.out.trans (hb1.mono HB0.out.size))
  clear hb1 CB0 PZ0 HB0 c0 c1 c2 c3 c4 c5 M1
  cases K with
  | false =>
    have hRR : R = (0, 0, 0, [], 2) := by rw [← HR.out]; unfold putC; rw [HK.out]; rfl
    have HRR := Lib.hid hRR
    clear hRR
    have z0 := PZ1.out.c0
    have z1 := PZ1.out.c1
    have z2 := PZ1.out.c2
    have z3 := PZ1.out.c3
    have z4 := PZ1.out.c4
    have y0 := PZ1.out.fr 0
    have y1 := PZ1.out.fr 1
    have y2 := PZ1.out.fr 2
    have y3 := PZ1.out.fr 3
    have y4 := PZ1.out.fr 4
    go_wp2_with fail
    refine bodyPost_ret (v := .tuple #[.agg #[.int .u8 0, .int .u8 0, .int .u8 0, .string (bs []), .slice none 0 0], .int .i64 2]) (by simp [results, Tryz.results37, go_sem, z0, z1, z2, z3, z4]; rfl) rfl ⟨by rw [HRR.out], below_set (below_set (below_set (below_set (below_set HB1.out (by omega) _) (by omega) _) (by omega) _) (by omega) _) (by omega) _⟩
  | true =>
  obtain ⟨C, hC⟩ : ∃ C : Int, xiv + (if xrd = true then 128 else 0) = C := ⟨_, rfl⟩
  have hRR : R = (xlv, 1, C, fxC xsq xme xm, 0) := by rw [← HR.out, ← hC]; unfold putC; rw [HK.out, if_pos rfl]
  have HRR := Lib.hid hRR
  have hiv := mayC_iv HK.out
  have c1 := CB1.out.c1
  have c2 := CB1.out.c2
  clear hRR
  go_upto_if 13 with fail
  go_cut [4] (fun s4 wx => s4 = .int .u8 C ∧ wx = w1)
  case first =>
    have o4 : bits .or .u8 4 128 = 132 := by decide
    have o5 : bits .or .u8 5 128 = 133 := by decide
    cases xrd with
    | true =>
      rcases hiv with rfl | rfl
      all_goals
        go_wp2_with fail
        go_meet
        exact ⟨by rw [← hC]; rfl, rfl⟩
    | false =>
      rcases hiv with rfl | rfl
      all_goals
        go_wp2_with fail
        go_meet
        exact ⟨by rw [← hC]; rfl, rfl⟩
  obtain ⟨rfl, hwc⟩ := hcut
  rw [hwc]
  clear hwc hC hiv c1 c2
  go_upto_region 6 with fail
  have c3 := CB1.out.c3
  have c4 := CB1.out.c4
  have c3d : w1.drew.cell? ⟨w.heap.size, 3, none⟩ = some (.int .u32 xsq) := c3
  have c4d : w1.drew.cell? ⟨w.heap.size, 4, none⟩ = some (.int .u16 xme) := c4
  have hlt : w.heap.size < w1.heap.size := CB1.out.lt
  have A1 : Hid (Calls Tryz.prog 79 #[.slice none 0 0, .int .u32 xsq] w1.drew fun e w' => ∃ v', e = .returned v' ∧ Bys w' w1.heap.size v' ([] ++ be 4 xsq) ∧ Below w1.heap.size w1.drew w') := put_uint32 w1.heap.size _ [] xsq w1.drew (Nat.le_refl _) (Bys.none _ _) HSQ.out.1 HSQ.out.2 (by decide)
  have A2 : Hid (∀ v W, w1.heap.size ≤ W.heap.size → Bys W w1.heap.size v ([] ++ be 4 xsq) → Calls Tryz.prog 78 #[v, .int .u16 xme] W fun e w' => ∃ v', e = .returned v' ∧ Bys w' w1.heap.size v' ([] ++ be 4 xsq ++ be 2 xme) ∧ Below w1.heap.size W w') := fun v W h hv => put_uint16 w1.heap.size v _ xme W h hv HME.out.1 HME.out.2 (by simp [be_length])
  go_region_held3 (fun W => W.cell? ⟨w.heap.size, 3, none⟩ = some (.int .u32 xsq) ∧ W.cell? ⟨w.heap.size, 4, none⟩ = some (.int .u16 xme))
    (first | exact ⟨c3d, c4d⟩ | exact ⟨c3x, c4x⟩ | exact ⟨c3y, c4y⟩)
    (first
      | (go_at_call 79; (with_reducible refine (A1.out).mono ?_); rintro en wx ⟨vx, rfl, hox, hbx⟩; have c3x := (hbx.cell (p := ⟨w.heap.size, 3, none⟩) hlt).trans c3d; have c4x := (hbx.cell (p := ⟨w.heap.size, 4, none⟩) hlt).trans c4d; have hzx : w1.heap.size ≤ wx.heap.size := hbx.size)
      | (go_at_call 78; (with_reducible refine (A2.out _ _ hzx hox).mono ?_); rintro en wy ⟨vy, rfl, hoy, hby⟩; have c3y := (hby.cell (p := ⟨w.heap.size, 3, none⟩) hlt).trans c3x; have c4y := (hby.cell (p := ⟨w.heap.size, 4, none⟩) hlt).trans c4x))
  have hbz : Below w1.heap.size w1 wy := ((Below.refl w1.heap.size w1).drew.trans hbx).trans hby
  have CBy := Lib.hid (CB1.out.later hbz)
  have PZy := Lib.hid (PZ1.out.later hbz)
  have HBy := Lib.hid (HB1.out.trans (hbz.mono HB1.out.size))
  have HZy := Lib.hid hbz.size
  have HPZ := Lib.hid PZ1.out.lt
  have HOy := Lib.hid hoy
  have c5 := CBy.out.c5
  clear hbx hby hbz hox hoy c3 c4 c3d c4d c3x c4x c3y c4y hzx hlt CB1 PZ1 HB1 A1 A2
  go_wp2_with (at_builtin; refine wpList_append_str rfl (.tmp 22) (.tmp 24) rfl w1.heap.size _ _ rfl HOy.out xm rfl ?_ ?_ ?_)
  · have := HM.out; simp [be_length]; omega
  · exact HZy.out
  intro va wa hoa hba
  have HOa := Lib.hid hoa
  have HZa := Lib.hid (Nat.le_trans HZy.out hba.size)
  clear hoa
  go_wp2_with (at_builtin; refine wpList_append_zeros rfl (.tmp 25) (.const (.int .i64 16)) rfl w1.heap.size _ _ rfl HOa.out 16 rfl ?_ ?_ ?_)
  · have := HM.out; simp [be_length]; omega
  · exact HZa.out
  intro vb wb hob hbb
  have hbw := hba.trans hbb
  have cbw := CBy.out.below (B := w1.heap.size) (by have := HPZ.out; omega) hbw
  have pzw := PZy.out.below (B := w1.heap.size) HPZ.out hbw
  have HBw := Lib.hid (HBy.out.trans (hbw.mono (by have := HPZ.out; omega)))
  have hcv : (convert 39 9 vb).run Tryz.prog wb = .ok (.string (bs (fxC xsq xme xm))) wb := run_string_bys hob
  obtain ⟨X, hX⟩ : ∃ X, fxC xsq xme xm = X := ⟨_, rfl⟩
  have hR2 := HRR.out
  rw [hX] at hcv hR2
  have HR2 := Lib.hid hR2
  have c0 := cbw.c0
  have z0 := pzw.c0
  have z1 := pzw.c1
  have z2 := pzw.c2
  have z3 := pzw.c3
  have z4 := pzw.c4
  have y0 := pzw.fr 0
  have y1 := pzw.fr 1
  have y2 := pzw.fr 2
  have y3 := pzw.fr 3
  have y4 := pzw.fr 4
  clear hbw hba hbb hob cbw pzw CBy PZy HBy HOa HZa HZy HOy c5 hX hR2 HRR
  go_wp2_with fail
  refine bodyPost_ret (v := .tuple #[.agg #[.int .u8 xlv, .int .u8 1, .int .u8 C, .string (bs X), .slice none 0 0], .int .i64 0]) (by simp [results, Tryz.results37, go_sem, z0, z1, z2, z3, z4]) rfl ⟨by rw [HR2.out], below_set (below_set (below_set (below_set (below_set HBw.out (by omega) _) (by omega) _) (by omega) _) (by omega) _) (by omega) _⟩
end Go.Proofs.YtlkdfofpnmpidaaGreat

/- remote: small functions. -/
set_option linter.unusedVariables false
namespace Go.Proofs.YtlkdfofpnmpidaaGreat
open Go.RowKit

theorem rmay_any (xlv : Int) (xrd : Bool) (xiv xsq xme : Int) (xm : List UInt8) (w : World) (hm : xm.length ≤ 1000) (hsq : 0 ≤ xsq ∧ xsq < 4294967296) (hme : 0 ≤ xme ∧ xme < 65536) : Calls Tryz.prog 72 #[.agg #[.int .u8 xlv, .bool xrd, .int .u8 xiv, .int .u32 xsq, .int .u16 xme, .string (bs xm)]] w fun en w' => en = .returned (.bool (mayC xlv xiv xme xm)) ∧ Below w.heap.size w w' := by
  have CP := fun w => ccput_any xlv xrd xiv xsq xme xm w hm hsq hme
  obtain ⟨K, hK⟩ : ∃ K, mayC xlv xiv xme xm = K := ⟨_, rfl⟩
  have hP : (putC xlv xrd xiv xsq xme xm).2.2.2.2 = if K = true then 0 else 2 := by
    unfold putC; rw [hK]; cases K <;> rfl
  obtain ⟨P0, P1, P2, P3, P4, hPP⟩ : ∃ a b c d e, putC xlv xrd xiv xsq xme xm = (a, b, c, d, e) := ⟨_, _, _, _, _, rfl⟩
  rw [hPP] at CP hP
  simp only at CP hP
  rw [hK]
  have HP := Lib.hid hP
  clear hK hP hPP hm hsq hme
  go_enter Tryz.func72, Tryz.ntmps72
  go_upto_region 1 with fail
  have cb := CB.new 107 w xlv xrd xiv xsq xme xm
  have bb : Below w.heap.size w (w.alloc (.cells #[.int .u8 xlv, .bool xrd, .int .u8 xiv, .int .u32 xsq, .int .u16 xme, .string (bs xm)] 107)) := (Below.refl _ _).alloc (Nat.le_refl _) _
  obtain ⟨w0, hw0⟩ : ∃ k, w.alloc (.cells #[.int .u8 xlv, .bool xrd, .int .u8 xiv, .int .u32 xsq, .int .u16 xme, .string (bs xm)] 107) = k := ⟨_, rfl⟩
  rw [hw0] at cb bb ⊢
  have c0 := cb.c0
  have c1 := cb.c1
  have c2 := cb.c2
  have c3 := cb.c3
  have c4 := cb.c4
  have c5 := cb.c5
  have B0 := Lib.hid bb
  clear hw0 cb bb
  go_wp2_with fail
  with_reducible refine (CP _).mono ?_
  rintro en w1 ⟨rfl, hb1⟩
  have B1 := Lib.hid (B0.out.trans (hb1.mono B0.out.size))
  clear hb1 c0 c1 c2 c3 c4 c5
  cases K
  · have h4 : Hid (P4 = 2) := HP
    have e4 : (P4 == 0) = false := by rw [h4.out]; rfl
    go_wp2
    go_ret
    exact ⟨rfl, B1.out.alloc B1.out.size _⟩
  · have h4 : Hid (P4 = 0) := HP
    have e4 : (P4 == 0) = true := by rw [h4.out]; rfl
    go_wp2
    go_ret
    exact ⟨rfl, B1.out.alloc B1.out.size _⟩
theorem lasts_any (n : Int) (w : World) : Calls Tryz.prog 25 #[.int .u8 n] w fun en w' => en = .returned (.int .i64 (lastC n)) ∧ w' = w := by
  have hc : lastC n = 4 ∧ tickC n = 1 ∨ lastC n = 35 ∧ tickC n = 10 ∨ lastC n = 0 ∧ tickC n = 0 := by
    unfold lastC tickC
    by_cases h4 : n = 4
    · left; rw [if_pos h4, if_pos h4]; exact ⟨rfl, rfl⟩
    · by_cases h5 : n = 5
      · right; left; rw [if_neg h4, if_pos h5, if_neg h4, if_pos h5]; exact ⟨rfl, rfl⟩
      · right; right; rw [if_neg h4, if_neg h5, if_neg h4, if_neg h5]; exact ⟨rfl, rfl⟩
  have T := ticks_any n
  rcases hc with ⟨h1, h2⟩ | ⟨h1, h2⟩ | ⟨h1, h2⟩
  all_goals
    rw [h1]
    rw [h2] at T
    clear h1 h2
    go_enter Tryz.func25, Tryz.ntmps25
    go_wp2_with (go_at_call 36; refine (T _).mono ?_; rintro e w' ⟨rfl, rfl⟩)
    go_ret
    exact ⟨rfl, rfl⟩
theorem lost1_any (a : Int) (b : Bool) (w : World) : Calls Tryz.prog 107 #[.agg #[.int .i64 a, .bool b]] w fun en w' => en = .returned (.bool (decide (a = 0))) ∧ Below w.heap.size w w' := by
  have hd : (a == 0) = decide (a = 0) := by rw [Bool.eq_iff_iff]; simp
  obtain ⟨R, hR⟩ : ∃ R, decide (a = 0) = R := ⟨_, rfl⟩
  rw [hR] at hd ⊢
  clear hR
  go_enter Tryz.func107, Tryz.ntmps107
  go_wp2
  go_ret
  exact ⟨rfl, (Below.refl _ _).alloc (Nat.le_refl _) _⟩
theorem rdis1_any (a : Int) (b : Bool) (w : World) : Calls Tryz.prog 108 #[.agg #[.int .i64 a, .bool b]] w fun en w' => en = .returned (.bool (decide (0 < a) && b)) ∧ Below w.heap.size w w' := by
  cases hd : decide (0 < a)
  all_goals
    go_enter Tryz.func108, Tryz.ntmps108
    go_wp2
    go_ret
    exact ⟨by simp, (Below.refl _ _).alloc (Nat.le_refl _) _⟩
/-- One less, but not below nothing. -/
def dn1 (x : Int) : Int := if 1 ≤ x then x - 1 else 0
theorem less1_any (p : Nat) (o : Nat) (x : Int) (w : World) (hx : 0 ≤ x ∧ x ≤ 1000) (hc : w.cell? ⟨p, o, none⟩ = some (.int .i64 x)) (hf : w.frozen? ⟨p, o, none⟩ = false) : Calls Tryz.prog 111 #[.pointer (some ⟨p, o, none⟩)] w fun en w' => en = .returned (.tuple #[]) ∧ w' = w.setCell ⟨p, o, none⟩ (.int .i64 (dn1 x)) := by
  have hd : (max 0 (x - 1) : Int) = dn1 x := by unfold dn1; split <;> omega
  have hb1 : x - 1 ≤ 1000 := by omega
  have hb0 : -1 ≤ x - 1 := by omega
  obtain ⟨R, hR⟩ : ∃ R, dn1 x = R := ⟨_, rfl⟩
  rw [hR] at hd ⊢
  clear hR
  go_enter Tryz.func111, Tryz.ntmps111
  go_wp2
  all_goals
    go_end0
    refine ⟨rfl, ?_⟩
    first
      | (have e : R = x - 1 := by omega
         rw [e])
      | (have e : R = 0 := by omega
         rw [e])
end Go.Proofs.YtlkdfofpnmpidaaGreat

/- Rows of things of k cells each, whatever they are. -/
set_option linter.unusedVariables false
namespace Go.Proofs.YtlkdfofpnmpidaaGreat
open Go.ChangeShapes Go.WideShapes Go.ChangeAt Go.RowKit Go.Deep

section
variable {α : Type} (k : Nat) (f : α → List Value)
/-- A slice that reads as these things. -/
def Rw (w : World) (v : Value) (l : List α) : Prop :=
  (v = .slice none 0 0 ∧ l = []) ∨ ∃ ad c, v = .slice (some ad) l.length c ∧ (l = [] ∨ ∃ b off, ad = ⟨b, off, none⟩ ∧ ∀ j (hj : j < l.length) i, i < k → w.cell? ⟨b, off + j * k + i, none⟩ = (f l[j])[i]?)
/-- A slice value that owns these things, in a row from B on. -/
def Ow (E : TypeId) (w : World) (B : Nat) (v : Value) (l : List α) : Prop := w.ownsRow B E k v l.length (l.flatMap f)
end
section
variable {α : Type} {k : Nat} {f : α → List Value} {w w' : World} {v : Value} {l : List α} {E : TypeId} {B : Nat}
theorem Rw.nil (w : World) : Rw k f w (.slice none 0 0) [] := .inl ⟨rfl, rfl⟩
theorem Rw.later (hf : ∀ x, (f x).length = k) (h : Rw k f w v l) (hb : Below w.heap.size w w') : Rw k f w' v l := by
  rcases h with h | ⟨ad, c, h1, h0 | ⟨b, off, h3, h2⟩⟩
  · exact .inl h
  · exact .inr ⟨ad, c, h1, .inl h0⟩
  · refine .inr ⟨ad, c, h1, .inr ⟨b, off, h3, fun j hj i hi => ?_⟩⟩
    have h4 := h2 j hj i hi
    rw [List.getElem?_eq_getElem (by rw [hf]; exact hi)] at h4 ⊢
    exact (hb.cell (World.block_lt_of_cell? w _ h4)).trans h4
/-- Its shape: empty, or a row of cells. -/
theorem Rw.shape (h : Rw k f w v l) : ∃ a c, v = .slice a l.length c ∧ (l = [] ∨ ∃ b off, a = some ⟨b, off, none⟩ ∧ ∀ j (hj : j < l.length) i, i < k → w.cell? ⟨b, off + j * k + i, none⟩ = (f l[j])[i]?) := by
  rcases h with ⟨h1, h2⟩ | ⟨ad, c, h1, h0 | ⟨b, off, h3, h2⟩⟩
  · exact ⟨none, 0, by rw [h1, h2]; rfl, .inl h2⟩
  · exact ⟨_, c, h1, .inl h0⟩
  · exact ⟨_, c, h1, .inr ⟨b, off, by rw [h3], h2⟩⟩
theorem flat_len (hf : ∀ x, (f x).length = k) (l : List α) : (l.flatMap f).length = l.length * k := by
  induction l with
  | nil => simp
  | cons x l ih => rw [List.flatMap_cons, List.length_append, hf, ih, List.length_cons, Nat.succ_mul]; omega
theorem flat_get (hf : ∀ x, (f x).length = k) : ∀ (l : List α) (j : Nat) (h : j < l.length) (i : Nat), i < k → (l.flatMap f)[j * k + i]? = (f l[j])[i]?
  | x :: l, 0, _, i, hi => by
    rw [List.flatMap_cons, Nat.zero_mul, Nat.zero_add, List.getElem?_append_left (by rw [hf]; exact hi)]; rfl
  | x :: l, j + 1, h, i, hi => by
    have ih := flat_get hf l j (by simpa using h) i hi
    rw [List.flatMap_cons, List.getElem?_append_right (by rw [hf, Nat.succ_mul]; omega), hf, show (j + 1) * k + i - k = j * k + i by rw [Nat.succ_mul]; omega]
    exact ih
theorem Ow.none (w : World) (B : Nat) : Ow k f E w B (.slice none 0 0) [] := World.ownsRow_nil w B _ k
theorem Ow.mono {B' : Nat} (h : Ow k f E w B v l) (hb : B' ≤ B) : Ow k f E w B' v l := World.ownsRow.mono h hb
theorem Ow.later (h : Ow k f E w B v l) (hb : Below w.heap.size w w') : Ow k f E w' B v l := by
  obtain ⟨h1, h2⟩ := h
  refine ⟨h1, ?_⟩
  rcases h2 with h2 | ⟨g, cap, cur, hv, hg, hh, r⟩
  · exact .inl h2
  · refine .inr ⟨g, cap, cur, hv, hg, ?_, r⟩
    rw [hb.block g (Array.getElem?_eq_some_iff.1 hh).1]; exact hh
theorem Ow.rw (hf : ∀ x, (f x).length = k) (h : Ow k f E w B v l) : Rw k f w v l := by
  obtain ⟨h1, h2⟩ := h
  rcases h2 with ⟨h2, h3⟩ | ⟨g, cap, cur, hv, hg, hh, hr⟩
  · exact .inl ⟨h2, List.eq_nil_of_length_eq_zero h3⟩
  · subst hv
    have hc : w.ownsRow B E k (.slice (some ⟨g, 0, Option.none⟩) l.length cap) l.length (l.flatMap f) := ⟨h1, .inr ⟨g, cap, cur, rfl, hg, hh, hr⟩⟩
    refine .inr ⟨⟨g, 0, Option.none⟩, cap, rfl, .inr ⟨g, 0, rfl, fun j hj i hi => ?_⟩⟩
    have hlt : j * k + i < l.length * k := by
      have : (j + 1) * k ≤ l.length * k := Nat.mul_le_mul_right k hj
      rw [Nat.succ_mul] at this; omega
    rw [Nat.zero_add, World.ownsRow.cellAt hc (j * k + i) hlt]
    exact flat_get hf l j hj i hi
theorem Ow.lit (hf : ∀ x, (f x).length = k) (w : World) (B : Nat) (x : α) (cs : Array Value) (hcs : cs.toList = f x) (hB : B ≤ w.heap.size) : Ow k f E (w.alloc (.cells cs E)) B (.slice (some ⟨w.heap.size, 0, Option.none⟩) 1 1) [x] := by
  have := World.ownsRow_lit (base := B) (e := E) (size := k) w cs 1 hB (by decide) (by rw [← Array.length_toList, hcs, hf, Nat.one_mul])
  rw [hcs] at this
  unfold Ow
  simpa using this
end
section
variable {α : Type} {k : Nat} {f : α → List Value} {w : World} {ops : Array Oper} {rest : List Oper} {o : Oper} {a : Act} {Q : Exit → Act → World → Prop} {K : Act → World → Prop}
/-- 'append(b, x...)'. -/
theorem wp_append_rw (hf : ∀ x, (f x).length = k) (h1c : ∀ x, ∀ u ∈ f x, u.oneCell' = true) (E S : TypeId) (z : Value) (by_ : Nat) (hu : Tryz.prog.underlying S = some (.slice E)) (hi : (Tryz.prog.info? E).map (fun i => (i.zero, i.size, i.bytes)) = some (some z, k, by_)) (hz : z.cells.size = k) (hk : 0 < k) (hby : by_ ≤ 1000)
    (s x : Operand) (ho : o.op = .call { callee := .builtin .append, args := #[s, x], argTypes := #[S, S] })
    (B : Nat) (v : Value) (l : List α) (hs : a.eval s = v) (hown : Ow k f E w B v l) (u : Value) (t : List α) (hx : a.eval x = u) (hsrc : Rw k f w u t)
    (hsz : l.length + t.length ≤ 100000000000) (hB : B ≤ w.heap.size)
    (h : ∀ v' w', Ow k f E w' B v' (l ++ t) → Below B w w' → K (a.put o.dst v') w') : o.wp Tryz.prog a w K Q := by
  obtain ⟨i, hi, hz0, hz1, hz2⟩ := info_parts hi
  rcases hsrc with ⟨rfl, rfl⟩ | ⟨ad, c, rfl, hc⟩
  · have hrun := run_append_owned_none (P := Tryz.prog) w B S o.type E i k hu hi v l.length (l.flatMap f) hown
    unfold Oper.wp
    simp [execOp, ho, resolve, invoke, builtin, hs, hx, hrun, Result.andThen]
    exact h _ _ (by simpa using hown) (Below.refl _ _)
  · refine wp_append_own w s x S ho B E i z k by_ hu hi hz0 hz1 hz2 hz hk v l.length (l.flatMap f) hs hown ad t.length c (t.flatMap f) hx (flat_len hf t)
      (fun j u hj => ?_) (fun u hu => ?_) (by unfold maxLen; omega) (by have : (l.length + t.length) * by_ ≤ 100000000000 * 1000 := Nat.mul_le_mul hsz hby; omega) hB (fun v' w' h1 h2 _ => ?_)
    · have hj' : j < t.length * k := by have := (List.getElem?_eq_some_iff.1 hj).1; rw [flat_len hf] at this; exact this
      rcases hc with rfl | ⟨b, off, rfl, hc⟩
      · simp at hj'
      rw [add_plain]
      have hd : j / k < t.length := Nat.div_lt_of_lt_mul (by rw [Nat.mul_comm]; exact hj')
      have hm : j % k < k := Nat.mod_lt _ hk
      have e : j = j / k * k + j % k := by rw [Nat.mul_comm]; exact (Nat.div_add_mod j k).symm
      have hg := flat_get hf t (j / k) hd (j % k) hm
      rw [← e, hj] at hg
      have := hc (j / k) hd (j % k) hm
      rw [← hg, Nat.add_assoc, ← e] at this
      exact this
    · obtain ⟨y, _, hy⟩ := List.mem_flatMap.1 hu
      exact h1c y u hy
    · refine h v' w' ?_ ((Below.refl _ _).grown h2 hB (fun k hk => (World.ownsRow.lt hown k hk).1))
      unfold Ow
      rw [List.length_append, List.flatMap_append]; exact h1
theorem wpList_append_rw (hf : ∀ x, (f x).length = k) (h1c : ∀ x, ∀ u ∈ f x, u.oneCell' = true) (E S : TypeId) (z : Value) (by_ : Nat) (hu : Tryz.prog.underlying S = some (.slice E)) (hi : (Tryz.prog.info? E).map (fun i => (i.zero, i.size, i.bytes)) = some (some z, k, by_)) (hz : z.cells.size = k) (hk : 0 < k) (hby : by_ ≤ 1000)
    (hgd : o.guard = Option.none) (s x : Operand) (ho : o.op = .call { callee := .builtin .append, args := #[s, x], argTypes := #[S, S] })
    (B : Nat) (v : Value) (l : List α) (hs : a.eval s = v) (hown : Ow k f E w B v l) (u : Value) (t : List α) (hx : a.eval x = u) (hsrc : Rw k f w u t)
    (hsz : l.length + t.length ≤ 100000000000) (hB : B ≤ w.heap.size)
    (h : ∀ v' w', Ow k f E w' B v' (l ++ t) → Below B w w' → wpList Tryz.prog ops Q rest (a.put o.dst v') w') : wpList Tryz.prog ops Q (o :: rest) a w :=
  wpList_plain hgd fun K hK => wp_append_rw hf h1c E S z by_ hu hi hz hk hby s x ho B v l hs hown u t hx hsrc hsz hB fun v' w' h1 h2 => hK _ _ (h v' w' h1 h2)
end
end Go.Proofs.YtlkdfofpnmpidaaGreat
