/- ccm: Put (for the seat of remote: D1 without cfm.Take). -/
import Derived.Test.YtecoomkpkdapdaaD0
import Derived.Test.YtecoomkpkdapdaaK5
import Derived.Deep.RegionHeld3
set_option linter.unusedVariables false
namespace Go.Proofs.Ytecoomkpkdapdaa
open Go.RowKit

/-- A check's fixed part. -/
def fxC (sq me : Int) (m : List UInt8) : List UInt8 := be 4 sq ++ be 2 me ++ m ++ List.replicate 16 0
/-- A check's message: its numbers, its fixed part, the error. -/
def putC (lv : Int) (rd : Bool) (iv sq me : Int) (m : List UInt8) : Int × Int × Int × List UInt8 × Int :=
  if mayC lv iv me m = true then (lv, 1, iv + (if rd = true then 128 else 0), fxC sq me m, 0) else (0, 0, 0, [], 2)
theorem mayC_iv {lv iv me : Int} {m : List UInt8} (h : mayC lv iv me m = true) : iv = 4 ∨ iv = 5 := by
  unfold mayC at h
  simp only [Bool.and_eq_true, decide_eq_true_eq] at h
  exact (tick_pos iv).1 h.2.1
set_option maxRecDepth 100000 in
set_option maxHeartbeats 8000000 in
theorem ccput_any (xlv : Int) (xrd : Bool) (xiv xsq xme : Int) (xm : List UInt8) (w : World) (hm : xm.length ≤ 1000) (hsq : 0 ≤ xsq ∧ xsq < 4294967296) (hme : 0 ≤ xme ∧ xme < 65536) : Calls Try.prog 96 #[.agg #[.int .u8 xlv, .bool xrd, .int .u8 xiv, .int .u32 xsq, .int .u16 xme, .string (bs xm)]] w fun en w' =>
    en = .returned (.tuple #[.agg #[.int .u8 (putC xlv xrd xiv xsq xme xm).1, .int .u8 (putC xlv xrd xiv xsq xme xm).2.1, .int .u8 (putC xlv xrd xiv xsq xme xm).2.2.1, .string (bs (putC xlv xrd xiv xsq xme xm).2.2.2.1), .slice none 0 0], .int .i64 (putC xlv xrd xiv xsq xme xm).2.2.2.2]) ∧ Below w.heap.size w w' := by
  obtain ⟨R, hR⟩ : ∃ R, putC xlv xrd xiv xsq xme xm = R := ⟨_, rfl⟩
  rw [hR]
  obtain ⟨K, hK⟩ : ∃ K, mayC xlv xiv xme xm = K := ⟨_, rfl⟩
  have M1 : Hid (∀ w, Calls Try.prog 110 #[.agg #[.int .u8 xlv, .bool xrd, .int .u8 xiv, .int .u32 xsq, .int .u16 xme, .string (bs xm)]] w fun en w' => en = .returned (.bool K) ∧ Below w.heap.size w w') := by
    rw [← hK]; exact fun w => may13_any xlv xrd xiv xsq xme xm w hm
  have HR := Lib.hid hR
  have HK := Lib.hid hK
  have HM := Lib.hid hm
  have HSQ := Lib.hid hsq
  have HME := Lib.hid hme
  clear hR hK hm hsq hme
  go_enter Try.func96, Try.ntmps96
  go_upto_region 1 with fail
  have cb0 := (CB.new 73 w xlv xrd xiv xsq xme xm).later ((Below.refl _ _).alloc (Nat.le_refl _) (.cells #[.int .u8 0, .int .u8 0, .int .u8 0, .string { data := #[] }, .slice none 0 0] 161))
  have pz : PB 161 ((w.alloc (.cells #[.int .u8 xlv, .bool xrd, .int .u8 xiv, .int .u32 xsq, .int .u16 xme, .string (bs xm)] 73)).alloc (.cells #[.int .u8 0, .int .u8 0, .int .u8 0, .string { data := #[] }, .slice none 0 0] 161)) (w.heap.size + 1) 0 0 0 [] (.slice none 0 0) := by
    have := PB.new 161 (w.alloc (.cells #[.int .u8 xlv, .bool xrd, .int .u8 xiv, .int .u32 xsq, .int .u16 xme, .string (bs xm)] 73)) 0 0 0 [] (.slice none 0 0)
    rw [show (w.alloc (.cells #[.int .u8 xlv, .bool xrd, .int .u8 xiv, .int .u32 xsq, .int .u16 xme, .string (bs xm)] 73)).heap.size = w.heap.size + 1 by simp] at this
    exact this
  have hb0 : Below w.heap.size w ((w.alloc (.cells #[.int .u8 xlv, .bool xrd, .int .u8 xiv, .int .u32 xsq, .int .u16 xme, .string (bs xm)] 73)).alloc (.cells #[.int .u8 0, .int .u8 0, .int .u8 0, .string { data := #[] }, .slice none 0 0] 161)) := ((Below.refl _ _).alloc (Nat.le_refl _) _).alloc (by simp) _
  obtain ⟨w0, hw0⟩ : ∃ k, (w.alloc (.cells #[.int .u8 xlv, .bool xrd, .int .u8 xiv, .int .u32 xsq, .int .u16 xme, .string (bs xm)] 73)).alloc (.cells #[.int .u8 0, .int .u8 0, .int .u8 0, .string { data := #[] }, .slice none 0 0] 161) = k := ⟨_, rfl⟩
  rw [hw0] at cb0 pz hb0 ⊢
  have c0 := cb0.c0
  have c1 := cb0.c1
  have c2 := cb0.c2
  have c3 := cb0.c3
  have c4 := cb0.c4
  have c5 := cb0.c5
  have CB0 := Lib.hid cb0
  have PZ0 := Lib.hid pz
  have HB0 := Lib.hid hb0
  clear hw0 cb0 pz hb0
  go_wp2_with fail
  with_reducible refine (M1.out _).mono ?_
  rintro en w1 ⟨rfl, hb1⟩
  have CB1 := Lib.hid (CB0.out.later hb1)
  have PZ1 := Lib.hid (PZ0.out.later hb1)
  have HB1 := Lib.hid (HB0.out.trans (hb1.mono HB0.out.size))
  clear hb1 CB0 PZ0 HB0 c0 c1 c2 c3 c4 c5 M1
  cases K with
  | false =>
    have hRR : R = (0, 0, 0, [], 2) := by rw [← HR.out]; unfold putC; rw [HK.out]; rfl
    have HRR := Lib.hid hRR
    clear hRR
    have z0 := PZ1.out.c0
    have z1 := PZ1.out.c1
    have z2 := PZ1.out.c2
    have z3 := PZ1.out.c3
    have z4 := PZ1.out.c4
    have y0 := PZ1.out.fr 0
    have y1 := PZ1.out.fr 1
    have y2 := PZ1.out.fr 2
    have y3 := PZ1.out.fr 3
    have y4 := PZ1.out.fr 4
    go_wp2_with fail
    refine bodyPost_ret (v := .tuple #[.agg #[.int .u8 0, .int .u8 0, .int .u8 0, .string (bs []), .slice none 0 0], .int .i64 2]) (by simp [results, Try.results96, go_sem, z0, z1, z2, z3, z4]; rfl) rfl ⟨by rw [HRR.out], below_set (below_set (below_set (below_set (below_set HB1.out (by omega) _) (by omega) _) (by omega) _) (by omega) _) (by omega) _⟩
  | true =>
  obtain ⟨C, hC⟩ : ∃ C : Int, xiv + (if xrd = true then 128 else 0) = C := ⟨_, rfl⟩
  have hRR : R = (xlv, 1, C, fxC xsq xme xm, 0) := by rw [← HR.out, ← hC]; unfold putC; rw [HK.out, if_pos rfl]
  have HRR := Lib.hid hRR
  have hiv := mayC_iv HK.out
  have c1 := CB1.out.c1
  have c2 := CB1.out.c2
  clear hRR
  go_upto_if 13 with fail
  go_cut [4] (fun s4 wx => s4 = .int .u8 C ∧ wx = w1)
  case first =>
    have o4 : bits .or .u8 4 128 = 132 := by decide
    have o5 : bits .or .u8 5 128 = 133 := by decide
    cases xrd with
    | true =>
      rcases hiv with rfl | rfl
      all_goals
        go_wp2_with fail
        go_meet
        exact ⟨by rw [← hC]; rfl, rfl⟩
    | false =>
      rcases hiv with rfl | rfl
      all_goals
        go_wp2_with fail
        go_meet
        exact ⟨by rw [← hC]; rfl, rfl⟩
  obtain ⟨rfl, hwc⟩ := hcut
  rw [hwc]
  clear hwc hC hiv c1 c2
  go_upto_region 6 with fail
  have c3 := CB1.out.c3
  have c4 := CB1.out.c4
  have c3d : w1.drew.cell? ⟨w.heap.size, 3, none⟩ = some (.int .u32 xsq) := c3
  have c4d : w1.drew.cell? ⟨w.heap.size, 4, none⟩ = some (.int .u16 xme) := c4
  have hlt : w.heap.size < w1.heap.size := CB1.out.lt
  have A1 : Hid (Calls Try.prog 111 #[.slice none 0 0, .int .u32 xsq] w1.drew fun e w' => ∃ v', e = .returned v' ∧ Bys w' w1.heap.size v' ([] ++ be 4 xsq) ∧ Below w1.heap.size w1.drew w') := put_uint32 w1.heap.size _ [] xsq w1.drew (Nat.le_refl _) (Bys.none _ _) HSQ.out.1 HSQ.out.2 (by decide)
  have A2 : Hid (∀ v W, w1.heap.size ≤ W.heap.size → Bys W w1.heap.size v ([] ++ be 4 xsq) → Calls Try.prog 81 #[v, .int .u16 xme] W fun e w' => ∃ v', e = .returned v' ∧ Bys w' w1.heap.size v' ([] ++ be 4 xsq ++ be 2 xme) ∧ Below w1.heap.size W w') := fun v W h hv => put_uint16 w1.heap.size v _ xme W h hv HME.out.1 HME.out.2 (by simp [be_length])
  go_region_held3 (fun W => W.cell? ⟨w.heap.size, 3, none⟩ = some (.int .u32 xsq) ∧ W.cell? ⟨w.heap.size, 4, none⟩ = some (.int .u16 xme))
    (first | exact ⟨c3d, c4d⟩ | exact ⟨c3x, c4x⟩ | exact ⟨c3y, c4y⟩)
    (first
      | (go_at_call 111; (with_reducible refine (A1.out).mono ?_); rintro en wx ⟨vx, rfl, hox, hbx⟩; have c3x := (hbx.cell (p := ⟨w.heap.size, 3, none⟩) hlt).trans c3d; have c4x := (hbx.cell (p := ⟨w.heap.size, 4, none⟩) hlt).trans c4d; have hzx : w1.heap.size ≤ wx.heap.size := hbx.size)
      | (go_at_call 81; (with_reducible refine (A2.out _ _ hzx hox).mono ?_); rintro en wy ⟨vy, rfl, hoy, hby⟩; have c3y := (hby.cell (p := ⟨w.heap.size, 3, none⟩) hlt).trans c3x; have c4y := (hby.cell (p := ⟨w.heap.size, 4, none⟩) hlt).trans c4x))
  have hbz : Below w1.heap.size w1 wy := ((Below.refl w1.heap.size w1).drew.trans hbx).trans hby
  have CBy := Lib.hid (CB1.out.later hbz)
  have PZy := Lib.hid (PZ1.out.later hbz)
  have HBy := Lib.hid (HB1.out.trans (hbz.mono HB1.out.size))
  have HZy := Lib.hid hbz.size
  have HPZ := Lib.hid PZ1.out.lt
  have HOy := Lib.hid hoy
  have c5 := CBy.out.c5
  clear hbx hby hbz hox hoy c3 c4 c3d c4d c3x c4x c3y c4y hzx hlt CB1 PZ1 HB1 A1 A2
  go_wp2_with (at_builtin; refine wpList_append_str rfl (.tmp 22) (.tmp 24) rfl w1.heap.size _ _ rfl HOy.out xm rfl ?_ ?_ ?_)
  · have := HM.out; simp [be_length]; omega
  · exact HZy.out
  intro va wa hoa hba
  have HOa := Lib.hid hoa
  have HZa := Lib.hid (Nat.le_trans HZy.out hba.size)
  clear hoa
  go_wp2_with (at_builtin; refine wpList_append_zeros rfl (.tmp 25) (.const (.int .i64 16)) rfl w1.heap.size _ _ rfl HOa.out 16 rfl ?_ ?_ ?_)
  · have := HM.out; simp [be_length]; omega
  · exact HZa.out
  intro vb wb hob hbb
  have hbw := hba.trans hbb
  have cbw := CBy.out.below (B := w1.heap.size) (by have := HPZ.out; omega) hbw
  have pzw := PZy.out.below (B := w1.heap.size) HPZ.out hbw
  have HBw := Lib.hid (HBy.out.trans (hbw.mono (by have := HPZ.out; omega)))
  have hcv : (convert 81 9 vb).run Try.prog wb = .ok (.string (bs (fxC xsq xme xm))) wb := run_string_bys hob
  obtain ⟨X, hX⟩ : ∃ X, fxC xsq xme xm = X := ⟨_, rfl⟩
  have hR2 := HRR.out
  rw [hX] at hcv hR2
  have HR2 := Lib.hid hR2
  have c0 := cbw.c0
  have z0 := pzw.c0
  have z1 := pzw.c1
  have z2 := pzw.c2
  have z3 := pzw.c3
  have z4 := pzw.c4
  have y0 := pzw.fr 0
  have y1 := pzw.fr 1
  have y2 := pzw.fr 2
  have y3 := pzw.fr 3
  have y4 := pzw.fr 4
  clear hbw hba hbb hob cbw pzw CBy PZy HBy HOa HZa HZy HOy c5 hX hR2 HRR
  go_wp2_with fail
  refine bodyPost_ret (v := .tuple #[.agg #[.int .u8 xlv, .int .u8 1, .int .u8 C, .string (bs X), .slice none 0 0], .int .i64 0]) (by simp [results, Try.results96, go_sem, z0, z1, z2, z3, z4]) rfl ⟨by rw [HR2.out], below_set (below_set (below_set (below_set (below_set HBw.out (by omega) _) (by omega) _) (by omega) _) (by omega) _) (by omega) _⟩
end Go.Proofs.Ytecoomkpkdapdaa
