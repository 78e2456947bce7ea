/- ZB22: the texts V3 as one. -/
import Derived.Test.YtpkkjbmgbgakdaaGreatDoorZB17
import Derived.Test.YtpkkjbmgbgakdaaGreatDoorZB21
/- vlan: Out. -/
set_option linter.unusedVariables false
namespace Go.Proofs.YtpkkjbmgbgakdaaGreatDoor
open Go.RowKit

/-- A frame's cells. -/
def frA (x0 x1 x2 x3 x4 x5 x6 x7 x8 x9 x10 x11 : Int) (xt : Bool) (xp xv xy : Int) (xd : List UInt8) : Array Value := #[.int .u8 x0, .int .u8 x1, .int .u8 x2, .int .u8 x3, .int .u8 x4, .int .u8 x5, .int .u8 x6, .int .u8 x7, .int .u8 x8, .int .u8 x9, .int .u8 x10, .int .u8 x11, .bool xt, .int .u8 xp, .int .u16 xv, .int .u16 xy, .string (bs xd)]
/-- Is a VLAN's port untagged? -/
def unB (V : List Vn) (p : Nat) (k : Int) : Bool := decide ((vGet V k).2 / 2 ^ p % 2 = 1)
/-- A frame as it goes out: the numbers of its tag. -/
def outT (u : Bool) : Bool := !u
def outP (u : Bool) (pr : Int) : Int := if u = true then 0 else pr
def outV (u : Bool) (k : Int) : Int := if u = true then 0 else k
/-- Out: the frame, and whether it goes. -/
def outF (V : List Vn) (p : Nat) (k : Int) (x0 x1 x2 x3 x4 x5 x6 x7 x8 x9 x10 x11 : Int) (xt : Bool) (xp xv xy : Int) (xd : List UInt8) : Array Value × Bool :=
  if memB (vGet V k).1 p = true then
    (if (putF x0 x1 x2 x3 x4 x5 x6 x7 x8 x9 x10 x11 (outT (unB V p k)) (outP (unB V p k) xp) (outV (unB V p k) k) xy xd).2 = 0 then (frA x0 x1 x2 x3 x4 x5 x6 x7 x8 x9 x10 x11 (outT (unB V p k)) (outP (unB V p k) xp) (outV (unB V p k) k) xy xd, true) else (frZ, false))
  else (frZ, false)
theorem FB.set12 {W : World} {b : Nat} {x0 x1 x2 x3 x4 x5 x6 x7 x8 x9 x10 x11 xt xp xv xy xd} (h : FB W b (frA x0 x1 x2 x3 x4 x5 x6 x7 x8 x9 x10 x11 xt xp xv xy xd)) (d : Bool) : FB (W.setCell ⟨b, 12, none⟩ (.bool d)) b (frA x0 x1 x2 x3 x4 x5 x6 x7 x8 x9 x10 x11 d xp xv xy xd) := by
  have := h.set 12 (.bool d); simpa [frA] using this
theorem FB.set13 {W : World} {b : Nat} {x0 x1 x2 x3 x4 x5 x6 x7 x8 x9 x10 x11 xt xp xv xy xd} (h : FB W b (frA x0 x1 x2 x3 x4 x5 x6 x7 x8 x9 x10 x11 xt xp xv xy xd)) (d : Int) : FB (W.setCell ⟨b, 13, none⟩ (.int .u8 d)) b (frA x0 x1 x2 x3 x4 x5 x6 x7 x8 x9 x10 x11 xt d xv xy xd) := by
  have := h.set 13 (.int .u8 d); simpa [frA] using this
theorem FB.set14 {W : World} {b : Nat} {x0 x1 x2 x3 x4 x5 x6 x7 x8 x9 x10 x11 xt xp xv xy xd} (h : FB W b (frA x0 x1 x2 x3 x4 x5 x6 x7 x8 x9 x10 x11 xt xp xv xy xd)) (d : Int) : FB (W.setCell ⟨b, 14, none⟩ (.int .u16 d)) b (frA x0 x1 x2 x3 x4 x5 x6 x7 x8 x9 x10 x11 xt xp d xy xd) := by
  have := h.set 14 (.int .u16 d); simpa [frA] using this
/-- What Out hands back. -/
theorem res_out (tmps : Array Value) (W : World) (b : Nat) (A : Array Value) (h2 : tmps.getD 8 undef = .pointer (some ⟨b, 0, none⟩)) (hf : FB W b A) (hs : A.size = 17) :
    (results Tryz.f65 tmps).run Tryz.prog W = .ok (.tuple #[.agg A, tmps.getD 9 undef]) W := by
  have hi : (Tryz.prog.info? 68).map (·.size) = some A.size := by rw [hs]; kernel_rfl
  rw [results_cell_tmp (p := 8) (u := 9) (ty := 68) rfl, h2]
  simp [asAddr, run_loadVar_row W b 68 68 A (0, 0) _ hf Tryz.underlying68 rfl hi]
/-- The state: the frame's block, the result's. -/
structure OS (w W : World) (A : Array Value) : Prop where
  f : FB W w.heap.size A
  z : FB W (w.heap.size + 1) frZ
  bel : Below w.heap.size w W
theorem OS.later {w W W' : World} {A : Array Value} (h : OS w W A) (hb : Below W.heap.size W W') : OS w W' A := ⟨h.f.later hb, h.z.later hb, h.bel.trans (hb.mono h.bel.size)⟩
theorem frA_is (x0 x1 x2 x3 x4 x5 x6 x7 x8 x9 x10 x11 xt xp xv xy xd) : isFr (frA x0 x1 x2 x3 x4 x5 x6 x7 x8 x9 x10 x11 xt xp xv xy xd) := ⟨_, _, _, _, _, _, _, _, _, _, _, _, _, _, _, _, _, rfl⟩
theorem TS.lo {W W' : World} {q m : Nat} {n : Int} {o : List Int} {V : List Vn} {B : Nat} (h : TS W q n m o V) (hq : q < B) (hm : m < B) (hb : Below B W W') : TS W' q n m o V := h.blk (hb.block q hq) (hb.block m hm)
set_option maxRecDepth 100000 in
set_option maxHeartbeats 16000000 in
theorem vout_any (q m : Nat) (n : Int) (o : List Int) (V : List Vn) (p : Nat) (k : Int) (x0 x1 x2 x3 x4 x5 x6 x7 x8 x9 x10 x11 xt xp xv xy xd) (w : World) (hs : TS w q n m o V) (hp : p < 256) (hk : 0 ≤ k ∧ k < 65536) (hw : wfF x0 x1 x2 x3 x4 x5 x6 x7 x8 x9 x10 x11 xp xv xy) (hd : xd.length ≤ 1000000) :
    Calls Tryz.prog 65 #[.pointer (some ⟨q, 0, none⟩), .int .u8 (p : Int), .int .u16 k, .agg (frA x0 x1 x2 x3 x4 x5 x6 x7 x8 x9 x10 x11 xt xp xv xy xd)] w fun en w' => en = .returned (.tuple #[.agg (outF V p k x0 x1 x2 x3 x4 x5 x6 x7 x8 x9 x10 x11 xt xp xv xy xd).1, .bool (outF V p k x0 x1 x2 x3 x4 x5 x6 x7 x8 x9 x10 x11 xt xp xv xy xd).2]) ∧ Below w.heap.size w w' := by
  obtain ⟨R, hR⟩ : ∃ R, outF V p k x0 x1 x2 x3 x4 x5 x6 x7 x8 x9 x10 x11 xt xp xv xy xd = R := ⟨_, rfl⟩
  rw [hR]
  obtain ⟨U, hU⟩ : ∃ U, unB V p k = U := ⟨_, rfl⟩
  obtain ⟨e2, he2⟩ : ∃ e, (vGet V k).2 = e := ⟨_, rfl⟩
  obtain ⟨e1, he1⟩ : ∃ e, (vGet V k).1 = e := ⟨_, rfl⟩
  obtain ⟨FF, hFF⟩ : ∃ A, frA x0 x1 x2 x3 x4 x5 x6 x7 x8 x9 x10 x11 (outT U) (outP U xp) (outV U k) xy xd = A := ⟨_, rfl⟩
  obtain ⟨X, e, hX⟩ : ∃ X e, putF x0 x1 x2 x3 x4 x5 x6 x7 x8 x9 x10 x11 (outT U) (outP U xp) (outV U k) xy xd = (X, e) := ⟨_, _, rfl⟩
  obtain ⟨Bm, hBm⟩ : ∃ b, memB e1 p = b := ⟨_, rfl⟩
  have HRR : Hid (R = if Bm = true then (if e = 0 then (FF, true) else (frZ, false)) else (frZ, false)) := Lib.hid (by
    rw [← hR]; unfold outF; rw [he1, hBm, hU, hX, hFF])
  have hwo : wfF x0 x1 x2 x3 x4 x5 x6 x7 x8 x9 x10 x11 (outP U xp) (outV U k) xy := by
    obtain ⟨h1, h2, h3, h4, h5⟩ := hw
    refine ⟨h1, h2, ?_, ?_, h5⟩
    · unfold outP; split <;> omega
    · unfold outV; split <;> omega
  have P1 : Hid (∀ w, Calls Tryz.prog 81 #[.agg FF] w fun en w' => en = .returned (.tuple #[.string (bs X), .int .i64 e]) ∧ Below w.heap.size w w') := Lib.hid fun w => by
    have h := fput_any x0 x1 x2 x3 x4 x5 x6 x7 x8 x9 x10 x11 (outT U) (outP U xp) (outV U k) xy xd w hwo hd
    rw [hX] at h; rw [← hFF]; exact h
  have ebd := (vGet_wf2 hs.vm.wf k).2
  rw [he2] at ebd
  have hbU : (bits .and .u8 (e2 / 2 ^ p) 1 == 1) = U := by rw [and_shr e2 p ebd, ← hU]; unfold unB; rw [he2]
  have MBR : Hid (∀ W, TS W q n m o V → Calls Tryz.prog 130 #[.pointer (some ⟨q, 0, none⟩), .int .u8 (p : Int), .int .u16 k] W fun en w' => en = .returned (.bool Bm) ∧ W = w') := Lib.hid fun W h => by
    have h := vmember_any q m n o V p k W h hp hk
    rw [he1, hBm] at h; exact h
  have LK : Hid (∀ W, TS W q n m o V → (Instr.lookup 111 (.map (some m)) (.int .u16 k) false).run Tryz.prog W = .ok (.agg #[.int .u8 e1, .int .u8 e2]) W) := Lib.hid fun W h => by
    have h := h.vm.look1 k hk
    rw [he1, he2] at h; exact h
  have f1 := run_ports1 e1 e2
  have TSW := Lib.hid hs
  have HQM := Lib.hid (And.intro hs.tb.lt hs.vm.lt)
  have hm8 : Bm = true → p < 8 := fun h => by
    rw [← hBm] at h; unfold memB at h
    by_cases h8 : p < 8
    · exact h8
    · rw [decide_eq_false h8] at h; cases h
  have HM8 := Lib.hid hm8
  obtain ⟨A, hA⟩ : ∃ A, frA x0 x1 x2 x3 x4 x5 x6 x7 x8 x9 x10 x11 xt xp xv xy xd = A := ⟨_, rfl⟩
  have h12 : A[12]? = some (.bool xt) := by rw [← hA]; rfl
  have h13 : A[13]? = some (.int .u8 xp) := by rw [← hA]; rfl
  have h14 : A[14]? = some (.int .u16 xv) := by rw [← hA]; rfl
  have isA : isFr A := by rw [← hA]; exact frA_is ..
  have isF : isFr FF := by rw [← hFF]; exact frA_is ..
  have iZ := Lib.hid (frame_info isFr_Z)
  have iF := Lib.hid (frame_info isF)
  have iFL := Lib.hid (frame_infoL isF)
  have oZ := Lib.hid isFr_Z.one
  have oF := Lib.hid isF.one
  have sF := Lib.hid isF.size
  have HAA := Lib.hid hA
  have HFF := Lib.hid hFF
  have HH := Lib.hid (And.intro h12 (And.intro h13 h14))
  rw [hA]
  clear hR hU he1 he2 hFF hX hBm hwo hw hd ebd hs hm8 hA h12 h13 h14 isA isF hk
  go_enter Tryz.func65, Tryz.ntmps65
  go_upto_region 1 with fail
  have fb0 := (FB.new w A).later ((Below.refl _ _).alloc (Nat.le_refl _) (.cells #[.int .u8 0, .int .u8 0, .int .u8 0, .int .u8 0, .int .u8 0, .int .u8 0, .int .u8 0, .int .u8 0, .int .u8 0, .int .u8 0, .int .u8 0, .int .u8 0, .bool false, .int .u8 0, .int .u16 0, .int .u16 0, .string { data := #[] }] 68))
  have fz0 : FB ((w.alloc (.cells A 68)).alloc (.cells #[.int .u8 0, .int .u8 0, .int .u8 0, .int .u8 0, .int .u8 0, .int .u8 0, .int .u8 0, .int .u8 0, .int .u8 0, .int .u8 0, .int .u8 0, .int .u8 0, .bool false, .int .u8 0, .int .u16 0, .int .u16 0, .string { data := #[] }] 68)) (w.heap.size + 1) frZ := by
    have := FB.new (w.alloc (.cells A 68)) frZ
    rw [show (w.alloc (.cells A 68)).heap.size = w.heap.size + 1 by simp] at this
    exact this
  have hb0 : Below w.heap.size w ((w.alloc (.cells A 68)).alloc (.cells #[.int .u8 0, .int .u8 0, .int .u8 0, .int .u8 0, .int .u8 0, .int .u8 0, .int .u8 0, .int .u8 0, .int .u8 0, .int .u8 0, .int .u8 0, .int .u8 0, .bool false, .int .u8 0, .int .u16 0, .int .u16 0, .string { data := #[] }] 68)) := ((Below.refl _ _).alloc (Nat.le_refl _) _).alloc (by simp) _
  obtain ⟨w0, hw0⟩ : ∃ x, (w.alloc (.cells A 68)).alloc (.cells #[.int .u8 0, .int .u8 0, .int .u8 0, .int .u8 0, .int .u8 0, .int .u8 0, .int .u8 0, .int .u8 0, .int .u8 0, .int .u8 0, .int .u8 0, .int .u8 0, .bool false, .int .u8 0, .int .u16 0, .int .u16 0, .string { data := #[] }] 68) = x := ⟨_, rfl⟩
  rw [hw0] at fb0 fz0 hb0 ⊢
  have OS0 : Hid (OS w w0 A) := Lib.hid ⟨fb0, fz0, hb0⟩
  have TS0 := Lib.hid (TSW.out.later hb0)
  clear hw0 fb0 fz0 hb0
  go_wp2_with fail
  with_reducible refine (MBR.out _ TS0.out).mono ?_
  rintro en _ ⟨rfl, rfl⟩
  cases Bm with
  | false =>
    have hR0 : Hid (R = (frZ, false)) := Lib.hid (by rw [HRR.out]; rfl)
    have TH := Lib.hid (OS0.out.z.there (n := frZ.size) (Nat.le_refl _))
    have G1 := Lib.hid (OS0.out.z.store (A := frZ) rfl oZ.out)
    go_wp2_with ((with_reducible refine wpList_store_mid rfl 68 (.tmp 8) (.tmp 21) rfl (w.heap.size + 1) 0 frZ ?hx ?hy TH.out iZ.out oZ.out ?_); (case hx => rfl); (case hy => rfl))
    exact bodyPost_ret (v := .tuple #[.agg frZ, .bool false]) (res_out _ _ (w.heap.size + 1) _ rfl G1.out rfl) rfl ⟨by rw [hR0.out], below_cells (by omega) _ _ _ OS0.out.bel⟩
  | true =>
  have hp8 := HM8.out rfl
  have p0 : (0 : Int) ≤ (p : Int) := by omega
  have p8 : (p : Int) ≤ 8 := by omega
  have HR1 : Hid (R = if e = 0 then (FF, true) else (frZ, false)) := Lib.hid (by rw [HRR.out]; rfl)
  clear HRR HM8 hp8
  have c12 := OS0.out.f.c 12 _ HH.out.1
  have c14 := OS0.out.f.c 14 _ HH.out.2.2
  have r12 := OS0.out.f.free 12
  have r14 := OS0.out.f.free 14
  go_upto_region 4 with fail
  have fa0 : FB w0 w.heap.size (frA x0 x1 x2 x3 x4 x5 x6 x7 x8 x9 x10 x11 xt xp xv xy xd) := by rw [HAA.out]; exact OS0.out.f
  have fa1 := (fa0.set12 true).set14 k
  have fz1 := (OS0.out.z.other (t := w.heap.size) (o := 12) (by omega) (.bool true)).other (t := w.heap.size) (o := 14) (by omega) (.int .u16 k)
  have hb1 := below_set (b := w.heap.size) (o := 14) (below_set (b := w.heap.size) (o := 12) OS0.out.bel (Nat.le_refl _) (.bool true)) (Nat.le_refl _) (.int .u16 k)
  obtain ⟨w1, hw1⟩ : ∃ x, (w0.setCell ⟨w.heap.size, 12, none⟩ (.bool true)).setCell ⟨w.heap.size, 14, none⟩ (.int .u16 k) = x := ⟨_, rfl⟩
  rw [hw1] at fa1 fz1 hb1 ⊢
  obtain ⟨A1, hA1⟩ : ∃ A, frA x0 x1 x2 x3 x4 x5 x6 x7 x8 x9 x10 x11 true xp k xy xd = A := ⟨_, rfl⟩
  rw [hA1] at fa1
  have OS1 : Hid (OS w w1 A1) := Lib.hid ⟨fa1, fz1, hb1⟩
  have TS1 := Lib.hid (TSW.out.later hb1)
  have d12 := fa1.c 12 (.bool true) (by rw [← hA1]; rfl)
  have d13 := fa1.c 13 (.int .u8 xp) (by rw [← hA1]; rfl)
  have d14 := fa1.c 14 (.int .u16 k) (by rw [← hA1]; rfl)
  have s12 := fa1.free 12
  have s13 := fa1.free 13
  have s14 := fa1.free 14
  have lk := LK.out w1 TS1.out
  have c1 := TS1.out.tb.c1
  have HA1 := Lib.hid hA1
  clear hw1 fa0 fa1 fz1 hb1 c12 c14 r12 r14 OS0 TS0 hA1
  go_upto_if 35 with fail
  go_cut [9] (fun s9 wx => s9 = .bool false ∧ Hid (OS w wx FF))
  case first =>
    cases U with
    | false =>
      have hAF : A1 = FF := by rw [← HA1.out, ← HFF.out]; rfl
      have OSF : Hid (OS w w1 FF) := Lib.hid (by rw [← hAF]; exact OS1.out)
      clear hAF
      go_wp2_with fail
      go_meet
      exact ⟨rfl, OSF⟩
    | true =>
      have fa : FB w1 w.heap.size (frA x0 x1 x2 x3 x4 x5 x6 x7 x8 x9 x10 x11 true xp k xy xd) := by rw [HA1.out]; exact OS1.out.f
      have fb := ((fa.set12 false).set14 0).set13 0
      have fz := ((OS1.out.z.other (t := w.heap.size) (o := 12) (by omega) (.bool false)).other (t := w.heap.size) (o := 14) (by omega) (.int .u16 0)).other (t := w.heap.size) (o := 13) (by omega) (.int .u8 0)
      have hb := below_set (b := w.heap.size) (o := 13) (below_set (b := w.heap.size) (o := 14) (below_set (b := w.heap.size) (o := 12) OS1.out.bel (Nat.le_refl _) (.bool false)) (Nat.le_refl _) (.int .u16 0)) (Nat.le_refl _) (.int .u8 0)
      have hAF : frA x0 x1 x2 x3 x4 x5 x6 x7 x8 x9 x10 x11 false 0 0 xy xd = FF := by rw [← HFF.out]; rfl
      rw [hAF] at fb
      have OSF := Lib.hid (OS.mk fb fz hb)
      clear fa fb fz hb hAF
      go_wp2_with fail
      go_meet
      exact ⟨rfl, OSF⟩
  case rest =>
    obtain ⟨rfl, OSF⟩ := hcut
    clear OS1 TS1 d12 d13 d14 s12 s13 s14 lk c1
    go_wp2_with ((with_reducible refine wpList_load_mid rfl 68 (.tmp 7) rfl w.heap.size 0 ?hx FF.toList _ OSF.out.f.range Tryz.underlying68 ?hu iFL.out ?_); (case hx => rfl); (case hu => rfl))
    with_reducible refine (P1.out _).mono ?_
    rintro en w3 ⟨rfl, hb3⟩
    have OS3 := Lib.hid (OSF.out.later hb3)
    clear hb3 OSF
    by_cases he : e = 0
    · have de : (e != 0) = false := by rw [he]; rfl
      have hR0 : Hid (R = (FF, true)) := Lib.hid (by rw [HR1.out, if_pos he])
      have TH := Lib.hid (OS3.out.z.there (n := FF.size) (by rw [sF.out]; exact Nat.le_refl _))
      have G1 := Lib.hid (OS3.out.z.store (A := FF) (by rw [sF.out]; rfl) oF.out)
      clear he
      go_wp2_with (first | ((with_reducible refine wpList_load_mid rfl 68 (.tmp 7) rfl w.heap.size 0 ?hx FF.toList _ OS3.out.f.range Tryz.underlying68 ?hu iFL.out ?_); (case hx => rfl); (case hu => rfl)) | ((with_reducible refine wpList_store_mid rfl 68 (.tmp 8) (.tmp 47) rfl (w.heap.size + 1) 0 FF ?hx ?hy TH.out iF.out oF.out ?_); (case hx => rfl); (case hy => rfl)))
      exact bodyPost_ret (v := .tuple #[.agg FF, .bool true]) (res_out _ _ (w.heap.size + 1) _ rfl G1.out sF.out) rfl ⟨by rw [hR0.out], below_cells (by omega) _ _ _ OS3.out.bel⟩
    · have de : (e != 0) = true := by rw [bne_iff_ne]; exact he
      have hR0 : Hid (R = (frZ, false)) := Lib.hid (by rw [HR1.out, if_neg he])
      have TH := Lib.hid (OS3.out.z.there (n := frZ.size) (Nat.le_refl _))
      have G1 := Lib.hid (OS3.out.z.store (A := frZ) rfl oZ.out)
      clear he
      go_wp2_with ((with_reducible refine wpList_store_mid rfl 68 (.tmp 8) (.tmp 46) rfl (w.heap.size + 1) 0 frZ ?hx ?hy TH.out iZ.out oZ.out ?_); (case hx => rfl); (case hy => rfl))
      exact bodyPost_ret (v := .tuple #[.agg frZ, .bool false]) (res_out _ _ (w.heap.size + 1) _ rfl G1.out rfl) rfl ⟨by rw [hR0.out], below_cells (by omega) _ _ _ OS3.out.bel⟩
end Go.Proofs.YtpkkjbmgbgakdaaGreatDoor
