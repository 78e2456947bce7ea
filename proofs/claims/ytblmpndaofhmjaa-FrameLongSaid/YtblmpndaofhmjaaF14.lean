/- frame: the walk of FrameBack. -/
import Derived.Test.YtblmpndaofhmjaaF12
import Derived.Test.YtblmpndaofhmjaaF13
set_option linter.unusedVariables false
namespace Go.Proofs.Ytblmpndaofhmjaa
open Go.RowKit

/-- A guarded load of a whole variable, its guard met. -/
theorem wpList_load_g {P : Program} {ops : Array Oper} {rest : List Oper} {op : Oper} {a : Act} {w : World} {Q : Exit → Act → World → Prop} (hw : Region.wanted op (yielded ops a.tmps) = true) (ty : TypeId) (x : Operand) (ho : op.op = .load ty x)
    (b o : Nat) (hx : a.eval x = .pointer (some ⟨b, o, none⟩)) (cs : List Value) (d : TypeDesc) (hc : w.rangeAt b o cs)
    (hu : P.underlying ty = some d) (hd : d.isRow = true) (hi : (P.info? ty).map (·.size) = some cs.length)
    (h : wpList P ops Q rest (a.put op.dst (.agg cs.toArray)) w) : wpList P ops Q (op :: rest) a w :=
  wpList_step fun _ hK => by rw [if_pos hw]; exact wp_load_mid ty x ho b o hx cs d hc hu hd hi (hK _ _ h)
set_option maxRecDepth 100000 in
set_option maxHeartbeats 8000000 in
theorem FrameBack_walk (A : Array Value) (t : ByteArray) (w : World) (hA : Fr A) (ht : t.size ≤ maxLen) : Calls Try.prog 11 #[.agg A, .string t] w fun en w' => en = .returned (.bool true) ∧ Below w.heap.size w w' := by
  have ia := hA.is
  obtain ⟨s, rfl⟩ : ∃ l, t = bs l := ⟨_, bs_of t⟩
  obtain ⟨x0, x1, x2, x3, x4, x5, x6, x7, x8, x9, x10, x11, xt, xp, xv, xy, xd, hA, hw, hd⟩ := hA
  rw [bs_size] at ht
  have hsz := bs_size xd
  have hss := bs_size s
  have fb0 := FB.new w A
  have c16 := fb0.c 16 (.string (bs xd)) (by rw [hA]; rfl)
  have FB0 := Lib.hid fb0
  have hb0 : Below w.heap.size w (w.alloc (.cells A 51)) := (Below.refl _ _).alloc (Nat.le_refl _) _
  have HB0 := Lib.hid hb0
  have WK := Lib.hid wakes03_any
  clear fb0 hb0
  by_cases h2 : 2000 < xd.length
  · have d2 : decide ((2000 : Int) < (xd.length : Int)) = true := decide_eq_true (by omega)
    clear hA hw hd
    go_enter Try.func11, Try.ntmps11
    go_wp2_with fail
    with_reducible refine (WK.out _).mono ?_
    rintro en w1 ⟨rfl, hb⟩
    go_wp2
    go_ret
    exact ⟨rfl, HB0.out.trans (hb.mono HB0.out.size)⟩
  have d2 : decide ((2000 : Int) < (xd.length : Int)) = false := decide_eq_false (by omega)
  by_cases h3 : 2000 < s.length
  · have d3 : decide ((2000 : Int) < (s.length : Int)) = true := decide_eq_true (by omega)
    clear hA hw hd
    go_enter Try.func11, Try.ntmps11
    go_wp2_with fail
    with_reducible refine (WK.out _).mono ?_
    rintro en w1 ⟨rfl, hb⟩
    go_wp2
    go_ret
    exact ⟨rfl, HB0.out.trans (hb.mono HB0.out.size)⟩
  have d3 : decide ((2000 : Int) < (s.length : Int)) = false := decide_eq_false (by omega)
  obtain ⟨V, e, hP⟩ : ∃ V e, putF x0 x1 x2 x3 x4 x5 x6 x7 x8 x9 x10 x11 xt xp xv xy xd = (V, e) := ⟨_, _, rfl⟩
  have P1 : ∀ w, Calls Try.prog 31 #[.agg A] w fun en w' => en = .returned (.tuple #[.string (bs V), .int .i64 e]) ∧ Below w.heap.size w w' := fun w => by
    have h := fput_A A x0 x1 x2 x3 x4 x5 x6 x7 x8 x9 x10 x11 xt xp xv xy xd hA w hw (by omega)
    rw [hP] at h; exact h
  have P2 : e = 0 → (∀ w, Calls Try.prog 34 #[.string (bs V)] w fun en w' => en = .returned (.tuple #[.agg A, .int .i64 0]) ∧ Below w.heap.size w w') ∧ (∀ w, Calls Try.prog 33 #[.agg A] w fun en w' => en = .returned (.int .i64 (V.length : Int)) ∧ Below w.heap.size w w') := fun he => by
    rw [he] at hP
    obtain ⟨q1, q2⟩ := put_take x0 x1 x2 x3 x4 x5 x6 x7 x8 x9 x10 x11 xt xp xv xy xd V hw hP
    have q3 : (V.length : Int) ≤ 100000 := by rw [q2]; unfold lenF; split <;> omega
    refine ⟨fun w => ?_, fun w => ?_⟩
    · have h := ftake_any V w (by omega)
      rw [q1, ← hA] at h; exact h
    · rw [q2]; exact flen_A A x0 x1 x2 x3 x4 x5 x6 x7 x8 x9 x10 x11 xt xp xv xy xd hA w (by omega)
  obtain ⟨G, h, hT⟩ : ∃ G h, tkF s = (G, h) := ⟨_, _, rfl⟩
  have ig : isFr G := by have := isFr_tk s; rw [hT] at this; exact this
  have T1 : ∀ w, Calls Try.prog 34 #[.string (bs s)] w fun en w' => en = .returned (.tuple #[.agg G, .int .i64 h]) ∧ Below w.heap.size w w' := fun w => by
    have h := ftake_any s w (by omega)
    rw [hT] at h; exact h
  have T2 : (h ≠ 0 ∧ G = frZ) ∨ (h = 0 ∧ ∀ w, Calls Try.prog 31 #[.agg G] w fun en w' => en = .returned (.tuple #[.string (bs s), .int .i64 0]) ∧ Below w.heap.size w w') := by
    rcases take_put s G h hT with h1 | ⟨h1, _, y0, y1, y2, y3, y4, y5, y6, y7, y8, y9, y10, y11, yt, yp, yv, yy, yd, hy, hwy, hdy, hpy⟩
    · exact .inl h1
    · refine .inr ⟨h1, fun w => ?_⟩
      have h := fput_A G y0 y1 y2 y3 y4 y5 y6 y7 y8 y9 y10 y11 yt yp yv yy yd hy w hwy (by omega)
      rw [hpy] at h; exact h
  have PP1 := Lib.hid P1
  have PP2 := Lib.hid P2
  have TT1 := Lib.hid T1
  have TT2 := Lib.hid T2
  have hsv := bs_size V
  have i1 := frame_infoL ia
  have j1 := frame_info ia
  have o1 := ia.one
  have i2 := frame_infoL ig
  have j2 := frame_info ig
  have o2 := ig.one
  have neA : ∀ w : World, (binOp .neq 51 (.agg A) (.agg A)).run Try.prog w = .ok (.bool false) w := run_neq_frame _ ia
  have hg := eqGuard_fr
  clear P1 P2 T1 T2 hP hT hA hw hd h2 h3 ht
  go_enter Try.func11, Try.ntmps11
  go_wp2_with ((with_reducible refine wpList_load_mid rfl 51 (.tmp 2) rfl w.heap.size 0 ?hx A.toList _ FB0.out.range Try.underlying51 ?hu i1 ?_); (case hx => rfl); (case hu => rfl))
  with_reducible refine (PP1.out _).mono ?_
  rintro en w1 ⟨rfl, hb1⟩
  have FB1 := Lib.hid (FB0.out.later hb1)
  have HB1 := Lib.hid (HB0.out.trans (hb1.mono HB0.out.size))
  clear hb1 FB0 HB0 c16 PP1
  go_upto_if 29 with fail
  go_cut [] (fun wx => Hid (Below w.heap.size w wx))
  case first =>
    by_cases he : e = 0
    · obtain ⟨q1, q2⟩ := PP2.out he
      have Q1 := Lib.hid q1
      have Q2 := Lib.hid q2
      clear q1 q2
      subst he
      go_wp2_with fail
      with_reducible refine (Q1.out _).mono ?_
      rintro en w2 ⟨rfl, hb2⟩
      have FB2 := Lib.hid (FB1.out.later hb2)
      have HB2 := Lib.hid (HB1.out.trans (hb2.mono HB1.out.size))
      have th := fr_there w2 ia
      clear hb2 FB1 HB1
      go_upto_region 6 with ((with_reducible refine wpList_store_mid rfl 51 (.tmp 7) (.tmp 33) rfl w2.heap.size 0 A ?hx ?hy th j1 o1 ?_); (case hx => rfl); (case hy => rfl))
      have fs := fr_stored w2 ia
      have hbz : Below w2.heap.size w2 ((w2.alloc (.cells #[.int .u8 0, .int .u8 0, .int .u8 0, .int .u8 0, .int .u8 0, .int .u8 0, .int .u8 0, .int .u8 0, .int .u8 0, .int .u8 0, .int .u8 0, .int .u8 0, .bool false, .int .u8 0, .int .u16 0, .int .u16 0, .string { data := #[] }] 51)).setCells w2.heap.size 0 A.toList) := below_cells (Nat.le_refl _) _ _ _ ((Below.refl _ _).alloc (Nat.le_refl _) _)
      have hb3 := HB2.out.trans (hbz.mono HB2.out.size)
      have fb3 := FB2.out.later hbz
      obtain ⟨w3, hw3⟩ : ∃ k, (w2.alloc (.cells #[.int .u8 0, .int .u8 0, .int .u8 0, .int .u8 0, .int .u8 0, .int .u8 0, .int .u8 0, .int .u8 0, .int .u8 0, .int .u8 0, .int .u8 0, .int .u8 0, .bool false, .int .u8 0, .int .u16 0, .int .u16 0, .string { data := #[] }] 51)).setCells w2.heap.size 0 A.toList = k := ⟨_, rfl⟩
      rw [hw3] at fs hb3 fb3 ⊢
      have HB3 := Lib.hid hb3
      have FS3 := Lib.hid fs
      have FB3 := Lib.hid fb3
      clear hw3 fs hb3 fb3 hbz th FB2 HB2
      go_wp2_with (first | ((with_reducible refine wpList_load_g ?hw 51 (.tmp 7) rfl w2.heap.size 0 ?hx A.toList _ FS3.out.range Try.underlying51 ?hu i1 ?_); (case hw => rfl); (case hx => rfl); (case hu => rfl)) | ((with_reducible refine wpList_load_g ?hw 51 (.tmp 2) rfl w.heap.size 0 ?hx A.toList _ FB3.out.range Try.underlying51 ?hu i1 ?_); (case hw => rfl); (case hx => rfl); (case hu => rfl)))
      with_reducible refine (Q2.out _).mono ?_
      rintro en w4 ⟨rfl, hb4⟩
      have HB4 := Lib.hid (HB3.out.trans (hb4.mono HB3.out.size))
      clear hb4 HB3
      go_wp2_with fail
      go_meet
      exact HB4
    · have de : (e == 0) = false := by rw [beq_eq_false_iff_ne]; exact he
      clear he
      go_wp2_with fail
      go_meet
      exact HB1
  case rest =>
    clear FB1 HB1
    have HB4 := hcut
    go_wp2_with fail
    with_reducible refine (TT1.out _).mono ?_
    rintro en w2 ⟨rfl, hb2⟩
    have HB2 := Lib.hid (HB4.out.trans (hb2.mono HB4.out.size))
    have th := fr_there w2 ig
    clear hb2 HB4 hcut
    go_upto_region 9 with ((with_reducible refine wpList_store_mid rfl 51 (.tmp 9) (.tmp 52) rfl w2.heap.size 0 G ?hx ?hy th j2 o2 ?_); (case hx => rfl); (case hy => rfl))
    have fs := fr_stored w2 ig
    have hb3 : Below w.heap.size w ((w2.alloc (.cells #[.int .u8 0, .int .u8 0, .int .u8 0, .int .u8 0, .int .u8 0, .int .u8 0, .int .u8 0, .int .u8 0, .int .u8 0, .int .u8 0, .int .u8 0, .int .u8 0, .bool false, .int .u8 0, .int .u16 0, .int .u16 0, .string { data := #[] }] 51)).setCells w2.heap.size 0 G.toList) := below_cells HB2.out.size _ _ _ (HB2.out.alloc HB2.out.size _)
    obtain ⟨w3, hw3⟩ : ∃ k, (w2.alloc (.cells #[.int .u8 0, .int .u8 0, .int .u8 0, .int .u8 0, .int .u8 0, .int .u8 0, .int .u8 0, .int .u8 0, .int .u8 0, .int .u8 0, .int .u8 0, .int .u8 0, .bool false, .int .u8 0, .int .u16 0, .int .u16 0, .string { data := #[] }] 51)).setCells w2.heap.size 0 G.toList = k := ⟨_, rfl⟩
    rw [hw3] at fs hb3 ⊢
    have HB3 := Lib.hid hb3
    have FS3 := Lib.hid fs
    clear hw3 fs hb3 th HB2
    rcases TT2.out with ⟨hh, hG⟩ | ⟨hh, P3⟩
    · have dh : (h != 0) = true := by rw [bne_iff_ne]; exact hh
      have eqZ : ∀ w : World, (binOp .eql 51 (.agg G) (.agg #[.int .u8 0, .int .u8 0, .int .u8 0, .int .u8 0, .int .u8 0, .int .u8 0, .int .u8 0, .int .u8 0, .int .u8 0, .int .u8 0, .int .u8 0, .int .u8 0, .bool false, .int .u8 0, .int .u16 0, .int .u16 0, .string { data := #[] }])).run Try.prog w = .ok (.bool true) w := by rw [hG]; exact run_eql_frame frZ isFr_Z
      clear hG hh
      go_wp2_with ((with_reducible refine wpList_load_mid rfl 51 (.tmp 9) rfl w2.heap.size 0 ?hx G.toList _ FS3.out.range Try.underlying51 ?hu i2 ?_); (case hx => rfl); (case hu => rfl))
      with_reducible refine (WK.out _).mono ?_
      rintro en w4 ⟨rfl, hb4⟩
      go_wp2
      go_ret
      exact ⟨rfl, HB3.out.trans (hb4.mono HB3.out.size)⟩
    · have PP3 := Lib.hid P3
      have dh : (h != 0) = false := by rw [hh]; rfl
      clear P3 hh
      go_wp2_with ((with_reducible refine wpList_load_mid rfl 51 (.tmp 9) rfl w2.heap.size 0 ?hx G.toList _ FS3.out.range Try.underlying51 ?hu i2 ?_); (case hx => rfl); (case hu => rfl))
      with_reducible refine (PP3.out _).mono ?_
      rintro en w4 ⟨rfl, hb4⟩
      have HB4 := Lib.hid (HB3.out.trans (hb4.mono HB3.out.size))
      clear hb4
      go_wp2_with fail
      with_reducible refine (WK.out _).mono ?_
      rintro en w5 ⟨rfl, hb5⟩
      go_wp2
      go_ret
      exact ⟨rfl, HB4.out.trans (hb5.mono HB4.out.size)⟩
end Go.Proofs.Ytblmpndaofhmjaa
