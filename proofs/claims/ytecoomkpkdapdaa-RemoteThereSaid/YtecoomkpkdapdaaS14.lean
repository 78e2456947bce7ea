/- law18: the walk of RemoteThere. -/
import Derived.Test.YtecoomkpkdapdaaS13
import Derived.Test.YtecoomkpkdapdaaK2
set_option linter.unusedVariables false
set_option linter.unusedSimpArgs false
namespace Go.Proofs.Ytecoomkpkdapdaa
open Go.RowKit

theorem u8_of {k : Int} (h : (Lit.int .u8 k).wf = true) : 0 ≤ k ∧ k < 256 := by simp [Lit.wf, IntKind.min, IntKind.max, IntKind.bits, IntKind.signed] at h; omega
/-- What is kept. -/
structure RT (w W : World) (cx q m : Nat) (lv iv x b y c bd cr : Int) : Prop where
  wq : WQ w W q m (thA lv iv) [(8, x, b), (9, y, c)] bd cr
  cb : CB 73 W cx lv false iv 0 8 mdM
  nq : cx ≠ q
  nm : cx ≠ m
  xb : 0 ≤ x ∧ x ≤ 1000
  yb : 0 ≤ y ∧ y ≤ 1000
  db : 0 ≤ bd ∧ bd ≤ 1000
  rb : 0 ≤ cr ∧ cr ≤ 1000
theorem RT.bnd {w W : World} {cx q m : Nat} {lv iv x b y c bd cr : Int} (h : RT w W cx q m lv iv x b y c bd cr) : Bnd [(8, x, b), (9, y, c)] bd cr :=
  ⟨by
    intro z hz
    rcases List.mem_cons.1 hz with rfl | hz
    · exact h.xb
    · rw [List.mem_singleton.1 hz]; exact h.yb, by
    intro z hz
    rcases List.mem_cons.1 hz with rfl | hz
    · show (0 : Int) ≤ 8 ∧ (8 : Int) < 65536; decide
    · rw [List.mem_singleton.1 hz]; show (0 : Int) ≤ 9 ∧ (9 : Int) < 65536; decide, h.db, h.rb⟩
theorem CB.two {T : TypeId} {W W' : World} {g q m : Nat} {xlv : Int} {xrd : Bool} {xiv xsq xme : Int} {xm : List UInt8} (h : CB T W g xlv xrd xiv xsq xme xm) (ht : Two q m W W') (h1 : g ≠ q) (h2 : g ≠ m) : CB T W' g xlv xrd xiv xsq xme xm := (ht.block g h.lt h1 h2).trans h
theorem RT.later {w W W' : World} {cx q m : Nat} {lv iv x b y c bd cr : Int} (h : RT w W cx q m lv iv x b y c bd cr) (hb : Below W.heap.size W W') : RT w W' cx q m lv iv x b y c bd cr :=
  ⟨h.wq.later hb, h.cb.later hb, h.nq, h.nm, h.xb, h.yb, h.db, h.rb⟩
theorem RT.tick {w W : World} {cx q m : Nat} {lv iv x b y c bd cr : Int} (h : RT w W cx q m lv iv x b y c bd cr) : Calls Try.prog 30 #[.pointer (some ⟨q, 0, none⟩)] W fun en w' => en = .returned (.tuple #[]) ∧ RT w w' cx q m lv iv (dn1 x) b (dn1 y) c (dn1 bd) (dn1 cr) :=
  (tick_any q m _ _ bd cr W h.wq.mc h.bnd).mono fun en w' ⟨h1, h2, h3⟩ => ⟨h1, h.wq.two h2 h3, h.cb.two h3 h.nq h.nm, h.nq, h.nm, dn1_bnd h.xb, dn1_bnd h.yb, dn1_bnd h.db, dn1_bnd h.rb⟩
theorem RT.bad {w W : World} {cx q m : Nat} {lv iv x b y c bd cr t : Int} (h : RT w W cx q m lv iv x b y c bd cr) (h1 : 0 ≤ lv ∧ lv < 8) (h2 : iv = 4 ∨ iv = 5) : Calls Try.prog 31 #[.pointer (some ⟨q, 0, none⟩), .agg #[.int .u8 (badT lv iv t).1, .bool false, .int .u8 (badT lv iv t).2.1, .int .u32 0, .int .u16 (badT lv iv t).2.2, .string (bs mdM)]] W fun en w' => en = .returned (.tuple #[]) ∧ ∃ bd', RT w w' cx q m lv iv x b y c bd' cr := by
  obtain ⟨bd', he, hb1, hb2⟩ := hear_bad (x := x) (b := b) (y := y) (c := c) (bd := bd) (cr := cr) (t := t) h1 h2 h.db
  have H := hear_any q m _ _ bd cr (badT lv iv t).1 false (badT lv iv t).2.1 0 (badT lv iv t).2.2 mdM W h.wq.mc h.bnd (by rw [mdM_len]; decide) (by decide) (by have : (badT lv iv t).2.2 = 7 ∨ (badT lv iv t).2.2 = 8 ∨ (badT lv iv t).2.2 = 10 := (by unfold badT; split; exact .inl rfl; split; exact .inr (.inl rfl); split; exact .inr (.inl rfl); exact .inr (.inr rfl)); omega)
  rw [he] at H
  exact H.mono fun en w' ⟨e1, e2, e3⟩ => ⟨e1, bd', h.wq.two e2 e3, h.cb.two e3 h.nq h.nm, h.nq, h.nm, h.xb, h.yb, ⟨hb1, hb2⟩, h.rb⟩
theorem RT.good {w W : World} {cx q m : Nat} {lv iv x b y c bd cr : Int} (h : RT w W cx q m lv iv x b y c bd cr) (h1 : 0 ≤ lv ∧ lv < 8) (h2 : iv = 4 ∨ iv = 5) : Calls Try.prog 31 #[.pointer (some ⟨q, 0, none⟩), .agg #[.int .u8 lv, .bool false, .int .u8 iv, .int .u32 0, .int .u16 8, .string (bs mdM)]] W fun en w' => en = .returned (.tuple #[]) ∧ RT w w' cx q m lv iv (lastC iv) 0 y c bd cr := by
  have H := hear_any q m _ _ bd cr lv false iv 0 8 mdM W h.wq.mc h.bnd (by rw [mdM_len]; decide) (by decide) (by decide)
  rw [hear_good h1 h2] at H
  exact H.mono fun en w' ⟨e1, e2, e3⟩ => ⟨e1, h.wq.two e2 e3, h.cb.two e3 h.nq h.nm, h.nq, h.nm, by have := lastC_bnd h2; omega, h.yb, h.db, h.rb⟩
/-- What Lost says of the eighth. -/
theorem RT.lost {w W : World} {cx q m : Nat} {lv iv x b y c bd cr : Int} (h : RT w W cx q m lv iv x b y c bd cr) : Calls Try.prog 34 #[.pointer (some ⟨q, 0, none⟩)] W fun en w' => RT w w' cx q m lv iv x b y c bd cr ∧
    ((x ≠ 0 ∧ ∃ a k, en = .returned (.slice a 0 k)) ∨ (x ≠ 0 ∧ ∃ g k, en = .returned (.slice (some ⟨g, 0, none⟩) 1 k) ∧ w'.cell? ⟨g, 0, none⟩ = some (.int .u16 9)) ∨ (x = 0 ∧ ∃ g n k, 1 ≤ n ∧ n ≤ 2 ∧ en = .returned (.slice (some ⟨g, 0, none⟩) n k) ∧ w'.cell? ⟨g, 0, none⟩ = some (.int .u16 8))) := by
  refine (mL_any q m _ _ bd cr W h.wq.mc).mono fun en w' ⟨v, h1, hu, hb⟩ => ⟨h.later hb, ?_⟩
  obtain ⟨sa, sc, rfl, hsh⟩ := hu.cells
  have hx : x ≠ 0 ∧ (thoseV isL [(8, x, b), (9, y, c)] = [] ∨ thoseV isL [(8, x, b), (9, y, c)] = [9]) ∨ (x = 0 ∧ ∃ r, r.length ≤ 1 ∧ thoseV isL [(8, x, b), (9, y, c)] = 8 :: r) := by
    rcases those_two (x := x) (b := b) (y := y) (c := c) with ⟨h1, h2⟩ | ⟨_, h1, h2⟩ | h1
    · exact .inl ⟨by omega, h2⟩
    · exact .inl ⟨fun e => h1 e.symm, h2⟩
    · exact .inr h1
  rcases hx with ⟨h0, e | e⟩ | ⟨h0, r, hr, e⟩
  · rw [e] at h1
    exact .inl ⟨h0, sa, sc, h1⟩
  · rw [e] at h1 hsh
    obtain ⟨g, rfl, hc⟩ := hsh.resolve_left (by decide)
    exact .inr (.inl ⟨h0, g, sc, h1, hc 0 (by decide)⟩)
  · rw [e] at h1 hsh
    obtain ⟨g, rfl, hc⟩ := hsh.resolve_left (by simp)
    exact .inr (.inr ⟨h0, g, r.length + 1, sc, by omega, by omega, h1, hc 0 (by simp)⟩)
set_option maxRecDepth 100000 in
set_option maxHeartbeats 16000000 in
theorem RemoteThere_walk (l : Int) (ten : Bool) (a : Option Addr) (len cap : Nat) (rows : List UInt8) (wrong : Int) (w : World) (hl : (Lit.int .u8 l).wf = true) (hA : Src w (.slice a len cap) rows ∧ len = rows.length ∧ len ≤ maxLen) (hw : (Lit.int .u8 wrong).wf = true) :
    Calls Try.prog 9 #[.int .u8 l, .bool ten, .slice a len cap, .int .u8 wrong] w fun en w' => en = .returned (.bool true) ∧ Below w.heap.size w w' := by
  obtain ⟨hS, hlen, hmax⟩ := hA
  unfold maxLen at hmax
  have WK := Lib.hid wakes18_any
  have hlb : 0 ≤ l ∧ l < 256 := u8_of hl
  have hwb : 0 ≤ wrong ∧ wrong < 256 := u8_of hw
  by_cases h1 : 40 < len
  · have d1 : decide ((40 : Int) < (len : Int)) = true := decide_eq_true (by omega)
    clear hS hlen
    go_enter Try.func9, Try.ntmps9
    go_wp2_with (go_at_call 25; with_reducible refine (WK.out _).mono ?_; rintro e w' ⟨rfl, hb⟩)
    go_ret
    exact ⟨rfl, hb⟩
  have d1 : decide ((40 : Int) < (len : Int)) = false := decide_eq_false (by omega)
  have HL := Lib.hid hlen
  have hcells : ∀ k, (hk : k < rows.length) → ∃ b off, a = some ⟨b, off, none⟩ ∧ b < w.heap.size ∧ w.cell? ⟨b, off + k, none⟩ = some (byteV rows[k]) := by
    intro k hk
    rcases hS with ⟨_, h⟩ | ⟨ad, c, h, hc⟩
    · rw [h] at hk; simp at hk
    · simp only [Value.slice.injEq] at h
      obtain ⟨b, off, spot⟩ := ad
      have h0 := hc 0 (by omega)
      have hsp : spot = none := by simpa [Addr.add] using World.cell?_spot h0
      subst hsp
      have h3 := hc k hk
      rw [Go.WideShapes.add_plain] at h3
      exact ⟨b, off, h.1, World.block_lt_of_cell? w _ h3, h3⟩
  have HC := Lib.hid hcells
  have hln : len ≤ 40 := by omega
  have MD := Lib.hid maid18_any
  clear hS hlen hcells hmax hl hw h1
  go_enter Try.func9, Try.ntmps9
  go_wp2_with fail
  with_reducible refine (MD.out _).mono ?_
  rintro en w1 ⟨rfl, hb1⟩
  have B1 := Lib.hid hb1
  clear hb1
  go_upto_if 29 with fail
  obtain ⟨lv, hlv⟩ : ∃ z, l % 8 = z := ⟨_, rfl⟩
  have hlvb : 0 ≤ lv ∧ lv < 8 := by omega
  rw [hlv]
  have g0 : GB 62 (w1.alloc (.cells #[.int .u8 lv, .int .u16 7, .int .u8 4, .string (bs mdM)] 62)) w1.heap.size (ow8A (thA lv 4)) := heap_alloc_new _ _
  have b0 : Below w.heap.size w (w1.alloc (.cells #[.int .u8 lv, .int .u16 7, .int .u8 4, .string (bs mdM)] 62)) := B1.out.alloc B1.out.size _
  obtain ⟨w2, hw2⟩ : ∃ k, w1.alloc (.cells #[.int .u8 lv, .int .u16 7, .int .u8 4, .string (bs mdM)] 62) = k := ⟨_, rfl⟩
  rw [hw2] at g0 b0 ⊢
  have G0 := Lib.hid g0
  have B0 := Lib.hid b0
  have HO := Lib.hid B1.out.size
  obtain ⟨ow, how⟩ : ∃ k, w1.heap.size = k := ⟨_, rfl⟩
  rw [how] at G0 HO ⊢
  clear hw2 g0 b0 B1 how hlv
  have f2 : w2.frozen? ⟨ow, 2, none⟩ = false := G0.out.fr 2
  have k2 : w2.cell? ⟨ow, 2, none⟩ = some (.int .u8 4) := G0.out.c 2 _ rfl
  go_cut [] (fun wx => ∃ iv, Hid (iv = 4 ∨ iv = 5) ∧ Hid (GB 62 wx ow (ow8A (thA lv iv)) ∧ Below w.heap.size w wx))
  case first =>
    cases ten
    · go_wp2_with fail
      go_meet
      exact ⟨4, Lib.hid (.inl rfl), Lib.hid ⟨G0.out, B0.out⟩⟩
    · go_wp2_with fail
      go_meet
      refine ⟨5, Lib.hid (.inr rfl), Lib.hid ⟨?_, below_set B0.out HO.out _⟩⟩
      have g := G0.out
      unfold GB at g ⊢
      simp [World.setCell, Array.getElem?_modify, g, ow8A, thA]
  case rest =>
    obtain ⟨iv, HIV, HGB⟩ := hcut
    clear f2 k2 G0 B0
    have k0 : wc.cell? ⟨ow, 0, none⟩ = some (.int .u8 lv) := HGB.out.1.c 0 _ rfl
    have k1 : wc.cell? ⟨ow, 1, none⟩ = some (.int .u16 7) := HGB.out.1.c 1 _ rfl
    have k2 : wc.cell? ⟨ow, 2, none⟩ = some (.int .u8 iv) := HGB.out.1.c 2 _ rfl
    have k3 : wc.cell? ⟨ow, 3, none⟩ = some (.string (bs mdM)) := HGB.out.1.c 3 _ rfl
    obtain ⟨N, hN⟩ : ∃ N, lastC iv = N := ⟨_, rfl⟩
    have LA := Lib.hid (fun w => lasts_any iv w)
    rw [hN] at LA
    have HN := Lib.hid hN
    have NW : Hid (∀ (g : Nat) w, w.cell? ⟨g, 0, none⟩ = some (.int .u16 9) → w.cell? ⟨g, 1, none⟩ = some (.int .u16 8) → Calls Try.prog 26 #[.agg #[.int .u8 lv, .int .u16 7, .int .u8 iv, .string (bs mdM)], .slice (some ⟨g, 0, none⟩) 2 2] w fun en w' => ∃ q m, en = .returned (.tuple #[.pointer (some ⟨q, 0, none⟩), .int .i64 0]) ∧ NS w w' q m (thA lv iv) [(8, N, 0), (9, N, 0)]) := Lib.hid fun g w hc hc1 => by
      refine (new18_any (thA lv iv) (thA_ok hlvb HIV.out) (.slice (some ⟨g, 0, none⟩) 2 2) [9, 8] (by intro x hx; simp at hx; omega) w (.inr ⟨⟨g, 0, none⟩, 2, rfl, .inr ⟨g, 0, rfl, fun j hj i hi => ?_⟩⟩) (by simp)).mono ?_
      · have hi0 : i = 0 := by omega
        have hj2 : j < 2 := hj
        subst hi0
        rcases j with _ | _ | j
        · exact hc
        · exact hc1
        · omega
      · rintro en w' (⟨h, _⟩ | ⟨V, q, m, hV, rfl, h⟩)
        · rw [newV_T hlvb HIV.out] at h; cases h
        · rw [newV_T hlvb HIV.out, HN.out] at hV; cases hV; exact ⟨q, m, rfl, h⟩
    obtain ⟨T, hT⟩ : ∃ T, tickC iv = T := ⟨_, rfl⟩
    have TA : Hid (∀ w, Calls Try.prog 41 #[.int .u8 iv] w fun en w' => en = .returned (.int .i64 T) ∧ w = w') := Lib.hid fun w => by rw [← hT]; exact ticks_any iv w
    have hNT : (1 ≤ N ∧ N ≤ 35) ∧ (1 ≤ T ∧ T ≤ 10) ∧ ¬ 2 * N < 7 * T ∧ ¬ 7 * T + 1 < 2 * N := by
      rw [← hN, ← hT]; rcases HIV.out with h | h <;> rw [h] <;> decide
    have hN1 : 1 ≤ N ∧ N ≤ 35 := hNT.1
    have hT1 : 1 ≤ T ∧ T ≤ 10 := hNT.2.1
    have e1 : decide (2 * N < 7 * T) = false := decide_eq_false hNT.2.2.1
    have e2 : decide (7 * T + 1 < 2 * N) = false := decide_eq_false hNT.2.2.2
    have e3 : decide (N < 1) = false := decide_eq_false (by omega)
    clear hN hT hNT
    go_wp2_with (go_at_call 38; with_reducible refine (LA.out _).mono ?_; rintro e wl ⟨rfl, rfl⟩)
    with_reducible refine (NW.out _ _ ?_ ?_).mono ?_
    · simp only [World.cell?, heap_alloc_new]; rfl
    · simp only [World.cell?, heap_alloc_new]; rfl
    rintro en w4 ⟨q, m, rfl, ns⟩
    have hb4 : Below wl.heap.size wl w4 := ((Below.refl _ _).alloc (Nat.le_refl _) _).trans (ns.bel.mono (by simp))
    have GO := Lib.hid (HGB.out.1.later hb4)
    have WQ0 : Hid (WQ w w4 q m (thA lv iv) [(8, N, 0), (9, N, 0)] 0 0) := Lib.hid ⟨ns.mc, HGB.out.2.trans (hb4.mono HGB.out.2.size), by have := ns.lq; have := HGB.out.2.size; simp at *; omega, by have := ns.lm; have := HGB.out.2.size; simp at *; omega⟩
    clear ns hb4 HGB NW LA k0 k1 k2 k3
    have k0 : w4.cell? ⟨ow, 0, none⟩ = some (.int .u8 lv) := GO.out.c 0 _ rfl
    have k2 : w4.cell? ⟨ow, 2, none⟩ = some (.int .u8 iv) := GO.out.c 2 _ rfl
    have k3 : w4.cell? ⟨ow, 3, none⟩ = some (.string (bs mdM)) := GO.out.c 3 _ rfl
    go_upto_region 11 with (go_at_call 41; with_reducible refine (TA.out _).mono ?_; rintro e wt ⟨rfl, rfl⟩)
    obtain ⟨cx, hcx⟩ : ∃ k, w4.heap.size = k := ⟨_, rfl⟩
    have R0 : Hid (RT w (w4.alloc (.cells #[.int .u8 lv, .bool false, .int .u8 iv, .int .u32 0, .int .u16 8, .string (bs mdM)] 73)) cx q m lv iv N 0 N 0 0 0) := Lib.hid
      ⟨WQ0.out.later ((Below.refl _ _).alloc (Nat.le_refl _) _), by rw [← hcx]; exact CB.new _ _ .., by rw [← hcx]; have := WQ0.out.mc.lt; omega, by rw [← hcx]; have := WQ0.out.mc.om.lt; omega, by omega, by omega, by omega, by omega⟩
    have HCX := Lib.hid (show w.heap.size ≤ cx by rw [← hcx]; exact WQ0.out.bel.size)
    rw [hcx]
    obtain ⟨w6, hw6⟩ : ∃ k, w4.alloc (.cells #[.int .u8 lv, .bool false, .int .u8 iv, .int .u32 0, .int .u16 8, .string (bs mdM)] 73) = k := ⟨_, rfl⟩
    rw [hw6] at R0 ⊢
    clear hw6 hcx WQ0 GO k0 k2 k3 e1 e2 e3 hT1 TA
    have HLV := Lib.hid hlvb
    clear hlvb
    go_wp2_with fail
    go_loopw [14, 15, 16, 17, 18, 19, 20] (fun i _ _ _ _ _ _ wr => ∃ (j : Nat) (b y c bd cr : Int), j ≤ len ∧ i = .int .i64 j ∧ Hid (RT w wr cx q m lv iv N b y c bd cr)) (fun i _ _ _ _ _ _ _ => len - (intOf i).toNat)
    case atStart => exact ⟨0, _, _, _, _, _, Nat.zero_le _, rfl, R0⟩
    case round =>
      obtain ⟨j, b0, y0, c0, bd0, cr0, hj, rfl, S0⟩ := hrel
      have hjb : (j : Int) < 1000 := by omega
      by_cases hlt : j < len
      rotate_left
      · obtain rfl : j = len := by omega
        have dk : decide ((j : Int) < (j : Int)) = false := decide_eq_false (by omega)
        clear hlt hj
        go_wp2_with (go_at_call 25; with_reducible refine (WK.out _).mono ?_; rintro e w' ⟨rfl, hb⟩)
        go_ret
        exact ⟨rfl, S0.out.wq.bel.trans (hb.mono S0.out.wq.bel.size)⟩
      · have dk : decide ((j : Int) < (len : Int)) = true := decide_eq_true (by omega)
        obtain ⟨rb, ro, rfl, hrb, hrc⟩ := HC.out j (by rw [← HL.out]; exact hlt)
        obtain ⟨z, hz⟩ : ∃ z, rows[j]'(by rw [← HL.out]; exact hlt) = z := ⟨_, rfl⟩
        rw [hz] at hrc
        have hrc2 : wr.cell? ⟨rb, ro + j, none⟩ = some (.int .u8 z.toNat) := (S0.out.wq.bel.cell (World.block_lt_of_cell? w _ hrc)).trans hrc
        have hz2 : z.toNat < 256 := z.toNat_lt
        clear hrb hrc hz hj
        go_upto_region 15 with fail
        obtain ⟨n, hn, hn40⟩ : ∃ n : Nat, ((z.toNat : Int) % 41) = (n : Int) ∧ n ≤ 40 := ⟨z.toNat % 41, by omega, by omega⟩
        rw [hn]
        clear hrc2 hz2 hn
        go_wp2_with fail
        go_loopw [16, 17, 18, 19] (fun k _ _ _ wx => ∃ (i : Nat) (x b y c bd cr : Int), i ≤ n ∧ k = .int .i64 i ∧ Hid ((x = 0 ∧ N ≤ (i : Int)) ∨ (x = N - (i : Int) ∧ (i : Int) < N)) ∧ Hid (RT w wx cx q m lv iv x b y c bd cr)) (fun k _ _ _ _ => n - (intOf k).toNat)
        case atStart => exact ⟨0, _, _, _, _, _, _, Nat.zero_le _, rfl, Lib.hid (.inr ⟨by simp, by simp; omega⟩), S0⟩
        case round =>
          obtain ⟨i, x, b1, y1, c1, bd1, cr1, hi, rfl, HX, S1⟩ := hrel
          have hib : (i : Int) < 1000 := by omega
          by_cases hlt2 : i < n
          rotate_left
          · obtain rfl : i = n := by omega
            have dk2 : decide ((i : Int) < (i : Int)) = false := decide_eq_false (by omega)
            clear hlt2 hi S0
            have c0 := S1.out.cb.c0
            have c1' := S1.out.cb.c1
            have c2 := S1.out.cb.c2
            have c3 := S1.out.cb.c3
            have c4 := S1.out.cb.c4
            have c5 := S1.out.cb.c5
            go_wp2_with fail
            with_reducible refine (S1.out.good HLV.out HIV.out).mono ?_
            rintro en wa ⟨rfl, sa⟩
            rw [HN.out] at sa
            have S3 := Lib.hid sa
            clear sa c0 c1' c2 c3 c4 c5 S1 HX
            go_wp2_with fail
            with_reducible refine (S3.out.lost).mono ?_
            rintro en wb ⟨sb, hsb⟩
            have S4 := Lib.hid sb
            clear sb S3
            rcases hsb with ⟨_, a9, k9, rfl⟩ | ⟨_, g9, k9, rfl, h9⟩ | ⟨h0, _⟩
            · go_wp2
              exact ⟨⟨j + 1, _, _, _, _, _, by omega, by go_num, S4⟩, by simp [intOf]; omega⟩
            · go_wp2
              exact ⟨⟨j + 1, _, _, _, _, _, by omega, by go_num, S4⟩, by simp [intOf]; omega⟩
            · omega
          · have dk2 : decide ((i : Int) < (n : Int)) = true := decide_eq_true (by omega)
            go_wp2_with fail
            with_reducible refine (S1.out.tick).mono ?_
            rintro en w7 ⟨rfl, s7⟩
            have S2 := Lib.hid s7
            have HX2 : Hid ((dn1 x = 0 ∧ N ≤ (i : Int) + 1) ∨ (dn1 x = N - ((i : Int) + 1) ∧ (i : Int) + 1 < N)) := Lib.hid (by
              have := HX.out
              have := S1.out.xb
              unfold dn1; split <;> omega)
            obtain ⟨x2, hx2⟩ : ∃ z, dn1 x = z := ⟨_, rfl⟩
            rw [hx2] at S2 HX2
            clear s7 S1 HX hx2 S0
            have c0 := S2.out.cb.c0
            have c1' := S2.out.cb.c1
            have c2 := S2.out.cb.c2
            have c3 := S2.out.cb.c3
            have c4 := S2.out.cb.c4
            have c5 := S2.out.cb.c5
            go_upto_region 19 with fail
            go_cut [17] (fun s17 wx => ∃ bx : Nat, s17 = .pointer (some ⟨bx, 0, none⟩) ∧ Hid (CB 73 wx bx lv false iv 0 8 mdM ∧ RT w wx cx q m lv iv x2 b1 (dn1 y1) c1 (dn1 bd1) (dn1 cr1) ∧ w.heap.size ≤ bx ∧ bx ≠ q ∧ bx ≠ m ∧ bx ≠ cx))
            case first =>
              go_wp2_with fail
              go_meet
              exact ⟨_, rfl, Lib.hid ⟨CB.new 73 w7 lv false iv 0 8 mdM, S2.out.later ((Below.refl _ _).alloc (Nat.le_refl _) _), S2.out.wq.bel.size, by have := S2.out.wq.mc.lt; omega, by have := S2.out.wq.mc.om.lt; omega, by have := S2.out.cb.lt; omega⟩⟩
            case rest =>
            obtain ⟨bx, rfl, S5⟩ := hcut
            clear c0 c1' c2 c3 c4 c5 S2
            obtain ⟨t, ht⟩ : ∃ t, wrong % 4 = t := ⟨_, rfl⟩
            have htb : t = 0 ∨ t = 1 ∨ t = 2 ∨ t = 3 := by omega
            apply_assumption
            refine wp_seq_k (fun K hK => ?_)
            go_cut [] (fun wx => Hid (CB 73 wx bx (badT lv iv t).1 false (badT lv iv t).2.1 0 (badT lv iv t).2.2 mdM) ∧ Hid (RT w wx cx q m lv iv x2 b1 (dn1 y1) c1 (dn1 bd1) (dn1 cr1)))
            case first =>
              have f0 := S5.out.1.fr 0
              have f2 := S5.out.1.fr 2
              have f4 := S5.out.1.fr 4
              have c0 := S5.out.1.c0
              have c2 := S5.out.1.c2
              have c4 := S5.out.1.c4
              have STO : Hid (∀ (o : Nat) (v : Value), RT w (wc.setCell ⟨bx, o, none⟩ v) cx q m lv iv x2 b1 (dn1 y1) c1 (dn1 bd1) (dn1 cr1)) := Lib.hid fun o v => by
                have h := S5.out.2.1
                obtain ⟨_, _, hB, hbq, hbm, hbc⟩ := S5.out
                have hh : ∀ k, k ≠ bx → (wc.setCell ⟨bx, o, none⟩ v).heap[k]? = wc.heap[k]? := fun k hk => Below.heap_setCell _ _ _ _ (by intro e; exact hk e)
                exact ⟨⟨h.wq.mc.blk (hh q (fun e => hbq e.symm)) (hh m (fun e => hbm e.symm)), below_set h.wq.bel hB v, h.wq.lq, h.wq.lm⟩, (hh cx (fun e => hbc e.symm)).trans h.cb, h.nq, h.nm, h.xb, h.yb, h.db, h.rb⟩
              have hlv := HLV.out
              rcases htb with rfl | rfl | rfl | rfl
              · have e0 : (wrong % 4 == 0) = true := by rw [ht]; rfl
                go_wp2_with fail
                go_meet
                exact ⟨Lib.hid (by have g := S5.out.1; unfold CB at g ⊢; simp [World.setCell, Array.getElem?_modify, g, badT]), STO.out _ _⟩
              · have e0 : (wrong % 4 == 0) = false := by rw [ht]; rfl
                have e1 : (wrong % 4 == 1) = true := by rw [ht]; rfl
                have hiv : 4 ≤ iv ∧ iv ≤ 5 := by have := HIV.out; omega
                go_wp2_with fail
                go_meet
                exact ⟨Lib.hid (by have g := S5.out.1; unfold CB at g ⊢; simp [World.setCell, Array.getElem?_modify, g, badT]), STO.out _ _⟩
              · have e0 : (wrong % 4 == 0) = false := by rw [ht]; rfl
                have e1 : (wrong % 4 == 1) = false := by rw [ht]; rfl
                have e2 : (wrong % 4 == 2) = true := by rw [ht]; rfl
                go_wp2_with fail
                go_meet
                exact ⟨Lib.hid (by have g := S5.out.1; unfold CB at g ⊢; simp [World.setCell, Array.getElem?_modify, g, badT]), STO.out _ _⟩
              · have e0 : (wrong % 4 == 0) = false := by rw [ht]; rfl
                have e1 : (wrong % 4 == 1) = false := by rw [ht]; rfl
                have e2 : (wrong % 4 == 2) = false := by rw [ht]; rfl
                go_wp2_with fail
                go_meet
                exact ⟨Lib.hid (by have g := S5.out.1; unfold CB at g ⊢; simp [World.setCell, Array.getElem?_modify, g, badT]), STO.out _ _⟩
            case rest =>
              obtain ⟨C6, S6⟩ := hcut
              have c0 := C6.out.c0
              have c1' := C6.out.c1
              have c2 := C6.out.c2
              have c3 := C6.out.c3
              have c4 := C6.out.c4
              have c5 := C6.out.c5
              clear S5 ht htb
              apply hK
              go_wp2_with fail
              with_reducible refine (S6.out.bad HLV.out HIV.out).mono ?_
              rintro en wd ⟨rfl, bd2, s7⟩
              have S7 := Lib.hid s7
              clear s7 S6 C6 c0 c1' c2 c3 c4 c5
              go_wp2_with fail
              with_reducible refine (S7.out.lost).mono ?_
              rintro en wb ⟨sb, hsb⟩
              have S8 := Lib.hid sb
              clear sb S7
              rcases hsb with ⟨h0, a9, k9, rfl⟩ | ⟨h0, g9, k9, rfl, h9⟩ | ⟨h0, g9, n9, k9, hn1, hn2, rfl, h9⟩
              · have dn : decide (N ≤ (i : Int) + 1) = false := decide_eq_false (by have := HX2.out; omega)
                go_wp2
                exact ⟨⟨i + 1, x2, _, _, _, _, _, by omega, by go_num, Lib.hid (by have := HX2.out; push_cast; omega), S8⟩, by simp [intOf]; omega⟩
              · have dn : decide (N ≤ (i : Int) + 1) = false := decide_eq_false (by have := HX2.out; omega)
                go_wp2
                exact ⟨⟨i + 1, x2, _, _, _, _, _, by omega, by go_num, Lib.hid (by have := HX2.out; push_cast; omega), S8⟩, by simp [intOf]; omega⟩
              · have dn : decide (N ≤ (i : Int) + 1) = true := decide_eq_true (by have := HX2.out; omega)
                have dl : decide ((0 : Int) < (n9 : Int)) = true := decide_eq_true (by omega)
                go_wp2
                exact ⟨⟨i + 1, x2, _, _, _, _, _, by omega, by go_num, Lib.hid (by have := HX2.out; push_cast; omega), S8⟩, by simp [intOf]; omega⟩
end Go.Proofs.Ytecoomkpkdapdaa
