/- ZP44: the texts Y13, Y14 as one. -/
import Derived.Test.YtlkdfofpnmpidaaGreatZP43
import Derived.Deep.RegionLaw
import Derived.Test.YtlkdfofpnmpidaaGreatZP30
/- mep: Take, walked. -/
set_option linter.unusedVariables false
set_option linter.unusedSimpArgs false
namespace Go.Proofs.YtlkdfofpnmpidaaGreat
open Go.RowKit

set_option maxRecDepth 100000 in
set_option maxHeartbeats 8000000 in
theorem mtake_any (o : Ow20) (ho : o.Ok) (hlv : o.a.lv < 8) (ov : Value) (x : Mp) (s : Ms) (wv : Value) (hs : s.Ok) (sr ds : Mc) (hsr : sr.Ok) (d : List UInt8) (hd : d.length ≤ 1600) (w : World) (h : MM w o ov x s wv) (hbd : ∀ p, (opM o s sr ds (tkP d).1 (tkP d).2.1 (tkP d).2.2.1 (tkP d).2.2.2.1 (tkP d).2.2.2.2.1).1.bad = p → 0 ≤ p ∧ p ≤ 1000000) :
    Calls Tryz.prog 18 #[.pointer (some ⟨x.p, 0, none⟩), .agg #[.int .u8 sr.a, .int .u8 sr.b, .int .u8 sr.c, .int .u8 sr.d, .int .u8 sr.e, .int .u8 sr.f], .agg #[.int .u8 ds.a, .int .u8 ds.b, .int .u8 ds.c, .int .u8 ds.d, .int .u8 ds.e, .int .u8 ds.f], .string (bs d)] w fun en w' =>
    ∃ u wv', en = .returned u ∧ Ow 7 snC 55 w' w.heap.size u (takeM o s sr ds d).2 ∧ MM w' o ov x (takeM o s sr ds d).1 wv' ∧ Fr (x.D wv) w w' ∧ ∀ g, wv'.ownBlock = some g → wv.ownBlock = some g ∨ w.heap.size ≤ g := by
  have hpb := tkP_b d hd
  obtain ⟨⟨a, b, c, f, l, e⟩, ht⟩ : ∃ z, tkP d = z := ⟨_, rfl⟩
  rw [ht] at hpb hbd
  have HPB : Hid (PdB a b c f l) := Lib.hid hpb
  have TK : Hid (∀ W, Calls Tryz.prog 53 #[.string (bs d)] W fun en w' => ∃ v', en = .returned (.tuple #[.agg #[.int .u8 a, .int .u8 b, .int .u8 c, .string (bs f), v'], .int .i64 e]) ∧ TlT w' W.heap.size v' l ∧ Below W.heap.size W w') := Lib.hid fun W => by
    have h := ctake_any d W (by omega)
    rw [ht] at h; exact h
  obtain ⟨Q, hQ⟩ : ∃ z, opM o s sr ds a b c f l = z := ⟨_, rfl⟩
  obtain ⟨N, hN⟩ : ∃ z, hndN b = z := ⟨_, rfl⟩
  obtain ⟨R, hR⟩ : ∃ R, takeM o s sr ds d = R := ⟨_, rfl⟩
  have HR : Hid (R = if e = 0 ∧ a = o.a.lv ∧ N ≠ 0 then (badM Q.1 Q.2.2, Q.2.1) else (badM s (decide (e = 0)), [])) := Lib.hid (by rw [← hR, ← hN, ← hQ]; unfold takeM; rw [ht])
  have OP : Hid (N ≠ 0 → ∀ (v : Value) (W : World), MM W o ov x s wv → Tls W v l → Calls Tryz.prog N #[.pointer (some ⟨x.p, 0, none⟩), .agg #[.int .u8 sr.a, .int .u8 sr.b, .int .u8 sr.c, .int .u8 sr.d, .int .u8 sr.e, .int .u8 sr.f, .int .u8 ds.a, .int .u8 ds.b, .int .u8 ds.c, .int .u8 ds.d, .int .u8 ds.e, .int .u8 ds.f, .int .u8 a, .int .u8 b, .int .u8 c, .string (bs f), v]] W fun en w' =>
    ∃ u wv', en = .returned (.tuple #[u, .bool Q.2.2]) ∧ Ow 7 snC 55 w' W.heap.size u Q.2.1 ∧ MM w' o ov x Q.1 wv' ∧ Fr (x.D wv) W w' ∧ ∀ g, wv'.ownBlock = some g → wv.ownBlock = some g ∨ W.heap.size ≤ g) := Lib.hid fun hN0 v W hW hv => by
    have h := mop_any o ho hlv ov x s wv hs sr ds hsr a b c f v l (by rw [hN]; exact hN0) HPB.out W hW hv
    rw [hQ, hN] at h; exact h
  have LK : Hid (∀ (W : World) (q : Nat), FMap W q → (Instr.lookup 138 (.map (some q)) (.int .u8 b) true).run Tryz.prog W = .ok (.tuple #[(if N = 0 then .nilFunc else .func (.func N) #[] #[]), .bool (decide (N ≠ 0))]) W) := Lib.hid fun W q hq => by
    have h := fmap_look hq b HPB.out.pb
    unfold hndV at h
    rw [hN] at h; exact h
  have HQB := Lib.hid (show 0 ≤ Q.1.bad ∧ Q.1.bad ≤ 1000000 by rw [← hQ]; exact hbd _ rfl)
  have HSB := Lib.hid hs.bad
  have H0 := Lib.hid h
  rw [hR]
  have T0 := Lib.hid (TQ.begin (sr := sr) (ds := ds) h)
  have hsz := bs_size d
  have HNC : Hid (N ≠ 0 → N = 95 ∨ N = 97 ∨ N = 96 ∨ N = 99 ∨ N = 98) := Lib.hid (by
    intro h0
    rw [← hN] at h0 ⊢
    rcases hndN_cases h0 with rfl | rfl | rfl | rfl | rfl
    · exact .inl rfl
    · exact .inr (.inl rfl)
    · exact .inr (.inr (.inl rfl))
    · exact .inr (.inr (.inr (.inl rfl)))
    · exact .inr (.inr (.inr (.inr rfl))))
  clear hR hN hQ ht hpb hbd ho hlv hs hsr h
  go_enter Tryz.func18, Tryz.ntmps18
  go_upto_region 1 with fail
  obtain ⟨w0, hw0⟩ : ∃ z, (((w.alloc (.cells #[.pointer (some ⟨x.p, 0, none⟩)] 31)).alloc (.cells #[.int .u8 sr.a, .int .u8 sr.b, .int .u8 sr.c, .int .u8 sr.d, .int .u8 sr.e, .int .u8 sr.f] 25)).alloc (.cells #[.int .u8 ds.a, .int .u8 ds.b, .int .u8 ds.c, .int .u8 ds.d, .int .u8 ds.e, .int .u8 ds.f] 25)) = z := ⟨_, rfl⟩
  rw [hw0] at T0 ⊢
  clear hw0
  have c4 : w0.cell? ⟨w.heap.size, 0, none⟩ = some (.pointer (some ⟨x.p, 0, none⟩)) := T0.out.b4.c 0 _ rfl
  go_wp2_with fail
  with_reducible refine (TK.out _).mono ?_
  rintro en w1 ⟨v, rfl, htl, hb1⟩
  have T1 := Lib.hid (T0.out.later hb1)
  obtain ⟨ax, cx, hvx, -⟩ := htl.tls.shape
  obtain ⟨n1, hn1⟩ : ∃ n, l.length = n := ⟨_, rfl⟩
  rw [hn1] at hvx
  subst hvx
  have V1 := Lib.hid htl.tls
  clear htl hb1 T0 c4 hn1
  go_upto_region 4 with fail
  have g2 := PB.new 103 w1 a b c f (.slice ax n1 cx)
  have hal := (Below.refl w1.heap.size w1).alloc (Nat.le_refl _) (.cells #[.int .u8 a, .int .u8 b, .int .u8 c, .string (bs f), .slice ax n1 cx] 103)
  have T2 := Lib.hid (T1.out.later hal)
  have V2 := Lib.hid (V1.out.later hal)
  obtain ⟨w2, hw2⟩ : ∃ z, w1.alloc (.cells #[.int .u8 a, .int .u8 b, .int .u8 c, .string (bs f), .slice ax n1 cx] 103) = z := ⟨_, rfl⟩
  obtain ⟨t, htt⟩ : ∃ z, w1.heap.size = z := ⟨_, rfl⟩
  rw [hw2] at T2 V2 g2 ⊢
  rw [htt] at g2 ⊢
  have G2 := Lib.hid g2
  clear hw2 htt g2 hal T1 V1
  obtain ⟨E, hE⟩ : ∃ E, decide (e = 0) = E := ⟨_, rfl⟩
  have e1 : (e == 0) = E := by rw [← hE]; by_cases h : e = 0 <;> simp [h]
  have HE := Lib.hid hE
  clear hE
  go_upto_region 6 with fail
  clear e1
  obtain ⟨FV, hFV⟩ : ∃ z : Value, (if N = 0 then Value.nilFunc else .func (.func N) #[] #[]) = z := ⟨_, rfl⟩
  obtain ⟨I, hI⟩ : ∃ z, decide (N ≠ 0) = z := ⟨_, rfl⟩
  rw [hFV, hI] at LK
  have HFI := Lib.hid (And.intro hFV hI)
  clear hFV hI
  go_cut [13, 14] (fun s13 s14 wx => s13 = FV ∧ s14 = .bool I ∧ Hid (TQ w wx o ov x s wv wv sr ds ∧ Tls wx (.slice ax n1 cx) l ∧ PB 103 wx t a b c f (.slice ax n1 cx)))
  case first =>
    have hbd : Below w2.heap.size w2 w2.drew := (Below.refl _ _).drew
    have f1 := (G2.out.later hbd).c1
    go_region_law
      (first
        | (go_simp; go_at_call 54; (with_reducible refine (takes_any _).mono ?_); rintro en wx ⟨qm, rfl, hmx, hbx⟩; have hbw := hbd.trans hbx; have f1x := (G2.out.later hbw).c1; have hlk := LK.out _ _ hmx))
    all_goals go_wp2_with fail
    all_goals go_meet
    all_goals exact ⟨by trivial, by trivial, Lib.hid ⟨T2.out.later hbw, V2.out.later hbw, G2.out.later hbw⟩⟩
  case rest =>
    obtain ⟨h13, rfl, HC⟩ := hcut
    rw [h13]
    clear h13
    have T3 := Lib.hid HC.out.1
    have V3 := Lib.hid HC.out.2.1
    have G3 := Lib.hid HC.out.2.2
    clear HC T2 V2 G2 LK
    obtain ⟨LV, hLV⟩ : ∃ z, (a == o.a.lv) = z := ⟨_, rfl⟩
    have HLV := Lib.hid hLV
    go_upto_region 7 with fail
    go_cut [45] (fun s45 wx => s45 = .bool (I && (E && LV)) ∧ Hid (TQ w wx o ov x s wv wv sr ds ∧ Tls wx (.slice ax n1 cx) l ∧ PB 103 wx t a b c f (.slice ax n1 cx)))
    case first =>
      have c4 : ∀ kk : Later wc, kk.out.cell? ⟨w.heap.size, 0, none⟩ = some (.pointer (some ⟨x.p, 0, none⟩)) := fun kk => (T3.out.later kk.h).b4.c 0 _ rfl
      have f0 : ∀ kk : Later wc, kk.out.cell? ⟨t, 0, none⟩ = some (.int .u8 a) := fun kk => (G3.out.later kk.h).c0
      have l0 : ∀ kk : Later wc, kk.out.cell? ⟨x.p, 0, none⟩ = some (.int .u8 o.a.lv) := fun kk => (T3.out.later kk.h).mm.clv
      have LH := Lib.hid (fun kk : Later wc => And.intro (T3.out.later kk.h) (And.intro (V3.out.later kk.h) (G3.out.later kk.h)))
      cases I with
      | false =>
        refine wp_region_later (by kernel_rfl) (by kernel_rfl) ?_
        repeat (go_big_quiet_step (fail))
        refine wpQuiet_nil ?_
        rintro _ ⟨kk, rfl⟩
        go_wp2_with fail
        go_meet
        exact ⟨by trivial, Lib.hid (LH.out kk)⟩
      | true =>
        cases E with
        | false =>
          refine wp_region_later (by kernel_rfl) (by kernel_rfl) ?_
          repeat (go_big_quiet_step (fail))
          refine wpQuiet_nil ?_
          rintro _ ⟨kk, rfl⟩
          go_wp2_with fail
          go_meet
          exact ⟨by trivial, Lib.hid (LH.out kk)⟩
        | true =>
          refine wp_region_later (by kernel_rfl) (by kernel_rfl) ?_
          repeat (go_big_quiet_step (fail))
          refine wpQuiet_nil ?_
          rintro _ ⟨kk, rfl⟩
          go_wp2_with fail
          go_meet
          exact ⟨by trivial, Lib.hid (LH.out kk)⟩
    case rest =>
      obtain ⟨rfl, HC⟩ := hcut
      have T4 := Lib.hid HC.out.1
      have V4 := Lib.hid HC.out.2.1
      have G4 := Lib.hid HC.out.2.2
      clear HC T3 V3 G3
      obtain ⟨VV, hVV⟩ : ∃ z, (I && (E && LV)) = z := ⟨_, rfl⟩
      have HRV : Hid (R = if VV = true then (badM Q.1 Q.2.2, Q.2.1) else (badM s E, [])) := Lib.hid (by
        rw [HR.out, ← hVV, ← HE.out, ← HLV.out, ← HFI.out.2]
        by_cases h1 : e = 0 <;> by_cases h2 : a = o.a.lv <;> by_cases h3 : N = 0 <;> simp [h1, h2, h3])
      have HNV : Hid (VV = true → N ≠ 0) := Lib.hid (by
        intro h
        rw [← hVV] at h
        simp only [Bool.and_eq_true] at h
        exact of_decide_eq_true (HFI.out.2.trans h.1))
      rw [hVV]
      clear hVV HR hLV
      cases VV with
      | false =>
        have HZ := Lib.hid (show R = (badM s E, []) by rw [HRV.out]; rfl)
        have CN := Lib.hid (fun W (hW : TQ w W o ov x s wv wv sr ds) => mcount_any o ov x s wv E w.heap.size W hW.mm HSB.out hW.b4)
        clear HRV HNV OP
        go_wp2_with fail
        with_reducible refine (CN.out _ T4.out).mono ?_
        rintro en w5 ⟨rfl, hm5, ho5⟩
        have M5 := Lib.hid (And.intro hm5 (T4.out.fr.trans (.of_only ho5 (.inl rfl))))
        clear hm5 ho5 T4 V4 G4
        go_wp2
        go_ret
        exact ⟨.slice none 0 0, wv, rfl, by rw [HZ.out]; exact Ow.none _ _, by rw [HZ.out]; exact M5.out.1, M5.out.2, fun g hg => .inl hg⟩
      | true =>
        have HZ := Lib.hid (show R = (badM Q.1 Q.2.2, Q.2.1) by rw [HRV.out]; rfl)
        have hF : FV = .func (.func N) #[] #[] := by rw [← HFI.out.1, if_neg (HNV.out rfl)]
        have OP2 := Lib.hid (OP.out (HNV.out rfl))
        rw [hF]
        have c4 : wc.cell? ⟨w.heap.size, 0, none⟩ = some (.pointer (some ⟨x.p, 0, none⟩)) := T4.out.b4.c 0 _ rfl
        have s0 : wc.cell? ⟨w.heap.size + 1, 0, none⟩ = some (.int .u8 sr.a) := T4.out.b5.c 0 _ rfl
        have s1 : wc.cell? ⟨w.heap.size + 1, 1, none⟩ = some (.int .u8 sr.b) := T4.out.b5.c 1 _ rfl
        have s2 : wc.cell? ⟨w.heap.size + 1, 2, none⟩ = some (.int .u8 sr.c) := T4.out.b5.c 2 _ rfl
        have s3 : wc.cell? ⟨w.heap.size + 1, 3, none⟩ = some (.int .u8 sr.d) := T4.out.b5.c 3 _ rfl
        have s4 : wc.cell? ⟨w.heap.size + 1, 4, none⟩ = some (.int .u8 sr.e) := T4.out.b5.c 4 _ rfl
        have s5 : wc.cell? ⟨w.heap.size + 1, 5, none⟩ = some (.int .u8 sr.f) := T4.out.b5.c 5 _ rfl
        have d0 : wc.cell? ⟨w.heap.size + 1 + 1, 0, none⟩ = some (.int .u8 ds.a) := T4.out.b6.c 0 _ rfl
        have d1 : wc.cell? ⟨w.heap.size + 1 + 1, 1, none⟩ = some (.int .u8 ds.b) := T4.out.b6.c 1 _ rfl
        have d2 : wc.cell? ⟨w.heap.size + 1 + 1, 2, none⟩ = some (.int .u8 ds.c) := T4.out.b6.c 2 _ rfl
        have d3 : wc.cell? ⟨w.heap.size + 1 + 1, 3, none⟩ = some (.int .u8 ds.d) := T4.out.b6.c 3 _ rfl
        have d4 : wc.cell? ⟨w.heap.size + 1 + 1, 4, none⟩ = some (.int .u8 ds.e) := T4.out.b6.c 4 _ rfl
        have d5 : wc.cell? ⟨w.heap.size + 1 + 1, 5, none⟩ = some (.int .u8 ds.f) := T4.out.b6.c 5 _ rfl
        have f0 := G4.out.c0
        have f1 := G4.out.c1
        have f2 := G4.out.c2
        have f3 := G4.out.c3
        have f4 := G4.out.c4
        have hnc := HNC.out (HNV.out rfl)
        clear HRV HNV OP hF HNC HFI
        rcases hnc with rfl | rfl | rfl | rfl | rfl
        all_goals
          go_wp2_with fail
          with_reducible refine (OP2.out (.slice ax n1 cx) _ T4.out.mm V4.out).mono ?_
          rintro en w5 ⟨u, wv', rfl, hu, hm5, hf5, hb5⟩
          have T5 := Lib.hid (TQ.step H0.out T4.out hm5 hf5 hb5)
          have HU := Lib.hid (And.intro (Ow.mono hu T4.out.fr.size) (fun g (hg : u.ownBlock = some g) => Nat.lt_of_lt_of_le T4.out.mm.lp (Ow.lt hu hg).1))
          clear hu hm5 hf5 hb5 T4 V4 G4 OP2 c4 s0 s1 s2 s3 s4 s5 d0 d1 d2 d3 d4 d5 f0 f1 f2 f3 f4
          have CN := Lib.hid (fun W (hW : TQ w W o ov x Q.1 wv wv' sr ds) => mcount_any o ov x Q.1 wv' Q.2.2 w.heap.size W hW.mm HQB.out hW.b4)
          obtain ⟨G, hG⟩ : ∃ z, Q.2.2 = z := ⟨_, rfl⟩
          rw [hG] at CN HZ ⊢
          clear hG
          go_wp2_with fail
          with_reducible refine (CN.out _ T5.out).mono ?_
          rintro en w6 ⟨rfl, hm6, ho6⟩
          have M6 := Lib.hid (And.intro hm6 (T5.out.fr.trans (.of_only ho6 (.inl rfl))))
          have U6 : Hid (Ow 7 snC 55 w6 w.heap.size u Q.2.1) := Lib.hid (Ow.fr HU.out.1 (Fr.of_only (D := fun k => k = x.p) ho6 rfl) (fun g hg e => by have h1 := HU.out.2 g hg; have h2 : g = x.p := e; omega))
          have O6 := Lib.hid T5.out.ob
          clear hm6 ho6 T5 HU CN
          go_wp2
          go_ret
          exact ⟨u, wv', rfl, by rw [HZ.out]; exact U6.out, by rw [HZ.out]; exact M6.out.1, M6.out.2, fun g hg => by
            rcases O6.out g hg with e | e
            · exact .inl e
            · exact .inr (by omega)⟩
end Go.Proofs.YtlkdfofpnmpidaaGreat

/- mep: Loop. -/
set_option linter.unusedVariables false
set_option linter.unusedSimpArgs false
namespace Go.Proofs.YtlkdfofpnmpidaaGreat
open Go.RowKit

def sn0 : Sn := ⟨mc0, []⟩
/-- A loopback's message: its bytes, the error. -/
def loopP (lv n : Int) (d : List UInt8) : List UInt8 × Int := putP (putL lv false n d).1 (putL lv false n d).2.1 0 (putL lv false n d).2.2.1 (putL lv false n d).2.2.2.1
def loopM (o : Ow20) (s : Ms) (ds : Mc) (d : List UInt8) : Ms × Sn × Int :=
  if hostV ds = false then (s, sn0, 2) else if 64 < d.length then (s, sn0, 5)
  else ({ s with lp := s.lp + 1, dat := d, rep := 0, ali := 0 }, ⟨ds, (loopP o.a.lv (s.lp + 1) d).1⟩, (loopP o.a.lv (s.lp + 1) d).2)
/-- What lies there: the point, the address's box, the result's box. -/
structure LQ (w W : World) (o : Ow20) (ov : Value) (x : Mp) (s : Ms) (wv wv' : Value) (ds : Mc) : Prop where
  mm : MM W o ov x s wv'
  b4 : GB 25 W w.heap.size #[.int .u8 ds.a, .int .u8 ds.b, .int .u8 ds.c, .int .u8 ds.d, .int .u8 ds.e, .int .u8 ds.f]
  b6 : GB 55 W (w.heap.size + 1) #[.int .u8 0, .int .u8 0, .int .u8 0, .int .u8 0, .int .u8 0, .int .u8 0, .string { data := #[] }]
  fr : Fr (x.D wv) w W
section
variable {w W W' : World} {o : Ow20} {ov : Value} {x : Mp} {s s' s0 : Ms} {wv wv' wv'' : Value} {ds : Mc}
theorem LQ.later (h : LQ w W o ov x s wv wv' ds) (hb : Below W.heap.size W W') : LQ w W' o ov x s wv wv' ds :=
  ⟨h.mm.later hb, h.b4.later hb, h.b6.later hb, h.fr.trans (.of_below hb)⟩
theorem LQ.drew (h : LQ w W o ov x s wv wv' ds) : LQ w W.drew o ov x s wv wv' ds := h.later (Below.refl _ _).drew
theorem LQ.alloc (h : LQ w W o ov x s wv wv' ds) (b : Obj) : LQ w (W.alloc b) o ov x s wv wv' ds := h.later ((Below.refl _ _).alloc (Nat.le_refl _) b)
theorem LQ.begin (h : MM w o ov x s wv) : LQ w ((w.alloc (.cells #[.int .u8 ds.a, .int .u8 ds.b, .int .u8 ds.c, .int .u8 ds.d, .int .u8 ds.e, .int .u8 ds.f] 25)).alloc (.cells #[.int .u8 0, .int .u8 0, .int .u8 0, .int .u8 0, .int .u8 0, .int .u8 0, .string { data := #[] }] 55)) o ov x s wv wv ds := by
  have h1 : Below w.heap.size w (w.alloc (.cells #[.int .u8 ds.a, .int .u8 ds.b, .int .u8 ds.c, .int .u8 ds.d, .int .u8 ds.e, .int .u8 ds.f] 25)) := (Below.refl _ _).alloc (Nat.le_refl _) _
  have h2 : Below w.heap.size w ((w.alloc (.cells #[.int .u8 ds.a, .int .u8 ds.b, .int .u8 ds.c, .int .u8 ds.d, .int .u8 ds.e, .int .u8 ds.f] 25)).alloc (.cells #[.int .u8 0, .int .u8 0, .int .u8 0, .int .u8 0, .int .u8 0, .int .u8 0, .string { data := #[] }] 55)) := h1.alloc h1.size _
  refine ⟨h.later h2, (GB.new _ w _).later ((Below.refl _ _).alloc (Nat.le_refl _) _), ?_, .of_below h2⟩
  have := GB.new 55 (w.alloc (.cells #[.int .u8 ds.a, .int .u8 ds.b, .int .u8 ds.c, .int .u8 ds.d, .int .u8 ds.e, .int .u8 ds.f] 25)) #[.int .u8 0, .int .u8 0, .int .u8 0, .int .u8 0, .int .u8 0, .int .u8 0, .string { data := #[] }]
  rw [show (w.alloc (.cells #[.int .u8 ds.a, .int .u8 ds.b, .int .u8 ds.c, .int .u8 ds.d, .int .u8 ds.e, .int .u8 ds.f] 25)).heap.size = w.heap.size + 1 by simp] at this
  exact this
/-- A cell of the point itself is stored. -/
theorem LQ.st (h0 : MM w o ov x s0 wv) (h : LQ w W o ov x s wv wv' ds) (j : Nat) (v : Value) (hm : MM (W.setCell ⟨x.p, j, none⟩ v) o ov x s' wv'') : LQ w (W.setCell ⟨x.p, j, none⟩ v) o ov x s' wv wv'' ds := by
  have hp := h0.gb.lt
  exact ⟨hm, h.b4.other (by omega) v, h.b6.other (by omega) v, h.fr.trans (.set (.inl rfl) _ _)⟩
theorem LQ.five {W0 : World} (h : LQ w W o ov x s wv wv' ds) (h0 : LQ w W0 o ov x s wv wv' ds) {t : Nat} (ht : W0.heap.size ≤ t) (v0 v1 v2 v3 v4 : Value) :
    LQ w (((((W.setCell ⟨t, 0, none⟩ v0).setCell ⟨t, 1, none⟩ v1).setCell ⟨t, 2, none⟩ v2).setCell ⟨t, 3, none⟩ v3).setCell ⟨t, 4, none⟩ v4) o ov x s wv wv' ds := by
  have h6 := h0.b6.lt
  have hw := h0.fr.size
  refine ⟨h.mm.five h0.mm ht v0 v1 v2 v3 v4, h.b4.five (t := t) (by omega) v0 v1 v2 v3 v4, h.b6.five (t := t) (by omega) v0 v1 v2 v3 v4, ?_⟩
  have hb : Below w.heap.size W (((((W.setCell ⟨t, 0, none⟩ v0).setCell ⟨t, 1, none⟩ v1).setCell ⟨t, 2, none⟩ v2).setCell ⟨t, 3, none⟩ v3).setCell ⟨t, 4, none⟩ v4) := below_five ((Below.refl W.heap.size W).mono h.fr.size) (by omega)
  exact ⟨hb.os.trans h.fr.os, hb.tape.trans h.fr.tape, hb.output.trans h.fr.output, Nat.le_trans h.fr.size hb.size, fun k hk hd => (hb.block k hk).trans (h.fr.block k hk hd)⟩
/-- The result's box, filled. -/
theorem LQ.fill (h0 : MM w o ov x s0 wv) (h : LQ w W o ov x s wv wv' ds) (hob : ∀ g, wv'.ownBlock = some g → g ≠ w.heap.size + 1) (y : Sn) :
    MM (W.setCells (w.heap.size + 1) 0 (snC y)) o ov x s wv' ∧ GB 55 (W.setCells (w.heap.size + 1) 0 (snC y)) (w.heap.size + 1) (snC y).toArray ∧ Fr (x.D wv) w (W.setCells (w.heap.size + 1) 0 (snC y)) := by
  have hb : Below (w.heap.size + 1) W (W.setCells (w.heap.size + 1) 0 (snC y)) := below_cellsG (Nat.le_refl _) _ _ _ (Below.refl _ _)
  have hf : Fr (fun k => k = w.heap.size + 1) W (W.setCells (w.heap.size + 1) 0 (snC y)) := by
    refine ⟨hb.os, hb.tape, hb.output, hb.size, fun k hk hne => ?_⟩
    have : ∀ (vs : List Value) (o : Nat) (W : World), (W.setCells (w.heap.size + 1) o vs).heap[k]? = W.heap[k]? := by
      intro vs
      induction vs with
      | nil => intro o W; rfl
      | cons v r ih => intro o W; exact (ih _ _).trans (Below.heap_setCell _ _ _ _ (by intro e; exact hne e))
    exact this _ _ _
  refine ⟨h.mm.fr hf ?_, ?_, ?_⟩
  · rintro k (rfl | rfl | rfl | rfl | hk) (e : _ = w.heap.size + 1)
    · have := h0.gb.lt; omega
    · have := h0.mc.lt; omega
    · have := h0.mc.om.lt; omega
    · have := GB.lt h0.al; omega
    · exact hob _ hk e
  · exact h.b6.store (A := (snC y).toArray) rfl (by simp [snC, Value.oneCell'])
  · have hb2 : Below w.heap.size W (W.setCells (w.heap.size + 1) 0 (snC y)) := hb.mono (by omega)
    exact ⟨hb2.os.trans h.fr.os, hb2.tape.trans h.fr.tape, hb2.output.trans h.fr.output, Nat.le_trans h.fr.size hb2.size, fun k hk hd => (hb2.block k hk).trans (h.fr.block k hk hd)⟩
end
end Go.Proofs.YtlkdfofpnmpidaaGreat
