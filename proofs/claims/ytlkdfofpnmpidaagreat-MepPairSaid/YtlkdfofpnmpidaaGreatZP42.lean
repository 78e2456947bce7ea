/- ZP42: the texts Y10, Y11, T7 as one. -/
import Derived.Test.YtlkdfofpnmpidaaGreatZP41
import Derived.Test.YtlkdfofpnmpidaaGreatZP30
import Derived.Test.YtlkdfofpnmpidaaGreatZP15
import Derived.Lib.SmallJoins
/- mep: what is done with each operation's messages: a map of functions. -/
set_option linter.unusedVariables false
set_option linter.unusedSimpArgs false
namespace Go.Proofs.YtlkdfofpnmpidaaGreat
open Go.RowKit
open Go.Maps (Keyed int_keyed keyOf_int_mk)

/-- How a function reads: its number. -/
def fEl (v : Value) : Option (DataW Unit × List MemPlace) :=
  match v with
  | .func fn first captured => if first.size = 0 ∧ captured.size = 0 then (match fn with
    | .func n => some (.lit (.int .i64 (n : Int)), [])
    | _ => none) else none
  | _ => none
theorem fEl_mk (n : Nat) : fEl (.func (.func n) #[] #[]) = some (.lit (.int .i64 (n : Int)), []) := rfl
theorem fEl_inv {v : Value} {y : DataW Unit × List MemPlace} (h : fEl v = some y) : ∃ n : Nat, v = .func (.func n) #[] #[] ∧ y.1 = .lit (.int .i64 (n : Int)) := by
  unfold fEl at h
  split at h
  · rename_i fn first captured
    split at h
    · rename_i hs
      have h1 : first = #[] := Array.eq_empty_of_size_eq_zero hs.1
      have h2 : captured = #[] := Array.eq_empty_of_size_eq_zero hs.2
      subst h1 h2
      split at h
      · rename_i n
        injection h with h
        exact ⟨n, rfl, by rw [← h]⟩
      · cases h
    · cases h
  · cases h
def tkD : DataW Unit := (((((DataW.map []).put (.int .u8 1) (.lit (.int .i64 95))).put (.int .u8 3) (.lit (.int .i64 96))).put (.int .u8 2) (.lit (.int .i64 97))).put (.int .u8 5) (.lit (.int .i64 98))).put (.int .u8 4) (.lit (.int .i64 99))
/-- The block of 'takes'. -/
def FMap (W : World) (b : Nat) : Prop := W.ownsMap Tryz.prog 5 fEl b 5 tkD
/-- The number of what is done with an operation (0: nothing). -/
def hndN (b : Int) : Nat := if b = 1 then 95 else if b = 2 then 97 else if b = 3 then 96 else if b = 4 then 99 else if b = 5 then 98 else 0
def hndV (b : Int) : Value := if hndN b = 0 then .nilFunc else .func (.func (hndN b)) #[] #[]
set_option maxRecDepth 100000 in
set_option maxHeartbeats 4000000 in
theorem takes_any (w : World) : Calls Tryz.prog 54 #[] w fun en w' => ∃ b : Nat, en = .returned (.map (some b)) ∧ FMap w' b ∧ Below w.heap.size w w' := by
  have hm0 := World.ownsMap_made w Tryz.prog 5 fEl
  obtain ⟨w1, run1, hm1, hg1⟩ := hm0.update u8_keyed Tryz.underlying138 (by decide) (key := .int .u8 1) (val := .func (.func 95) #[] #[]) (kl := .int .u8 1) (d := .lit (.int .i64 95)) (ps := []) (keyOf_int_mk Tryz.underlying5 (by decide)) (fEl_mk 95)
  obtain ⟨w2, run2, hm2, hg2⟩ := hm1.update u8_keyed Tryz.underlying138 (by decide) (key := .int .u8 3) (val := .func (.func 96) #[] #[]) (kl := .int .u8 3) (d := .lit (.int .i64 96)) (ps := []) (keyOf_int_mk Tryz.underlying5 (by decide)) (fEl_mk 96)
  obtain ⟨w3, run3, hm3, hg3⟩ := hm2.update u8_keyed Tryz.underlying138 (by decide) (key := .int .u8 2) (val := .func (.func 97) #[] #[]) (kl := .int .u8 2) (d := .lit (.int .i64 97)) (ps := []) (keyOf_int_mk Tryz.underlying5 (by decide)) (fEl_mk 97)
  obtain ⟨w4, run4, hm4, hg4⟩ := hm3.update u8_keyed Tryz.underlying138 (by decide) (key := .int .u8 5) (val := .func (.func 98) #[] #[]) (kl := .int .u8 5) (d := .lit (.int .i64 98)) (ps := []) (keyOf_int_mk Tryz.underlying5 (by decide)) (fEl_mk 98)
  obtain ⟨w5, run5, hm5, hg5⟩ := hm4.update u8_keyed Tryz.underlying138 (by decide) (key := .int .u8 4) (val := .func (.func 99) #[] #[]) (kl := .int .u8 4) (d := .lit (.int .i64 99)) (ps := []) (keyOf_int_mk Tryz.underlying5 (by decide)) (fEl_mk 99)
  have hb0 : Below w.heap.size w (w.alloc (.map #[] 0)) := (Below.refl _ _).alloc (Nat.le_refl _) _
  have hb1 := hb0.grown hg1 hb0.size (fun k hk => by injection hk with hk; omega)
  have hb2 := hb1.grown hg2 hb1.size (fun k hk => by injection hk with hk; omega)
  have hb3 := hb2.grown hg3 hb2.size (fun k hk => by injection hk with hk; omega)
  have hb4 := hb3.grown hg4 hb3.size (fun k hk => by injection hk with hk; omega)
  have hb5 := hb4.grown hg5 hb4.size (fun k hk => by injection hk with hk; omega)
  have HM := Lib.hid hm5
  have HB := Lib.hid hb5
  have run0 : (Instr.makeMap 138 none).run Tryz.prog w = .ok (.map (some w.heap.size)) (w.alloc (.map #[] 0)) := rfl
  clear hm0 hm1 hm2 hm3 hm4 hm5 hg1 hg2 hg3 hg4 hg5 hb0 hb1 hb2 hb3 hb4 hb5
  go_enter Tryz.func54, Tryz.ntmps54
  go_wp2
  go_ret
  exact ⟨_, rfl, HM.out, HB.out⟩
theorem tkD_at (b : Int) (z : DataW Unit) : tkD.atKey (.int .u8 b) z = if hndN b = 0 then z else .lit (.int .i64 (hndN b : Int)) := by
  have e : tkD = .map [(.int .u8 1, .lit (.int .i64 95)), (.int .u8 2, .lit (.int .i64 97)), (.int .u8 3, .lit (.int .i64 96)), (.int .u8 4, .lit (.int .i64 99)), (.int .u8 5, .lit (.int .i64 98))] := by rfl
  rw [e]
  unfold hndN
  by_cases h1 : b = 1
  · subst h1; rfl
  · by_cases h2 : b = 2
    · subst h2; rfl
    · by_cases h3 : b = 3
      · subst h3; rfl
      · by_cases h4 : b = 4
        · subst h4; rfl
        · by_cases h5 : b = 5
          · subst h5; rfl
          · simp [DataW.atKey, Lit.sameKey, h1, h2, h3, h4, h5, Ne.symm h1, Ne.symm h2, Ne.symm h3, Ne.symm h4, Ne.symm h5, eq_comm]
set_option maxRecDepth 100000 in
theorem fmap_look {W : World} {q : Nat} (h : FMap W q) (b : Int) (h0 : 0 ≤ b ∧ b < 256) :
    (Instr.lookup 138 (.map (some q)) (.int .u8 b) true).run Tryz.prog W = .ok (.tuple #[hndV b, .bool (decide (hndN b ≠ 0))]) W := by
  obtain ⟨es, clock, hb, F, hs, hD⟩ := h
  have hw : (Lit.int .u8 b).wf = true := by simp [Lit.wf, IntKind.min, IntKind.max, IntKind.bits, IntKind.signed]; omega
  have hz : (zeroValue 136).run Tryz.prog W = .ok .nilFunc W := by kernel_rfl
  rcases Maps.fit_look true u8_keyed Tryz.underlying138 hz hb F (keyOf_int_mk Tryz.underlying5 hw) with ⟨hrun, _, hat⟩ | ⟨e0, y, _, _, hrun, hRv, hat, _⟩
  · rw [← hD] at hat
    have a := hat (.lit (.bool false))
    rw [tkD_at] at a
    have n0 : hndN b = 0 := by
      by_cases h : hndN b = 0
      · exact h
      · rw [if_neg h] at a; injection a with a; cases a
    rw [hrun]
    unfold hndV
    rw [if_pos n0, n0]; rfl
  · rw [← hD] at hat
    have a := hat (.lit (.bool false))
    have c := hat (.lit (.bool true))
    rw [tkD_at] at a c
    obtain ⟨n, hx, hy⟩ := fEl_inv hRv
    rw [hy] at a c
    have n0 : hndN b ≠ 0 := by
      intro h
      rw [if_pos h] at a; injection a with a; cases a
    rw [if_neg n0] at a
    injection a with a
    injection a with _ a
    have e : hndN b = n := by exact_mod_cast a
    rw [hrun, hx]
    unfold hndV
    rw [if_neg n0, e, decide_eq_true (by rw [← e]; exact n0)]
    rfl
end Go.Proofs.YtlkdfofpnmpidaaGreat

/- mep: Take. -/
set_option linter.unusedVariables false
set_option linter.unusedSimpArgs false
namespace Go.Proofs.YtlkdfofpnmpidaaGreat
open Go.RowKit

/-- What an operation's message does: what the point knows then, what is sent, whether it was good. -/
def opM (o : Ow20) (s : Ms) (sr ds : Mc) (a b c : Int) (f : List UInt8) (l : List Th) : Ms × List Sn × Bool :=
  if b = 1 then ((chkM o s a b c f).1, [], (chkM o s a b c f).2)
  else if b = 2 then ((answM o s ds a b f l).1, [], (answM o s ds a b f l).2)
  else if b = 3 then (s, (askM o sr ds a b c f l).1, (askM o sr ds a b c f l).2)
  else if b = 4 then ((fndM o s ds a b c f l).1, [], (fndM o s ds a b c f l).2)
  else (s, (sekM o ds a b f).1, (sekM o ds a b f).2)
def badM (s : Ms) (g : Bool) : Ms := if g = true then s else { s with bad := s.bad + 1 }
def takeM (o : Ow20) (s : Ms) (sr ds : Mc) (d : List UInt8) : Ms × List Sn :=
  if (tkP d).2.2.2.2.2 = 0 ∧ (tkP d).1 = o.a.lv ∧ hndN (tkP d).2.1 ≠ 0 then
    (badM (opM o s sr ds (tkP d).1 (tkP d).2.1 (tkP d).2.2.1 (tkP d).2.2.2.1 (tkP d).2.2.2.2.1).1 (opM o s sr ds (tkP d).1 (tkP d).2.1 (tkP d).2.2.1 (tkP d).2.2.2.1 (tkP d).2.2.2.2.1).2.2,
      (opM o s sr ds (tkP d).1 (tkP d).2.1 (tkP d).2.2.1 (tkP d).2.2.2.1 (tkP d).2.2.2.2.1).2.1)
  else (badM s (decide ((tkP d).2.2.2.2.2 = 0)), [])
theorem hndN_cases {b : Int} (h : hndN b ≠ 0) : b = 1 ∨ b = 2 ∨ b = 3 ∨ b = 4 ∨ b = 5 := by
  unfold hndN at h
  by_cases h1 : b = 1
  · exact .inl h1
  by_cases h2 : b = 2
  · exact .inr (.inl h2)
  by_cases h3 : b = 3
  · exact .inr (.inr (.inl h3))
  by_cases h4 : b = 4
  · exact .inr (.inr (.inr (.inl h4)))
  by_cases h5 : b = 5
  · exact .inr (.inr (.inr (.inr h5)))
  rw [if_neg h1, if_neg h2, if_neg h3, if_neg h4, if_neg h5] at h
  exact absurd rfl h
theorem mop_any (o : Ow20) (ho : o.Ok) (hlv : o.a.lv < 8) (ov : Value) (x : Mp) (s : Ms) (wv : Value) (hs : s.Ok) (sr ds : Mc) (hsr : sr.Ok) (a b c : Int) (f : List UInt8) (v : Value) (l : List Th) (hb : hndN b ≠ 0)
    (hp : PdB a b c f l) (w : World) (h : MM w o ov x s wv) (hv : Tls w v l) : Calls Tryz.prog (hndN b) #[.pointer (some ⟨x.p, 0, none⟩), .agg #[.int .u8 sr.a, .int .u8 sr.b, .int .u8 sr.c, .int .u8 sr.d, .int .u8 sr.e, .int .u8 sr.f, .int .u8 ds.a, .int .u8 ds.b, .int .u8 ds.c, .int .u8 ds.d, .int .u8 ds.e, .int .u8 ds.f, .int .u8 a, .int .u8 b, .int .u8 c, .string (bs f), v]] w fun en w' =>
    ∃ u wv', en = .returned (.tuple #[u, .bool (opM o s sr ds a b c f l).2.2]) ∧ Ow 7 snC 55 w' w.heap.size u (opM o s sr ds a b c f l).2.1 ∧ MM w' o ov x (opM o s sr ds a b c f l).1 wv' ∧ Fr (x.D wv) w w' ∧ ∀ g, wv'.ownBlock = some g → wv.ownBlock = some g ∨ w.heap.size ≤ g := by
  have hvs : ∃ x n k, v = .slice x n k := by obtain ⟨vx, vk, hvv, -⟩ := hv.shape; exact ⟨_, _, _, hvv⟩
  rcases hndN_cases hb with rfl | rfl | rfl | rfl | rfl
  · exact (mcheck_any o ov x s wv sr ds a 1 c f v w h hs.bnd hp.pf hp.pa hp.pc hvs).mono fun en w' ⟨h1, h2, h3⟩ => ⟨_, wv, h1, Ow.none _ _, h2, h3, fun g hg => .inl hg⟩
  · exact (mansw_any o ov x s wv sr ds a 2 c f v l w h hp hv hs.rep hs.ali).mono fun en w' ⟨h1, h2, h3⟩ => ⟨_, wv, h1, Ow.none _ _, h2, h3, fun g hg => .inl hg⟩
  · exact (masked_any o ov x s wv sr ds a 3 c f v l w h hsr hp hv).mono fun en w' ⟨u, h1, h2, h3, h4⟩ => ⟨u, wv, h1, h2, h3, h4, fun g hg => .inl hg⟩
  · exact (mfound_any o ov x s wv sr ds a 4 c f v l w h hp hv hs.way).mono fun en w' ⟨h1, wv', h2, h3, h4⟩ => ⟨_, wv', h1, Ow.none _ _, h2, h3, h4⟩
  · exact (msought_any o ho hlv ov x s wv sr ds a 5 c f v l w h hp).mono fun en w' ⟨u, h1, h2, h3, h4⟩ => ⟨u, wv, h1, h2, h3, h4, fun g hg => .inl hg⟩
set_option maxRecDepth 100000 in
set_option maxHeartbeats 4000000 in
theorem mcount_any (o : Ow20) (ov : Value) (x : Mp) (s : Ms) (wv : Value) (g : Bool) (B : Nat) (w : World) (h : MM w o ov x s wv) (hb : 0 ≤ s.bad ∧ s.bad ≤ 1000000) (hB : GB 31 w B #[.pointer (some ⟨x.p, 0, none⟩)]) :
    Calls Tryz.prog 55 #[.bool (!g), .pointer (some ⟨B, 0, none⟩)] w fun en w' => en = .returned (.tuple #[]) ∧ MM w' o ov x (badM s g) wv ∧ Only x.p w w' := by
  have c0 : w.cell? ⟨B, 0, none⟩ = some (.pointer (some ⟨x.p, 0, none⟩)) := hB.c 0 _ rfl
  have c16 := h.cbad
  have f16 := h.fz 16
  have hw : IntKind.u64.wrap (s.bad + 1) = s.bad + 1 := IntWalk.u64_in _ (by omega)
  have H := Lib.hid h
  clear h hb hB
  cases g with
  | true =>
    go_enter Tryz.func55, Tryz.ntmps55
    go_wp2
    go_end0
    exact ⟨rfl, H.out, Only.refl _ _⟩
  | false =>
    go_enter Tryz.func55, Tryz.ntmps55
    go_wp2
    go_end0
    exact ⟨rfl, H.out.sBad _, Only.set _ _ _ _⟩
end Go.Proofs.YtlkdfofpnmpidaaGreat

/- tlv: the reference's Take, walked. -/
set_option linter.unusedVariables false
namespace Go.Proofs.YtlkdfofpnmpidaaGreat
open Go.RowKit

theorem takeT_len : ∀ (n : Nat) (s : List UInt8), s.length ≤ n → (takeT s).1.length ≤ s.length
  | _, [], _ => by rw [takeT_nil]; simp
  | n + 1, c :: s, hn => by
    have ih := takeT_len n (s.drop (2 + ((s.getD 0 0).toNat * 256 + (s.getD 1 0).toNat))) (by simp at hn ⊢; omega)
    simp at ih
    rw [takeT]
    split
    · simp
    · split
      · simp
      · split
        · simp
        · split
          · simp; omega
          · simp
theorem beq_u8 (c : UInt8) (x : Int) (h : (c.toNat : Int) = x) : (c = 0) ↔ x = 0 := by
  constructor
  · rintro rfl; rw [← h]; rfl
  · intro e; apply UInt8.toNat_inj.1; show _ = 0; omega

set_option maxRecDepth 100000 in
set_option maxHeartbeats 8000000 in
theorem refTake11_any : ∀ (n : Nat) (s : List UInt8) (w : World), s.length ≤ n → s.length ≤ 100000 → Calls Tryz.prog 100 #[.string (bs s)] w fun en w' =>
    ∃ v', en = .returned (.tuple #[v', .string (bs (takeT s).2.1), .int .i64 (takeT s).2.2]) ∧ TlR w' w.heap.size v' (takeT s).1 ∧ Below w.heap.size w w' := by
  intro n
  induction n with
  | zero =>
    intro s w hn hl
    have h0 : s = [] := List.eq_nil_of_length_eq_zero (by omega)
    subst h0
    rw [takeT_nil]
    have e0 : (bs []).toList.isEmpty = true := by rw [bs_tl]; rfl
    go_enter Tryz.func100, Tryz.ntmps100
    go_wp2
    refine bodyPost_ret (v := .tuple #[.slice none 0 0, .string (bs []), .int .i64 3]) (by simp [results, Tryz.results100, go_sem]; rfl) rfl ⟨_, rfl, TlR.none _ _, Below.refl _ _⟩
  | succ n ih =>
    have IH := Lib.hid ih
    clear ih
    intro s w hn hl
    match s with
    | [] =>
      rw [takeT_nil]
      have e0 : (bs []).toList.isEmpty = true := by rw [bs_tl]; rfl
      go_enter Tryz.func100, Tryz.ntmps100
      go_wp2
      refine bodyPost_ret (v := .tuple #[.slice none 0 0, .string (bs []), .int .i64 3]) (by simp [results, Tryz.results100, go_sem]; rfl) rfl ⟨_, rfl, TlR.none _ _, Below.refl _ _⟩
    | c :: r =>
      obtain ⟨S, hS⟩ : ∃ S, c :: r = S := ⟨_, rfl⟩
      have e0 : (bs S).toList.isEmpty = false := by rw [bs_tl, ← hS]; rfl
      have hsz := bs_size S
      have hSl : S.length = r.length + 1 := by rw [← hS]; rfl
      obtain ⟨x, hx⟩ : ∃ x : Int, (c.toNat : Int) = x := ⟨_, rfl⟩
      have gx : ∀ h' : 0 < (bs S).size, (((bs S)[0]'h').toNat : Int) = x := fun h' => by
        subst hS; rw [bs_get _ 0 h' (by simp), ← hx]; rfl
      have hc0 := beq_u8 c x hx
      obtain ⟨R, hR⟩ : ∃ R, takeT S = R := ⟨_, rfl⟩
      rw [hS, hR]
      have HR := Lib.hid hR
      have HS := Lib.hid hS
      have HX := Lib.hid hx
      have HC0 := Lib.hid hc0
      have hS1 : 1 ≤ S.length := by omega
      have hS2 : S.length ≤ 100000 := by rw [← hS]; exact hl
      have hcut1 : (bs S).extract 1 S.length = bs r := by rw [bs_drop _ _ _ (Nat.le_refl _), ← hS]; rfl
      have HSL := Lib.hid hSl
      have hrn : r.length ≤ n := by simpa using hn
      clear hR hS hx hc0 hSl hn hl
      by_cases h0 : x = 0
      · have d0 : (x == 0) = true := by simpa using h0
        have hRR : R = ([], r, 0) := by rw [← HR.out, ← HS.out, (HC0.out).2 h0]; exact takeT_zero r
        have HRR := Lib.hid hRR
        clear h0 hRR
        go_enter Tryz.func100, Tryz.ntmps100
        go_wp2_with fail
        refine wp_region_later (by kernel_rfl) (by kernel_rfl) ?_
        repeat (go_big_quiet_step (fail))
        refine wpQuiet_nil ?_
        rintro _ ⟨K, rfl⟩
        have HK := Lib.hid (Later.bel (Below.refl w.heap.size w) K)
        go_wp2
        refine bodyPost_ret (v := .tuple #[.slice none 0 0, .string (bs r), .int .i64 0]) (by simp [results, Tryz.results100, go_sem]) rfl ⟨_, by rw [HRR.out], by rw [HRR.out]; exact TlR.none _ _, HK.out⟩
      have d0 : (x == 0) = false := by simpa using h0
      have hcn : c ≠ 0 := fun h => h0 ((HC0.out).1 h)
      clear h0
      by_cases h3 : S.length < 3
      · have d3 : decide ((S.length : Int) < 3) = true := decide_eq_true (by omega)
        have hRR : R = ([], [], 3) := by rw [← HR.out, ← HS.out]; exact takeT_short1 c r hcn (by have := HSL.out; omega)
        have HRR := Lib.hid hRR
        clear hRR hcn h3
        go_enter Tryz.func100, Tryz.ntmps100
        go_wp2
        refine bodyPost_ret (v := .tuple #[.slice none 0 0, .string (bs []), .int .i64 3]) (by simp [results, Tryz.results100, go_sem]; rfl) rfl ⟨_, by rw [HRR.out], by rw [HRR.out]; exact TlR.none _ _, Below.refl _ _⟩
      have d3 : decide ((S.length : Int) < 3) = false := decide_eq_false (by omega)
      obtain ⟨a, b, t, hr⟩ : ∃ a b t, r = a :: b :: t := by
        match r, HSL.out with
        | [], h => simp at h; omega
        | [_], h => simp at h; omega
        | a :: b :: t, _ => exact ⟨a, b, t, rfl⟩
      have hSt : S.length = t.length + 3 := by rw [HSL.out, hr]; simp
      obtain ⟨y, hy⟩ : ∃ y : Nat, a.toNat = y := ⟨_, rfl⟩
      obtain ⟨z, hz⟩ : ∃ z : Nat, b.toNat = z := ⟨_, rfl⟩
      have hy1 : y < 256 := by rw [← hy]; exact a.toNat_lt
      have hz1 : z < 256 := by rw [← hz]; exact b.toNat_lt
      have gy : ∀ h' : 1 < (bs S).size, (((bs S)[1]'h').toNat : Int) = (y : Int) := fun h' => by
        rw [bs_get _ 1 h' (by omega), ← hy]; have h := HS.out; rw [hr] at h; subst h; rfl
      have gz : ∀ h' : 2 < (bs S).size, (((bs S)[2]'h').toNat : Int) = (z : Int) := fun h' => by
        rw [bs_get _ 2 h' (by omega), ← hz]; have h := HS.out; rw [hr] at h; subst h; rfl
      have wy : IntKind.i64.wrap (y : Int) = (y : Int) := IntWalk.i64_in _ (by omega)
      have wz : IntKind.i64.wrap (z : Int) = (z : Int) := IntWalk.i64_in _ (by omega)
      obtain ⟨N, hN⟩ : ∃ N : Nat, y * 256 + z = N := ⟨_, rfl⟩
      have eN : (y : Int) * 256 + (z : Int) = (N : Int) := by omega
      have hN1 : N < 65536 := by omega
      by_cases h4 : S.length < 3 + N
      · have d4 : decide ((S.length : Int) < 3 + (N : Int)) = true := decide_eq_true (by omega)
        have hRR : R = ([], [], 3) := by rw [← HR.out, ← HS.out, hr]; exact takeT_short2 c a b t hcn (by rw [hy, hz]; omega)
        have HRR := Lib.hid hRR
        have S3 : 3 ≤ S.length := by omega
        clear hRR hcn h3 h4 hr hSt hN hy hz
        go_enter Tryz.func100, Tryz.ntmps100
        go_wp2_with fail
        refine wp_region_later (by kernel_rfl) (by kernel_rfl) ?_
        repeat (go_big_quiet_step (fail))
        refine wpQuiet_nil ?_
        rintro _ ⟨K, rfl⟩
        have HK := Lib.hid (Later.bel (Below.refl w.heap.size w) K)
        go_wp2
        refine bodyPost_ret (v := .tuple #[.slice none 0 0, .string (bs []), .int .i64 3]) (by simp [results, Tryz.results100, go_sem]; rfl) rfl ⟨_, by rw [HRR.out], by rw [HRR.out]; exact TlR.none _ _, HK.out⟩
      have d4 : decide ((S.length : Int) < 3 + (N : Int)) = false := decide_eq_false (by omega)
      obtain ⟨t1, t2, ht, ht1⟩ : ∃ t1 t2, t = t1 ++ t2 ∧ t1.length = N := ⟨t.take N, t.drop N, (List.take_append_drop N t).symm, by simp; omega⟩
      have hT := takeT_cons c 0 t1 t2 a b hcn (by rw [hy, hz, hN, ht1])
      have hcS : c :: a :: b :: (t1 ++ t2) = S := by rw [← ht, ← hr]; exact HS.out
      rw [hcS, HR.out] at hT
      have hcutA : (bs S).extract (3 + N) S.length = bs t2 := by
        rw [bs_drop _ _ _ (Nat.le_refl _), ← hcS]
        congr 1
        rw [Nat.add_comm 3]; exact List.drop_left' (l₁ := t1) ht1
      have hcutB : (bs S).extract 3 (3 + N) = bs t1 := by
        rw [bs_extract, ← hcS]
        congr 1
        rw [show 3 + N - 3 = N by omega]; exact List.take_left' (l₁ := t1) ht1
      have C := Lib.hid (fun w => IH.out t2 w (by have := hrn; rw [hr, ht] at this; simp at this; omega) (by have := hS2; rw [hSt, ht] at this; simp at this; omega))
      obtain ⟨l2, s2, e2, hR2⟩ : ∃ l2 s2 e2, takeT t2 = (l2, s2, e2) := ⟨_, _, _, rfl⟩
      have hE2 : e2 ≠ 0 → e2 = 3 := fun h => by
        have := takeT_err _ t2 (Nat.le_refl _) (by rw [hR2]; exact h)
        rw [hR2] at this; simpa using congrArg (fun q => q.2.2) this
      have hl2 : l2.length ≤ 100000 := by
        have h1 := takeT_len _ t2 (Nat.le_refl _)
        rw [hR2] at h1
        have h2 := hS2; rw [hSt, ht] at h2; simp at h1 h2; omega
      rw [hR2] at hT C
      have HT := Lib.hid hT
      have hN2 : 3 + N ≤ S.length := by omega
      have HE2 := Lib.hid hE2
      clear hcn h3 h4 hr hSt hN hy hz ht ht1 hT hcS hR2 hE2
      go_enter Tryz.func100, Tryz.ntmps100
      go_wp2_with fail
      refine wp_region_later (by kernel_rfl) (by kernel_rfl) ?_
      repeat (go_big_quiet_step (fail))
      refine wpQuiet_nil ?_
      rintro _ ⟨K, rfl⟩
      go_wp2_with fail
      rw [hcutA]
      with_reducible refine (C.out _).mono ?_
      rintro en w2 ⟨v', rfl, hown, hb⟩
      have HB := Lib.hid (Later.bel (Below.refl w.heap.size w) K |>.trans (hb.mono K.h.size))
      have HO := Lib.hid (hown.mono K.h.size)
      clear hown hb hcutA
      by_cases he : e2 = 0
      · have de : (e2 == 0) = true := by simpa using he
        have de' : (e2 != 0) = false := by unfold bne; rw [de]; rfl
        have hRR := HT.out
        rw [if_pos he, he] at hRR
        have HRR := Lib.hid hRR
        have hlit := TlR.lit w2 w.heap.size (c, t1) HB.out.size
        simp only at hlit
        rw [HX.out] at hlit
        have HLIT : Hid (TlR (w2.alloc (.cells #[.int .u8 x, .string (bs t1)] 187)).drew w.heap.size (.slice (some ⟨w2.heap.size, 0, none⟩) 1 1) [(c, t1)]) := hlit.later (Below.refl _ _).drew
        have HSRC : Hid (Tls (w2.alloc (.cells #[.int .u8 x, .string (bs t1)] 187)).drew v' l2) := (HO.out.later (((Below.refl _ _).alloc (Nat.le_refl _) _).drew)).tls
        have HBW : Hid (Below w.heap.size w (w2.alloc (.cells #[.int .u8 x, .string (bs t1)] 187)).drew) := (HB.out.alloc HB.out.size _).drew
        have S0 : 0 < S.length := by omega
        have hcutB' : (bs S).extract 3 ((3 : Int) + (N : Int)).toNat = bs t1 := by rw [show ((3 : Int) + (N : Int)).toNat = 3 + N by omega]; exact hcutB
        have wN : IntKind.i64.wrap (3 + (N : Int)) = 3 + (N : Int) := IntWalk.i64_in _ (by omega)
        have b1 : (0 : Int) ≤ 3 + (N : Int) := by omega
        have b2 : (3 : Int) ≤ 3 + (N : Int) := by omega
        have b3 : (3 : Int) + (N : Int) ≤ (S.length : Int) := by omega
        clear he hRR hlit
        go_wp2_with fail
        go_region_law (first
          | (refine step_append_R rfl _ _ rfl w.heap.size _ [(c, t1)] (by rfl) (by exact HLIT.out) _ l2 (by rfl) (by exact HSRC.out) (by simp; omega) (by exact HBW.out.size) ?_; intro v3 w3 hown3 hb3))
        all_goals
          have HB3 := Lib.hid (HBW.out.trans hb3)
          have HO3 := Lib.hid hown3
          clear hown3 hb3
        all_goals go_wp2
        all_goals refine bodyPost_ret (v := .tuple #[v3, .string (bs s2), .int .i64 0]) (by simp [results, Tryz.results100, go_sem]) rfl ⟨_, by rw [HRR.out], by rw [HRR.out]; exact HO3.out, HB3.out⟩
      · have de : (e2 == 0) = false := by simpa using he
        have de' : (e2 != 0) = true := by unfold bne; rw [de]; rfl
        have hRR := HT.out
        rw [if_neg he] at hRR
        have HRR := Lib.hid hRR
        have he3 := HE2.out he
        subst he3
        clear he hRR
        go_wp2
        refine bodyPost_ret (v := .tuple #[.slice none 0 0, .string (bs []), .int .i64 3]) (by simp [results, Tryz.results100, go_sem]; rfl) rfl ⟨_, by rw [HRR.out], by rw [HRR.out]; exact TlR.none _ _, HB.out⟩
end Go.Proofs.YtlkdfofpnmpidaaGreat
