/- ZB13: the texts K5, RM as one. -/
import Derived.Test.YtpkkjbmgbgakdaaGreatDoorZB12
import Derived.Test.YtpkkjbmgbgakdaaGreatDoorZB04
/- Bytes: appends that leave what is no row of bytes as it was. -/
set_option linter.unusedVariables false
namespace Go.Proofs.YtpkkjbmgbgakdaaGreatDoor
open Go.RowKit

/-- No row of bytes. -/
def NB (o : Obj) : Prop := ∀ cs fr, o ≠ .cells cs 5 fr
/-- What is no row of bytes is as it was. -/
def Kp (w w' : World) : Prop := ∀ (q : Nat) (o : Obj), w.heap[q]? = some o → NB o → w'.heap[q]? = some o
theorem Kp.refl (w : World) : Kp w w := fun _ _ h _ => h
theorem Kp.trans {a b c : World} (h : Kp a b) (k : Kp b c) : Kp a c := fun q o h1 h2 => k q o (h q o h1 h2) h2
theorem lt_of_heap {w : World} {q : Nat} {o : Obj} (h : w.heap[q]? = some o) : q < w.heap.size := by
  rcases Nat.lt_or_ge q w.heap.size with h1 | h1
  · exact h1
  · rw [Array.getElem?_eq_none h1] at h; cases h
theorem Kp.alloc (w : World) (x : Obj) : Kp w (w.alloc x) := fun q o h _ => (Below.heap_alloc w x q (lt_of_heap h)).trans h
theorem Kp.later {w w' : World} (h : Below w.heap.size w w') : Kp w w' := fun q o h1 _ => (h.block q (lt_of_heap h1)).trans h1
theorem Kp.grown {w w' : World} {B : Nat} {v : Value} {l : List UInt8} (hown : Bys w B v l) (h : w.grownBy w' v.ownBlock) : Kp w w' := fun q o h1 h2 => by
  by_cases hq : some q = v.ownBlock
  · exfalso
    rcases hown.2 with ⟨rfl, _⟩ | ⟨g, cap, cur, rfl, _, hg, _⟩
    · cases hq
    · have : q = g := by simpa [Value.ownBlock] using hq
      subst this
      rw [h1] at hg
      exact h2 _ _ (Option.some.inj hg)
  · exact (h.block q (lt_of_heap h1) hq).trans h1

section
variable {w : World} {ops : Array Oper} {rest : List Oper} {o : Oper} {a : Act} {Q : Exit → Act → World → Prop} {K : Act → World → Prop}
/-- 'append(b, ..)' of bytes that lie somewhere, b owned. -/
theorem wpList_append_bysK (hgd : o.guard = Option.none) (s x : Operand)
    (ho : o.op = .call { callee := .builtin .append, args := #[s, x], argTypes := #[146, 146] })
    (B : Nat) (v : Value) (l : List UInt8) (hs : a.eval s = v) (hown : Bys w B v l)
    (ad : Addr) (c : Nat) (news : List UInt8) (m : Nat) (hm : m = news.length) (hx : a.eval x = .slice (some ad) m c) (hnews : ∀ j (hj : j < news.length), w.cell? (ad.add j) = some (byteV news[j]))
    (hsz : l.length + news.length ≤ 1099511627776) (hB : B ≤ w.heap.size)
    (h : ∀ v' w', Bys w' B v' (l ++ news) → Below B w w' → Kp w w' → wpList Tryz.prog ops Q rest (a.put o.dst v') w') : wpList Tryz.prog ops Q (o :: rest) a w := by
  obtain ⟨i, hi, hz0, hz1, hz2⟩ := info_parts info_u8
  subst hm
  refine wpList_append_own w hgd s x 146 ho B 5 i (.int .u8 0) 1 1 Tryz.underlying146 hi hz0 hz1 hz2 rfl (by decide) v l.length (l.map byteV) hs hown ad news.length c (news.map byteV) hx (by simp)
    (fun j u hj => ?_) (fun u hu => ?_) (by unfold maxLen; omega) (by omega) hB (fun v' w' h1 h2 _ => ?_)
  · have hj' : j < news.length := by have := (List.getElem?_eq_some_iff.1 hj).1; simpa using this
    rw [hnews j hj']
    simp [hj'] at hj
    rw [hj]
  · obtain ⟨b, _, rfl⟩ := List.mem_map.1 hu
    rfl
  · refine h v' w' (by unfold Bys; simpa using h1) ((Below.refl _ _).grown h2 hB (fun k hk => ?_)) (Kp.grown hown h2)
    exact (World.ownsRow.lt hown k hk).1
/-- 'append(b, x)' of one byte. -/
theorem wpList_append_byteK (hgd : o.guard = Option.none) (s x : Operand)
    (ho : o.op = .call { callee := .builtin .append, args := #[s, x], argTypes := #[146, 146] })
    (B : Nat) (v : Value) (l : List UInt8) (W : World) (n : Int) (hw : w = W.alloc (.cells #[.int .u8 n] 5)) (hs : a.eval s = v) (hown : Bys W B v l)
    (hx : a.eval x = .slice (some ⟨W.heap.size, 0, Option.none⟩) 1 1) (hn : 0 ≤ n) (hn2 : n < 256)
    (hsz : l.length + 1 ≤ 1099511627776) (hB : B ≤ W.heap.size)
    (h : ∀ v' w', Bys w' B v' (l ++ [UInt8.ofNat n.toNat]) → Below B W w' → Kp W w' → wpList Tryz.prog ops Q rest (a.put o.dst v') w') : wpList Tryz.prog ops Q (o :: rest) a w := by
  subst hw
  refine wpList_append_bysK hgd s x ho B v l hs (hown.alloc _) ⟨W.heap.size, 0, Option.none⟩ 1 [UInt8.ofNat n.toNat] 1 rfl hx (fun j hj => ?_) (by simpa using hsz) (by simp; omega) (fun v' w' h1 h2 h3 => h v' w' h1 (((Below.refl _ _).alloc hB _).trans h2) ((Kp.alloc W _).trans h3))
  obtain rfl : j = 0 := by simpa using hj
  have e : (UInt8.ofNat n.toNat).toNat = n.toNat := by simp; omega
  simp [Addr.add, byteV, e, Int.toNat_of_nonneg hn]
/-- 'append(b, x...)', b owned, x whatever reads as bytes. -/
theorem wp_append_srcK (s x : Operand) (ho : o.op = .call { callee := .builtin .append, args := #[s, x], argTypes := #[146, 146] })
    (B : Nat) (v : Value) (l : List UInt8) (hs : a.eval s = v) (hown : Bys w B v l) (u : Value) (t : List UInt8) (hx : a.eval x = u) (hsrc : Src w u t)
    (hsz : l.length + t.length ≤ 1099511627776) (hB : B ≤ w.heap.size)
    (h : ∀ v' w', Bys w' B v' (l ++ t) → Below B w w' → Kp w w' → K (a.put o.dst v') w') : o.wp Tryz.prog a w K Q := by
  obtain ⟨i, hi, hz0, hz1, hz2⟩ := info_parts info_u8
  rcases hsrc with ⟨rfl, rfl⟩ | ⟨ad, c, rfl, hnews⟩
  · have hrun := run_append_owned_none (P := Tryz.prog) w B 146 o.type 5 i 1 Tryz.underlying146 hi v l.length (l.map byteV) hown
    unfold Oper.wp
    simp [execOp, ho, resolve, invoke, builtin, hs, hx, hrun, Result.andThen]
    exact h _ _ (by simpa using hown) (Below.refl _ _) (Kp.refl _)
  · refine wp_append_own w s x 146 ho B 5 i (.int .u8 0) 1 1 Tryz.underlying146 hi hz0 hz1 hz2 rfl (by decide) v l.length (l.map byteV) hs hown ad t.length c (t.map byteV) hx (by simp)
      (fun j u hj => ?_) (fun u hu => ?_) (by unfold maxLen; omega) (by omega) hB (fun v' w' h1 h2 _ => ?_)
    · have hj' : j < t.length := by have := (List.getElem?_eq_some_iff.1 hj).1; simpa using this
      rw [hnews j hj']
      simp [hj'] at hj
      rw [hj]
    · obtain ⟨b, _, rfl⟩ := List.mem_map.1 hu
      rfl
    · exact h v' w' (by unfold Bys; simpa using h1) ((Below.refl _ _).grown h2 hB (fun k hk => (World.ownsRow.lt hown k hk).1)) (Kp.grown hown h2)
theorem wpList_append_srcK (hgd : o.guard = Option.none) (s x : Operand) (ho : o.op = .call { callee := .builtin .append, args := #[s, x], argTypes := #[146, 146] })
    (B : Nat) (v : Value) (l : List UInt8) (hs : a.eval s = v) (hown : Bys w B v l) (u : Value) (t : List UInt8) (hx : a.eval x = u) (hsrc : Src w u t)
    (hsz : l.length + t.length ≤ 1099511627776) (hB : B ≤ w.heap.size)
    (h : ∀ v' w', Bys w' B v' (l ++ t) → Below B w w' → Kp w w' → wpList Tryz.prog ops Q rest (a.put o.dst v') w') : wpList Tryz.prog ops Q (o :: rest) a w :=
  wpList_plain hgd fun K hK => wp_append_srcK s x ho B v l hs hown u t hx hsrc hsz hB fun v' w' h1 h2 h3 => hK _ _ (h v' w' h1 h2 h3)
/-- The same as one step of a region that draws. -/
theorem step_append_srcK {E : Prop} (hgd : o.guard = Option.none) (s x : Operand) (ho : o.op = .call { callee := .builtin .append, args := #[s, x], argTypes := #[146, 146] })
    (B : Nat) (v : Value) (l : List UInt8) (hs : a.eval s = v) (hown : Bys w B v l) (u : Value) (t : List UInt8) (hx : a.eval x = u) (hsrc : Src w u t)
    (hsz : l.length + t.length ≤ 1099511627776) (hB : B ≤ w.heap.size)
    (h : ∀ v' w', Bys w' B v' (l ++ t) → Below B w w' → Kp w w' → K (a.put o.dst v') w') : if Region.wanted o (yielded ops a.tmps) = true then Oper.wp Tryz.prog o a w K Q else E := by
  rw [if_pos (by simp [Region.wanted, hgd])]
  exact wp_append_srcK s x ho B v l hs hown u t hx hsrc hsz hB h
/-- 'append(b, s...)', as one step of a region that draws. -/
theorem step_append_strK {E : Prop} (hgd : o.guard = Option.none) (s x : Operand)
    (ho : o.op = .call { callee := .builtin .append, args := #[s, x], argTypes := #[146, 9] })
    (B : Nat) (v : Value) (l : List UInt8) (hs : a.eval s = v) (hown : Bys w B v l) (t : List UInt8) (hx : a.eval x = .string (bs t))
    (hsz : l.length + t.length ≤ 1099511627776) (hB : B ≤ w.heap.size)
    (h : ∀ v' w', Bys w' B v' (l ++ t) → Below B w w' → Kp w w' → K (a.put o.dst v') w') : if Region.wanted o (yielded ops a.tmps) = true then Oper.wp Tryz.prog o a w K Q else E := by
  rw [if_pos (by simp [Region.wanted, hgd])]
  obtain ⟨i, hi, hz0, hz1, hz2⟩ := info_parts info_u8
  obtain ⟨v', w', hr, h1, h2, _⟩ := Lib.run_append_own_string (P := Tryz.prog) w B 146 9 o.type 5 i Tryz.underlying146 Tryz.underlying9 hi hz0 hz1 hz2 v l.length (l.map byteV) hown (bs t)
    (by rw [bs_size]; unfold maxLen; omega) (by rw [bs_size]; omega) hB
  unfold Oper.wp execOp
  simp only [ho, resolve, invoke, builtin, Sem.run_bind, Sem.run_pure, Result.andThen_ok, List.map_toArray, List.map_cons, List.map_nil, hs, hx, hr]
  refine h v' w' ?_ ((Below.refl _ _).grown h2 hB (fun k hk => (World.ownsRow.lt hown k hk).1)) (Kp.grown hown h2)
  unfold Bys
  rw [bs_size, strCells_bs] at h1
  simpa using h1
end

set_option maxRecDepth 100000 in
set_option maxHeartbeats 1000000 in
/-- A number's bytes behind owned ones. -/
theorem put_uint16K (B : Nat) (v : Value) (l : List UInt8) (n : Int) (w : World) (hB : B ≤ w.heap.size) (hv : Bys w B v l) (hn : 0 ≤ n) (hn2 : n < 65536) (hl : l.length ≤ 1000000000000) :
    Calls Tryz.prog 142 #[v, .int .u16 n] w fun e w' => ∃ v', e = .returned v' ∧ Bys w' B v' (l ++ be 2 n) ∧ Below B w w' ∧ Kp w w' := by
  go_enter Tryz.func142, Tryz.ntmps142
  go_wp2_with (go_at_call 174; refine (width_uint16 _).mono ?_; rintro e w' ⟨rfl, rfl⟩)
  go_loopw [0, 9] (fun v i wr => ∃ k : Nat, k ≤ 2 ∧ i = .int .i64 k ∧ Bys wr B v (l ++ beTo 2 n k) ∧ Below B w wr ∧ Kp w wr) (fun _ i _ => 2 - (intOf i).toNat)
  case atStart => exact ⟨0, by omega, rfl, by simpa [beTo] using hv, Below.refl _ _, Kp.refl _⟩
  case round =>
    obtain ⟨k, hk, rfl, hown, hb, hkp⟩ := hrel
    by_cases hlt : k < 2
    · have hsz := hb.size
      go_wp2_with (at_builtin; refine wpList_append_byteK rfl (.tmp 12) (.tmp 22) rfl B _ _ wr _ rfl rfl hown rfl ?_ ?_ ?_ ?_ ?_)
      · exact Int.emod_nonneg _ (by decide)
      · exact Int.emod_lt_of_pos _ (by decide)
      · simp [beTo_length]; omega
      · omega
      · intro v' w1 hown' hb' hk'
        have hk2 := Lib.hid (hkp.trans hk')
        have hb2 := Lib.hid (hb.trans hb')
        have hown2 := Lib.hid (beTo_next hown' (by omega))
        clear hb hb' hown hown' hsz hkp hk'
        go_wp2
        go_roundw
        case rel => exact ⟨k + 1, by omega, by go_num, hown2.out, hb2.out, hk2.out⟩
        case measure => simp [intOf]; omega
    · obtain rfl : k = 2 := by omega
      go_wp2
      go_ret
      exact ⟨_, rfl, hown, hb, hkp⟩
set_option maxRecDepth 100000 in
set_option maxHeartbeats 1000000 in
/-- A number's bytes behind owned ones. -/
theorem put_uint32K (B : Nat) (v : Value) (l : List UInt8) (n : Int) (w : World) (hB : B ≤ w.heap.size) (hv : Bys w B v l) (hn : 0 ≤ n) (hn2 : n < 4294967296) (hl : l.length ≤ 1000000000000) :
    Calls Tryz.prog 144 #[v, .int .u32 n] w fun e w' => ∃ v', e = .returned v' ∧ Bys w' B v' (l ++ be 4 n) ∧ Below B w w' ∧ Kp w w' := by
  go_enter Tryz.func144, Tryz.ntmps144
  go_wp2_with (go_at_call 197; refine (width_uint32 _).mono ?_; rintro e w' ⟨rfl, rfl⟩)
  go_loopw [0, 9] (fun v i wr => ∃ k : Nat, k ≤ 4 ∧ i = .int .i64 k ∧ Bys wr B v (l ++ beTo 4 n k) ∧ Below B w wr ∧ Kp w wr) (fun _ i _ => 4 - (intOf i).toNat)
  case atStart => exact ⟨0, by omega, rfl, by simpa [beTo] using hv, Below.refl _ _, Kp.refl _⟩
  case round =>
    obtain ⟨k, hk, rfl, hown, hb, hkp⟩ := hrel
    by_cases hlt : k < 4
    · have hsz := hb.size
      go_wp2_with (at_builtin; refine wpList_append_byteK rfl (.tmp 12) (.tmp 22) rfl B _ _ wr _ rfl rfl hown rfl ?_ ?_ ?_ ?_ ?_)
      · exact Int.emod_nonneg _ (by decide)
      · exact Int.emod_lt_of_pos _ (by decide)
      · simp [beTo_length]; omega
      · omega
      · intro v' w1 hown' hb' hk'
        have hk2 := Lib.hid (hkp.trans hk')
        have hb2 := Lib.hid (hb.trans hb')
        have hown2 := Lib.hid (beTo_next hown' (by omega))
        clear hb hb' hown hown' hsz hkp hk'
        go_wp2
        go_roundw
        case rel => exact ⟨k + 1, by omega, by go_num, hown2.out, hb2.out, hk2.out⟩
        case measure => simp [intOf]; omega
    · obtain rfl : k = 4 := by omega
      go_wp2
      go_ret
      exact ⟨_, rfl, hown, hb, hkp⟩
set_option maxRecDepth 100000 in
set_option maxHeartbeats 1000000 in
/-- A number's bytes behind owned ones. -/
theorem put_uint64K (B : Nat) (v : Value) (l : List UInt8) (n : Int) (w : World) (hB : B ≤ w.heap.size) (hv : Bys w B v l) (hn : 0 ≤ n) (hn2 : n < 18446744073709551616) (hl : l.length ≤ 1000000000000) :
    Calls Tryz.prog 73 #[v, .int .u64 n] w fun e w' => ∃ v', e = .returned v' ∧ Bys w' B v' (l ++ be 8 n) ∧ Below B w w' ∧ Kp w w' := by
  go_enter Tryz.func73, Tryz.ntmps73
  go_wp2_with (go_at_call 138; refine (width_uint64 _).mono ?_; rintro e w' ⟨rfl, rfl⟩)
  go_loopw [0, 9] (fun v i wr => ∃ k : Nat, k ≤ 8 ∧ i = .int .i64 k ∧ Bys wr B v (l ++ beTo 8 n k) ∧ Below B w wr ∧ Kp w wr) (fun _ i _ => 8 - (intOf i).toNat)
  case atStart => exact ⟨0, by omega, rfl, by simpa [beTo] using hv, Below.refl _ _, Kp.refl _⟩
  case round =>
    obtain ⟨k, hk, rfl, hown, hb, hkp⟩ := hrel
    by_cases hlt : k < 8
    · have hsz := hb.size
      go_wp2_with (at_builtin; refine wpList_append_byteK rfl (.tmp 12) (.tmp 21) rfl B _ _ wr _ rfl rfl hown rfl ?_ ?_ ?_ ?_ ?_)
      · exact Int.emod_nonneg _ (by decide)
      · exact Int.emod_lt_of_pos _ (by decide)
      · simp [beTo_length]; omega
      · omega
      · intro v' w1 hown' hb' hk'
        have hk2 := Lib.hid (hkp.trans hk')
        have hb2 := Lib.hid (hb.trans hb')
        have hown2 := Lib.hid (beTo_next hown' (by omega))
        clear hb hb' hown hown' hsz hkp hk'
        go_wp2
        go_roundw
        case rel => exact ⟨k + 1, by omega, by go_num, hown2.out, hb2.out, hk2.out⟩
        case measure => simp [intOf]; omega
    · obtain rfl : k = 8 := by omega
      go_wp2
      go_ret
      exact ⟨_, rfl, hown, hb, hkp⟩
end Go.Proofs.YtpkkjbmgbgakdaaGreatDoor

/- The reader of an address. -/
set_option linter.unusedVariables false
namespace Go.Proofs.YtpkkjbmgbgakdaaGreatDoor
open Go.ChangeShapes Go.WideShapes Go.ChangeAt Go.RowKit Go.Joins
/-- An address's six numbers are bytes. -/
def wfM (a b c d e f : Int) : Prop := (0 ≤ a ∧ a < 256) ∧ (0 ≤ b ∧ b < 256) ∧ (0 ≤ c ∧ c < 256) ∧ (0 ≤ d ∧ d < 256) ∧ (0 ≤ e ∧ e < 256) ∧ (0 ≤ f ∧ f < 256)
theorem six_of_cells {H : Type} {enc : TypeId × Value → H} {P : Program} {w : World} {base : Nat} {spare : Nat → Bool} {held : Bool} {fuel : Nat} {t e : TypeId} {cs : List Value} {x : DataW H × List MemPlace}
    (ht : P.underlying t = some (.array 6 e)) (he : P.underlying e = some (.int .u8)) (hce : P.cellsOf e = 1) (hct : P.cellsOf t = 6)
    (h : DataW.trod enc P w base spare held fuel t cs = some x) :
    ∃ a b c d e f : Int, cs = [.int .u8 a, .int .u8 b, .int .u8 c, .int .u8 d, .int .u8 e, .int .u8 f] ∧ wfM a b c d e f := by
  obtain ⟨xs, m, _, _, hl, hxs, hi⟩ := DataW.trod_array ht h
  rw [hct] at hl
  match cs, hl with
  | [c0, c1, c2, c3, c4, c5], _ =>
    have g : ∀ (i : Nat), i < 6 → (xs[i]?).isSome = true := fun i h => by simp [hxs, h]
    have h0 := hi 0 (by omega)
    have h1 := hi 1 (by omega)
    have h2 := hi 2 (by omega)
    have h3 := hi 3 (by omega)
    have h4 := hi 4 (by omega)
    have h5 := hi 5 (by omega)
    rw [hce] at h0 h1 h2 h3 h4 h5
    obtain ⟨a0, rfl, w0⟩ := trod_int1 he (by simpa using h0) (g 0 (by omega))
    obtain ⟨a1, rfl, w1⟩ := trod_int1 he (by simpa using h1) (g 1 (by omega))
    obtain ⟨a2, rfl, w2⟩ := trod_int1 he (by simpa using h2) (g 2 (by omega))
    obtain ⟨a3, rfl, w3⟩ := trod_int1 he (by simpa using h3) (g 3 (by omega))
    obtain ⟨a4, rfl, w4⟩ := trod_int1 he (by simpa using h4) (g 4 (by omega))
    obtain ⟨a5, rfl, w5⟩ := trod_int1 he (by simpa using h5) (g 5 (by omega))
    refine ⟨a0, a1, a2, a3, a4, a5, rfl, ?_⟩
    have := bounds_u8 w0; have := bounds_u8 w1; have := bounds_u8 w2; have := bounds_u8 w3; have := bounds_u8 w4; have := bounds_u8 w5
    unfold wfM; omega
set_option maxRecDepth 100000 in
theorem rd_mac {H : Type} {enc : TypeId × Value → H} {w : World} {r : Reach} {b0 base : Nat} {spare : Nat → Bool} {held : Bool} {v : Value} {d : DataW H} {p : List MemPlace}
    (hv : Value.okWide Tryz.prog w r b0 41 v) (h : DataW.Trod enc Tryz.prog w base spare held 41 v d p) :
    ∃ a b c d e f : Int, v = .agg #[.int .u8 a, .int .u8 b, .int .u8 c, .int .u8 d, .int .u8 e, .int .u8 f] ∧ wfM a b c d e f := by
  obtain ⟨cs, rfl, hsz⟩ := okWide_arr Tryz.underlying41 hv
  obtain ⟨fuel, hf⟩ := h
  obtain ⟨a, b, c, d, e, f, hcs, hw⟩ := six_of_cells Tryz.underlying41 Tryz.underlying5 (by kernel_rfl) (by kernel_rfl) hf
  refine ⟨a, b, c, d, e, f, ?_, hw⟩
  simp [Value.cells] at hcs
  rw [show cs = cs.toList.toArray from rfl, hcs]
end Go.Proofs.YtpkkjbmgbgakdaaGreatDoor
