/- ZP13: the texts C1, K5, T4a as one. -/
import Derived.Test.YtlkdfofpnmpidaaGreatZP08
import Derived.Test.YtlkdfofpnmpidaaGreatZP07
/- cfm: the law's own 'Of'. -/
set_option linter.unusedVariables false
namespace Go.Proofs.YtlkdfofpnmpidaaGreat
open Go.RowKit

/-- A row is as it was, where its block is. -/
theorem TlT.blk {w w' : World} {B : Nat} {v : Value} {l : List Th} (h : TlT w B v l) (ho : ∀ g, B ≤ g → w'.heap[g]? = w.heap[g]?) : TlT w' B v l := by
  obtain ⟨h1, h2⟩ := h
  refine ⟨h1, ?_⟩
  rcases h2 with h2 | ⟨g, cap, cur, hv, hg, hh, r⟩
  · exact .inl h2
  · exact .inr ⟨g, cap, cur, hv, hg, by rw [ho g hg]; exact hh, r⟩
theorem TlT.set {w : World} {B p o : Nat} {v : Value} {l : List Th} (h : TlT w B v l) (hp : p < B) (x : Value) : TlT (w.setCell ⟨p, o, Option.none⟩ x) B v l :=
  h.blk fun g hg => Below.heap_setCell _ _ _ _ (by intro e; simp at e; omega)
theorem PB.below1 {T : TypeId} {W W' : World} {q : Nat} {a b c : Int} {f : List UInt8} {v : Value} (h : PB T W q a b c f v) (hb : Below (q + 1) W W') : PB T W' q a b c f v := h.below (Nat.lt_succ_self q) hb

end Go.Proofs.YtlkdfofpnmpidaaGreat

/- Bytes: appends that leave what is no row of bytes as it was. -/
set_option linter.unusedVariables false
namespace Go.Proofs.YtlkdfofpnmpidaaGreat
open Go.RowKit

/-- No row of bytes. -/
def NB (o : Obj) : Prop := ∀ cs fr, o ≠ .cells cs 5 fr
/-- What is no row of bytes is as it was. -/
def Kp (w w' : World) : Prop := ∀ (q : Nat) (o : Obj), w.heap[q]? = some o → NB o → w'.heap[q]? = some o
theorem Kp.refl (w : World) : Kp w w := fun _ _ h _ => h
theorem Kp.trans {a b c : World} (h : Kp a b) (k : Kp b c) : Kp a c := fun q o h1 h2 => k q o (h q o h1 h2) h2
theorem lt_of_heap {w : World} {q : Nat} {o : Obj} (h : w.heap[q]? = some o) : q < w.heap.size := by
  rcases Nat.lt_or_ge q w.heap.size with h1 | h1
  · exact h1
  · rw [Array.getElem?_eq_none h1] at h; cases h
theorem Kp.alloc (w : World) (x : Obj) : Kp w (w.alloc x) := fun q o h _ => (Below.heap_alloc w x q (lt_of_heap h)).trans h
theorem Kp.later {w w' : World} (h : Below w.heap.size w w') : Kp w w' := fun q o h1 _ => (h.block q (lt_of_heap h1)).trans h1
theorem Kp.grown {w w' : World} {B : Nat} {v : Value} {l : List UInt8} (hown : Bys w B v l) (h : w.grownBy w' v.ownBlock) : Kp w w' := fun q o h1 h2 => by
  by_cases hq : some q = v.ownBlock
  · exfalso
    rcases hown.2 with ⟨rfl, _⟩ | ⟨g, cap, cur, rfl, _, hg, _⟩
    · cases hq
    · have : q = g := by simpa [Value.ownBlock] using hq
      subst this
      rw [h1] at hg
      exact h2 _ _ (Option.some.inj hg)
  · exact (h.block q (lt_of_heap h1) hq).trans h1

section
variable {w : World} {ops : Array Oper} {rest : List Oper} {o : Oper} {a : Act} {Q : Exit → Act → World → Prop} {K : Act → World → Prop}
/-- 'append(b, ..)' of bytes that lie somewhere, b owned. -/
theorem wpList_append_bysK (hgd : o.guard = Option.none) (s x : Operand)
    (ho : o.op = .call { callee := .builtin .append, args := #[s, x], argTypes := #[39, 39] })
    (B : Nat) (v : Value) (l : List UInt8) (hs : a.eval s = v) (hown : Bys w B v l)
    (ad : Addr) (c : Nat) (news : List UInt8) (m : Nat) (hm : m = news.length) (hx : a.eval x = .slice (some ad) m c) (hnews : ∀ j (hj : j < news.length), w.cell? (ad.add j) = some (byteV news[j]))
    (hsz : l.length + news.length ≤ 1099511627776) (hB : B ≤ w.heap.size)
    (h : ∀ v' w', Bys w' B v' (l ++ news) → Below B w w' → Kp w w' → wpList Tryz.prog ops Q rest (a.put o.dst v') w') : wpList Tryz.prog ops Q (o :: rest) a w := by
  obtain ⟨i, hi, hz0, hz1, hz2⟩ := info_parts info_u8
  subst hm
  refine wpList_append_own w hgd s x 39 ho B 5 i (.int .u8 0) 1 1 Tryz.underlying39 hi hz0 hz1 hz2 rfl (by decide) v l.length (l.map byteV) hs hown ad news.length c (news.map byteV) hx (by simp)
    (fun j u hj => ?_) (fun u hu => ?_) (by unfold maxLen; omega) (by omega) hB (fun v' w' h1 h2 _ => ?_)
  · have hj' : j < news.length := by have := (List.getElem?_eq_some_iff.1 hj).1; simpa using this
    rw [hnews j hj']
    simp [hj'] at hj
    rw [hj]
  · obtain ⟨b, _, rfl⟩ := List.mem_map.1 hu
    rfl
  · refine h v' w' (by unfold Bys; simpa using h1) ((Below.refl _ _).grown h2 hB (fun k hk => ?_)) (Kp.grown hown h2)
    exact (World.ownsRow.lt hown k hk).1
/-- 'append(b, x)' of one byte. -/
theorem wpList_append_byteK (hgd : o.guard = Option.none) (s x : Operand)
    (ho : o.op = .call { callee := .builtin .append, args := #[s, x], argTypes := #[39, 39] })
    (B : Nat) (v : Value) (l : List UInt8) (W : World) (n : Int) (hw : w = W.alloc (.cells #[.int .u8 n] 5)) (hs : a.eval s = v) (hown : Bys W B v l)
    (hx : a.eval x = .slice (some ⟨W.heap.size, 0, Option.none⟩) 1 1) (hn : 0 ≤ n) (hn2 : n < 256)
    (hsz : l.length + 1 ≤ 1099511627776) (hB : B ≤ W.heap.size)
    (h : ∀ v' w', Bys w' B v' (l ++ [UInt8.ofNat n.toNat]) → Below B W w' → Kp W w' → wpList Tryz.prog ops Q rest (a.put o.dst v') w') : wpList Tryz.prog ops Q (o :: rest) a w := by
  subst hw
  refine wpList_append_bysK hgd s x ho B v l hs (hown.alloc _) ⟨W.heap.size, 0, Option.none⟩ 1 [UInt8.ofNat n.toNat] 1 rfl hx (fun j hj => ?_) (by simpa using hsz) (by simp; omega) (fun v' w' h1 h2 h3 => h v' w' h1 (((Below.refl _ _).alloc hB _).trans h2) ((Kp.alloc W _).trans h3))
  obtain rfl : j = 0 := by simpa using hj
  have e : (UInt8.ofNat n.toNat).toNat = n.toNat := by simp; omega
  simp [Addr.add, byteV, e, Int.toNat_of_nonneg hn]
/-- 'append(b, x...)', b owned, x whatever reads as bytes. -/
theorem wp_append_srcK (s x : Operand) (ho : o.op = .call { callee := .builtin .append, args := #[s, x], argTypes := #[39, 39] })
    (B : Nat) (v : Value) (l : List UInt8) (hs : a.eval s = v) (hown : Bys w B v l) (u : Value) (t : List UInt8) (hx : a.eval x = u) (hsrc : Src w u t)
    (hsz : l.length + t.length ≤ 1099511627776) (hB : B ≤ w.heap.size)
    (h : ∀ v' w', Bys w' B v' (l ++ t) → Below B w w' → Kp w w' → K (a.put o.dst v') w') : o.wp Tryz.prog a w K Q := by
  obtain ⟨i, hi, hz0, hz1, hz2⟩ := info_parts info_u8
  rcases hsrc with ⟨rfl, rfl⟩ | ⟨ad, c, rfl, hnews⟩
  · have hrun := run_append_owned_none (P := Tryz.prog) w B 39 o.type 5 i 1 Tryz.underlying39 hi v l.length (l.map byteV) hown
    unfold Oper.wp
    simp [execOp, ho, resolve, invoke, builtin, hs, hx, hrun, Result.andThen]
    exact h _ _ (by simpa using hown) (Below.refl _ _) (Kp.refl _)
  · refine wp_append_own w s x 39 ho B 5 i (.int .u8 0) 1 1 Tryz.underlying39 hi hz0 hz1 hz2 rfl (by decide) v l.length (l.map byteV) hs hown ad t.length c (t.map byteV) hx (by simp)
      (fun j u hj => ?_) (fun u hu => ?_) (by unfold maxLen; omega) (by omega) hB (fun v' w' h1 h2 _ => ?_)
    · have hj' : j < t.length := by have := (List.getElem?_eq_some_iff.1 hj).1; simpa using this
      rw [hnews j hj']
      simp [hj'] at hj
      rw [hj]
    · obtain ⟨b, _, rfl⟩ := List.mem_map.1 hu
      rfl
    · exact h v' w' (by unfold Bys; simpa using h1) ((Below.refl _ _).grown h2 hB (fun k hk => (World.ownsRow.lt hown k hk).1)) (Kp.grown hown h2)
theorem wpList_append_srcK (hgd : o.guard = Option.none) (s x : Operand) (ho : o.op = .call { callee := .builtin .append, args := #[s, x], argTypes := #[39, 39] })
    (B : Nat) (v : Value) (l : List UInt8) (hs : a.eval s = v) (hown : Bys w B v l) (u : Value) (t : List UInt8) (hx : a.eval x = u) (hsrc : Src w u t)
    (hsz : l.length + t.length ≤ 1099511627776) (hB : B ≤ w.heap.size)
    (h : ∀ v' w', Bys w' B v' (l ++ t) → Below B w w' → Kp w w' → wpList Tryz.prog ops Q rest (a.put o.dst v') w') : wpList Tryz.prog ops Q (o :: rest) a w :=
  wpList_plain hgd fun K hK => wp_append_srcK s x ho B v l hs hown u t hx hsrc hsz hB fun v' w' h1 h2 h3 => hK _ _ (h v' w' h1 h2 h3)
/-- The same as one step of a region that draws. -/
theorem step_append_srcK {E : Prop} (hgd : o.guard = Option.none) (s x : Operand) (ho : o.op = .call { callee := .builtin .append, args := #[s, x], argTypes := #[39, 39] })
    (B : Nat) (v : Value) (l : List UInt8) (hs : a.eval s = v) (hown : Bys w B v l) (u : Value) (t : List UInt8) (hx : a.eval x = u) (hsrc : Src w u t)
    (hsz : l.length + t.length ≤ 1099511627776) (hB : B ≤ w.heap.size)
    (h : ∀ v' w', Bys w' B v' (l ++ t) → Below B w w' → Kp w w' → K (a.put o.dst v') w') : if Region.wanted o (yielded ops a.tmps) = true then Oper.wp Tryz.prog o a w K Q else E := by
  rw [if_pos (by simp [Region.wanted, hgd])]
  exact wp_append_srcK s x ho B v l hs hown u t hx hsrc hsz hB h
/-- 'append(b, s...)', as one step of a region that draws. -/
theorem step_append_strK {E : Prop} (hgd : o.guard = Option.none) (s x : Operand)
    (ho : o.op = .call { callee := .builtin .append, args := #[s, x], argTypes := #[39, 9] })
    (B : Nat) (v : Value) (l : List UInt8) (hs : a.eval s = v) (hown : Bys w B v l) (t : List UInt8) (hx : a.eval x = .string (bs t))
    (hsz : l.length + t.length ≤ 1099511627776) (hB : B ≤ w.heap.size)
    (h : ∀ v' w', Bys w' B v' (l ++ t) → Below B w w' → Kp w w' → K (a.put o.dst v') w') : if Region.wanted o (yielded ops a.tmps) = true then Oper.wp Tryz.prog o a w K Q else E := by
  rw [if_pos (by simp [Region.wanted, hgd])]
  obtain ⟨i, hi, hz0, hz1, hz2⟩ := info_parts info_u8
  obtain ⟨v', w', hr, h1, h2, _⟩ := Lib.run_append_own_string (P := Tryz.prog) w B 39 9 o.type 5 i Tryz.underlying39 Tryz.underlying9 hi hz0 hz1 hz2 v l.length (l.map byteV) hown (bs t)
    (by rw [bs_size]; unfold maxLen; omega) (by rw [bs_size]; omega) hB
  unfold Oper.wp execOp
  simp only [ho, resolve, invoke, builtin, Sem.run_bind, Sem.run_pure, Result.andThen_ok, List.map_toArray, List.map_cons, List.map_nil, hs, hx, hr]
  refine h v' w' ?_ ((Below.refl _ _).grown h2 hB (fun k hk => (World.ownsRow.lt hown k hk).1)) (Kp.grown hown h2)
  unfold Bys
  rw [bs_size, strCells_bs] at h1
  simpa using h1
end

set_option maxRecDepth 100000 in
set_option maxHeartbeats 1000000 in
/-- A number's bytes behind owned ones. -/
theorem put_uint16K (B : Nat) (v : Value) (l : List UInt8) (n : Int) (w : World) (hB : B ≤ w.heap.size) (hv : Bys w B v l) (hn : 0 ≤ n) (hn2 : n < 65536) (hl : l.length ≤ 1000000000000) :
    Calls Tryz.prog 78 #[v, .int .u16 n] w fun e w' => ∃ v', e = .returned v' ∧ Bys w' B v' (l ++ be 2 n) ∧ Below B w w' ∧ Kp w w' := by
  go_enter Tryz.func78, Tryz.ntmps78
  go_wp2_with (go_at_call 113; refine (width_uint16 _).mono ?_; rintro e w' ⟨rfl, rfl⟩)
  go_loopw [0, 9] (fun v i wr => ∃ k : Nat, k ≤ 2 ∧ i = .int .i64 k ∧ Bys wr B v (l ++ beTo 2 n k) ∧ Below B w wr ∧ Kp w wr) (fun _ i _ => 2 - (intOf i).toNat)
  case atStart => exact ⟨0, by omega, rfl, by simpa [beTo] using hv, Below.refl _ _, Kp.refl _⟩
  case round =>
    obtain ⟨k, hk, rfl, hown, hb, hkp⟩ := hrel
    by_cases hlt : k < 2
    · have hsz := hb.size
      go_wp2_with (at_builtin; refine wpList_append_byteK rfl (.tmp 12) (.tmp 22) rfl B _ _ wr _ rfl rfl hown rfl ?_ ?_ ?_ ?_ ?_)
      · exact Int.emod_nonneg _ (by decide)
      · exact Int.emod_lt_of_pos _ (by decide)
      · simp [beTo_length]; omega
      · omega
      · intro v' w1 hown' hb' hk'
        have hk2 := Lib.hid (hkp.trans hk')
        have hb2 := Lib.hid (hb.trans hb')
        have hown2 := Lib.hid (beTo_next hown' (by omega))
        clear hb hb' hown hown' hsz hkp hk'
        go_wp2
        go_roundw
        case rel => exact ⟨k + 1, by omega, by go_num, hown2.out, hb2.out, hk2.out⟩
        case measure => simp [intOf]; omega
    · obtain rfl : k = 2 := by omega
      go_wp2
      go_ret
      exact ⟨_, rfl, hown, hb, hkp⟩
set_option maxRecDepth 100000 in
set_option maxHeartbeats 1000000 in
/-- A number's bytes behind owned ones. -/
theorem put_uint32K (B : Nat) (v : Value) (l : List UInt8) (n : Int) (w : World) (hB : B ≤ w.heap.size) (hv : Bys w B v l) (hn : 0 ≤ n) (hn2 : n < 4294967296) (hl : l.length ≤ 1000000000000) :
    Calls Tryz.prog 79 #[v, .int .u32 n] w fun e w' => ∃ v', e = .returned v' ∧ Bys w' B v' (l ++ be 4 n) ∧ Below B w w' ∧ Kp w w' := by
  go_enter Tryz.func79, Tryz.ntmps79
  go_wp2_with (go_at_call 114; refine (width_uint32 _).mono ?_; rintro e w' ⟨rfl, rfl⟩)
  go_loopw [0, 9] (fun v i wr => ∃ k : Nat, k ≤ 4 ∧ i = .int .i64 k ∧ Bys wr B v (l ++ beTo 4 n k) ∧ Below B w wr ∧ Kp w wr) (fun _ i _ => 4 - (intOf i).toNat)
  case atStart => exact ⟨0, by omega, rfl, by simpa [beTo] using hv, Below.refl _ _, Kp.refl _⟩
  case round =>
    obtain ⟨k, hk, rfl, hown, hb, hkp⟩ := hrel
    by_cases hlt : k < 4
    · have hsz := hb.size
      go_wp2_with (at_builtin; refine wpList_append_byteK rfl (.tmp 12) (.tmp 22) rfl B _ _ wr _ rfl rfl hown rfl ?_ ?_ ?_ ?_ ?_)
      · exact Int.emod_nonneg _ (by decide)
      · exact Int.emod_lt_of_pos _ (by decide)
      · simp [beTo_length]; omega
      · omega
      · intro v' w1 hown' hb' hk'
        have hk2 := Lib.hid (hkp.trans hk')
        have hb2 := Lib.hid (hb.trans hb')
        have hown2 := Lib.hid (beTo_next hown' (by omega))
        clear hb hb' hown hown' hsz hkp hk'
        go_wp2
        go_roundw
        case rel => exact ⟨k + 1, by omega, by go_num, hown2.out, hb2.out, hk2.out⟩
        case measure => simp [intOf]; omega
    · obtain rfl : k = 4 := by omega
      go_wp2
      go_ret
      exact ⟨_, rfl, hown, hb, hkp⟩
end Go.Proofs.YtlkdfofpnmpidaaGreat

/- tlv: lengths. -/
set_option linter.unusedVariables false
namespace Go.Proofs.YtlkdfofpnmpidaaGreat
open Go.RowKit

theorem be2_len (n : Int) : (be 2 n).length = 2 := be_length 2 n
theorem thB_len (x : Th) (h : x.2.length ≤ 1480) : (thB x).length ≤ 1483 := by unfold thB; simp [be2_len]; omega
theorem thBs_len : ∀ (l : List Th), (∀ x ∈ l, okT x = 0) → (l.flatMap thB).length ≤ 1483 * l.length
  | [], _ => by simp
  | x :: l, h => by
    have ih := thBs_len l (fun y hy => h y (List.mem_cons_of_mem _ hy))
    have hx := h x (List.mem_cons_self ..)
    have := thB_len x (by unfold okT at hx; split at hx; · omega
                          · split at hx <;> omega)
    simp only [List.flatMap_cons, List.length_append, List.length_cons]; omega

end Go.Proofs.YtlkdfofpnmpidaaGreat
