/- ZP09: the texts P0, P1, P2a, P4, P5 as one. -/
import Derived.Test.YtlkdfofpnmpidaaGreatZP03
import Derived.Test.YtlkdfofpnmpidaaGreatZP07
import Derived.Laws.RangeAny
/- maid: plain names. -/
set_option linter.unusedVariables false
namespace Go.Proofs.YtlkdfofpnmpidaaGreat
open Go.RowKit

theorem iter_below (w : World) (s : ByteArray) (k : Nat) : Below w.heap.size w (w.iter s k) := (Below.refl _ _).alloc (Nat.le_refl _) (.stringIter s k)
/-- May a byte be in a name? -/
def plC (c : UInt8) : Bool := decide (32 ≤ (c.toNat : Int)) && decide ((c.toNat : Int) ≤ 126)
/-- May a text be one? -/
def plB (l : List UInt8) : Bool := l.all plC
theorem plB_take (l : List UInt8) (k : Nat) (h : k < l.length) : plB (l.take (k + 1)) = (plB (l.take k) && plC l[k]) := by
  unfold plB; rw [List.take_succ_eq_append_getElem h, List.all_append]; simp
theorem plB_no (l : List UInt8) (k : Nat) (h : k < l.length) (hc : plC l[k] = false) : plB l = false := by
  unfold plB
  rw [List.all_eq_false]
  exact ⟨l[k], List.getElem_mem h, by simp [hc]⟩
theorem plC_of (c : UInt8) (x : Int) (hx : (c.toNat : Int) = x) : plC c = (decide (32 ≤ x) && decide (x ≤ 126)) := by unfold plC; rw [hx]

set_option maxRecDepth 100000 in
set_option maxHeartbeats 4000000 in
theorem plain_any (l : List UInt8) (w : World) (hl : l.length ≤ 9223372036854775807) : Calls Tryz.prog 150 #[.string (bs l)] w fun en w' => en = .returned (.bool (plB l)) ∧ Below w.heap.size w w' := by
  have hs := bs_size l
  obtain ⟨R, hR⟩ : ∃ R, plB l = R := ⟨_, rfl⟩
  have HR := Lib.hid hR
  rw [hR]; clear hR
  go_enter Tryz.func150, Tryz.ntmps150
  go_wp2_with fail
  go_loopw [] (fun wr => ∃ k : Nat, k ≤ l.length ∧ wr = w.iter (bs l) k ∧ plB (l.take k) = true) (fun wr => l.length - wr.iterPos w.heap.size)
  case atStart => exact ⟨0, by omega, rfl, rfl⟩
  case round =>
    obtain ⟨k, hk, rfl, hp⟩ := hrel
    have HP := Lib.hid hp; clear hp
    by_cases hlt : k < l.length
    · obtain ⟨x, hx⟩ : ∃ x : Int, (l[k].toNat : Int) = x := ⟨_, rfl⟩
      have hx0 : 0 ≤ x := by omega
      have hx1 : x < 256 := by have := l[k].toNat_lt; omega
      have hk' : k < (bs l).size := by omega
      have hg : (((bs l)[k]'hk').toNat : Int) = x := by rw [bs_get l k hk' hlt, hx]
      have hpc := plC_of l[k] x hx
      by_cases ha : x < 128
      · have hn : ∀ ty, (Instr.next (.pointer (some ⟨w.heap.size, 0, none⟩)) true ty).run Tryz.prog (w.iter (bs l) k) = .ok (.tuple #[.bool true, .int .i64 k, .int .i32 x]) (w.iter (bs l) (k + 1)) := fun ty => by
          have h := run_next_ascii (P := Tryz.prog) w (bs l) k ty hk' (by omega)
          rw [h, hg]
        by_cases h1 : x < 32
        · have d1 : decide (x < 32) = true := decide_eq_true h1
          have hRf : R = false := by
            rw [← HR.out]; exact plB_no l k hlt (hpc.trans (by rw [decide_eq_false (p := 32 ≤ x) (by omega)]; rfl))
          go_wp2
          go_ret
          exact ⟨by first | rfl | (rw [hRf]; rfl), iter_below w (bs l) (k + 1)⟩
        · have d1 : decide (x < 32) = false := decide_eq_false h1
          by_cases h2 : 126 < x
          · have d2 : decide (126 < x) = true := decide_eq_true h2
            have hRf : R = false := by
              rw [← HR.out]; exact plB_no l k hlt (hpc.trans (by rw [decide_eq_false (p := x ≤ 126) (by omega)]; simp))
            go_wp2
            go_ret
            exact ⟨by first | rfl | (rw [hRf]; rfl), iter_below w (bs l) (k + 1)⟩
          · have d2 : decide (126 < x) = false := decide_eq_false h2
            have hok : plB (l.take (k + 1)) = true := by
              rw [plB_take l k hlt, HP.out, Bool.true_and]; exact hpc.trans (by rw [decide_eq_true (p := 32 ≤ x) (by omega), decide_eq_true (p := x ≤ 126) (by omega)]; rfl)
            go_wp2
            exact ⟨⟨k + 1, by omega, rfl, hok⟩, by simp; omega⟩
      · have hdc := decode_high (bs l) k hk' (by omega)
        have hde := decode_le (bs l) k
        obtain ⟨D, hD⟩ : ∃ D, (Utf8.decode (bs l) k).1 = D := ⟨_, rfl⟩
        obtain ⟨E, hE⟩ : ∃ E, (Utf8.decode (bs l) k).2 = E := ⟨_, rfl⟩
        have hn : ∀ ty, (Instr.next (.pointer (some ⟨w.heap.size, 0, none⟩)) true ty).run Tryz.prog (w.iter (bs l) k) = .ok (.tuple #[.bool true, .int .i64 k, .int .i32 D]) (w.iter (bs l) (k + E)) := fun ty => by
          have h := run_next_any (P := Tryz.prog) w (bs l) k ty hk'
          rw [h, hD, hE]
        rw [hD] at hdc hde
        have d1 : decide ((D : Int) < 32) = false := decide_eq_false (by omega)
        have d2 : decide (126 < (D : Int)) = true := decide_eq_true (by omega)
        have hRf : R = false := by
          rw [← HR.out]; exact plB_no l k hlt (hpc.trans (by rw [decide_eq_false (p := x ≤ 126) (by omega)]; simp))
        clear hD hE
        go_wp2
        go_ret
        exact ⟨by first | rfl | (rw [hRf]; rfl), iter_below w (bs l) (k + E)⟩
    · have hn : ∀ ty, (Instr.next (.pointer (some ⟨w.heap.size, 0, none⟩)) true ty).run Tryz.prog (w.iter (bs l) k) = .ok (.tuple #[.bool false]) (w.iter (bs l) k) := fun ty => run_next_end (P := Tryz.prog) w (bs l) k ty (by omega)
      have hRt : R = true := by
        rw [← HR.out, ← HP.out, List.take_of_length_le (by omega)]
      go_wp2
      go_ret
      exact ⟨by first | rfl | (rw [hRt]; rfl), iter_below w (bs l) k⟩

set_option maxRecDepth 100000 in
set_option maxHeartbeats 4000000 in
theorem refName_any (l : List UInt8) (n : Bool) (w : World) (hl : l.length ≤ 9223372036854775807) : Calls Tryz.prog 109 #[.string (bs l), .bool n] w fun en w' => en = .returned (.bool (plB l && (n || decide (0 < l.length)))) ∧ w = w' := by
  have hs := bs_size l
  obtain ⟨R, hR⟩ : ∃ R, (plB l && (n || decide (0 < l.length))) = R := ⟨_, rfl⟩
  have HR := Lib.hid hR
  rw [hR]; clear hR
  go_enter Tryz.func109, Tryz.ntmps109
  go_wp2_with fail
  go_loop [5] (fun i => ∃ k : Nat, k ≤ l.length ∧ i = .int .i64 k ∧ plB (l.take k) = true) (fun i => l.length - (intOf i).toNat)
  case atStart => exact ⟨0, by omega, rfl, rfl⟩
  case round =>
    obtain ⟨k, hk, rfl, hp⟩ := hrel
    have HP := Lib.hid hp; clear hp
    by_cases hlt : k < l.length
    · have dl : decide ((k : Int) < (l.length : Int)) = true := decide_eq_true (by omega)
      obtain ⟨x, hx⟩ : ∃ x : Int, (l[k].toNat : Int) = x := ⟨_, rfl⟩
      have hx0 : 0 ≤ x := by omega
      have hx1 : x < 256 := by have := l[k].toNat_lt; omega
      have hk' : k < (bs l).size := by omega
      have hg : ∀ h' : k < (bs l).size, (((bs l)[k]'h').toNat : Int) = x := fun h' => by rw [bs_get l k h' hlt, hx]
      have hpc := plC_of l[k] x hx
      by_cases h1 : x < 32
      · have d1 : decide (x < 32) = true := decide_eq_true h1
        have hRf : R = false := by
          rw [← HR.out, plB_no l k hlt (hpc.trans (by rw [decide_eq_false (p := 32 ≤ x) (by omega)]; rfl))]; rfl
        go_wp2
        go_ret
        exact ⟨by first | rfl | (rw [hRf]; rfl), rfl⟩
      · have d1 : decide (x < 32) = false := decide_eq_false h1
        by_cases h2 : 126 < x
        · have d2 : decide (126 < x) = true := decide_eq_true h2
          have hRf : R = false := by
            rw [← HR.out, plB_no l k hlt (hpc.trans (by rw [decide_eq_false (p := x ≤ 126) (by omega)]; simp))]; rfl
          go_wp2
          go_ret
          exact ⟨by first | rfl | (rw [hRf]; rfl), rfl⟩
        · have d2 : decide (126 < x) = false := decide_eq_false h2
          have hok : plB (l.take (k + 1)) = true := by
            rw [plB_take l k hlt, HP.out, Bool.true_and]; exact hpc.trans (by rw [decide_eq_true (p := 32 ≤ x) (by omega), decide_eq_true (p := x ≤ 126) (by omega)]; rfl)
          go_wp2
          exact ⟨⟨k + 1, by omega, by go_num, hok⟩, by simp [intOf]; omega⟩
    · have dl : decide ((k : Int) < (l.length : Int)) = false := decide_eq_false (by omega)
      have hpl : plB l = true := by rw [← HP.out, List.take_of_length_le (by omega)]
      rw [hpl, Bool.true_and] at HR
      cases n with
      | true =>
        have hRt : R = true := HR.out.symm
        go_wp2
        go_ret
        exact ⟨by first | rfl | (rw [hRt]; rfl), rfl⟩
      | false =>
        have hRt : R = decide (0 < l.length) := by rw [← HR.out]; simp
        go_wp2
        go_ret
        exact ⟨by first | rfl | (rw [hRt]; rfl), rfl⟩
end Go.Proofs.YtlkdfofpnmpidaaGreat

/- maid: Put. -/
set_option linter.unusedVariables false
namespace Go.Proofs.YtlkdfofpnmpidaaGreat
open Go.RowKit

/-- A length's byte. -/
def lenB (l : List UInt8) : UInt8 := UInt8.ofNat l.length
theorem lenB_wrap (l : List UInt8) : IntKind.u8.wrap (l.length : Int) = ((lenB l).toNat : Int) := by
  rw [wrap_u8 _ (by omega)]; unfold lenB; simp

set_option maxRecDepth 100000 in
set_option maxHeartbeats 4000000 in
theorem mput_any (B : Nat) (v : Value) (l t : List UInt8) (f : UInt8) (w : World) (hB : B ≤ w.heap.size) (hv : Bys w B v l) (hl : l.length ≤ 1000) (ht : t.length ≤ 1000) :
    Calls Tryz.prog 151 #[v, .int .u8 (f.toNat : Int), .string (bs t)] w fun en w' => ∃ v', en = .returned v' ∧ Bys w' B v' (l ++ f :: lenB t :: t) ∧ Below B w w' := by
  have hs := bs_size t
  have hw := lenB_wrap t
  obtain ⟨x, hx⟩ : ∃ x : Int, (f.toNat : Int) = x := ⟨_, rfl⟩
  obtain ⟨y, hy⟩ : ∃ y : Int, ((lenB t).toNat : Int) = y := ⟨_, rfl⟩
  rw [hx]
  rw [hy] at hw
  have HO := Lib.hid hv
  clear hv
  go_enter Tryz.func151, Tryz.ntmps151
  go_wp2_with (at_builtin; refine wpList_append_two rfl (.tmp 7) (.tmp 12) rfl B _ _ w f (lenB t) (by rw [hx, hy]) rfl HO.out rfl ?_ ?_ ?_)
  · omega
  · exact hB
  · intro v1 w1 hown1 hb1
    have hz1 := hb1.size
    go_wp2_with (at_builtin; refine wpList_append_str rfl (.tmp 13) (.tmp 14) rfl B _ _ rfl hown1 t rfl ?_ ?_ ?_)
    · simp; omega
    · omega
    · intro v2 w2 hown2 hb2
      have HO2 := Lib.hid hown2
      have HB2 := Lib.hid (hb1.trans hb2)
      clear hb1 hb2 hown1 hown2
      go_wp2
      go_ret
      exact ⟨_, rfl, by simpa using HO2.out, HB2.out⟩
end Go.Proofs.YtlkdfofpnmpidaaGreat

/- maid: names' bytes. -/
set_option linter.unusedVariables false
namespace Go.Proofs.YtlkdfofpnmpidaaGreat
open Go.RowKit

/-- Names' bytes, ahead of the zeros. -/
def mBody (d o : List UInt8) : List UInt8 := (if d = [] then [1] else 4 :: lenB d :: d) ++ 2 :: lenB o :: o
def padT (l : List UInt8) : List UInt8 := l ++ List.replicate (48 - l.length) 0
/-- Put: the bytes, and the error. -/
def mPut (d o : List UInt8) : List UInt8 × Int :=
  if o ≠ [] ∧ plB o = true ∧ plB d = true then (if d.length + o.length ≤ 44 then (padT (mBody d o), 0) else ([], 5)) else ([], 2)
theorem empty_eq (l : List UInt8) : (bs l).toList.isEmpty = decide (l = []) := by rw [bs_tl]; cases l <;> simp
theorem mBody_len (d o : List UInt8) : (mBody d o).length = (if d = [] then 3 else d.length + 4) + o.length := by
  unfold mBody; split <;> simp <;> omega

end Go.Proofs.YtlkdfofpnmpidaaGreat

/- maid: names and bytes: plain. -/
set_option linter.unusedVariables false
namespace Go.Proofs.YtlkdfofpnmpidaaGreat
open Go.RowKit

/-- A part of names' bytes, as the reader takes it. -/
def tkPart (l : List UInt8) (e : Int) : List UInt8 × List UInt8 × Int := rdText (rdText l e 1).2.1 (rdText l e 1).2.2 (numOf (rdText l e 1).1)
def tkDom (l : List UInt8) : List UInt8 × List UInt8 × Int := if numOf (rdText l 0 1).1 = 4 then tkPart (rdText l 0 1).2.1 (rdText l 0 1).2.2 else ([], (rdText l 0 1).2.1, (rdText l 0 1).2.2)
def tkFmt (l : List UInt8) : List UInt8 × List UInt8 × Int := rdText (tkDom l).2.1 (tkDom l).2.2 1
def tkOwn (l : List UInt8) : List UInt8 × List UInt8 × Int := tkPart (tkFmt l).2.1 (tkFmt l).2.2
/-- Take: the names, and the error. -/
def takeR (l : List UInt8) : List UInt8 × List UInt8 × Int :=
  if mPut (tkDom l).1 (tkOwn l).1 = (l, 0) ∧ numOf (tkFmt l).1 = 2 then ((tkDom l).1, (tkOwn l).1, 0) else ([], [], 4)

theorem tkPart_put (t r : List UInt8) (h : t.length < 256) : tkPart (lenB t :: (t ++ r)) 0 = (t, r, 0) := by
  unfold tkPart
  rw [rd_one]
  simp only [numOf_one]
  have : ((lenB t).toNat : Int) = (t.length : Int) := by unfold lenB; simp; omega
  rw [this]; exact rd_exact t r
theorem mPut_ok {d o l : List UInt8} (h : mPut d o = (l, 0)) : o ≠ [] ∧ plB o = true ∧ plB d = true ∧ d.length + o.length ≤ 44 ∧ l = padT (mBody d o) := by
  unfold mPut at h
  split at h
  · rename_i h1
    split at h
    · rename_i h2
      exact ⟨h1.1, h1.2.1, h1.2.2, h2, by simpa using (congrArg Prod.fst h).symm⟩
    · simp at h
  · simp at h
theorem tk_put {d o l : List UInt8} (h : mPut d o = (l, 0)) : (tkDom l).1 = d ∧ numOf (tkFmt l).1 = 2 ∧ (tkOwn l).1 = o := by
  obtain ⟨_, _, _, hle, rfl⟩ := mPut_ok h
  have hd : tkDom (padT (mBody d o)) = (d, 2 :: lenB o :: (o ++ List.replicate (48 - (mBody d o).length) 0), 0) := by
    by_cases h5 : d = []
    · subst h5
      have e : padT (mBody [] o) = 1 :: 2 :: lenB o :: (o ++ List.replicate (48 - (mBody [] o).length) 0) := by
        unfold padT mBody; simp
      unfold tkDom
      rw [e, rd_one]
      simp [numOf_one]
    · have e : padT (mBody d o) = 4 :: lenB d :: (d ++ (2 :: lenB o :: (o ++ List.replicate (48 - (mBody d o).length) 0))) := by
        unfold padT mBody; simp [h5]
      unfold tkDom
      rw [e, rd_one]
      simp only [numOf_one]
      exact tkPart_put d _ (by omega)
  have hf : tkFmt (padT (mBody d o)) = ([2], lenB o :: (o ++ List.replicate (48 - (mBody d o).length) 0), 0) := by
    unfold tkFmt; rw [hd]; exact rd_one _ _
  refine ⟨by rw [hd], by rw [hf]; rfl, ?_⟩
  unfold tkOwn; rw [hf]
  rw [tkPart_put o _ (by omega)]
theorem mPut_inj {d o d' o' l : List UInt8} (h : mPut d o = (l, 0)) (h' : mPut d' o' = (l, 0)) : d = d' ∧ o = o' := by
  obtain ⟨a, _, b⟩ := tk_put h
  obtain ⟨a', _, b'⟩ := tk_put h'
  exact ⟨a.symm.trans a', b.symm.trans b'⟩
theorem mPut_len {d o l : List UInt8} (h : mPut d o = (l, 0)) : l.length = 48 := by
  obtain ⟨_, _, _, hle, rfl⟩ := mPut_ok h
  have := mBody_len d o
  unfold padT
  rw [List.length_append, List.length_replicate]
  split at this <;> omega
theorem takeR_of {d o l : List UInt8} (h : mPut d o = (l, 0)) : takeR l = (d, o, 0) := by
  obtain ⟨a, f, b⟩ := tk_put h
  unfold takeR; rw [a, f, b, if_pos ⟨h, rfl⟩]
theorem takeR_none {l : List UInt8} (h : ∀ d o, mPut d o ≠ (l, 0)) : takeR l = ([], [], 4) := by
  unfold takeR; rw [if_neg (fun hh => h _ _ hh.1)]
theorem takeR_cases (l : List UInt8) : (∃ d o, mPut d o = (l, 0) ∧ takeR l = (d, o, 0)) ∨ ((∀ d o, mPut d o ≠ (l, 0)) ∧ takeR l = ([], [], 4)) := by
  by_cases h : ∃ d o, mPut d o = (l, 0)
  · obtain ⟨d, o, h⟩ := h
    exact .inl ⟨d, o, h, takeR_of h⟩
  · have h' : ∀ d o, mPut d o ≠ (l, 0) := fun d o hh => h ⟨d, o, hh⟩
    exact .inr ⟨h', takeR_none h'⟩
end Go.Proofs.YtlkdfofpnmpidaaGreat

/- maid: the walk of Take. -/
set_option linter.unusedVariables false
namespace Go.Proofs.YtlkdfofpnmpidaaGreat
open Go.RowKit

set_option maxRecDepth 100000 in
set_option maxHeartbeats 4000000 in
theorem tpart_any (q p : Nat) (l : List UInt8) (e : Int) (w : World) (hr : Rd w p l e) (hc : w.cell? ⟨q, 0, none⟩ = some (.pointer (some ⟨p, 0, none⟩))) (hq : q < w.heap.size) (hne : q ≠ p) (hl : l.length ≤ 9223372036854775807) :
    Calls Tryz.prog 134 #[.pointer (some ⟨q, 0, none⟩)] w fun en w' => en = .returned (.string (bs (tkPart l e).1)) ∧ Rd w' p (tkPart l e).2.1 (tkPart l e).2.2 ∧ Only p w w' := by
  have HR := Lib.hid hr; clear hr
  have h1 := numOf_lt (rdText l e 1).1 1 256 (rdText_len l e 1) (by decide)
  have h0 := (numOf_bd (rdText l e 1).1).1
  have hle := rd_le l e 1
  obtain ⟨x, hx⟩ : ∃ x, numOf (rdText l e 1).1 = x := ⟨_, rfl⟩
  have hT : tkPart l e = rdText (rdText l e 1).2.1 (rdText l e 1).2.2 x := by unfold tkPart; rw [hx]
  have HU : Hid (∀ w, Rd w p l e → Calls Tryz.prog 90 #[.pointer (some ⟨p, 0, none⟩)] w fun en w' => en = .returned (.int .u8 x) ∧ Rd w' p (rdText l e 1).2.1 (rdText l e 1).2.2 ∧ Only p w w') := by
    rw [← hx]; exact fun w hr => U8_any p l e w hr hl
  rw [hx] at h1 h0
  have HX : Hid (∀ w, Rd w p (rdText l e 1).2.1 (rdText l e 1).2.2 → Calls Tryz.prog 91 #[.pointer (some ⟨p, 0, none⟩), .int .i64 x] w fun en w' => en = .returned (.string (bs (tkPart l e).1)) ∧ Rd w' p (tkPart l e).2.1 (tkPart l e).2.2 ∧ Only p w w') := by
    rw [hT]; exact fun w hr => text_any p _ _ x w hr (by omega)
  have hwx : IntKind.i64.wrap x = x := IntWalk.i64_in _ (by omega)
  clear hx hT hle
  go_enter Tryz.func134, Tryz.ntmps134
  go_wp2_with fail
  go_region_law (first
    | (go_simp; go_at_call 90; (with_reducible refine (HU.out _ ?_).mono ?_); exact HR.out; rintro en w1 ⟨rfl, hr1, ho1⟩; have hc1 := (ho1.cell hq hne).trans hc)
    | (go_simp; go_at_call 91; (with_reducible refine (HX.out _ ?_).mono ?_); exact hr1; rintro en w2 ⟨rfl, hr2, ho2⟩))
  all_goals go_wp2_with fail
  all_goals go_ret
  all_goals exact ⟨rfl, hr2, Only.undrew (ho1.trans ho2)⟩
end Go.Proofs.YtlkdfofpnmpidaaGreat
