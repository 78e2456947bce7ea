/- remote: the walk of Tick. -/
import Derived.Test.YtecoomkpkdapdaaSA
import Derived.Deep.DeepCutAuto
set_option linter.unusedVariables false
namespace Go.Proofs.Ytecoomkpkdapdaa
open Go.RowKit
open Go.Maps (Keyed int_keyed keyOf_int_mk)

structure OV where
  l : Int
  r : Bool
def mkO (c : OV) : Value := .agg #[.int .i64 c.l, .bool c.r]
theorem rEl_shape (v : Value) (y : DataW Unit × List MemPlace) (h : rEl v = some y) : ∃ c, v = mkO c := by
  unfold rEl at h
  split at h
  · rename_i cs
    split at h
    · rename_i a b hcs
      exact ⟨⟨a, b⟩, by rw [show cs = cs.toList.toArray from rfl, hcs]; rfl⟩
    · cases h
  · cases h
theorem vElD_inj {a b : Int} {y : Int × Int} (h : vElD y.1 y.2 = vElD a b) (hy : y.2 = 0 ∨ y.2 = 1) (hb : b = 0 ∨ b = 1) : y = (a, b) := by
  unfold vElD at h
  simp at h
  exact Prod.ext (by show y.1 = a; omega) (by show y.2 = b; omega)
theorem vFind_elem {V : List Vn} (hr : Rising V) {k : Int} {y : Int × Int} (h : vFind V k = some y) : (k, y) ∈ V := by
  obtain ⟨x, hx, hk⟩ := List.mem_map.1 ((vFind_mem V k).1 (by rw [h]; rfl))
  have h2 := vFind_of_mem hr hx
  rw [hk, h] at h2
  have h3 := Option.some.inj h2
  rw [h3, ← hk]
  exact hx
set_option maxRecDepth 100000 in
set_option maxHeartbeats 8000000 in
theorem tick_any (q m : Nat) (a : Ow8) (V : List Vn) (bd cr : Int) (w : World) (hs : MC w q a m V bd cr) (hB : Bnd V bd cr) : Calls Try.prog 30 #[.pointer (some ⟨q, 0, none⟩)] w fun en w' => en = .returned (.tuple #[]) ∧ MC w' q a m (tickV V) (dn1 bd) (dn1 cr) ∧ Two q m w w' := by
  have HB := Lib.hid hB
  have HRI := Lib.hid hs.ri
  have HVL := Lib.hid hs.vl
  have HNE := Lib.hid hs.ne
  have HLT := Lib.hid (And.intro hs.lt hs.om.lt)
  have hWF := Lib.hid hs.om.wf
  have LT : Hid (∀ T, Calls Try.prog 73 #[.slice (some ⟨w.heap.size, 0, none⟩) 2 2] (w.alloc (.cells #[.pointer (some ⟨q, 5, none⟩), .pointer (some ⟨q, 6, none⟩)] T)).drew fun en w' => en = .returned (.tuple #[]) ∧ MC w' q a m V (dn1 bd) (dn1 cr) ∧ Two q m w w') := Lib.hid fun T => by
    have hb : Below w.heap.size w (w.alloc (.cells #[.pointer (some ⟨q, 5, none⟩), .pointer (some ⟨q, 6, none⟩)] T)).drew := ((Below.refl _ _).alloc (Nat.le_refl _) _).drew
    have M := hs.later hb
    refine (lessTwo_any w.heap.size q bd cr _ hB.b hB.c ?_ ?_ M.c5 (M.fr 5) M.c6 (M.fr 6) (by have := hs.lt; omega)).mono ?_
    · show (w.alloc _).cell? _ = _
      simp only [World.cell?, heap_alloc_new]; rfl
    · show (w.alloc _).cell? _ = _
      simp only [World.cell?, heap_alloc_new]; rfl
    · rintro e w' ⟨rfl, rfl⟩
      exact ⟨rfl, (M.s5 _).s6 _, (Two.of_below hb).trans ((Two.of_left (Only.set q _ 5 _)).trans (Two.of_left (Only.set q _ 6 _)))⟩
  go_enter Try.func30, Try.ntmps30
  go_upto_region 1 with fail
  go_cut [] (fun wx => Hid (MC wx q a m V (dn1 bd) (dn1 cr) ∧ Two q m w wx))
  case first =>
    go_region_with (go_at_call 73; with_reducible refine (LT.out _).mono ?_; rintro e w' ⟨rfl, hm, ht⟩)
    go_wp2_with fail
    go_meet
    exact Lib.hid ⟨hm, ht⟩
  case rest =>
    obtain ⟨m1, t1⟩ := hcut.out
    have c4 := m1.c4
    clear hcut LT hs hB
    go_wp2_with (first | (at_range; refine wpList_range_own _ rfl _ 129 rfl 22 133 u16_keyed Try.underlying129 rEl m V.length (vD V) rfl m1.om.own ?_; intro w0 hrg0 hg0 hs0) | go_in)
    go_frame
    go_loopw [2, 3] (fun _ _ wr => ∃ left cnt, TKs w wr q m wc.heap.size a V (dn1 bd) (dn1 cr) left cnt) (fun _ _ wr => wr.rangeLeft m wc.heap.size)
    case atStart =>
      refine ⟨Maps.has (vD V), Maps.size (vD V), ⟨(hg0.block q m1.lt (by simp)).trans m1.b, ?_, t1.trans ⟨hg0.os, hg0.tape, hg0.output, by omega, fun k hk _ _ => hg0.block k hk (by simp)⟩, t1.size⟩⟩
      rw [tk_start]; exact hrg0
    case round =>
      obtain ⟨left, cnt, T⟩ := hrel
      have HT := Lib.hid T
      go_wp2_with (first
        | (at_next; refine wpList_next_ranges _ rfl _ rfl 22 u16_keyed rEl encU mkO (fun key kl hk => by obtain ⟨x, hx, _⟩ := keyOf_u16 Try.underlying22 hk; exact ⟨x, hx⟩) rEl_shape m wc.heap.size V.length _ _ _ rfl HT.out.rg ?_ ?_)
        | go_in)
      · intro hc0 hl0
        have HE : Hid (MC wr q a m (tickV V) (dn1 bd) (dn1 cr) ∧ Two q m w wr) := Lib.hid (by
          have hrg := T.rg
          rw [tk_end hl0] at hrg
          have hw := hrg.owns
          refine ⟨⟨T.b, ⟨by have := own_tightR hw; exact this, ?_⟩, HNE.out, by unfold tickV; rw [List.length_map]; exact HVL.out, by unfold Rising; rw [tickV_keys]; exact HRI.out⟩, T.two⟩
          intro x hx
          obtain ⟨y, hy, rfl⟩ := List.mem_map.1 hx
          exact hWF.out y hy)
        clear T HT
        go_wp2
        go_end0
        exact ⟨rfl, HE.out⟩
      · intro x c kl ya yb w2 cnt2 hkey hlk hv hat hrg2 hlt hg2 hs2 hen
        obtain ⟨x', ex, rfl⟩ := keyOf_u16 Try.underlying22 hkey
        obtain rfl : x = x' := by simpa [encU] using ex
        obtain ⟨e, b⟩ := c
        have hf : vFind V x = some (e, if b = true then 1 else 0) := by
          have e1 : ya = vElD e (if b = true then 1 else 0) := by rw [show mkO ⟨e, b⟩ = .agg #[.int .i64 e, .bool b] from rfl, rEl_mk] at hv; injection hv with hv; injection hv with hv _; exact hv.symm
          rw [e1] at hat
          have h0 := hat (vElD 0 0)
          have h1 := hat (vElD 1 0)
          rw [vD_at, tk_find left hlk] at h0 h1
          cases hfx : vFind V x with
          | none => rw [hfx] at h0 h1; exact absurd (h0.trans h1.symm) vElD_ne
          | some y =>
            rw [hfx] at h0
            exact congrArg some (vElD_inj h0 (hWF.out _ (vFind_elem HRI.out hfx)) (by cases b; exact .inl rfl; exact .inr rfl))
        have hy := vFind_elem HRI.out hf
        have HE := Lib.hid (show 0 ≤ e ∧ e ≤ 1000 from HB.out.v _ hy)
        have HX := Lib.hid (show 0 ≤ x ∧ x < 65536 from HB.out.k _ hy)
        have HSTEP := Lib.hid (tk_step HRI.out hlk hf)
        have HIN : Hid (Maps.has (vD (V.map (tkOne left))) (.int .u16 x) = true) := Lib.hid (by rw [vD_has, tk_find left hlk, hf]; rfl)
        have HR2 := Lib.hid hrg2
        have HLE := Lib.hid (show cnt2 < wr.rangeLeft m wc.heap.size by rw [T.rg.left_eq]; exact hlt)
        have hb2 : w2.heap[q]? = some (.cells (mcA a m (dn1 bd) (dn1 cr)) 131 (0, 0)) := (hg2.block q (by have := T.two.size; have := HLT.out; omega) (by have := T.rl; have := HLT.out; intro h; injection h with h; omega)).trans T.b
        have HB2 := Lib.hid hb2
        have ht2 : Two q m w w2 := ⟨hg2.os.trans T.two.os, hg2.tape.trans T.two.tape, hg2.output.trans T.two.output, by rw [hs2]; exact T.two.size, fun k hk h1 h2 => (hg2.block k (by have := T.two.size; omega) (by have := T.rl; intro h; injection h with h; omega)).trans (T.two.block k hk h1 h2)⟩
        have HT2 := Lib.hid ht2
        have HRL := Lib.hid T.rl
        have HSZ := Lib.hid (And.intro T.two.size hs2)
        unfold mkO at hen
        clear hf hy hat hv hrg2 hlt hb2 ht2 T HT hg2 hkey hlk ex
        go_upto_region 5 with fail
        clear hen
        obtain ⟨wb, hwb⟩ : ∃ z, w2.alloc (.cells #[.int .i64 e, .bool b] 133) = z := ⟨_, rfl⟩
        rw [hwb]
        have LO : Hid (∀ T, Calls Try.prog 73 #[.slice (some ⟨wb.heap.size, 0, none⟩) 1 1] (wb.alloc (.cells #[.pointer (some ⟨wr.heap.size, 0, none⟩)] T)) fun en w' => en = .returned (.tuple #[]) ∧ w'.heap[wr.heap.size]? = some (.cells #[.int .i64 (dn1 e), .bool b] 133 (0, 0)) ∧ w2.grownBy w' none) := Lib.hid fun T => by
          have hwr : wr.heap.size < (w2.alloc (.cells #[.int .i64 e, .bool b] 133)).heap.size := by rw [World.size_alloc, hs2]; omega
          have hne : wb.heap.size ≠ wr.heap.size := by rw [← hwb]; omega
          have hbb : (wb.alloc (.cells #[.pointer (some ⟨wr.heap.size, 0, none⟩)] T)).heap[wr.heap.size]? = some (.cells #[.int .i64 e, .bool b] 133 (0, 0)) := by
            rw [((Below.refl wb.heap.size wb).alloc (Nat.le_refl _) (.cells #[.pointer (some ⟨wr.heap.size, 0, none⟩)] T)).block _ (by rw [← hwb]; exact hwr), ← hwb, ← hs2]
            exact heap_alloc_new _ _
          refine (lessOne_any wb.heap.size wr.heap.size 0 e _ HE.out ?_ ?_ ?_ hne).mono ?_
          · simp only [World.cell?, heap_alloc_new]; rfl
          · simp only [World.cell?, hbb]; rfl
          · simp only [World.frozen?, hbb]; rfl
          · rintro en w' ⟨rfl, rfl⟩
            refine ⟨rfl, by simp [World.setCell, Array.getElem?_modify, hbb], ?_⟩
            have g1 : w2.grownBy (w2.alloc (.cells #[.int .i64 e, .bool b] 133)) none := World.grownBy_alloc _ _ _
            rw [hwb] at g1
            have g2 := g1.andThen (World.grownBy_alloc wb (.cells #[.pointer (some ⟨wr.heap.size, 0, none⟩)] T) none) (by simp)
            exact g2.andThen (row' := some wr.heap.size) (Only.set wr.heap.size _ 0 _) (fun j hj => by injection hj with hj; exact .inl (by rw [hs2, ← hj]; exact Nat.le_refl _))
        clear hwb
        go_upto_region 6 with (go_at_call 73; with_reducible refine (LO.out _).mono ?_; rintro en w5 ⟨rfl, hbx, hg5⟩)
        have hb5 : w5.heap[q]? = some (.cells (mcA a m (dn1 bd) (dn1 cr)) 131 (0, 0)) := (hg5.block q (by have := HSZ.out; have := HLT.out; omega) (by simp)).trans HB2.out
        have ht5 : Two q m w w5 := HT2.out.trans ⟨hg5.os, hg5.tape, hg5.output, hg5.size, fun k hk _ _ => hg5.block k hk (by simp)⟩
        have hr5 := HR2.out.kept hg5 (by simp) (by simp)
        clear hg5 HR2 HB2 HT2 LO
        have c4' : w5.cell? ⟨q, 4, none⟩ = some (.map (some m)) := by simp [World.cell?, hb5, mcA]
        have o0 : w5.cell? ⟨wr.heap.size, 0, none⟩ = some (.int .i64 (dn1 e)) := by simp [World.cell?, hbx]
        have o1 : w5.cell? ⟨wr.heap.size, 1, none⟩ = some (.bool b) := by simp [World.cell?, hbx]
        obtain ⟨w6, hrun, hr6, hg6⟩ := ranges_put (hr5.kept (w' := w5.drew) (row := none) ⟨rfl, rfl, rfl, Nat.le_refl _, fun _ _ _ => rfl⟩ (by simp) (by simp)) u16_keyed Try.underlying129 (Nat.lt_of_le_of_lt HVL.out (by decide)) (key := encU x) (val := .agg #[.int .i64 (dn1 e), .bool b]) (keyOf_int_mk Try.underlying22 (u16_wf HX.out)) (rEl_mk (dn1 e) b) HIN.out
        have e1 : (vD (V.map (tkOne left))).put (.int .u16 x) (vElD (dn1 e) (if b = true then 1 else 0)) = vD (V.map (tkOne fun z => left z && !z.sameKey (.int .u16 x))) := by
          have := vD_put (V.map (tkOne left)) (x, dn1 e, if b = true then 1 else 0)
          simp only at this
          rw [this, HSTEP.out]
        rw [e1] at hr6
        have TN : Hid (TKs w w6 q m wc.heap.size a V (dn1 bd) (dn1 cr) (fun z => left z && !z.sameKey (.int .u16 x)) cnt2) := Lib.hid
          ⟨(hg6.block q (World.block_lt_of_cell? w5 _ c4') (by intro h; injection h with h; exact HNE.out h)).trans hb5, hr6, ht5.drew.trans (Two.of_right hg6), HRL.out⟩
        clear e1 hr6 hg6 hr5 ht5 hb5
        go_region
        go_wp2_with fail
        go_roundw
        case rel => exact ⟨_, _, TN.out⟩
        case measure => rw [TN.out.rg.left_eq]; exact HLE.out
end Go.Proofs.Ytecoomkpkdapdaa
