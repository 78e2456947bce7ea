/- tlv: Take's part, walked. -/
import Derived.Test.YtcbbocdmmehphaaT6
import Derived.Test.YtcbbocdmmehphaaRK
set_option linter.unusedVariables false
namespace Go.Proofs.Ytcbbocdmmehphaa
open Go.RowKit

/-- What a thing's value is read as. -/
def tkThing (l : List UInt8) (e : Int) : List UInt8 × List UInt8 × Int := rdText (rdText l e 2).2.1 (rdText l e 2).2.2 (numOf (rdText l e 2).1)

set_option maxRecDepth 100000 in
set_option maxHeartbeats 4000000 in
theorem thing_any (q p : Nat) (l : List UInt8) (e k0 : Int) (w : World) (hr : Rd w p l e) (hc : w.cell? ⟨q, 0, none⟩ = some (.pointer (some ⟨p, 0, none⟩))) (hq : q < w.heap.size) (hne : q ≠ p) (hl : l.length ≤ 9223372036854775807) :
    Calls Try.prog 90 #[.int .u8 k0, .pointer (some ⟨q, 0, none⟩)] w fun en w' => en = .returned (.agg #[.int .u8 k0, .string (bs (tkThing l e).1)]) ∧ Rd w' p (tkThing l e).2.1 (tkThing l e).2.2 ∧ Only p w w' := by
  have h1 := numOf_lt (rdText l e 2).1 2 65536 (rdText_len l e 2) (by decide)
  have h0 := (numOf_bd (rdText l e 2).1).1
  have hle := rd_le l e 2
  obtain ⟨x, hx⟩ : ∃ x, numOf (rdText l e 2).1 = x := ⟨_, rfl⟩
  have hT : tkThing l e = rdText (rdText l e 2).2.1 (rdText l e 2).2.2 x := by unfold tkThing; rw [hx]
  have HU : Hid (∀ w, Rd w p l e → Calls Try.prog 53 #[.pointer (some ⟨p, 0, none⟩)] w fun en w' => en = .returned (.int .u16 x) ∧ Rd w' p (rdText l e 2).2.1 (rdText l e 2).2.2 ∧ Only p w w') := by
    rw [← hx]; exact fun w hr => U16_any p l e w hr hl
  rw [hx] at h1 h0
  have HX : Hid (∀ w, Rd w p (rdText l e 2).2.1 (rdText l e 2).2.2 → Calls Try.prog 56 #[.pointer (some ⟨p, 0, none⟩), .int .i64 x] w fun en w' => en = .returned (.string (bs (tkThing l e).1)) ∧ Rd w' p (tkThing l e).2.1 (tkThing l e).2.2 ∧ Only p w w') := by
    rw [hT]; exact fun w hr => text_any p _ _ x w hr (by omega)
  have hwx : IntKind.i64.wrap x = x := IntWalk.i64_in _ (by omega)
  obtain ⟨V, hV⟩ : ∃ V, (tkThing l e).1 = V := ⟨_, rfl⟩
  rw [hV] at HX ⊢
  have hpl := hr.lt
  have HR0 := Lib.hid hr
  have HC0 := Lib.hid hc
  clear hx hT hV hle hr hc
  go_enter Try.func90, Try.ntmps90
  go_upto_region 1 with fail
  refine forget (fun W => Rd W p l e ∧ W.cell? ⟨q, 0, none⟩ = some (.pointer (some ⟨p, 0, none⟩)) ∧ W.cell? ⟨w.heap.size, 0, none⟩ = some (.int .u8 0) ∧ W.cell? ⟨w.heap.size, 1, none⟩ = some (.string { data := #[] }) ∧ W.frozen? ⟨w.heap.size, 0, none⟩ = false ∧ W.frozen? ⟨w.heap.size, 1, none⟩ = false ∧ Only p w W ∧ w.heap.size < W.heap.size)
    ⟨HR0.out.later ((Below.refl _ _).alloc (Nat.le_refl _) _), (((Below.refl w.heap.size w).alloc (Nat.le_refl _) _).cell hq).trans HC0.out, by simp [go_sem], by simp [go_sem], by simp [go_sem], by simp [go_sem], World.grownBy_alloc w _ _, by simp⟩ ?_
  rintro W ⟨hr, cq, c0, c1, f0, f1, ho, hz⟩
  obtain ⟨t, ht⟩ : ∃ t, w.heap.size = t := ⟨_, rfl⟩
  rw [ht] at c0 c1 f0 f1 hz ⊢
  have htp : t ≠ p := by omega
  have HT : Hid (w.heap.size ≤ t) := Nat.le_of_eq ht
  have hqW : q < W.heap.size := by omega
  have HR := Lib.hid hr
  have HO := Lib.hid ho
  clear hr ho HR0 HC0 ht
  go_region_law (first
    | (go_simp; go_at_call 53; (with_reducible refine (HU.out _ ?_).mono ?_); exact HR.out; rintro en w1 ⟨rfl, hr1, ho1⟩; have cq1 := (ho1.cell hqW hne).trans cq; have a0 := (ho1.cell hz htp).trans c0; have a1 := (ho1.cell hz htp).trans c1; have b0 := (ho1.frozen hz htp).trans f0; have b1 := (ho1.frozen hz htp).trans f1; have hz1 := Nat.lt_of_lt_of_le hz ho1.size)
    | (go_simp; go_at_call 56; (with_reducible refine (HX.out _ ?_).mono ?_); exact hr1; rintro en w2 ⟨rfl, hr2, ho2⟩; have a2 := (ho2.cell hz1 htp).trans a0; have a3 := (ho2.cell hz1 htp).trans a1; have b2 := (ho2.frozen hz1 htp).trans b0; have b3 := (ho2.frozen hz1 htp).trans b1; have hz2 := Nat.lt_of_lt_of_le hz1 ho2.size))
  all_goals go_wp2_with fail
  all_goals refine bodyPost_ret (v := .agg #[.int .u8 k0, .string (bs V)]) (by simp [results, Try.results90, go_sem, a2, a3]) rfl ⟨rfl, (hr2.setOther htp _).setOther htp _, ((HO.out.trans (Only.undrew (ho1.trans ho2))).setNew HT.out _).setNew HT.out _⟩
end Go.Proofs.Ytcbbocdmmehphaa
