/- ZP36: the texts G6 as one. -/
import Derived.Test.YtlkdfofpnmpidaaGreatZP21
import Derived.Test.YtlkdfofpnmpidaaGreatZP03
import Derived.Lib.LazyBuf
/- ltm: an address that is read. -/
set_option linter.unusedVariables false
namespace Go.Proofs.YtlkdfofpnmpidaaGreat
open Go.RowKit

/-- A byte's number at a place. -/
def adI (t : List UInt8) (j : Nat) : Int := ((t.getD j 0).toNat : Int)
theorem rd_six (l : List UInt8) (e : Int) : (rdText l e 6).1 = [] ∨ ∃ a b c d f g, (rdText l e 6).1 = [a, b, c, d, f, g] := by
  unfold rdText
  split
  · exact .inl rfl
  · split
    · exact .inl rfl
    · rename_i h
      right
      match l, h with
      | a :: b :: c :: d :: f :: g :: r, _ => exact ⟨a, b, c, d, f, g, rfl⟩
      | [], h => simp at h
      | [_], h => simp at h
      | [_, _], h => simp at h
      | [_, _, _], h => simp at h
      | [_, _, _, _], h => simp at h
      | [_, _, _, _, _], h => simp at h

set_option maxRecDepth 100000 in
set_option maxHeartbeats 8000000 in
theorem address_any (p : Nat) (l : List UInt8) (e : Int) (w : World) (hr : Rd w p l e) (hl : l.length ≤ 9223372036854775807) :
    Calls Tryz.prog 143 #[.pointer (some ⟨p, 0, none⟩)] w fun en w' => en = .returned (.agg #[.int .u8 (adI (rdText l e 6).1 0), .int .u8 (adI (rdText l e 6).1 1), .int .u8 (adI (rdText l e 6).1 2), .int .u8 (adI (rdText l e 6).1 3), .int .u8 (adI (rdText l e 6).1 4), .int .u8 (adI (rdText l e 6).1 5)]) ∧ Rd w' p (rdText l e 6).2.1 (rdText l e 6).2.2 ∧ Only p w w' := by
  have HX : Hid (∀ w, Rd w p l e → Calls Tryz.prog 91 #[.pointer (some ⟨p, 0, none⟩), .int .i64 6] w fun en w' => en = .returned (.string (bs (rdText l e 6).1)) ∧ Rd w' p (rdText l e 6).2.1 (rdText l e 6).2.2 ∧ Only p w w') := fun w hr => text_any p l e 6 w hr hl
  have hsix := rd_six l e
  obtain ⟨t, ht⟩ : ∃ t, (rdText l e 6).1 = t := ⟨_, rfl⟩
  rw [ht] at HX hsix ⊢
  have hz : ∀ w, (Go.sizeOf 5).run Tryz.prog w = .ok 1 w := fun w => by kernel_rfl
  have hpl := hr.lt
  have HR0 := Lib.hid hr
  have HSX := Lib.hid hsix
  clear ht hr hsix
  go_enter Tryz.func143, Tryz.ntmps143
  go_upto_region 2 with fail
  refine forget (fun W => Rd W p l e ∧ MB W w.heap.size 0 0 0 0 0 0 ∧ MB W (w.heap.size + 1) 0 0 0 0 0 0 ∧ Only p w W)
    ⟨(HR0.out.later ((Below.refl _ _).alloc (Nat.le_refl _) _)).later ((Below.refl _ _).alloc (Nat.le_refl _) _), (MB.new w 0 0 0 0 0 0).later ((Below.refl _ _).alloc (Nat.le_refl _) _), MB.new' (by simp) 0 0 0 0 0 0, (World.grownBy_alloc w _ _).trans (World.grownBy_alloc _ _ _)⟩ ?_
  rintro W ⟨hr, hm1, hm2, ho⟩
  obtain ⟨u, hu⟩ : ∃ u, w.heap.size = u := ⟨_, rfl⟩
  rw [hu] at hm1 hm2 ⊢
  have HU : Hid (w.heap.size ≤ u) := Nat.le_of_eq hu
  have HU1 : Hid (w.heap.size ≤ u + 1) := Nat.le_succ_of_le HU.out
  have hup : u ≠ p := by omega
  have hup1 : u + 1 ≠ p := by omega
  have HR := Lib.hid hr
  have HM1 := Lib.hid hm1
  have HM2 := Lib.hid hm2
  have HO := Lib.hid ho
  clear hr hm1 hm2 ho hu HR0
  rcases HSX.out with rfl | ⟨a, b, c, d, f, g, rfl⟩
  · clear HSX
    go_region_law (first
      | (go_simp; go_at_call 91; (with_reducible refine (HX.out _ ?_).mono ?_); exact HR.out; rintro en w1 ⟨rfl, hr1, ho1⟩; have k1 := HM1.out.only (Only.undrew ho1) hup; have k2 := HM2.out.only (Only.undrew ho1) hup1)
      | (refine step_copy_string rfl _ _ 39 9 rfl 5 Tryz.underlying39 hz (u + 1) 0 6 6 (by rfl) (bs []) (by rfl) (by rw [bs_size]; decide) (by intro j hj; rw [bs_size] at hj; exact k2.some (by decide) j hj) (by intro j hj; rw [bs_size] at hj; exact k2.free (by decide) j hj) ?_))
    all_goals rw [show w1.setCells (u + 1) 0 (List.map (fun x => Value.int IntKind.u8 (x.toNat : Int)) (bs []).data.toList) = w1 from rfl]
    all_goals
      have r0 := k2.c0; have r1 := k2.c1; have r2 := k2.c2; have r3 := k2.c3; have r4 := k2.c4; have r5 := k2.c5
      have b0 := k1.c0; have b1 := k1.c1; have b2 := k1.c2; have b3 := k1.c3; have b4 := k1.c4; have b5 := k1.c5
      have f0 := k1.f0; have f1 := k1.f1; have f2 := k1.f2; have f3 := k1.f3; have f4 := k1.f4; have f5 := k1.f5
      have HRZ := Lib.hid hr1
      have HOZ := Lib.hid (HO.out.trans (Only.undrew ho1))
      go_wp2
      refine bodyPost_ret (v := .agg #[.int .u8 0, .int .u8 0, .int .u8 0, .int .u8 0, .int .u8 0, .int .u8 0]) (by simp [results, Tryz.results143, go_sem, b0, b1, b2, b3, b4, b5]) rfl ⟨rfl, ?_, ?_⟩
      · exact (((((HRZ.out.setOther hup _).setOther hup _).setOther hup _).setOther hup _).setOther hup _).setOther hup _
      · exact (((((HOZ.out.setNew HU.out _).setNew HU.out _).setNew HU.out _).setNew HU.out _).setNew HU.out _).setNew HU.out _
  · clear HSX
    go_region_law (first
      | (go_simp; go_at_call 91; (with_reducible refine (HX.out _ ?_).mono ?_); exact HR.out; rintro en w1 ⟨rfl, hr1, ho1⟩; have k1 := HM1.out.only (Only.undrew ho1) hup; have k2 := HM2.out.only (Only.undrew ho1) hup1)
      | (refine step_copy_string rfl _ _ 39 9 rfl 5 Tryz.underlying39 hz (u + 1) 0 6 6 (by rfl) (bs [a, b, c, d, f, g]) (by rfl) (by rw [bs_size]; exact Nat.le_refl 6) (by intro j hj; rw [bs_size] at hj; exact k2.some (Nat.le_refl 6) j hj) (by intro j hj; rw [bs_size] at hj; exact k2.free (Nat.le_refl 6) j hj) ?_))
    all_goals
      have e : w1.setCells (u + 1) 0 (List.map (fun x => Value.int IntKind.u8 (x.toNat : Int)) (bs [a, b, c, d, f, g]).data.toList) = w1.setCells (u + 1) 0 [.int .u8 (a.toNat : Int), .int .u8 (b.toNat : Int), .int .u8 (c.toNat : Int), .int .u8 (d.toNat : Int), .int .u8 (f.toNat : Int), .int .u8 (g.toNat : Int)] := rfl
      rw [e]
      clear e
      have m2 := k2.cells (a.toNat : Int) (b.toNat : Int) (c.toNat : Int) (d.toNat : Int) (f.toNat : Int) (g.toNat : Int)
      have m1 := MB.cellsOther (show u + 1 ≠ u by omega) [.int .u8 (a.toNat : Int), .int .u8 (b.toNat : Int), .int .u8 (c.toNat : Int), .int .u8 (d.toNat : Int), .int .u8 (f.toNat : Int), .int .u8 (g.toNat : Int)] 0 _ k1
      have m3 := Rd.cellsOther hup1 [.int .u8 (a.toNat : Int), .int .u8 (b.toNat : Int), .int .u8 (c.toNat : Int), .int .u8 (d.toNat : Int), .int .u8 (f.toNat : Int), .int .u8 (g.toNat : Int)] 0 _ hr1
      have m4 := Only.cells (p := p) HU1.out [.int .u8 (a.toNat : Int), .int .u8 (b.toNat : Int), .int .u8 (c.toNat : Int), .int .u8 (d.toNat : Int), .int .u8 (f.toNat : Int), .int .u8 (g.toNat : Int)] 0 _ (HO.out.trans (Only.undrew ho1))
      generalize w1.setCells (u + 1) 0 [.int .u8 (a.toNat : Int), .int .u8 (b.toNat : Int), .int .u8 (c.toNat : Int), .int .u8 (d.toNat : Int), .int .u8 (f.toNat : Int), .int .u8 (g.toNat : Int)] = w3 at *
      have r0 := m2.c0; have r1 := m2.c1; have r2 := m2.c2; have r3 := m2.c3; have r4 := m2.c4; have r5 := m2.c5
      have b0 := m1.c0; have b1 := m1.c1; have b2 := m1.c2; have b3 := m1.c3; have b4 := m1.c4; have b5 := m1.c5
      have f0 := m1.f0; have f1 := m1.f1; have f2 := m1.f2; have f3 := m1.f3; have f4 := m1.f4; have f5 := m1.f5
      have HRZ := Lib.hid m3
      have HOZ := Lib.hid m4
      go_wp2
      refine bodyPost_ret (v := .agg #[.int .u8 (a.toNat : Int), .int .u8 (b.toNat : Int), .int .u8 (c.toNat : Int), .int .u8 (d.toNat : Int), .int .u8 (f.toNat : Int), .int .u8 (g.toNat : Int)]) (by simp [results, Tryz.results143, go_sem, b0, b1, b2, b3, b4, b5]) rfl ⟨rfl, ?_, ?_⟩
      · exact (((((HRZ.out.setOther hup _).setOther hup _).setOther hup _).setOther hup _).setOther hup _).setOther hup _
      · exact (((((HOZ.out.setNew HU.out _).setNew HU.out _).setNew HU.out _).setNew HU.out _).setNew HU.out _).setNew HU.out _
/-- The address of these bytes. -/
def mcOf (t : List UInt8) : Mc := ⟨adI t 0, adI t 1, adI t 2, adI t 3, adI t 4, adI t 5⟩
theorem addressM_any (p : Nat) (l : List UInt8) (e : Int) (w : World) (hr : Rd w p l e) (hl : l.length ≤ 9223372036854775807) :
    Calls Tryz.prog 143 #[.pointer (some ⟨p, 0, none⟩)] w fun en w' => en = .returned (.agg #[.int .u8 (mcOf (rdText l e 6).1).a, .int .u8 (mcOf (rdText l e 6).1).b, .int .u8 (mcOf (rdText l e 6).1).c, .int .u8 (mcOf (rdText l e 6).1).d, .int .u8 (mcOf (rdText l e 6).1).e, .int .u8 (mcOf (rdText l e 6).1).f]) ∧ Rd w' p (rdText l e 6).2.1 (rdText l e 6).2.2 ∧ Only p w w' := address_any p l e w hr hl
end Go.Proofs.YtlkdfofpnmpidaaGreat
