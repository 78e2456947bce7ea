/- ZB18: the texts F4, F5 as one. -/
import Derived.Test.YtpkkjbmgbgakdaaGreatDoorZB14
import Derived.Test.YtpkkjbmgbgakdaaGreatDoorZB05
import Derived.Lib.LazyBuf
import Derived.Test.YtpkkjbmgbgakdaaGreatDoorZB15
/- frame: Take's address, walked. -/
set_option linter.unusedVariables false
namespace Go.Proofs.YtpkkjbmgbgakdaaGreatDoor
open Go.RowKit

/-- A byte's number at a place. -/
def adI (t : List UInt8) (j : Nat) : Int := ((t.getD j 0).toNat : Int)
theorem rd_six (l : List UInt8) (e : Int) : (rdText l e 6).1 = [] ∨ ∃ a b c d f g, (rdText l e 6).1 = [a, b, c, d, f, g] := by
  unfold rdText
  split
  · exact .inl rfl
  · split
    · exact .inl rfl
    · rename_i h
      right
      match l, h with
      | a :: b :: c :: d :: f :: g :: r, _ => exact ⟨a, b, c, d, f, g, rfl⟩
      | [], h => simp at h
      | [_], h => simp at h
      | [_, _], h => simp at h
      | [_, _, _], h => simp at h
      | [_, _, _, _], h => simp at h
      | [_, _, _, _, _], h => simp at h

set_option maxRecDepth 100000 in
set_option maxHeartbeats 8000000 in
theorem addr_any (q p : Nat) (l : List UInt8) (e : Int) (w : World) (hr : Rd w p l e) (hc : w.cell? ⟨q, 0, none⟩ = some (.pointer (some ⟨p, 0, none⟩))) (hq : q < w.heap.size) (hne : q ≠ p) (hl : l.length ≤ 9223372036854775807) :
    Calls Tryz.prog 51 #[.pointer (some ⟨q, 0, none⟩)] w fun en w' => en = .returned (.agg #[.int .u8 (adI (rdText l e 6).1 0), .int .u8 (adI (rdText l e 6).1 1), .int .u8 (adI (rdText l e 6).1 2), .int .u8 (adI (rdText l e 6).1 3), .int .u8 (adI (rdText l e 6).1 4), .int .u8 (adI (rdText l e 6).1 5)]) ∧ Rd w' p (rdText l e 6).2.1 (rdText l e 6).2.2 ∧ Only p w w' := by
  have HX : Hid (∀ w, Rd w p l e → Calls Tryz.prog 52 #[.pointer (some ⟨p, 0, none⟩), .int .i64 6] w fun en w' => en = .returned (.string (bs (rdText l e 6).1)) ∧ Rd w' p (rdText l e 6).2.1 (rdText l e 6).2.2 ∧ Only p w w') := fun w hr => text_any p l e 6 w hr hl
  have hsix := rd_six l e
  obtain ⟨t, ht⟩ : ∃ t, (rdText l e 6).1 = t := ⟨_, rfl⟩
  rw [ht] at HX hsix ⊢
  have hz : ∀ w, (Go.sizeOf 5).run Tryz.prog w = .ok 1 w := fun w => by kernel_rfl
  have hpl := hr.lt
  have HR0 := Lib.hid hr
  have HC0 := Lib.hid hc
  have HSX := Lib.hid hsix
  clear ht hr hc hsix
  go_enter Tryz.func51, Tryz.ntmps51
  go_upto_region 2 with fail
  refine forget (fun W => Rd W p l e ∧ W.cell? ⟨q, 0, none⟩ = some (.pointer (some ⟨p, 0, none⟩)) ∧ MB W w.heap.size 0 0 0 0 0 0 ∧ MB W (w.heap.size + 1) 0 0 0 0 0 0 ∧ Only p w W)
    ⟨(HR0.out.later ((Below.refl _ _).alloc (Nat.le_refl _) _)).later ((Below.refl _ _).alloc (Nat.le_refl _) _), ((((Below.refl w.heap.size w).alloc (Nat.le_refl _) _).alloc (by simp) _).cell hq).trans HC0.out, (MB.new w 0 0 0 0 0 0).later ((Below.refl _ _).alloc (Nat.le_refl _) _), MB.new' (by simp) 0 0 0 0 0 0, (World.grownBy_alloc w _ _).trans (World.grownBy_alloc _ _ _)⟩ ?_
  rintro W ⟨hr, cq, hm1, hm2, ho⟩
  obtain ⟨u, hu⟩ : ∃ u, w.heap.size = u := ⟨_, rfl⟩
  rw [hu] at hm1 hm2 ⊢
  have HU : Hid (w.heap.size ≤ u) := Nat.le_of_eq hu
  have HU1 : Hid (w.heap.size ≤ u + 1) := Nat.le_succ_of_le HU.out
  have hup : u ≠ p := by omega
  have hup1 : u + 1 ≠ p := by omega
  have hqW : q < W.heap.size := Nat.lt_of_lt_of_le hq ho.size
  have HR := Lib.hid hr
  have HM1 := Lib.hid hm1
  have HM2 := Lib.hid hm2
  have HO := Lib.hid ho
  clear hr hm1 hm2 ho hu HR0 HC0
  rcases HSX.out with rfl | ⟨a, b, c, d, f, g, rfl⟩
  · clear HSX
    go_region_law (first
      | (go_simp; go_at_call 52; (with_reducible refine (HX.out _ ?_).mono ?_); exact HR.out; rintro en w1 ⟨rfl, hr1, ho1⟩; have k1 := HM1.out.only (Only.undrew ho1) hup; have k2 := HM2.out.only (Only.undrew ho1) hup1)
      | (refine step_copy_string rfl _ _ 146 9 rfl 5 Tryz.underlying146 hz (u + 1) 0 6 6 (by rfl) (bs []) (by rfl) (by rw [bs_size]; decide) (by intro j hj; rw [bs_size] at hj; exact k2.some (by decide) j hj) (by intro j hj; rw [bs_size] at hj; exact k2.free (by decide) j hj) ?_))
    all_goals rw [show w1.setCells (u + 1) 0 (List.map (fun x => Value.int IntKind.u8 (x.toNat : Int)) (bs []).data.toList) = w1 from rfl]
    all_goals
      have r0 := k2.c0; have r1 := k2.c1; have r2 := k2.c2; have r3 := k2.c3; have r4 := k2.c4; have r5 := k2.c5
      have b0 := k1.c0; have b1 := k1.c1; have b2 := k1.c2; have b3 := k1.c3; have b4 := k1.c4; have b5 := k1.c5
      have f0 := k1.f0; have f1 := k1.f1; have f2 := k1.f2; have f3 := k1.f3; have f4 := k1.f4; have f5 := k1.f5
      have HRZ := Lib.hid hr1
      have HOZ := Lib.hid (HO.out.trans (Only.undrew ho1))
      go_wp2
      refine bodyPost_ret (v := .agg #[.int .u8 0, .int .u8 0, .int .u8 0, .int .u8 0, .int .u8 0, .int .u8 0]) (by simp [results, Tryz.results51, go_sem, b0, b1, b2, b3, b4, b5]) rfl ⟨rfl, ?_, ?_⟩
      · exact (((((HRZ.out.setOther hup _).setOther hup _).setOther hup _).setOther hup _).setOther hup _).setOther hup _
      · exact (((((HOZ.out.setNew HU.out _).setNew HU.out _).setNew HU.out _).setNew HU.out _).setNew HU.out _).setNew HU.out _
  · clear HSX
    go_region_law (first
      | (go_simp; go_at_call 52; (with_reducible refine (HX.out _ ?_).mono ?_); exact HR.out; rintro en w1 ⟨rfl, hr1, ho1⟩; have k1 := HM1.out.only (Only.undrew ho1) hup; have k2 := HM2.out.only (Only.undrew ho1) hup1)
      | (refine step_copy_string rfl _ _ 146 9 rfl 5 Tryz.underlying146 hz (u + 1) 0 6 6 (by rfl) (bs [a, b, c, d, f, g]) (by rfl) (by rw [bs_size]; exact Nat.le_refl 6) (by intro j hj; rw [bs_size] at hj; exact k2.some (Nat.le_refl 6) j hj) (by intro j hj; rw [bs_size] at hj; exact k2.free (Nat.le_refl 6) j hj) ?_))
    all_goals
      have e : w1.setCells (u + 1) 0 (List.map (fun x => Value.int IntKind.u8 (x.toNat : Int)) (bs [a, b, c, d, f, g]).data.toList) = w1.setCells (u + 1) 0 [.int .u8 (a.toNat : Int), .int .u8 (b.toNat : Int), .int .u8 (c.toNat : Int), .int .u8 (d.toNat : Int), .int .u8 (f.toNat : Int), .int .u8 (g.toNat : Int)] := rfl
      rw [e]
      clear e
      have m2 := k2.cells (a.toNat : Int) (b.toNat : Int) (c.toNat : Int) (d.toNat : Int) (f.toNat : Int) (g.toNat : Int)
      have m1 := MB.cellsOther (show u + 1 ≠ u by omega) [.int .u8 (a.toNat : Int), .int .u8 (b.toNat : Int), .int .u8 (c.toNat : Int), .int .u8 (d.toNat : Int), .int .u8 (f.toNat : Int), .int .u8 (g.toNat : Int)] 0 _ k1
      have m3 := Rd.cellsOther hup1 [.int .u8 (a.toNat : Int), .int .u8 (b.toNat : Int), .int .u8 (c.toNat : Int), .int .u8 (d.toNat : Int), .int .u8 (f.toNat : Int), .int .u8 (g.toNat : Int)] 0 _ hr1
      have m4 := Only.cells (p := p) HU1.out [.int .u8 (a.toNat : Int), .int .u8 (b.toNat : Int), .int .u8 (c.toNat : Int), .int .u8 (d.toNat : Int), .int .u8 (f.toNat : Int), .int .u8 (g.toNat : Int)] 0 _ (HO.out.trans (Only.undrew ho1))
      generalize w1.setCells (u + 1) 0 [.int .u8 (a.toNat : Int), .int .u8 (b.toNat : Int), .int .u8 (c.toNat : Int), .int .u8 (d.toNat : Int), .int .u8 (f.toNat : Int), .int .u8 (g.toNat : Int)] = w3 at *
      have r0 := m2.c0; have r1 := m2.c1; have r2 := m2.c2; have r3 := m2.c3; have r4 := m2.c4; have r5 := m2.c5
      have b0 := m1.c0; have b1 := m1.c1; have b2 := m1.c2; have b3 := m1.c3; have b4 := m1.c4; have b5 := m1.c5
      have f0 := m1.f0; have f1 := m1.f1; have f2 := m1.f2; have f3 := m1.f3; have f4 := m1.f4; have f5 := m1.f5
      have HRZ := Lib.hid m3
      have HOZ := Lib.hid m4
      go_wp2
      refine bodyPost_ret (v := .agg #[.int .u8 (a.toNat : Int), .int .u8 (b.toNat : Int), .int .u8 (c.toNat : Int), .int .u8 (d.toNat : Int), .int .u8 (f.toNat : Int), .int .u8 (g.toNat : Int)]) (by simp [results, Tryz.results51, go_sem, b0, b1, b2, b3, b4, b5]) rfl ⟨rfl, ?_, ?_⟩
      · exact (((((HRZ.out.setOther hup _).setOther hup _).setOther hup _).setOther hup _).setOther hup _).setOther hup _
      · exact (((((HOZ.out.setNew HU.out _).setNew HU.out _).setNew HU.out _).setNew HU.out _).setNew HU.out _).setNew HU.out _
end Go.Proofs.YtpkkjbmgbgakdaaGreatDoor

/- frame: the walk of Take. -/
set_option linter.unusedVariables false
namespace Go.Proofs.YtpkkjbmgbgakdaaGreatDoor
open Go.RowKit

theorem nat_and12 (m : Nat) : m &&& 2 ^ 12 = m / 2 ^ 12 % 2 * 2 ^ 12 := by
  apply Nat.eq_of_testBit_eq
  intro i
  rw [Nat.testBit_and, Nat.testBit_two_pow]
  have h2 : m / 2 ^ 12 % 2 = 0 ∨ m / 2 ^ 12 % 2 = 1 := by omega
  by_cases hi : 12 = i
  · subst hi
    rcases h2 with h2 | h2
    · rw [Nat.testBit_eq_decide_div_mod_eq, h2]; rfl
    · rw [Nat.testBit_eq_decide_div_mod_eq, h2]; rfl
  · rw [decide_eq_false hi, Bool.and_false]
    rcases h2 with h2 | h2
    · rw [h2]; simp
    · rw [h2, Nat.one_mul, Nat.testBit_two_pow, decide_eq_false hi]
theorem and_free (n : Int) (h0 : 0 ≤ n) (h1 : n < 65536) : bits .and .u16 n 4096 = n / 4096 % 2 * 4096 := by
  obtain ⟨m, rfl⟩ : ∃ m : Nat, n = m := ⟨n.toNat, by omega⟩
  rw [u16_and (m : Int) 4096 (by omega) (by omega) (by omega) (by omega)]
  have e : (m : Int).toNat &&& (4096 : Int).toNat = m / 2 ^ 12 % 2 * 2 ^ 12 := nat_and12 m
  rw [e]
  omega
/-- The frame of no bytes. -/
def frZ : Array Value := #[.int .u8 0, .int .u8 0, .int .u8 0, .int .u8 0, .int .u8 0, .int .u8 0, .int .u8 0, .int .u8 0, .int .u8 0, .int .u8 0, .int .u8 0, .int .u8 0, .bool false, .int .u8 0, .int .u16 0, .int .u16 0, .string { data := #[] }]
/-- A frame's cells, of the texts of its addresses. -/
def frC (a b : List UInt8) (t : Bool) (p v y : Int) (d : List UInt8) : Array Value := #[.int .u8 (adI a 0), .int .u8 (adI a 1), .int .u8 (adI a 2), .int .u8 (adI a 3), .int .u8 (adI a 4), .int .u8 (adI a 5), .int .u8 (adI b 0), .int .u8 (adI b 1), .int .u8 (adI b 2), .int .u8 (adI b 3), .int .u8 (adI b 4), .int .u8 (adI b 5), .bool t, .int .u8 p, .int .u16 v, .int .u16 y, .string (bs d)]
/-- The steps of Take. -/
def fr1 (s : List UInt8) := rdText s 0 6
def fr2 (s : List UInt8) := rdText (fr1 s).2.1 (fr1 s).2.2 6
def fr3 (s : List UInt8) := rdText (fr2 s).2.1 (fr2 s).2.2 2
def fr4 (s : List UInt8) := rdText (fr3 s).2.1 (fr3 s).2.2 2
def fr4b (s : List UInt8) : List UInt8 × Int := if numOf (fr4 s).1 / 4096 % 2 = 1 then rdFail (fr4 s).2.1 (fr4 s).2.2 4 else ((fr4 s).2.1, (fr4 s).2.2)
def fr5 (s : List UInt8) := rdText (fr4b s).1 (fr4b s).2 2
/-- Take: the cells, the error. -/
def tkF (s : List UInt8) : Array Value × Int :=
  if 1522 < s.length then (frZ, 5)
  else if numOf (fr3 s).1 = 33024 then
    (if (rdRest (fr5 s).2.1 (fr5 s).2.2).2.2 = 0 then (frC (fr1 s).1 (fr2 s).1 true (numOf (fr4 s).1 / 8192) (numOf (fr4 s).1 % 4096) (numOf (fr5 s).1) (rdRest (fr5 s).2.1 (fr5 s).2.2).1, 0) else (frZ, (rdRest (fr5 s).2.1 (fr5 s).2.2).2.2))
  else
    (if (rdRest (fr3 s).2.1 (fr3 s).2.2).2.2 = 0 then (frC (fr1 s).1 (fr2 s).1 false 0 0 (numOf (fr3 s).1) (rdRest (fr3 s).2.1 (fr3 s).2.2).1, 0) else (frZ, (rdRest (fr3 s).2.1 (fr3 s).2.2).2.2))
/-- One cell of a frame's block is stored. -/
theorem FB.set {W : World} {b : Nat} {A : Array Value} (h : FB W b A) (j : Nat) (v : Value) : FB (W.setCell ⟨b, j, none⟩ v) b (A.setIfInBounds j v) := by
  unfold FB at *
  rw [setCell_eq_setRow W b j A _ _ v h]
  exact setRow_heap W b _ _ _ _ h
theorem FB.free {W : World} {b : Nat} {A : Array Value} (h : FB W b A) (j : Nat) : W.frozen? ⟨b, j, none⟩ = false := by
  unfold FB at h; simp [World.frozen?, h]
theorem FB.other {W : World} {b t o : Nat} {A : Array Value} (h : FB W b A) (ht : t ≠ b) (v : Value) : FB (W.setCell ⟨t, o, none⟩ v) b A := by
  unfold FB; rw [Below.heap_setCell _ _ _ _ (by intro e; simp at e; omega)]; exact h
theorem FB.only {p b : Nat} {w w' : World} {A : Array Value} (h : FB w b A) (ho : Only p w w') (hne : b ≠ p) : FB w' b A := by
  unfold FB; rw [ho.block b h.lt (by simpa using hne)]; exact h
end Go.Proofs.YtpkkjbmgbgakdaaGreatDoor
