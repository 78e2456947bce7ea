/- law07: after. -/
import Derived.Test.YtecoomkpkdapdaaQ12
import Derived.Test.YtecoomkpkdapdaaQ10
import Derived.Test.YtecoomkpkdapdaaV3
set_option linter.unusedVariables false
namespace Go.Proofs.Ytecoomkpkdapdaa
open Go.RowKit

/-- An act: what, the VLAN, its members, its untagged ones, the port. -/
structure Ac where
  d : Int
  k : Int
  a : Int
  b : Int
  p : Nat
def acC (x : Ac) : List Value := [.int .u8 x.d, .int .u16 x.k, .int .u8 x.a, .int .u8 x.b, .int .u8 (x.p : Int)]
theorem acC_len (x : Ac) : (acC x).length = 5 := rfl
structure Ac.Ok (x : Ac) : Prop where
  d : 0 ≤ x.d ∧ x.d < 256
  k : 0 ≤ x.k ∧ x.k < 65536
  a : 0 ≤ x.a ∧ x.a < 256
  b : 0 ≤ x.b ∧ x.b < 256
  p : x.p < 256
/-- A row of VLANs lies on, where another block turns that holds no number of eight bits. -/
theorem Vs.only {w w' : World} {s : Value} {V : List Vn} {p : Nat} (h : Vs w s V) (ho : Only p w w') (hne : ∀ c x, w.cell? ⟨p, c, none⟩ ≠ some (.int .u8 x)) : Vs w' s V := by
  rcases h with h | ⟨ad, c, h1, h0 | ⟨b, off, h3, h2⟩⟩
  · exact .inl h
  · exact .inr ⟨ad, c, h1, .inl h0⟩
  · refine .inr ⟨ad, c, h1, ?_⟩
    by_cases hv : V = []
    · exact .inl hv
    · have hj : 0 < V.length := by
        cases V with
        | nil => exact absurd rfl hv
        | cons x r => simp
      have hb : b ≠ p := fun e => by
        subst e
        exact hne _ _ (h2 0 hj 1 (by decide))
      refine .inr ⟨b, off, h3, fun j hj i hi => ?_⟩
      have h4 := h2 j hj i hi
      rw [List.getElem?_eq_getElem (by rw [vnC_len]; exact hi)] at h4 ⊢
      have hlt := World.block_lt_of_cell? w _ h4
      have : w'.cell? ⟨b, off + j * 3 + i, none⟩ = w.cell? ⟨b, off + j * 3 + i, none⟩ := by
        simp only [World.cell?, ho.block b hlt (by simpa using hb)]
      rw [this]; exact h4
theorem VM.no8 {W : World} {m : Nat} {V : List Vn} (h : VM W m V) (c : Nat) (x : Int) : W.cell? ⟨m, c, none⟩ ≠ some (.int .u8 x) := by
  obtain ⟨es, clock, hb, _⟩ := h.own
  simp [World.cell?, hb]
theorem arr_no8 {W : World} {q c : Nat} {A : Array Value} {T : TypeId} {x : Int} (h : W.heap[q]? = some (.cells A T (0, 0))) (hA : ∀ v ∈ A, ∀ y, v ≠ .int .u8 y) : W.cell? ⟨q, c, none⟩ ≠ some (.int .u8 x) := by
  intro e
  simp only [World.cell?, h] at e
  have : A[c]? = some (.int .u8 x) := by simpa using e
  exact hA _ (Array.mem_of_getElem? this) x rfl
theorem TB.no8 {W : World} {q m : Nat} {n : Int} {o : List Int} (h : TB W q n m o) (c : Nat) (x : Int) : W.cell? ⟨q, c, none⟩ ≠ some (.int .u8 x) := by
  refine arr_no8 h fun v hv y e => ?_
  subst e
  simp [tabA] at hv
theorem RA_no8 {n : Int} {s : Value} {o : List Int} (hs : s.oneCell' = true ∧ ∀ y, s ≠ .int .u8 y) : ∀ v ∈ RA n s o, ∀ y, v ≠ .int .u8 y := by
  intro v hv y e
  subst e
  simp [RA] at hv
  exact hs.2 y hv.symm
theorem Vs.slice {w : World} {s : Value} {V : List Vn} (h : Vs w s V) : s.oneCell' = true ∧ ∀ y, s ≠ .int .u8 y := by
  obtain ⟨a, c, rfl, _⟩ := h.shape
  exact ⟨rfl, fun y e => by cases e⟩
/-- The state between two acts: the result's block z, the table q with its map m, the document's table in block r. -/
structure AF (w W : World) (zb q m r : Nat) (n : Int) (s : Value) (o : List Int) (V : List Vn) : Prop where
  ts : TS W q n m o V
  vs : Vs W s V
  g : GB 43 W r (RA n s o)
  z : GB 43 W zb rZ
  ri : Rising V
  bel : Below w.heap.size w W
  rq : r ≠ q
  rm : r ≠ m
  zq : zb ≠ q
  zm : zb ≠ m
  zr : zb ≠ r
  hz : w.heap.size ≤ zb
  hq : w.heap.size ≤ q
  hm : w.heap.size ≤ m
  hr : w.heap.size ≤ r
section
variable {w W W' : World} {zb q m r : Nat} {n : Int} {s s' : Value} {o o' : List Int} {V V' : List Vn}
theorem AF.later (h : AF w W zb q m r n s o V) (hb : Below W.heap.size W W') : AF w W' zb q m r n s o V :=
  ⟨h.ts.later hb, h.vs.later vnC_len hb, h.g.later hb, h.z.later hb, h.ri, h.bel.trans (hb.mono h.bel.size), h.rq, h.rm, h.zq, h.zm, h.zr, h.hz, h.hq, h.hm, h.hr⟩
theorem rZ_no8 : ∀ v ∈ rZ, ∀ y, v ≠ .int .u8 y := by
  intro v hv y e
  subst e
  simp [rZ] at hv
/-- The table has turned. -/
structure AG (w W : World) (zb q m r : Nat) (n : Int) (s : Value) (o : List Int) (V : List Vn) (o' : List Int) (V' : List Vn) : Prop where
  ts : TS W q n m o' V'
  vs : Vs W s V
  g : GB 43 W r (RA n s o)
  z : GB 43 W zb rZ
  ri : Rising V'
  bel : Below w.heap.size w W
  rq : r ≠ q
  rm : r ≠ m
  zq : zb ≠ q
  zm : zb ≠ m
  zr : zb ≠ r
  hz : w.heap.size ≤ zb
  hq : w.heap.size ≤ q
  hm : w.heap.size ≤ m
  hr : w.heap.size ≤ r
theorem AF.turnM (h : AF w W zb q m r n s o V) (ht : TS W' q n m o V') (ho : Only m W W') (hr : Rising V') : AG w W' zb q m r n s o V o V' :=
  ⟨ht, h.vs.only ho h.ts.vm.no8, h.g.only ho h.rm, h.z.only ho h.zm, hr, h.bel.trans (ho.below h.hm h.bel.size), h.rq, h.rm, h.zq, h.zm, h.zr, h.hz, h.hq, h.hm, h.hr⟩
theorem AF.turnQ (h : AF w W zb q m r n s o V) (ht : TS W' q n m o' V) (ho : Only q W W') : AG w W' zb q m r n s o V o' V :=
  ⟨ht, h.vs.only ho h.ts.tb.no8, h.g.only ho h.rq, h.z.only ho h.zq, h.ri, h.bel.trans (ho.below h.hq h.bel.size), h.rq, h.rm, h.zq, h.zm, h.zr, h.hz, h.hq, h.hm, h.hr⟩
theorem AG.later (h : AG w W zb q m r n s o V o' V') (hb : Below W.heap.size W W') : AG w W' zb q m r n s o V o' V' :=
  ⟨h.ts.later hb, h.vs.later vnC_len hb, h.g.later hb, h.z.later hb, h.ri, h.bel.trans (hb.mono h.bel.size), h.rq, h.rm, h.zq, h.zm, h.zr, h.hz, h.hq, h.hm, h.hr⟩
/-- The document's table has turned too. -/
theorem AG.store (h : AG w W zb q m r n s o V o' V') (hv : Vs W s' V') (hol : o.length = 8) (hol' : o'.length = 8) : AF w (W.setCells r 0 (RA n s' o').toList) zb q m r n s' o' V' := by
  have ho := Only.setCells r (RA n s' o').toList 0 W
  refine ⟨h.ts.blk (ho.block q h.ts.tb.lt (by simpa using h.rq.symm)) (ho.block m h.ts.vm.lt (by simpa using h.rm.symm)), hv.only ho (fun c x => arr_no8 h.g (RA_no8 h.vs.slice)), h.g.store (by rw [RA_size hol, RA_size hol']) (RA_one hv.one), h.z.only ho h.zr, h.ri, below_cellsG h.hr _ _ _ h.bel, h.rq, h.rm, h.zq, h.zm, h.zr, h.hz, h.hq, h.hm, h.hr⟩
end
end Go.Proofs.Ytecoomkpkdapdaa
