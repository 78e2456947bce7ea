/- ZP12: the texts P8, D0 as one. -/
import Derived.Test.YtlkdfofpnmpidaaGreatZP11
import Derived.Test.YtlkdfofpnmpidaaGreatZP08
import Derived.Test.YtlkdfofpnmpidaaGreatZP10
/- maid: the walk of the reference's Take. -/
set_option linter.unusedVariables false
namespace Go.Proofs.YtlkdfofpnmpidaaGreat
open Go.RowKit

theorem at_le (l : List UInt8) (x : Int) (hx : ((l.getD 0 0).toNat : Int) = x) : atR l = if x = 4 then 2 + (l.getD 1 0).toNat else 1 := by unfold atR; rw [hx]
theorem no_put_len {l : List UInt8} (h : l.length ≠ 48) : takeR l = ([], [], 4) := takeR_none fun d o hh => h (mPut_len hh)
theorem no_put_at {l : List UInt8} (h : ¬ atR l ≤ 45) : takeR l = ([], [], 4) := takeR_none fun d o hh => h (ref_put hh).1
theorem no_put_end {l : List UInt8} (h : ¬ endR l ≤ 48) : takeR l = ([], [], 4) := takeR_none fun d o hh => h (ref_put hh).2.1
theorem takeR_ref (l A : List UInt8) (e : Int) (hP : mPut (domR l) (ownR l) = (A, e)) : takeR l = if e = 0 ∧ A = l then (domR l, ownR l, 0) else ([], [], 4) := by
  by_cases h : e = 0 ∧ A = l
  · rw [if_pos h]; exact takeR_of (by rw [hP, h.1, h.2])
  · rw [if_neg h]
    refine takeR_none fun d o hh => h ?_
    obtain ⟨_, _, h1, h2⟩ := ref_put hh
    rw [h1, h2, hh] at hP
    exact ⟨by simpa using (congrArg Prod.snd hP).symm, by simpa using (congrArg Prod.fst hP).symm⟩

set_option maxRecDepth 100000 in
set_option maxHeartbeats 4000000 in
theorem refTake10_any (l : List UInt8) (w : World) (hl : l.length ≤ 1000) : Calls Tryz.prog 110 #[.string (bs l)] w fun en w' =>
    en = .returned (.tuple #[.string (bs (takeR l).1), .string (bs (takeR l).2.1), .int .i64 (takeR l).2.2]) ∧ Below w.heap.size w w' := by
  obtain ⟨V, hV⟩ : ∃ V, (Value.tuple #[.string (bs (takeR l).1), .string (bs (takeR l).2.1), .int .i64 (takeR l).2.2]) = V := ⟨_, rfl⟩
  have HV := Lib.hid hV
  rw [hV]; clear hV
  have hs := bs_size l
  by_cases h48 : l.length = 48
  rotate_left
  · have d0 : ((l.length : Int) != 48) = true := by simp; omega
    have hVV := HV.out
    rw [no_put_len h48] at hVV
    have HVV := Lib.hid hVV
    clear h48 hVV
    go_enter Tryz.func110, Tryz.ntmps110
    go_wp2
    refine bodyPost_ret (v := .tuple #[.string (bs []), .string (bs []), .int .i64 4]) (by simp [results, Tryz.results110, go_sem]; rfl) rfl ⟨by rw [← HVV.out], Below.refl _ _⟩
  have d0 : ((l.length : Int) != 48) = false := by simp; omega
  obtain ⟨x, hx⟩ : ∃ x : Int, ((l.getD 0 0).toNat : Int) = x := ⟨_, rfl⟩
  obtain ⟨y, hy⟩ : ∃ y : Nat, (l.getD 1 0).toNat = y := ⟨_, rfl⟩
  have hy1 : y < 256 := by rw [← hy]; exact (l.getD 1 0).toNat_lt
  have gx : ∀ h' : 0 < (bs l).size, (((bs l)[0]'h').toNat : Int) = x := fun h' => by
    rw [bs_get l 0 h' (by omega), ← hx]; simp [List.getD, show 0 < l.length by omega]
  have gy : ∀ h' : 1 < (bs l).size, (((bs l)[1]'h').toNat : Int) = (y : Int) := fun h' => by
    rw [bs_get l 1 h' (by omega), ← hy]; simp [List.getD, show 1 < l.length by omega]
  obtain ⟨a, ha⟩ : ∃ a, atR l = a := ⟨_, rfl⟩
  have hax := at_le l x hx
  rw [ha, hy] at hax
  have hD : domR l = if x = 4 then (l.take a).drop 2 else [] := by unfold domR; rw [hx, ha]
  obtain ⟨z, hz⟩ : ∃ z : Nat, (l.getD (a + 1) 0).toNat = z := ⟨_, rfl⟩
  have hz1 : z < 256 := by rw [← hz]; exact (l.getD _ 0).toNat_lt
  have gz : a ≤ 45 → ∀ h' : a + 1 < (bs l).size, (((bs l)[a + 1]'h').toNat : Int) = (z : Int) := fun h h' => by
    rw [bs_get l (a + 1) h' (by omega), ← hz]; simp [List.getD, show a + 1 < l.length by omega]
  obtain ⟨n, hn⟩ : ∃ n, endR l = n := ⟨_, rfl⟩
  have hna : n = a + 2 + z := by rw [← hn]; unfold endR; rw [ha, hz]
  have hO : ownR l = (l.take n).drop (a + 2) := by unfold ownR; rw [hn, ha]
  obtain ⟨d, hd⟩ : ∃ d, domR l = d := ⟨_, rfl⟩
  obtain ⟨o, ho⟩ : ∃ o, ownR l = o := ⟨_, rfl⟩
  rw [hd] at hD
  rw [ho] at hO
  have nd : d.length ≤ 1000 := by rw [hD]; split <;> simp; omega
  have no : o.length ≤ 1000 := by rw [hO]; simp; omega
  obtain ⟨A, e, hP⟩ : ∃ A e, mPut d o = (A, e) := ⟨_, _, rfl⟩
  have C5 : Hid (∀ w, Calls Tryz.prog 70 #[.string (bs d), .string (bs o)] w fun en w' => en = .returned (.tuple #[.string (bs A), .int .i64 e]) ∧ Below w.heap.size w w') := fun w => by
    have h := refPut10_any d o w nd no
    rw [hP] at h; exact h
  have HR : Hid (takeR l = if e = 0 ∧ A = l then (d, o, 0) else ([], [], 4)) := by
    have h := takeR_ref l A e (by rw [hd, ho]; exact hP)
    rw [hd, ho] at h; exact h
  have NA : ¬ a ≤ 45 → takeR l = ([], [], 4) := fun h => no_put_at (by rw [ha]; exact h)
  have NE : ¬ n ≤ 48 → takeR l = ([], [], 4) := fun h => no_put_end (by rw [hn]; exact h)
  have hlA := bs_tl_eq A l
  have wy : IntKind.i64.wrap (y : Int) = (y : Int) := IntWalk.i64_in _ (by omega)
  have wz : IntKind.i64.wrap (z : Int) = (z : Int) := IntWalk.i64_in _ (by omega)
  clear hx hy ha hz hn hd ho nd no hP
  by_cases h4 : x = 4
  · have d4 : (x == 4) = true := by simpa using h4
    rw [if_pos h4] at hax hD
    have hA : (2 : Int) + (y : Int) = (a : Int) := by omega
    have hE : (a : Int) + 2 + (z : Int) = (n : Int) := by omega
    have HN := Lib.hid hna
    have HO := Lib.hid hO
    have HX := Lib.hid hax
    clear h4 hna hO
    have ha2 : 2 ≤ a := by omega
    clear hax
    by_cases h45 : a ≤ 45
    rotate_left
    · have d45 : decide ((45 : Int) < (a : Int)) = true := decide_eq_true (by omega)
      have hVV := HV.out
      rw [NA h45] at hVV
      have HVV := Lib.hid hVV
      clear hVV NA NE h45 gz hD
      go_enter Tryz.func110, Tryz.ntmps110
      go_wp2
      refine bodyPost_ret (v := .tuple #[.string (bs []), .string (bs []), .int .i64 4]) (by simp [results, Tryz.results110, go_sem]; rfl) rfl ⟨by rw [← HVV.out], Below.refl _ _⟩
    have d45 : decide ((45 : Int) < (a : Int)) = false := decide_eq_false (by omega)
    have gz' := gz h45
    have hcut : (bs l).extract 2 a = bs d := by rw [bs_extract, hD, List.drop_take]
    clear NA gz hD
    by_cases h48n : n ≤ 48
    rotate_left
    · have d48 : decide ((48 : Int) < (n : Int)) = true := decide_eq_true (by omega)
      have hVV := HV.out
      rw [NE h48n] at hVV
      have HVV := Lib.hid hVV
      clear hVV NE h48n
      go_enter Tryz.func110, Tryz.ntmps110
      go_wp2
      refine bodyPost_ret (v := .tuple #[.string (bs []), .string (bs []), .int .i64 4]) (by simp [results, Tryz.results110, go_sem]; rfl) rfl ⟨by rw [← HVV.out], Below.refl _ _⟩
    have d48 : decide ((48 : Int) < (n : Int)) = false := decide_eq_false (by omega)
    have hn2 : a + 2 ≤ n := by have := HN.out; omega
    have hcut2 : (bs l).extract (a + 2) n = bs o := by rw [bs_extract, HO.out, List.drop_take]
    clear NE HO
    go_enter Tryz.func110, Tryz.ntmps110
    go_wp2_with fail
    with_reducible refine (C5.out _).mono ?_
    rintro en w1 ⟨rfl, hb1⟩
    have HB := Lib.hid hb1
    clear hb1
    by_cases he : e = 0
    · have de : (e == 0) = true := by simpa using he
      have de' : (e != 0) = false := by unfold bne; rw [de]; rfl
      by_cases hA : A = l
      · have dA : ((bs A).toList == (bs l).toList) = true := by rw [hlA]; exact decide_eq_true hA
        have hVV := HV.out
        rw [HR.out, if_pos ⟨he, hA⟩] at hVV
        have HVV := Lib.hid hVV
        clear he hA hVV hlA
        go_wp2
        refine bodyPost_ret (v := .tuple #[.string (bs d), .string (bs o), .int .i64 0]) (by simp [results, Tryz.results110, go_sem]) rfl ⟨by rw [← HVV.out], HB.out⟩
      · have dA : ((bs A).toList == (bs l).toList) = false := by rw [hlA]; exact decide_eq_false hA
        have hVV := HV.out
        rw [HR.out, if_neg (fun h => hA h.2)] at hVV
        have HVV := Lib.hid hVV
        clear he hA hVV hlA
        go_wp2
        refine bodyPost_ret (v := .tuple #[.string (bs []), .string (bs []), .int .i64 4]) (by simp [results, Tryz.results110, go_sem]; rfl) rfl ⟨by rw [← HVV.out], HB.out⟩
    · have de : (e == 0) = false := by simpa using he
      have de' : (e != 0) = true := by unfold bne; rw [de]; rfl
      have hVV := HV.out
      rw [HR.out, if_neg (fun h => he h.1)] at hVV
      have HVV := Lib.hid hVV
      clear he hVV hlA
      go_wp2
      refine bodyPost_ret (v := .tuple #[.string (bs []), .string (bs []), .int .i64 4]) (by simp [results, Tryz.results110, go_sem]; rfl) rfl ⟨by rw [← HVV.out], HB.out⟩
  · have d4 : (x == 4) = false := by simpa using h4
    rw [if_neg h4] at hax hD
    subst hax
    subst hD
    have gz' : ∀ h' : 2 < (bs l).size, (((bs l)[2]'h').toNat : Int) = (z : Int) := gz (by omega)
    have hE : (3 : Int) + (z : Int) = (n : Int) := by omega
    have HN := Lib.hid hna
    have HO := Lib.hid hO
    clear h4 hna hO NA gz
    by_cases h48n : n ≤ 48
    rotate_left
    · have d48 : decide ((48 : Int) < (n : Int)) = true := decide_eq_true (by omega)
      have hVV := HV.out
      rw [NE h48n] at hVV
      have HVV := Lib.hid hVV
      clear hVV NE h48n
      go_enter Tryz.func110, Tryz.ntmps110
      go_wp2
      refine bodyPost_ret (v := .tuple #[.string (bs []), .string (bs []), .int .i64 4]) (by simp [results, Tryz.results110, go_sem]; rfl) rfl ⟨by rw [← HVV.out], Below.refl _ _⟩
    have d48 : decide ((48 : Int) < (n : Int)) = false := decide_eq_false (by omega)
    have hn2 : 3 ≤ n := by have := HN.out; omega
    have hcut2 : (bs l).extract 3 n = bs o := by rw [bs_extract, HO.out, List.drop_take]
    clear NE HO
    go_enter Tryz.func110, Tryz.ntmps110
    go_wp2_with fail
    refine (C5.out _).mono ?_
    rintro en w1 ⟨rfl, hb1⟩
    have HB := Lib.hid hb1
    clear hb1
    by_cases he : e = 0
    · have de : (e == 0) = true := by simpa using he
      have de' : (e != 0) = false := by unfold bne; rw [de]; rfl
      by_cases hA : A = l
      · have dA : ((bs A).toList == (bs l).toList) = true := by rw [hlA]; exact decide_eq_true hA
        have hVV := HV.out
        rw [HR.out, if_pos ⟨he, hA⟩] at hVV
        have HVV := Lib.hid hVV
        clear he hA hVV hlA
        go_wp2
        refine bodyPost_ret (v := .tuple #[.string (bs []), .string (bs o), .int .i64 0]) (by simp [results, Tryz.results110, go_sem]; rfl) rfl ⟨by rw [← HVV.out], HB.out⟩
      · have dA : ((bs A).toList == (bs l).toList) = false := by rw [hlA]; exact decide_eq_false hA
        have hVV := HV.out
        rw [HR.out, if_neg (fun h => hA h.2)] at hVV
        have HVV := Lib.hid hVV
        clear he hA hVV hlA
        go_wp2
        refine bodyPost_ret (v := .tuple #[.string (bs []), .string (bs []), .int .i64 4]) (by simp [results, Tryz.results110, go_sem]; rfl) rfl ⟨by rw [← HVV.out], HB.out⟩
    · have de : (e == 0) = false := by simpa using he
      have de' : (e != 0) = true := by unfold bne; rw [de]; rfl
      have hVV := HV.out
      rw [HR.out, if_neg (fun h => he h.1)] at hVV
      have HVV := Lib.hid hVV
      clear he hVV hlA
      go_wp2
      refine bodyPost_ret (v := .tuple #[.string (bs []), .string (bs []), .int .i64 4]) (by simp [results, Tryz.results110, go_sem]; rfl) rfl ⟨by rw [← HVV.out], HB.out⟩
end Go.Proofs.YtlkdfofpnmpidaaGreat

/- ccm: checks; may, Ticks, the law's own 'Of'. -/
set_option linter.unusedVariables false
namespace Go.Proofs.YtlkdfofpnmpidaaGreat
open Go.RowKit

/-- A check's block. -/
def CB (T : TypeId) (W : World) (q : Nat) (xlv : Int) (xrd : Bool) (xiv xsq xme : Int) (xm : List UInt8) : Prop := W.heap[q]? = some (.cells #[.int .u8 xlv, .bool xrd, .int .u8 xiv, .int .u32 xsq, .int .u16 xme, .string (bs xm)] T (0, 0))
section
variable {T : TypeId} {W W' : World} {q : Nat} {xlv : Int} {xrd : Bool} {xiv xsq xme : Int} {xm : List UInt8}
theorem CB.lt (h : CB T W q xlv xrd xiv xsq xme xm) : q < W.heap.size := by
  rcases Nat.lt_or_ge q W.heap.size with h1 | h1
  · exact h1
  · unfold CB at h; rw [Array.getElem?_eq_none h1] at h; cases h
theorem CB.later (h : CB T W q xlv xrd xiv xsq xme xm) (hb : Below W.heap.size W W') : CB T W' q xlv xrd xiv xsq xme xm := by
  unfold CB; rw [hb.block q h.lt]; exact h
theorem CB.below {B : Nat} (h : CB T W q xlv xrd xiv xsq xme xm) (hq : q < B) (hb : Below B W W') : CB T W' q xlv xrd xiv xsq xme xm := by
  unfold CB; rw [hb.block q hq]; exact h
theorem CB.only {p : Nat} (h : CB T W q xlv xrd xiv xsq xme xm) (ho : Only p W W') (hne : q ≠ p) : CB T W' q xlv xrd xiv xsq xme xm := by
  unfold CB; rw [ho.block q h.lt (by simpa using hne)]; exact h
theorem CB.c0 (h : CB T W q xlv xrd xiv xsq xme xm) : W.cell? ⟨q, 0, none⟩ = some (.int .u8 xlv) := by unfold CB at h; simp [World.cell?, h]
theorem CB.c1 (h : CB T W q xlv xrd xiv xsq xme xm) : W.cell? ⟨q, 1, none⟩ = some (.bool xrd) := by unfold CB at h; simp [World.cell?, h]
theorem CB.c2 (h : CB T W q xlv xrd xiv xsq xme xm) : W.cell? ⟨q, 2, none⟩ = some (.int .u8 xiv) := by unfold CB at h; simp [World.cell?, h]
theorem CB.c3 (h : CB T W q xlv xrd xiv xsq xme xm) : W.cell? ⟨q, 3, none⟩ = some (.int .u32 xsq) := by unfold CB at h; simp [World.cell?, h]
theorem CB.c4 (h : CB T W q xlv xrd xiv xsq xme xm) : W.cell? ⟨q, 4, none⟩ = some (.int .u16 xme) := by unfold CB at h; simp [World.cell?, h]
theorem CB.c5 (h : CB T W q xlv xrd xiv xsq xme xm) : W.cell? ⟨q, 5, none⟩ = some (.string (bs xm)) := by unfold CB at h; simp [World.cell?, h]
theorem CB.fr (h : CB T W q xlv xrd xiv xsq xme xm) (o : Nat) : W.frozen? ⟨q, o, none⟩ = false := by unfold CB at h; simp [World.frozen?, h]
theorem CB.new (T : TypeId) (W : World) (xlv : Int) (xrd : Bool) (xiv xsq xme : Int) (xm : List UInt8) : CB T (W.alloc (.cells #[.int .u8 xlv, .bool xrd, .int .u8 xiv, .int .u32 xsq, .int .u16 xme, .string (bs xm)] T)) W.heap.size xlv xrd xiv xsq xme xm := heap_alloc_new W _
end
/-- How many ticks an interval has. -/
def tickC (n : Int) : Int := if n = 4 then 1 else if n = 5 then 10 else 0
set_option maxRecDepth 100000 in
set_option maxHeartbeats 1000000 in
theorem ticks_any (n : Int) (w : World) : Calls Tryz.prog 36 #[.int .u8 n] w fun en w' => en = .returned (.int .i64 (tickC n)) ∧ w = w' := by
  unfold tickC
  by_cases h4 : n = 4
  · subst h4
    go_enter Tryz.func36, Tryz.ntmps36
    go_wp2
    go_ret
    exact ⟨rfl, rfl⟩
  by_cases h5 : n = 5
  · subst h5
    go_enter Tryz.func36, Tryz.ntmps36
    go_wp2
    go_ret
    exact ⟨rfl, rfl⟩
  rw [if_neg h4, if_neg h5]
  have d4 : (n == 4) = false := by rw [beq_eq_false_iff_ne]; exact h4
  have d5 : (n == 5) = false := by rw [beq_eq_false_iff_ne]; exact h5
  clear h4 h5
  go_enter Tryz.func36, Tryz.ntmps36
  go_wp2
  go_ret
  exact ⟨rfl, rfl⟩
/-- May a check be? -/
def mayC (lv iv me : Int) (m : List UInt8) : Bool := decide (lv < 8) && (decide (0 < tickC iv) && (decide (1 ≤ me) && (decide (me ≤ 8191) && decide ((takeR m).2.2 = 0))))
theorem tick_pos (n : Int) : 0 < tickC n ↔ n = 4 ∨ n = 5 := by
  unfold tickC
  by_cases h4 : n = 4
  · rw [if_pos h4]; simp [h4]
  · rw [if_neg h4]
    by_cases h5 : n = 5
    · rw [if_pos h5]; simp [h5]
    · rw [if_neg h5]; simp [h4, h5]
set_option maxRecDepth 100000 in
set_option maxHeartbeats 4000000 in
theorem may13_any (xlv : Int) (xrd : Bool) (xiv xsq xme : Int) (xm : List UInt8) (w : World) (hm : xm.length ≤ 1000) : Calls Tryz.prog 77 #[.agg #[.int .u8 xlv, .bool xrd, .int .u8 xiv, .int .u32 xsq, .int .u16 xme, .string (bs xm)]] w fun en w' => en = .returned (.bool (mayC xlv xiv xme xm)) ∧ Below w.heap.size w w' := by
  obtain ⟨d, o, e, hT⟩ : ∃ d o e, takeR xm = (d, o, e) := ⟨_, _, _, rfl⟩
  have T1 : Hid (∀ w, Calls Tryz.prog 112 #[.string (bs xm)] w fun en w' => en = .returned (.tuple #[.string (bs d), .string (bs o), .int .i64 e]) ∧ Below w.heap.size w w') := fun w => by
    have h := take10_any xm w hm
    rw [hT] at h; exact h
  have T2 : Hid (∀ w, Calls Tryz.prog 36 #[.int .u8 xiv] w fun en w' => en = .returned (.int .i64 (tickC xiv)) ∧ w = w') := fun w => ticks_any xiv w
  obtain ⟨K, hK⟩ : ∃ K, tickC xiv = K := ⟨_, rfl⟩
  obtain ⟨R, hR⟩ : ∃ R, mayC xlv xiv xme xm = R := ⟨_, rfl⟩
  have hRR : R = (decide (xlv < 8) && (decide (0 < K) && (decide (1 ≤ xme) && (decide (xme ≤ 8191) && decide (e = 0))))) := by rw [← hR, ← hK]; unfold mayC; rw [hT]
  rw [hR]
  rw [hK] at T2
  have HRR := Lib.hid hRR
  clear hRR hR hK hT
  have cb0 := CB.new 107 w xlv xrd xiv xsq xme xm
  have hb0 : Below w.heap.size w (w.alloc (.cells #[.int .u8 xlv, .bool xrd, .int .u8 xiv, .int .u32 xsq, .int .u16 xme, .string (bs xm)] 107)) := (Below.refl _ _).alloc (Nat.le_refl _) _
  have c5 := cb0.c5
  have HB0 := Lib.hid hb0
  have CB0 := Lib.hid cb0
  clear cb0 hb0
  go_enter Tryz.func77, Tryz.ntmps77
  go_wp2_with fail
  with_reducible refine (T1.out _).mono ?_
  rintro en w1 ⟨rfl, hb1⟩
  have cb1 := CB0.out.later hb1
  have HB1 := Lib.hid (HB0.out.trans (hb1.mono HB0.out.size))
  have c0 := cb1.c0
  have c2 := cb1.c2
  have c4 := cb1.c4
  clear hb1 cb1 CB0 HB0 c5
  cases h1 : decide (xlv < 8) with
  | false =>
    have hRf : R = false := by rw [HRR.out, h1]; rfl
    have RF := Lib.hid hRf
    clear hRf
    go_wp2_with fail
    go_ret
    exact ⟨by rw [RF.out]; rfl, HB1.out⟩
  | true =>
  go_wp2_with fail
  with_reducible refine (T2.out _).mono ?_
  rintro en _ ⟨rfl, rfl⟩
  cases h2 : decide (0 < K) with
  | false =>
    have hRf : R = false := by rw [HRR.out, h1, h2]; rfl
    have RF := Lib.hid hRf
    clear hRf
    go_wp2_with fail
    go_ret
    exact ⟨by rw [RF.out]; rfl, HB1.out⟩
  | true =>
  cases h3 : decide (1 ≤ xme) with
  | false =>
    have hRf : R = false := by rw [HRR.out, h1, h2, h3]; rfl
    have RF := Lib.hid hRf
    clear hRf
    go_wp2_with fail
    go_ret
    exact ⟨by rw [RF.out]; rfl, HB1.out⟩
  | true =>
  cases h4 : decide (xme ≤ 8191) with
  | false =>
    have hRf : R = false := by rw [HRR.out, h1, h2, h3, h4]; rfl
    have RF := Lib.hid hRf
    clear hRf
    go_wp2_with fail
    go_ret
    exact ⟨by rw [RF.out]; rfl, HB1.out⟩
  | true =>
  have h5 : (e == 0) = decide (e = 0) := by rw [Bool.eq_iff_iff]; simp
  have hRf : R = (e == 0) := by rw [HRR.out, h1, h2, h3, h4, h5]; rfl
  have RF := Lib.hid hRf
  clear hRf h5
  go_wp2_with fail
  go_ret
  exact ⟨by rw [RF.out]; rfl, HB1.out⟩
set_option maxRecDepth 100000 in
set_option maxHeartbeats 4000000 in
theorem refMay13_any (xlv : Int) (xrd : Bool) (xiv xsq xme : Int) (xm : List UInt8) (w : World) (hm : xm.length ≤ 1000) : Calls Tryz.prog 74 #[.agg #[.int .u8 xlv, .bool xrd, .int .u8 xiv, .int .u32 xsq, .int .u16 xme, .string (bs xm)]] w fun en w' => en = .returned (.bool (mayC xlv xiv xme xm)) ∧ Below w.heap.size w w' := by
  obtain ⟨d, o, e, hT⟩ : ∃ d o e, takeR xm = (d, o, e) := ⟨_, _, _, rfl⟩
  have T1 : Hid (∀ w, Calls Tryz.prog 110 #[.string (bs xm)] w fun en w' => en = .returned (.tuple #[.string (bs d), .string (bs o), .int .i64 e]) ∧ Below w.heap.size w w') := fun w => by
    have h := refTake10_any xm w hm
    rw [hT] at h; exact h
  obtain ⟨R, hR⟩ : ∃ R, mayC xlv xiv xme xm = R := ⟨_, rfl⟩
  have hRR : R = (decide (e = 0) && (decide (xlv < 8) && (decide (xiv = 4 ∨ xiv = 5) && (decide (0 < xme) && decide (xme < 8192))))) := by
    rw [← hR]; unfold mayC; rw [hT]
    have q1 : decide (0 < tickC xiv) = decide (xiv = 4 ∨ xiv = 5) := decide_eq_decide.2 (tick_pos xiv)
    have q2 : decide (1 ≤ xme) = decide (0 < xme) := decide_eq_decide.2 (by omega)
    have q3 : decide (xme ≤ 8191) = decide (xme < 8192) := decide_eq_decide.2 (by omega)
    rw [q1, q2, q3]
    cases decide (e = 0) <;> cases decide (xlv < 8) <;> cases decide (xiv = 4 ∨ xiv = 5) <;> cases decide (0 < xme) <;> cases decide (xme < 8192) <;> rfl
  rw [hR]
  have HRR := Lib.hid hRR
  clear hRR hR hT
  have cb0 := CB.new 118 w xlv xrd xiv xsq xme xm
  have hb0 : Below w.heap.size w (w.alloc (.cells #[.int .u8 xlv, .bool xrd, .int .u8 xiv, .int .u32 xsq, .int .u16 xme, .string (bs xm)] 118)) := (Below.refl _ _).alloc (Nat.le_refl _) _
  have c5 := cb0.c5
  have HB0 := Lib.hid hb0
  have CB0 := Lib.hid cb0
  clear cb0 hb0
  go_enter Tryz.func74, Tryz.ntmps74
  go_wp2_with fail
  with_reducible refine (T1.out _).mono ?_
  rintro en w1 ⟨rfl, hb1⟩
  have cb1 := CB0.out.later hb1
  have HB1 := Lib.hid (HB0.out.trans (hb1.mono HB0.out.size))
  have c0 := cb1.c0
  have c2 := cb1.c2
  have c4 := cb1.c4
  clear hb1 cb1 CB0 HB0 c5
  by_cases h1 : e = 0
  rotate_left
  · have d1 : (e == 0) = false := by rw [beq_eq_false_iff_ne]; exact h1
    have hRf : R = false := by rw [HRR.out, decide_eq_false h1]; rfl
    have RF := Lib.hid hRf
    clear hRf h1
    go_wp2_with fail
    go_ret
    exact ⟨by rw [RF.out]; rfl, HB1.out⟩
  have d1 : (e == 0) = true := by rw [h1]; rfl
  cases h2 : decide (xlv < 8) with
  | false =>
    have hRf : R = false := by rw [HRR.out, decide_eq_true h1, h2]; rfl
    have RF := Lib.hid hRf
    clear hRf h1
    go_wp2_with fail
    go_ret
    exact ⟨by rw [RF.out]; rfl, HB1.out⟩
  | true =>
  by_cases h3 : xiv = 4 ∨ xiv = 5
  rotate_left
  · have d4 : (xiv == 4) = false := by rw [beq_eq_false_iff_ne]; exact fun h => h3 (Or.inl h)
    have d5 : (xiv == 5) = false := by rw [beq_eq_false_iff_ne]; exact fun h => h3 (Or.inr h)
    have hRf : R = false := by rw [HRR.out, decide_eq_true h1, h2, decide_eq_false h3]; rfl
    have RF := Lib.hid hRf
    clear hRf h1 h3
    go_wp2_with fail
    go_ret
    exact ⟨by rw [RF.out]; rfl, HB1.out⟩
  have hR3 : R = (decide (0 < xme) && decide (xme < 8192)) := by rw [HRR.out, decide_eq_true h1, h2, decide_eq_true h3]; rfl
  have HR3 := Lib.hid hR3
  clear hR3
  cases h4 : decide (0 < xme) with
  | false =>
    have hRf : R = false := by rw [HR3.out, h4]; rfl
    have RF := Lib.hid hRf
    clear hRf h1
    rcases h3 with rfl | rfl
    all_goals go_wp2_with fail
    all_goals go_ret
    all_goals exact ⟨by rw [RF.out]; rfl, HB1.out⟩
  | true =>
  have hRf : R = decide (xme < 8192) := by rw [HR3.out, h4]; rfl
  have RF := Lib.hid hRf
  clear hRf h1
  rcases h3 with rfl | rfl
  all_goals go_wp2_with fail
  all_goals go_ret
  all_goals exact ⟨by rw [RF.out]; rfl, HB1.out⟩
end Go.Proofs.YtlkdfofpnmpidaaGreat
