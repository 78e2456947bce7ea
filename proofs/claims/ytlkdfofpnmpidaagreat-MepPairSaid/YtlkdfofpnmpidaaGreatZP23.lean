/- ZP23: the texts Y2, S7 as one. -/
import Derived.Test.YtlkdfofpnmpidaaGreatZP21
import Derived.Test.YtlkdfofpnmpidaaGreatZP22
import Derived.Test.YtlkdfofpnmpidaaGreatZP18
import Derived.Test.YtlkdfofpnmpidaaGreatZP19
import Derived.Deep.DeepCutAuto
/- mep: small ones: host, sent, next; the document's Host, put, own. -/
set_option linter.unusedVariables false
set_option linter.unusedSimpArgs false
namespace Go.Proofs.YtlkdfofpnmpidaaGreat
open Go.RowKit

theorem eql_macG (m n : Mc) (w : World) : (binOp .eql 25 (.agg #[.int .u8 m.a, .int .u8 m.b, .int .u8 m.c, .int .u8 m.d, .int .u8 m.e, .int .u8 m.f]) (.agg #[.int .u8 n.a, .int .u8 n.b, .int .u8 n.c, .int .u8 n.d, .int .u8 n.e, .int .u8 n.f])).run Tryz.prog w = .ok (.bool (decide (m = n))) w := by
  simp only [binOp]
  simp [Op.equal, Op.maxDepth, equalIn_macG 9998]
/-- Is an address one of somebody's own? -/
def hostV (m : Mc) : Bool := !decide (m = mc0) && !(m.a % 2 == 1)
theorem groupM_any (m : Mc) (hm : m.Ok) (w : World) : Calls Tryz.prog 73 #[.agg #[.int .u8 m.a, .int .u8 m.b, .int .u8 m.c, .int .u8 m.d, .int .u8 m.e, .int .u8 m.f]] w fun en w' => en = .returned (.bool (m.a % 2 == 1)) ∧ Below w.heap.size w w' :=
  group_any m.a m.b m.c m.d m.e m.f w hm.a.1 hm.a.2
set_option maxRecDepth 100000 in
set_option maxHeartbeats 4000000 in
theorem host_any (m : Mc) (hm : m.Ok) (w : World) : Calls Tryz.prog 29 #[.agg #[.int .u8 m.a, .int .u8 m.b, .int .u8 m.c, .int .u8 m.d, .int .u8 m.e, .int .u8 m.f]] w fun en w' => en = .returned (.bool (hostV m)) ∧ Below w.heap.size w w' := by
  have HM := Lib.hid hm
  obtain ⟨R, hR⟩ : ∃ R, hostV m = R := ⟨_, rfl⟩
  rw [hR]
  obtain ⟨D, hD⟩ : ∃ D, decide (m = mc0) = D := ⟨_, rfl⟩
  obtain ⟨G, hG⟩ : ∃ D, (m.a % 2 == 1) = D := ⟨_, rfl⟩
  have HR : Hid ((!D && !G) = R) := Lib.hid (by rw [← hR, ← hD, ← hG]; rfl)
  have GR : Hid (∀ w, Calls Tryz.prog 73 #[.agg #[.int .u8 m.a, .int .u8 m.b, .int .u8 m.c, .int .u8 m.d, .int .u8 m.e, .int .u8 m.f]] w fun en w' => en = .returned (.bool G) ∧ Below w.heap.size w w') := Lib.hid fun w => by rw [← hG]; exact groupM_any m HM.out w
  have hne : ∀ W : World, (binOp .neq 25 (.agg #[.int .u8 m.a, .int .u8 m.b, .int .u8 m.c, .int .u8 m.d, .int .u8 m.e, .int .u8 m.f]) (.agg #[.int .u8 0, .int .u8 0, .int .u8 0, .int .u8 0, .int .u8 0, .int .u8 0])).run Tryz.prog W = .ok (.bool (!D)) W := fun W => by rw [← hD]; exact neq_macG m mc0 W
  clear hR hD hG hm
  cases D with
  | true =>
    go_enter Tryz.func29, Tryz.ntmps29
    go_wp2
    go_ret
    exact ⟨by rw [← HR.out]; rfl, (Below.refl _ _).alloc (Nat.le_refl _) _⟩
  | false =>
    go_enter Tryz.func29, Tryz.ntmps29
    go_wp2_with fail
    with_reducible refine (GR.out _).mono ?_
    rintro en w1 ⟨rfl, hb1⟩
    have HB := Lib.hid (((Below.refl w.heap.size w).alloc (Nat.le_refl _) _).trans (hb1.mono (by simp)))
    clear hb1
    go_wp2
    go_ret
    exact ⟨by rw [← HR.out]; rfl, HB.out⟩
set_option maxRecDepth 100000 in
set_option maxHeartbeats 4000000 in
theorem refHost_any (m : Mc) (hm : m.Ok) (w : World) : Calls Tryz.prog 32 #[.agg #[.int .u8 m.a, .int .u8 m.b, .int .u8 m.c, .int .u8 m.d, .int .u8 m.e, .int .u8 m.f]] w fun en w' => en = .returned (.bool (hostV m)) ∧ Below w.heap.size w w' := by
  obtain ⟨R, hR⟩ : ∃ R, hostV m = R := ⟨_, rfl⟩
  rw [hR]
  obtain ⟨D, hD⟩ : ∃ D, decide (m = mc0) = D := ⟨_, rfl⟩
  obtain ⟨G, hG⟩ : ∃ D, (m.a % 2 == 0) = D := ⟨_, rfl⟩
  have h0 := hm.a.1
  have hG2 : (!(m.a % 2 == 1)) = G := by
    rw [← hG]
    have : m.a % 2 = 0 ∨ m.a % 2 = 1 := by omega
    rcases this with h | h <;> rw [h] <;> rfl
  have HR : Hid ((!D && G) = R) := Lib.hid (by rw [← hR, ← hD, ← hG2]; rfl)
  have hne : ∀ W : World, (binOp .neq 25 (.agg #[.int .u8 m.a, .int .u8 m.b, .int .u8 m.c, .int .u8 m.d, .int .u8 m.e, .int .u8 m.f]) (.agg #[.int .u8 0, .int .u8 0, .int .u8 0, .int .u8 0, .int .u8 0, .int .u8 0])).run Tryz.prog W = .ok (.bool (!D)) W := fun W => by rw [← hD]; exact neq_macG m mc0 W
  clear hR hD hG2 hm
  cases G with
  | true =>
    go_enter Tryz.func32, Tryz.ntmps32
    go_wp2
    go_ret
    exact ⟨by rw [← HR.out]; cases D <;> rfl, (Below.refl _ _).alloc (Nat.le_refl _) _⟩
  | false =>
    go_enter Tryz.func32, Tryz.ntmps32
    go_wp2
    go_ret
    exact ⟨by rw [← HR.out]; cases D <;> rfl, (Below.refl _ _).alloc (Nat.le_refl _) _⟩
/-- A message that is sent. -/
structure Sn where
  m : Mc
  d : List UInt8
def snC (x : Sn) : List Value := [.int .u8 x.m.a, .int .u8 x.m.b, .int .u8 x.m.c, .int .u8 x.m.d, .int .u8 x.m.e, .int .u8 x.m.f, .string (bs x.d)]
theorem snC_len (x : Sn) : (snC x).length = 7 := rfl
/-- What is sent of a message. -/
def sentR (m : Mc) (a b c : Int) (f : List UInt8) (l : List Th) : List Sn := if (putP a b c f l).2 = 0 then [⟨m, (putP a b c f l).1⟩] else []
set_option maxRecDepth 100000 in
set_option maxHeartbeats 4000000 in
theorem sent_any (m : Mc) (v : Value) (a b c : Int) (f : List UInt8) (l : List Th) (w : World) (hv : Tls w v l) (hl : l.length ≤ 100000) (hs : ∀ x ∈ l, x.2.length ≤ maxLen) (hf : f.length ≤ 1000000) (hm : (putT l).1.length ≤ 1000000000) (ha : 0 ≤ a ∧ a < 256) (hb : 0 ≤ b ∧ b < 256) (hc : 0 ≤ c ∧ c < 256) :
    Calls Tryz.prog 40 #[.agg #[.int .u8 m.a, .int .u8 m.b, .int .u8 m.c, .int .u8 m.d, .int .u8 m.e, .int .u8 m.f], .agg #[.int .u8 a, .int .u8 b, .int .u8 c, .string (bs f), v]] w fun en w' => ∃ u, en = .returned u ∧ Ow 7 snC 55 w' w.heap.size u (sentR m a b c f l) ∧ Below w.heap.size w w' := by
  obtain ⟨vx, vk, hvv, -⟩ := hv.shape
  obtain ⟨vn, hvn⟩ : ∃ n, l.length = n := ⟨_, rfl⟩
  rw [hvn] at hvv
  subst hvv
  obtain ⟨⟨P, E⟩, hP⟩ : ∃ R, putP a b c f l = R := ⟨_, rfl⟩
  have PU : Hid (∀ w, Tls w (.slice vx vn vk) l → Calls Tryz.prog 48 #[.agg #[.int .u8 a, .int .u8 b, .int .u8 c, .string (bs f), .slice vx vn vk]] w fun en w' => en = .returned (.tuple #[.string (bs P), .int .i64 E]) ∧ Below w.heap.size w w') := Lib.hid fun w hv => by
    have h := cput_any (.slice vx vn vk) a b c f l w hv hl hs hf hm ha hb hc
    rw [hP] at h; exact h
  have HR : Hid (sentR m a b c f l = if E = 0 then [⟨m, P⟩] else []) := Lib.hid (by unfold sentR; rw [hP])
  obtain ⟨R, hR⟩ : ∃ R, sentR m a b c f l = R := ⟨_, rfl⟩
  rw [hR] at HR ⊢
  have HV := Lib.hid hv
  clear hR hP hv hl hs hf hm ha hb hc hvn
  go_enter Tryz.func40, Tryz.ntmps40
  go_upto_region 1 with fail
  have hb0 : Below w.heap.size w ((w.alloc (.cells #[.int .u8 m.a, .int .u8 m.b, .int .u8 m.c, .int .u8 m.d, .int .u8 m.e, .int .u8 m.f] 25)).alloc (.cells #[.int .u8 a, .int .u8 b, .int .u8 c, .string (bs f), .slice vx vn vk] 103)) := ((Below.refl _ _).alloc (Nat.le_refl _) _).alloc (by simp) _
  have g0 : GB 25 ((w.alloc (.cells #[.int .u8 m.a, .int .u8 m.b, .int .u8 m.c, .int .u8 m.d, .int .u8 m.e, .int .u8 m.f] 25)).alloc (.cells #[.int .u8 a, .int .u8 b, .int .u8 c, .string (bs f), .slice vx vn vk] 103)) w.heap.size #[.int .u8 m.a, .int .u8 m.b, .int .u8 m.c, .int .u8 m.d, .int .u8 m.e, .int .u8 m.f] := (GB.new 25 w #[.int .u8 m.a, .int .u8 m.b, .int .u8 m.c, .int .u8 m.d, .int .u8 m.e, .int .u8 m.f]).later ((Below.refl _ _).alloc (Nat.le_refl _) _)
  have pb : PB 103 ((w.alloc (.cells #[.int .u8 m.a, .int .u8 m.b, .int .u8 m.c, .int .u8 m.d, .int .u8 m.e, .int .u8 m.f] 25)).alloc (.cells #[.int .u8 a, .int .u8 b, .int .u8 c, .string (bs f), .slice vx vn vk] 103)) (w.heap.size + 1) a b c f (.slice vx vn vk) := by
    have := PB.new 103 (w.alloc (.cells #[.int .u8 m.a, .int .u8 m.b, .int .u8 m.c, .int .u8 m.d, .int .u8 m.e, .int .u8 m.f] 25)) a b c f (.slice vx vn vk)
    rw [show (w.alloc (.cells #[.int .u8 m.a, .int .u8 m.b, .int .u8 m.c, .int .u8 m.d, .int .u8 m.e, .int .u8 m.f] 25)).heap.size = w.heap.size + 1 by simp] at this
    exact this
  obtain ⟨w0, hw0⟩ : ∃ k, (w.alloc (.cells #[.int .u8 m.a, .int .u8 m.b, .int .u8 m.c, .int .u8 m.d, .int .u8 m.e, .int .u8 m.f] 25)).alloc (.cells #[.int .u8 a, .int .u8 b, .int .u8 c, .string (bs f), .slice vx vn vk] 103) = k := ⟨_, rfl⟩
  rw [hw0] at hb0 g0 pb ⊢
  have c0 := pb.c0
  have c1 := pb.c1
  have c2 := pb.c2
  have c3 := pb.c3
  have c4 := pb.c4
  have S0 := Lib.hid (And.intro hb0 g0)
  clear hw0 hb0 g0 pb
  go_wp2_with fail
  with_reducible refine (PU.out _ (HV.out.later S0.out.1)).mono ?_
  rintro en w1 ⟨rfl, hb1⟩
  have S1 := Lib.hid (And.intro (S0.out.1.trans (hb1.mono S0.out.1.size)) (S0.out.2.later hb1))
  clear hb1 S0 c0 c1 c2 c3 c4
  by_cases he : E = 0
  · have HZ : Hid (R = [⟨m, P⟩]) := Lib.hid (by rw [HR.out, if_pos he])
    subst he
    have d0 : w1.cell? ⟨w.heap.size, 0, none⟩ = some (.int .u8 m.a) := S1.out.2.c 0 _ rfl
    have d1 : w1.cell? ⟨w.heap.size, 1, none⟩ = some (.int .u8 m.b) := S1.out.2.c 1 _ rfl
    have d2 : w1.cell? ⟨w.heap.size, 2, none⟩ = some (.int .u8 m.c) := S1.out.2.c 2 _ rfl
    have d3 : w1.cell? ⟨w.heap.size, 3, none⟩ = some (.int .u8 m.d) := S1.out.2.c 3 _ rfl
    have d4 : w1.cell? ⟨w.heap.size, 4, none⟩ = some (.int .u8 m.e) := S1.out.2.c 4 _ rfl
    have d5 : w1.cell? ⟨w.heap.size, 5, none⟩ = some (.int .u8 m.f) := S1.out.2.c 5 _ rfl
    go_wp2
    go_ret
    exact ⟨_, rfl, by rw [HZ.out]; exact Ow.lit snC_len w1 w.heap.size ⟨m, P⟩ _ rfl S1.out.1.size, S1.out.1.alloc S1.out.1.size _⟩
  · have e1 : (E == 0) = false := by rw [beq_eq_false_iff_ne]; exact he
    have HZ : Hid (R = []) := Lib.hid (by rw [HR.out, if_neg he])
    clear he
    go_wp2
    go_ret
    exact ⟨_, rfl, by rw [HZ.out]; exact Ow.none _ _, S1.out.1⟩
set_option maxRecDepth 100000 in
set_option maxHeartbeats 4000000 in
theorem rsent_any (m : Mc) (v : Value) (a b c : Int) (f : List UInt8) (l : List Th) (w : World) (hv : Tls w v l) (hl : l.length ≤ 100000) (hs : ∀ x ∈ l, x.2.length ≤ maxLen) (hf : f.length ≤ 1000000) (hm : (putT l).1.length ≤ 1000000000) (ha : 0 ≤ a ∧ a < 256) (hb : 0 ≤ b ∧ b < 256) (hc : 0 ≤ c ∧ c < 256) :
    Calls Tryz.prog 45 #[.agg #[.int .u8 m.a, .int .u8 m.b, .int .u8 m.c, .int .u8 m.d, .int .u8 m.e, .int .u8 m.f], .agg #[.int .u8 a, .int .u8 b, .int .u8 c, .string (bs f), v]] w fun en w' => ∃ u, en = .returned u ∧ Ow 7 snC 58 w' w.heap.size u (sentR m a b c f l) ∧ Below w.heap.size w w' := by
  obtain ⟨vx, vk, hvv, -⟩ := hv.shape
  obtain ⟨vn, hvn⟩ : ∃ n, l.length = n := ⟨_, rfl⟩
  rw [hvn] at hvv
  subst hvv
  obtain ⟨⟨P, E⟩, hP⟩ : ∃ R, putP a b c f l = R := ⟨_, rfl⟩
  have PU : Hid (∀ w, Tls w (.slice vx vn vk) l → Calls Tryz.prog 85 #[.agg #[.int .u8 a, .int .u8 b, .int .u8 c, .string (bs f), .slice vx vn vk]] w fun en w' => en = .returned (.tuple #[.string (bs P), .int .i64 E]) ∧ Below w.heap.size w w') := Lib.hid fun w hv => by
    have h := refPut12_any (.slice vx vn vk) a b c f l w hv hl hs hf hm ha hb hc
    rw [hP] at h; exact h
  have HR : Hid (sentR m a b c f l = if E = 0 then [⟨m, P⟩] else []) := Lib.hid (by unfold sentR; rw [hP])
  obtain ⟨R, hR⟩ : ∃ R, sentR m a b c f l = R := ⟨_, rfl⟩
  rw [hR] at HR ⊢
  have HV := Lib.hid hv
  clear hR hP hv hl hs hf hm ha hb hc hvn
  go_enter Tryz.func45, Tryz.ntmps45
  go_upto_region 1 with fail
  have hb0 : Below w.heap.size w ((w.alloc (.cells #[.int .u8 m.a, .int .u8 m.b, .int .u8 m.c, .int .u8 m.d, .int .u8 m.e, .int .u8 m.f] 25)).alloc (.cells #[.int .u8 a, .int .u8 b, .int .u8 c, .string (bs f), .slice vx vn vk] 115)) := ((Below.refl _ _).alloc (Nat.le_refl _) _).alloc (by simp) _
  have g0 : GB 25 ((w.alloc (.cells #[.int .u8 m.a, .int .u8 m.b, .int .u8 m.c, .int .u8 m.d, .int .u8 m.e, .int .u8 m.f] 25)).alloc (.cells #[.int .u8 a, .int .u8 b, .int .u8 c, .string (bs f), .slice vx vn vk] 115)) w.heap.size #[.int .u8 m.a, .int .u8 m.b, .int .u8 m.c, .int .u8 m.d, .int .u8 m.e, .int .u8 m.f] := (GB.new 25 w #[.int .u8 m.a, .int .u8 m.b, .int .u8 m.c, .int .u8 m.d, .int .u8 m.e, .int .u8 m.f]).later ((Below.refl _ _).alloc (Nat.le_refl _) _)
  have pb : PB 115 ((w.alloc (.cells #[.int .u8 m.a, .int .u8 m.b, .int .u8 m.c, .int .u8 m.d, .int .u8 m.e, .int .u8 m.f] 25)).alloc (.cells #[.int .u8 a, .int .u8 b, .int .u8 c, .string (bs f), .slice vx vn vk] 115)) (w.heap.size + 1) a b c f (.slice vx vn vk) := by
    have := PB.new 115 (w.alloc (.cells #[.int .u8 m.a, .int .u8 m.b, .int .u8 m.c, .int .u8 m.d, .int .u8 m.e, .int .u8 m.f] 25)) a b c f (.slice vx vn vk)
    rw [show (w.alloc (.cells #[.int .u8 m.a, .int .u8 m.b, .int .u8 m.c, .int .u8 m.d, .int .u8 m.e, .int .u8 m.f] 25)).heap.size = w.heap.size + 1 by simp] at this
    exact this
  obtain ⟨w0, hw0⟩ : ∃ k, (w.alloc (.cells #[.int .u8 m.a, .int .u8 m.b, .int .u8 m.c, .int .u8 m.d, .int .u8 m.e, .int .u8 m.f] 25)).alloc (.cells #[.int .u8 a, .int .u8 b, .int .u8 c, .string (bs f), .slice vx vn vk] 115) = k := ⟨_, rfl⟩
  rw [hw0] at hb0 g0 pb ⊢
  have c0 := pb.c0
  have c1 := pb.c1
  have c2 := pb.c2
  have c3 := pb.c3
  have c4 := pb.c4
  have S0 := Lib.hid (And.intro hb0 g0)
  clear hw0 hb0 g0 pb
  go_wp2_with fail
  with_reducible refine (PU.out _ (HV.out.later S0.out.1)).mono ?_
  rintro en w1 ⟨rfl, hb1⟩
  have S1 := Lib.hid (And.intro (S0.out.1.trans (hb1.mono S0.out.1.size)) (S0.out.2.later hb1))
  clear hb1 S0 c0 c1 c2 c3 c4
  by_cases he : E = 0
  · have HZ : Hid (R = [⟨m, P⟩]) := Lib.hid (by rw [HR.out, if_pos he])
    subst he
    have d0 : w1.cell? ⟨w.heap.size, 0, none⟩ = some (.int .u8 m.a) := S1.out.2.c 0 _ rfl
    have d1 : w1.cell? ⟨w.heap.size, 1, none⟩ = some (.int .u8 m.b) := S1.out.2.c 1 _ rfl
    have d2 : w1.cell? ⟨w.heap.size, 2, none⟩ = some (.int .u8 m.c) := S1.out.2.c 2 _ rfl
    have d3 : w1.cell? ⟨w.heap.size, 3, none⟩ = some (.int .u8 m.d) := S1.out.2.c 3 _ rfl
    have d4 : w1.cell? ⟨w.heap.size, 4, none⟩ = some (.int .u8 m.e) := S1.out.2.c 4 _ rfl
    have d5 : w1.cell? ⟨w.heap.size, 5, none⟩ = some (.int .u8 m.f) := S1.out.2.c 5 _ rfl
    go_wp2
    go_ret
    exact ⟨_, rfl, by rw [HZ.out]; exact Ow.lit snC_len w1 w.heap.size ⟨m, P⟩ _ rfl S1.out.1.size, S1.out.1.alloc S1.out.1.size _⟩
  · have e1 : (E == 0) = false := by rw [beq_eq_false_iff_ne]; exact he
    have HZ : Hid (R = []) := Lib.hid (by rw [HR.out, if_neg he])
    clear he
    go_wp2
    go_ret
    exact ⟨_, rfl, by rw [HZ.out]; exact Ow.none _ _, S1.out.1⟩
set_option maxRecDepth 100000 in
theorem next_any (n : Int) (hn : 0 ≤ n ∧ n < 1000000) (w : World) : Calls Tryz.prog 46 #[.int .u32 n] w fun en w' => en = .returned (.int .u32 (n + 1)) ∧ w' = w := by
  have h1 : IntKind.u32.wrap (n + 1) = n + 1 := IntWalk.u32_in _ (by omega)
  have h2 : max (n + 1) 1 = n + 1 := by omega
  go_enter Tryz.func46, Tryz.ntmps46
  go_wp2
  go_ret
  exact ⟨rfl, rfl⟩
end Go.Proofs.YtlkdfofpnmpidaaGreat

/- remote: the walk of Tick. -/
set_option linter.unusedVariables false
namespace Go.Proofs.YtlkdfofpnmpidaaGreat
open Go.RowKit
open Go.Maps (Keyed int_keyed keyOf_int_mk)

structure OV where
  l : Int
  r : Bool
def mkO (c : OV) : Value := .agg #[.int .i64 c.l, .bool c.r]
theorem rEl_shape (v : Value) (y : DataW Unit × List MemPlace) (h : rEl v = some y) : ∃ c, v = mkO c := by
  unfold rEl at h
  split at h
  · rename_i cs
    split at h
    · rename_i a b hcs
      exact ⟨⟨a, b⟩, by rw [show cs = cs.toList.toArray from rfl, hcs]; rfl⟩
    · cases h
  · cases h
theorem vElD_inj {a b : Int} {y : Int × Int} (h : vElD y.1 y.2 = vElD a b) (hy : y.2 = 0 ∨ y.2 = 1) (hb : b = 0 ∨ b = 1) : y = (a, b) := by
  unfold vElD at h
  simp at h
  exact Prod.ext (by show y.1 = a; omega) (by show y.2 = b; omega)
theorem vFind_elem {V : List Vn} (hr : Rising V) {k : Int} {y : Int × Int} (h : vFind V k = some y) : (k, y) ∈ V := by
  obtain ⟨x, hx, hk⟩ := List.mem_map.1 ((vFind_mem V k).1 (by rw [h]; rfl))
  have h2 := vFind_of_mem hr hx
  rw [hk, h] at h2
  have h3 := Option.some.inj h2
  rw [h3, ← hk]
  exact hx
set_option maxRecDepth 100000 in
set_option maxHeartbeats 8000000 in
theorem tick_any (q m : Nat) (a : Ow8) (V : List Vn) (bd cr : Int) (w : World) (hs : MC w q a m V bd cr) (hB : Bnd V bd cr) : Calls Tryz.prog 33 #[.pointer (some ⟨q, 0, none⟩)] w fun en w' => en = .returned (.tuple #[]) ∧ MC w' q a m (tickV V) (dn1 bd) (dn1 cr) ∧ Two q m w w' := by
  have HB := Lib.hid hB
  have HRI := Lib.hid hs.ri
  have HVL := Lib.hid hs.vl
  have HNE := Lib.hid hs.ne
  have HLT := Lib.hid (And.intro hs.lt hs.om.lt)
  have hWF := Lib.hid hs.om.wf
  have LT : Hid (∀ T, Calls Tryz.prog 75 #[.slice (some ⟨w.heap.size, 0, none⟩) 2 2] (w.alloc (.cells #[.pointer (some ⟨q, 5, none⟩), .pointer (some ⟨q, 6, none⟩)] T)).drew fun en w' => en = .returned (.tuple #[]) ∧ MC w' q a m V (dn1 bd) (dn1 cr) ∧ Two q m w w') := Lib.hid fun T => by
    have hb : Below w.heap.size w (w.alloc (.cells #[.pointer (some ⟨q, 5, none⟩), .pointer (some ⟨q, 6, none⟩)] T)).drew := ((Below.refl _ _).alloc (Nat.le_refl _) _).drew
    have M := hs.later hb
    refine (lessTwo_any w.heap.size q bd cr _ hB.b hB.c ?_ ?_ M.c5 (M.fr 5) M.c6 (M.fr 6) (by have := hs.lt; omega)).mono ?_
    · show (w.alloc _).cell? _ = _
      simp only [World.cell?, heap_alloc_new]; rfl
    · show (w.alloc _).cell? _ = _
      simp only [World.cell?, heap_alloc_new]; rfl
    · rintro e w' ⟨rfl, rfl⟩
      exact ⟨rfl, (M.s5 _).s6 _, (Two.of_below hb).trans ((Two.of_left (Only.set q _ 5 _)).trans (Two.of_left (Only.set q _ 6 _)))⟩
  go_enter Tryz.func33, Tryz.ntmps33
  go_upto_region 1 with fail
  go_cut [] (fun wx => Hid (MC wx q a m V (dn1 bd) (dn1 cr) ∧ Two q m w wx))
  case first =>
    go_region_with (go_at_call 75; with_reducible refine (LT.out _).mono ?_; rintro e w' ⟨rfl, hm, ht⟩)
    go_wp2_with fail
    go_meet
    exact Lib.hid ⟨hm, ht⟩
  case rest =>
    obtain ⟨m1, t1⟩ := hcut.out
    have c4 := m1.c4
    clear hcut LT hs hB
    go_wp2_with (first | (at_range; refine wpList_range_own _ rfl _ 162 rfl 22 166 u16_keyed Tryz.underlying162 rEl m V.length (vD V) rfl m1.om.own ?_; intro w0 hrg0 hg0 hs0) | go_in)
    go_frame
    go_loopw [2, 3] (fun _ _ wr => ∃ left cnt, TKs w wr q m wc.heap.size a V (dn1 bd) (dn1 cr) left cnt) (fun _ _ wr => wr.rangeLeft m wc.heap.size)
    case atStart =>
      refine ⟨Maps.has (vD V), Maps.size (vD V), ⟨(hg0.block q m1.lt (by simp)).trans m1.b, ?_, t1.trans ⟨hg0.os, hg0.tape, hg0.output, by omega, fun k hk _ _ => hg0.block k hk (by simp)⟩, t1.size⟩⟩
      rw [tk_start]; exact hrg0
    case round =>
      obtain ⟨left, cnt, T⟩ := hrel
      have HT := Lib.hid T
      go_wp2_with (first
        | (at_next; refine wpList_next_ranges _ rfl _ rfl 22 u16_keyed rEl encU mkO (fun key kl hk => by obtain ⟨x, hx, _⟩ := keyOf_u16 Tryz.underlying22 hk; exact ⟨x, hx⟩) rEl_shape m wc.heap.size V.length _ _ _ rfl HT.out.rg ?_ ?_)
        | go_in)
      · intro hc0 hl0
        have HE : Hid (MC wr q a m (tickV V) (dn1 bd) (dn1 cr) ∧ Two q m w wr) := Lib.hid (by
          have hrg := T.rg
          rw [tk_end hl0] at hrg
          have hw := hrg.owns
          refine ⟨⟨T.b, ⟨by have := own_tightR hw; exact this, ?_⟩, HNE.out, by unfold tickV; rw [List.length_map]; exact HVL.out, by unfold Rising; rw [tickV_keys]; exact HRI.out⟩, T.two⟩
          intro x hx
          obtain ⟨y, hy, rfl⟩ := List.mem_map.1 hx
          exact hWF.out y hy)
        clear T HT
        go_wp2
        go_end0
        exact ⟨rfl, HE.out⟩
      · intro x c kl ya yb w2 cnt2 hkey hlk hv hat hrg2 hlt hg2 hs2 hen
        obtain ⟨x', ex, rfl⟩ := keyOf_u16 Tryz.underlying22 hkey
        obtain rfl : x = x' := by simpa [encU] using ex
        obtain ⟨e, b⟩ := c
        have hf : vFind V x = some (e, if b = true then 1 else 0) := by
          have e1 : ya = vElD e (if b = true then 1 else 0) := by rw [show mkO ⟨e, b⟩ = .agg #[.int .i64 e, .bool b] from rfl, rEl_mk] at hv; injection hv with hv; injection hv with hv _; exact hv.symm
          rw [e1] at hat
          have h0 := hat (vElD 0 0)
          have h1 := hat (vElD 1 0)
          rw [vD_at, tk_find left hlk] at h0 h1
          cases hfx : vFind V x with
          | none => rw [hfx] at h0 h1; exact absurd (h0.trans h1.symm) vElD_ne
          | some y =>
            rw [hfx] at h0
            exact congrArg some (vElD_inj h0 (hWF.out _ (vFind_elem HRI.out hfx)) (by cases b; exact .inl rfl; exact .inr rfl))
        have hy := vFind_elem HRI.out hf
        have HE := Lib.hid (show 0 ≤ e ∧ e ≤ 1000 from HB.out.v _ hy)
        have HX := Lib.hid (show 0 ≤ x ∧ x < 65536 from HB.out.k _ hy)
        have HSTEP := Lib.hid (tk_step HRI.out hlk hf)
        have HIN : Hid (Maps.has (vD (V.map (tkOne left))) (.int .u16 x) = true) := Lib.hid (by rw [vD_has, tk_find left hlk, hf]; rfl)
        have HR2 := Lib.hid hrg2
        have HLE := Lib.hid (show cnt2 < wr.rangeLeft m wc.heap.size by rw [T.rg.left_eq]; exact hlt)
        have hb2 : w2.heap[q]? = some (.cells (mcA a m (dn1 bd) (dn1 cr)) 164 (0, 0)) := (hg2.block q (by have := T.two.size; have := HLT.out; omega) (by have := T.rl; have := HLT.out; intro h; injection h with h; omega)).trans T.b
        have HB2 := Lib.hid hb2
        have ht2 : Two q m w w2 := ⟨hg2.os.trans T.two.os, hg2.tape.trans T.two.tape, hg2.output.trans T.two.output, by rw [hs2]; exact T.two.size, fun k hk h1 h2 => (hg2.block k (by have := T.two.size; omega) (by have := T.rl; intro h; injection h with h; omega)).trans (T.two.block k hk h1 h2)⟩
        have HT2 := Lib.hid ht2
        have HRL := Lib.hid T.rl
        have HSZ := Lib.hid (And.intro T.two.size hs2)
        unfold mkO at hen
        clear hf hy hat hv hrg2 hlt hb2 ht2 T HT hg2 hkey hlk ex
        go_upto_region 5 with fail
        clear hen
        obtain ⟨wb, hwb⟩ : ∃ z, w2.alloc (.cells #[.int .i64 e, .bool b] 166) = z := ⟨_, rfl⟩
        rw [hwb]
        have LO : Hid (∀ T, Calls Tryz.prog 75 #[.slice (some ⟨wb.heap.size, 0, none⟩) 1 1] (wb.alloc (.cells #[.pointer (some ⟨wr.heap.size, 0, none⟩)] T)) fun en w' => en = .returned (.tuple #[]) ∧ w'.heap[wr.heap.size]? = some (.cells #[.int .i64 (dn1 e), .bool b] 166 (0, 0)) ∧ w2.grownBy w' none) := Lib.hid fun T => by
          have hwr : wr.heap.size < (w2.alloc (.cells #[.int .i64 e, .bool b] 166)).heap.size := by rw [World.size_alloc, hs2]; omega
          have hne : wb.heap.size ≠ wr.heap.size := by rw [← hwb]; omega
          have hbb : (wb.alloc (.cells #[.pointer (some ⟨wr.heap.size, 0, none⟩)] T)).heap[wr.heap.size]? = some (.cells #[.int .i64 e, .bool b] 166 (0, 0)) := by
            rw [((Below.refl wb.heap.size wb).alloc (Nat.le_refl _) (.cells #[.pointer (some ⟨wr.heap.size, 0, none⟩)] T)).block _ (by rw [← hwb]; exact hwr), ← hwb, ← hs2]
            exact heap_alloc_new _ _
          refine (lessOne_any wb.heap.size wr.heap.size 0 e _ HE.out ?_ ?_ ?_ hne).mono ?_
          · simp only [World.cell?, heap_alloc_new]; rfl
          · simp only [World.cell?, hbb]; rfl
          · simp only [World.frozen?, hbb]; rfl
          · rintro en w' ⟨rfl, rfl⟩
            refine ⟨rfl, by simp [World.setCell, Array.getElem?_modify, hbb], ?_⟩
            have g1 : w2.grownBy (w2.alloc (.cells #[.int .i64 e, .bool b] 166)) none := World.grownBy_alloc _ _ _
            rw [hwb] at g1
            have g2 := g1.andThen (World.grownBy_alloc wb (.cells #[.pointer (some ⟨wr.heap.size, 0, none⟩)] T) none) (by simp)
            exact g2.andThen (row' := some wr.heap.size) (Only.set wr.heap.size _ 0 _) (fun j hj => by injection hj with hj; exact .inl (by rw [hs2, ← hj]; exact Nat.le_refl _))
        clear hwb
        go_upto_region 6 with (go_at_call 75; with_reducible refine (LO.out _).mono ?_; rintro en w5 ⟨rfl, hbx, hg5⟩)
        have hb5 : w5.heap[q]? = some (.cells (mcA a m (dn1 bd) (dn1 cr)) 164 (0, 0)) := (hg5.block q (by have := HSZ.out; have := HLT.out; omega) (by simp)).trans HB2.out
        have ht5 : Two q m w w5 := HT2.out.trans ⟨hg5.os, hg5.tape, hg5.output, hg5.size, fun k hk _ _ => hg5.block k hk (by simp)⟩
        have hr5 := HR2.out.kept hg5 (by simp) (by simp)
        clear hg5 HR2 HB2 HT2 LO
        have c4' : w5.cell? ⟨q, 4, none⟩ = some (.map (some m)) := by simp [World.cell?, hb5, mcA]
        have o0 : w5.cell? ⟨wr.heap.size, 0, none⟩ = some (.int .i64 (dn1 e)) := by simp [World.cell?, hbx]
        have o1 : w5.cell? ⟨wr.heap.size, 1, none⟩ = some (.bool b) := by simp [World.cell?, hbx]
        obtain ⟨w6, hrun, hr6, hg6⟩ := ranges_put (hr5.kept (w' := w5.drew) (row := none) ⟨rfl, rfl, rfl, Nat.le_refl _, fun _ _ _ => rfl⟩ (by simp) (by simp)) u16_keyed Tryz.underlying162 (Nat.lt_of_le_of_lt HVL.out (by decide)) (key := encU x) (val := .agg #[.int .i64 (dn1 e), .bool b]) (keyOf_int_mk Tryz.underlying22 (u16_wf HX.out)) (rEl_mk (dn1 e) b) HIN.out
        have e1 : (vD (V.map (tkOne left))).put (.int .u16 x) (vElD (dn1 e) (if b = true then 1 else 0)) = vD (V.map (tkOne fun z => left z && !z.sameKey (.int .u16 x))) := by
          have := vD_put (V.map (tkOne left)) (x, dn1 e, if b = true then 1 else 0)
          simp only at this
          rw [this, HSTEP.out]
        rw [e1] at hr6
        have TN : Hid (TKs w w6 q m wc.heap.size a V (dn1 bd) (dn1 cr) (fun z => left z && !z.sameKey (.int .u16 x)) cnt2) := Lib.hid
          ⟨(hg6.block q (World.block_lt_of_cell? w5 _ c4') (by intro h; injection h with h; exact HNE.out h)).trans hb5, hr6, ht5.drew.trans (Two.of_right hg6), HRL.out⟩
        clear e1 hr6 hg6 hr5 ht5 hb5
        go_region
        go_wp2_with fail
        go_roundw
        case rel => exact ⟨_, _, TN.out⟩
        case measure => rw [TN.out.rg.left_eq]; exact HLE.out
end Go.Proofs.YtlkdfofpnmpidaaGreat
