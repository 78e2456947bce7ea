/- ltm: a reply's port, put. -/
import Derived.Test.YtcbbocdmmehphaaG1
import Derived.Test.YtcbbocdmmehphaaGE
set_option linter.unusedVariables false
namespace Go.Proofs.Ytcbbocdmmehphaa
open Go.RowKit

theorem part_u8G (cs : Array Value) (k : Nat) (w : World) : (part 5 cs k).run Try.prog w = match cs[k]? with | some v => .ok v w | none => (stuck "part: no such cell" : Sem Value).run Try.prog w := by
  have hi : (isAgg 5).run Try.prog w = .ok false w := by kernel_rfl
  cases h : cs[k]? <;> simp [part, hi, h]
theorem equalIn_macG (d : Nat) (m n : Mc) (w : World) : (Op.equalIn (d + 2) 46 (.agg #[.int .u8 m.a, .int .u8 m.b, .int .u8 m.c, .int .u8 m.d, .int .u8 m.e, .int .u8 m.f]) (.agg #[.int .u8 n.a, .int .u8 n.b, .int .u8 n.c, .int .u8 n.d, .int .u8 n.e, .int .u8 n.f])).run Try.prog w = .ok (decide (m = n)) w := by
  have hs : (sizeOf 5).run Try.prog w = .ok 1 w := by kernel_rfl
  have he : ∀ x y : Int, (Op.equalIn (d + 1) 5 (.int .u8 x) (.int .u8 y)).run Try.prog w = .ok (x == y) w := fun x y => run_equalIn_int w d 5 .u8 .u8 x y Try.underlying5
  rw [Op.equalIn]
  simp only [Sem.run_bind, run_underlying Try.underlying46, Result.andThen_ok, hs]
  rw [Std.Legacy.Range.forIn_eq_forIn_range']
  rw [show ({ start := 0, stop := 6, step := 1, step_pos := by decide } : Std.Legacy.Range).size = 6 from rfl]
  rw [show List.range' 0 6 1 = [0, 1, 2, 3, 4, 5] from by decide]
  simp [part_u8G, he, Sem.run_ite]
  cases m with | mk a b c e f g => cases n with | mk a' b' c' e' f' g' =>
  simp only [Mc.mk.injEq]
  by_cases h1 : a = a' <;> by_cases h2 : b = b' <;> by_cases h3 : c = c' <;> by_cases h4 : e = e' <;> by_cases h5 : f = f' <;> by_cases h6 : g = g' <;> simp [h1, h2, h3, h4, h5, h6]
theorem neq_macG (m n : Mc) (w : World) : (binOp .neq 46 (.agg #[.int .u8 m.a, .int .u8 m.b, .int .u8 m.c, .int .u8 m.d, .int .u8 m.e, .int .u8 m.f]) (.agg #[.int .u8 n.a, .int .u8 n.b, .int .u8 n.c, .int .u8 n.d, .int .u8 n.e, .int .u8 n.f])).run Try.prog w = .ok (.bool (!decide (m = n))) w := by
  simp only [binOp]
  simp [Op.equal, Op.maxDepth, equalIn_macG 9998]
/-- A port's things. -/
def prtL (k : UInt8) (m : Mc) : List Th := if m = mc0 then [] else [(k, 1 :: m.by)]
set_option maxRecDepth 100000 in
set_option maxHeartbeats 8000000 in
theorem port_any (k : UInt8) (K : Int) (hk : (k.toNat : Int) = K) (m : Mc) (hm : m.Ok) (q : Nat) (a b c : Int) (f : List UInt8) (v : Value) (L : List Th) (w : World) (hp : PB 32 w q a b c f v) (ht : TlT w (q + 1) v L) (hL : L.length ≤ 100) :
    Calls Try.prog 77 #[.int .u8 K, .agg #[.int .u8 m.a, .int .u8 m.b, .int .u8 m.c, .int .u8 m.d, .int .u8 m.e, .int .u8 m.f], .pointer (some ⟨q, 0, none⟩)] w fun en w' => en = .returned (.tuple #[]) ∧ ∃ v', PB 32 w' q a b c f v' ∧ TlT w' (q + 1) v' (L ++ prtL k m) ∧ Below q w w' := by
  have hqlt := hp.lt
  have HP := Lib.hid hp
  have HT := Lib.hid ht
  have HM := Lib.hid hm
  clear hp ht hm
  go_enter Try.func77, Try.ntmps77
  go_upto_region 1 with fail
  have bb : Below w.heap.size w (w.alloc (.cells #[.int .u8 m.a, .int .u8 m.b, .int .u8 m.c, .int .u8 m.d, .int .u8 m.e, .int .u8 m.f] 46)) := (Below.refl _ _).alloc (Nat.le_refl _) _
  have gm := GB.new 46 w #[.int .u8 m.a, .int .u8 m.b, .int .u8 m.c, .int .u8 m.d, .int .u8 m.e, .int .u8 m.f]
  obtain ⟨u, hu⟩ : ∃ u, w.heap.size = u := ⟨_, rfl⟩
  obtain ⟨w0, hw0⟩ : ∃ k, w.alloc (.cells #[.int .u8 m.a, .int .u8 m.b, .int .u8 m.c, .int .u8 m.d, .int .u8 m.e, .int .u8 m.f] 46) = k := ⟨_, rfl⟩
  rw [hw0] at bb gm ⊢
  have HP0 := Lib.hid (HP.out.later bb)
  have HT0 := Lib.hid (HT.out.later bb)
  have HB0 := Lib.hid (bb.mono (show q ≤ w.heap.size by omega))
  have HS0 := Lib.hid (show q < u by omega)
  have HU0 := Lib.hid (show u < w0.heap.size by have := gm.lt; omega)
  rw [hu] at gm ⊢
  have GM := Lib.hid gm
  have c0 : w0.cell? ⟨u, 0, none⟩ = some (.int .u8 m.a) := gm.c 0 _ rfl
  have c1 : w0.cell? ⟨u, 1, none⟩ = some (.int .u8 m.b) := gm.c 1 _ rfl
  have c2 : w0.cell? ⟨u, 2, none⟩ = some (.int .u8 m.c) := gm.c 2 _ rfl
  have c3 : w0.cell? ⟨u, 3, none⟩ = some (.int .u8 m.d) := gm.c 3 _ rfl
  have c4 : w0.cell? ⟨u, 4, none⟩ = some (.int .u8 m.e) := gm.c 4 _ rfl
  have c5 : w0.cell? ⟨u, 5, none⟩ = some (.int .u8 m.f) := gm.c 5 _ rfl
  clear bb gm hu hw0 HP HT hqlt
  by_cases h0 : m = mc0
  · have d0 : decide (m = mc0) = true := decide_eq_true h0
    have hpr : prtL k m = [] := by unfold prtL; rw [if_pos h0]
    have HPR := Lib.hid hpr
    have hne : ∀ W : World, (binOp .neq 46 (.agg #[.int .u8 m.a, .int .u8 m.b, .int .u8 m.c, .int .u8 m.d, .int .u8 m.e, .int .u8 m.f]) (.agg #[.int .u8 0, .int .u8 0, .int .u8 0, .int .u8 0, .int .u8 0, .int .u8 0])).run Try.prog W = .ok (.bool false) W := fun W => (neq_macG m mc0 W).trans (by rw [d0]; rfl)
    clear h0 d0 hpr
    go_wp2_with fail
    go_end0
    exact ⟨rfl, v, HP0.out, by rw [HPR.out, List.append_nil]; exact HT0.out, HB0.out⟩
  have d0 : decide (m = mc0) = false := decide_eq_false h0
  have hpr : prtL k m = [(k, 1 :: m.by)] := by unfold prtL; rw [if_neg h0]
  have HPR : Hid (prtL k m = [(k, 1 :: m.by)]) := Lib.hid hpr
  have hne : ∀ W : World, (binOp .neq 46 (.agg #[.int .u8 m.a, .int .u8 m.b, .int .u8 m.c, .int .u8 m.d, .int .u8 m.e, .int .u8 m.f]) (.agg #[.int .u8 0, .int .u8 0, .int .u8 0, .int .u8 0, .int .u8 0, .int .u8 0])).run Try.prog W = .ok (.bool true) W := fun W => (neq_macG m mc0 W).trans (by rw [d0]; rfl)
  clear h0 d0 hpr
  go_upto_region 2 with fail
  have SM : Hid (∀ W, Below w0.heap.size w0 W → Src W (.slice (some ⟨u, 0, none⟩) 6 6) m.by) := fun W h => by
    have g := GM.out.later h
    exact srcM (g.c 0 _ rfl) (g.c 1 _ rfl) (g.c 2 _ rfl) (g.c 3 _ rfl) (g.c 4 _ rfl) (g.c 5 _ rfl) HM.out
  have BL : Hid (∀ W : World, Bys (W.alloc (.cells #[.int .u8 1] 5)) W.heap.size (.slice (some ⟨W.heap.size, 0, none⟩) 1 1) [1]) := fun W => Bys.lit W W.heap.size #[.int .u8 1] [1] (Nat.le_refl _) rfl (by simp)
  clear c0 c1 c2 c3 c4 c5 hne
  have p4 : w0.drew.cell? ⟨q, 4, none⟩ = some v := HP0.out.c4
  have p4a : (w0.alloc (.cells #[.int .u8 1] 5)).drew.cell? ⟨q, 4, none⟩ = some v := (HP0.out.later ((Below.refl _ _).alloc (Nat.le_refl _) _)).c4
  have L0 := Lib.hid (Below.refl w0.heap.size w0)
  have Ld := Lib.hid L0.out.drew
  have La := Lib.hid ((L0.out.alloc (Nat.le_refl _) (.cells #[.int .u8 1] 5)).drew)
  have Lc := Lib.hid (Ld.out.alloc (Nat.le_refl _) (.cells #[.int .u8 1] 5))
  obtain ⟨X, hX⟩ : ∃ X, 1 :: m.by = X := ⟨_, rfl⟩
  have HX := Lib.hid hX
  rw [hX] at HPR
  clear hX
  have TL : Hid (∀ W : World, Tls (W.alloc (.cells #[.int .u8 K, .string (bs (X))] 64)) (.slice (some ⟨W.heap.size, 0, none⟩) 1 1) [(k, X)]) := fun W => by
    rw [← hk]; exact (TlT.lit W 0 (k, X) (Nat.zero_le _)).tls
  have HQ0 := Lib.hid (show q + 1 ≤ w0.heap.size by have := HP0.out.lt; omega)
  go_region_law (first
    | (refine step_append_src rfl (.tmp 11) (.tmp 12) rfl w0.heap.size _ [1] (by rfl) (by first | exact BL.out w0.drew | exact (BL.out w0).later (Below.refl _ _).drew) _ m.by (by rfl) (by first | exact SM.out _ Lc.out | exact SM.out _ La.out) (by simp [Mc.by_len]) (by first | exact Lc.out.size | exact La.out.size) ?_; intro v1 w3 hown1 hb3; have hcv : (convert 124 9 v1).run Try.prog w3 = .ok (.string (bs X)) w3 := (by rw [← HX.out]; exact run_string_bys hown1); (first | (have L3 := Lib.hid (Lc.out.trans hb3)) | (have L3 := Lib.hid (La.out.trans hb3))); have P3 := Lib.hid (HP0.out.later L3.out); have m3 := P3.out.c4; have m3a := (P3.out.later ((Below.refl w3.heap.size w3).alloc (Nat.le_refl _) (.cells #[.int .u8 K, .string (bs (X))] 64))).c4)
    | (refine step_append_T rfl (.tmp 9) (.tmp 16) rfl (q + 1) _ L (by rfl) (by exact HT0.out.later (L3.out.alloc L3.out.size _)) _ [(k, X)] (by rfl) (by exact TL.out _) (by simp; omega) (by exact Nat.le_trans HQ0.out (L3.out.alloc L3.out.size _).size) ?_; intro v2 w5 hown2 hb5; obtain ⟨a5, k5, hv5, _⟩ := hown2.tls.shape; obtain ⟨n5, hn5⟩ : ∃ n, (L ++ [(k, X)]).length = n := ⟨_, rfl⟩; rw [hn5] at hv5; subst hv5; clear hn5; have P5 := Lib.hid ((HP0.out.later (L3.out.alloc L3.out.size _)).below (Nat.lt_succ_self q) hb5); have m4 := P5.out.c4; have f4 := P5.out.fr 4))
  all_goals go_wp2_with fail
  all_goals
    go_end0
    refine ⟨rfl, _, P5.out.setv4G _, ?_, ?_⟩
    · rw [HPR.out]; exact hown2.set (Nat.lt_succ_self q) _
    · exact below_set ((HB0.out.trans ((L3.out.alloc L3.out.size _).mono (by have := HQ0.out; omega))).trans (hb5.mono (Nat.le_succ q))) (Nat.le_refl q) _
end Go.Proofs.Ytcbbocdmmehphaa
