/- mac: the level, the text. -/
import Derived.Test.YtknahemnmboidaaM0
set_option linter.unusedVariables false
namespace Go.Proofs.Ytknahemnmboidaa
open Go.RowKit

/-- A digit. -/
def hexd (n : Int) : UInt8 := ([48, 49, 50, 51, 52, 53, 54, 55, 56, 57, 97, 98, 99, 100, 101, 102] : List UInt8).getD (n % 16).toNat 0
/-- An address's text. -/
def txt6 (a b c d e f : Int) : List UInt8 :=
  [hexd (a / 16), hexd a, 58, hexd (b / 16), hexd b, 58, hexd (c / 16), hexd c, 58, hexd (d / 16), hexd d, 58, hexd (e / 16), hexd e, 58, hexd (f / 16), hexd f]

set_option maxRecDepth 100000 in
set_option maxHeartbeats 1000000 in
theorem digit_any (n : Int) (w : World) (h0 : 0 ≤ n) (h1 : n < 256) : Calls Try.prog 78 #[.int .u8 n] w fun en w' => en = .returned (.int .u8 ((hexd n).toNat : Int)) ∧ w = w' := by
  have e1 : bits .and .u8 n 15 = n % 16 := bits_mask .u8 8 (by decide) wraps_u8 4 (by decide) n h0 h1
  have hd : hexd n = ([48, 49, 50, 51, 52, 53, 54, 55, 56, 57, 97, 98, 99, 100, 101, 102] : List UInt8).getD (n % 16).toNat 0 := rfl
  have h : n % 16 = 0 ∨ n % 16 = 1 ∨ n % 16 = 2 ∨ n % 16 = 3 ∨ n % 16 = 4 ∨ n % 16 = 5 ∨ n % 16 = 6 ∨ n % 16 = 7 ∨ n % 16 = 8 ∨ n % 16 = 9 ∨ n % 16 = 10 ∨ n % 16 = 11 ∨ n % 16 = 12 ∨ n % 16 = 13 ∨ n % 16 = 14 ∨ n % 16 = 15 := by omega
  rcases h with h | h | h | h | h | h | h | h | h | h | h | h | h | h | h | h <;>
  · rw [h] at e1 hd
    rw [hd]
    clear hd h
    go_enter Try.func78, Try.ntmps78
    go_wp2
    go_ret
    exact ⟨rfl, rfl⟩

section
variable {w : World} {ops : Array Oper} {rest : List Oper} {o : Oper} {a : Act} {Q : Exit → Act → World → Prop}
/-- 'append(b, x, y)' of two bytes. -/
theorem wpList_append_two (hgd : o.guard = Option.none) (s x : Operand)
    (ho : o.op = .call { callee := .builtin .append, args := #[s, x], argTypes := #[41, 41] })
    (B : Nat) (v : Value) (l : List UInt8) (W : World) (p q : UInt8) (hw : w = W.alloc (.cells #[.int .u8 (p.toNat : Int), .int .u8 (q.toNat : Int)] 5)) (hs : a.eval s = v) (hown : Bys W B v l)
    (hx : a.eval x = .slice (some ⟨W.heap.size, 0, Option.none⟩) 2 2)
    (hsz : l.length + 2 ≤ 1099511627776) (hB : B ≤ W.heap.size)
    (h : ∀ v' w', Bys w' B v' (l ++ [p, q]) → Below B W w' → wpList Try.prog ops Q rest (a.put o.dst v') w') : wpList Try.prog ops Q (o :: rest) a w := by
  subst hw
  refine wpList_append_bys hgd s x ho B v l hs (hown.alloc _) ⟨W.heap.size, 0, Option.none⟩ 2 [p, q] 2 rfl hx (fun j hj => ?_) (by simpa using hsz) (by simp; omega) (fun v' w' h1 h2 => h v' w' h1 (((Below.refl _ _).alloc hB _).trans h2))
  have hj' : j < 2 := by simpa using hj
  obtain rfl | rfl : j = 0 ∨ j = 1 := by omega
  · simp [Addr.add, byteV]
  · simp [Addr.add, byteV]
end

/-- The level of an address. -/
def lvlB (a b c d e f : Int) : Bool := macEq a b c d e 0 1 128 194 0 0 0 && (decide (48 ≤ f) && decide (f < 64))
def lvlV (a b c d e f : Int) : Value := if lvlB a b c d e f then .tuple #[.int .u8 (f % 8), .bool true] else .tuple #[.int .u8 0, .bool false]
set_option maxRecDepth 100000 in
set_option maxHeartbeats 1000000 in
theorem level_any (a b c d e f : Int) (w : World) (h0 : 0 ≤ f) (h1 : f < 256) : Calls Try.prog 23 #[.agg #[.int .u8 a, .int .u8 b, .int .u8 c, .int .u8 d, .int .u8 e, .int .u8 f]] w fun en w' => en = .returned (lvlV a b c d e f) ∧ Below w.heap.size w w' := by
  have heq := run_neq_mac
  have hm : f.tmod 8 = f % 8 := Int.tmod_eq_emod_of_nonneg h0
  generalize hq : macEq a b c d e 0 1 128 194 0 0 0 = q
  have hl : lvlB a b c d e f = (q && (decide (48 ≤ f) && decide (f < 64))) := by unfold lvlB; rw [hq]
  have HL := Lib.hid hl
  clear hl
  go_enter Try.func23, Try.ntmps23
  go_wp2_with fail
  refine forget (fun W => W.cell? ⟨w.heap.size, 0, none⟩ = some (.int .u8 a) ∧ W.cell? ⟨w.heap.size, 1, none⟩ = some (.int .u8 b) ∧ W.cell? ⟨w.heap.size, 2, none⟩ = some (.int .u8 c) ∧ W.cell? ⟨w.heap.size, 3, none⟩ = some (.int .u8 d) ∧ W.cell? ⟨w.heap.size, 4, none⟩ = some (.int .u8 e) ∧ W.cell? ⟨w.heap.size, 5, none⟩ = some (.int .u8 0) ∧ Below w.heap.size w W)
    ⟨by simp [go_sem], by simp [go_sem], by simp [go_sem], by simp [go_sem], by simp [go_sem], by simp [go_sem], (Below.refl _ _).alloc (by simp) _⟩ ?_
  rintro W ⟨c0, c1, c2, c3, c4, c5, hB⟩
  have l0 := Later.cell c0
  have l1 := Later.cell c1
  have l2 := Later.cell c2
  have l3 := Later.cell c3
  have l4 := Later.cell c4
  have l5 := Later.cell c5
  clear c0 c1 c2 c3 c4 c5
  have HB := Lib.hid hB
  clear hB
  refine wp_region_later (by kernel_rfl) (by kernel_rfl) ?_
  cases q
  · repeat (go_big_quiet_step (first | (go_at_call 26; exact Calls.later (own_any _))))
    refine wpQuiet_nil ?_
    rintro _ ⟨K, rfl⟩
    go_wp2
    refine bodyPost_ret (v := (.tuple #[.int .u8 0, .bool false])) (by simp [results, Try.results23, go_sem]) rfl ⟨by unfold lvlV; rw [HL.out]; rfl, Later.bel HB.out K⟩
  · by_cases hlo : f < 48
    · have d1 : decide (f < 48) = true := by simpa using hlo
      have d2 : decide (48 ≤ f) = false := by simp; omega
      repeat (go_big_quiet_step (first | (go_at_call 26; exact Calls.later (own_any _))))
      refine wpQuiet_nil ?_
      rintro _ ⟨K, rfl⟩
      go_wp2
      refine bodyPost_ret (v := (.tuple #[.int .u8 0, .bool false])) (by simp [results, Try.results23, go_sem]) rfl ⟨by unfold lvlV; rw [HL.out, d2]; rfl, Later.bel HB.out K⟩
    · have d1 : decide (f < 48) = false := by simpa using hlo
      have d2 : decide (48 ≤ f) = true := by simp; omega
      by_cases hhi : 64 ≤ f
      · have d3 : decide (64 ≤ f) = true := by simpa using hhi
        have d4 : decide (f < 64) = false := by simp; omega
        repeat (go_big_quiet_step (first | (go_at_call 26; exact Calls.later (own_any _))))
        refine wpQuiet_nil ?_
        rintro _ ⟨K, rfl⟩
        go_wp2
        refine bodyPost_ret (v := (.tuple #[.int .u8 0, .bool false])) (by simp [results, Try.results23, go_sem]) rfl ⟨by unfold lvlV; rw [HL.out, d2, d4]; rfl, Later.bel HB.out K⟩
      · have d3 : decide (64 ≤ f) = false := by simpa using hhi
        have d4 : decide (f < 64) = true := by simp; omega
        repeat (go_big_quiet_step (first | (go_at_call 26; exact Calls.later (own_any _))))
        refine wpQuiet_nil ?_
        rintro _ ⟨K, rfl⟩
        go_wp2
        refine bodyPost_ret (v := (.tuple #[.int .u8 (f % 8), .bool true])) (by simp [results, Try.results23, go_sem]) rfl ⟨by unfold lvlV; rw [HL.out, d2, d4]; rfl, Later.bel HB.out K⟩

theorem run_index_mac0 (a b c d e f : Int) : ∀ W : World, (Instr.index 34 (.agg #[.int .u8 a, .int .u8 b, .int .u8 c, .int .u8 d, .int .u8 e, .int .u8 f]) (.int .i64 0)).run Try.prog W = .ok (.int .u8 a) W := by
  intro W
  kernel_rfl
theorem run_index_mac1 (a b c d e f : Int) : ∀ W : World, (Instr.index 34 (.agg #[.int .u8 a, .int .u8 b, .int .u8 c, .int .u8 d, .int .u8 e, .int .u8 f]) (.int .i64 1)).run Try.prog W = .ok (.int .u8 b) W := by
  intro W
  kernel_rfl
theorem run_index_mac2 (a b c d e f : Int) : ∀ W : World, (Instr.index 34 (.agg #[.int .u8 a, .int .u8 b, .int .u8 c, .int .u8 d, .int .u8 e, .int .u8 f]) (.int .i64 2)).run Try.prog W = .ok (.int .u8 c) W := by
  intro W
  kernel_rfl
theorem run_index_mac3 (a b c d e f : Int) : ∀ W : World, (Instr.index 34 (.agg #[.int .u8 a, .int .u8 b, .int .u8 c, .int .u8 d, .int .u8 e, .int .u8 f]) (.int .i64 3)).run Try.prog W = .ok (.int .u8 d) W := by
  intro W
  kernel_rfl
theorem run_index_mac4 (a b c d e f : Int) : ∀ W : World, (Instr.index 34 (.agg #[.int .u8 a, .int .u8 b, .int .u8 c, .int .u8 d, .int .u8 e, .int .u8 f]) (.int .i64 4)).run Try.prog W = .ok (.int .u8 e) W := by
  intro W
  kernel_rfl
theorem run_index_mac5 (a b c d e f : Int) : ∀ W : World, (Instr.index 34 (.agg #[.int .u8 a, .int .u8 b, .int .u8 c, .int .u8 d, .int .u8 e, .int .u8 f]) (.int .i64 5)).run Try.prog W = .ok (.int .u8 f) W := by
  intro W
  kernel_rfl
set_option maxRecDepth 100000 in
set_option maxHeartbeats 4000000 in
theorem text_of (a b c d e f : Int) (w : World) (ha : 0 ≤ a ∧ a < 256) (hb : 0 ≤ b ∧ b < 256) (hc : 0 ≤ c ∧ c < 256) (hd : 0 ≤ d ∧ d < 256) (he : 0 ≤ e ∧ e < 256) (hf : 0 ≤ f ∧ f < 256) : Calls Try.prog 62 #[.agg #[.int .u8 a, .int .u8 b, .int .u8 c, .int .u8 d, .int .u8 e, .int .u8 f]] w fun en w' => en = .returned (.string (bs (txt6 a b c d e f))) ∧ Below w.heap.size w w' := by
  have hx0 := run_index_mac0 a b c d e f
  have hx1 := run_index_mac1 a b c d e f
  have hx2 := run_index_mac2 a b c d e f
  have hx3 := run_index_mac3 a b c d e f
  have hx4 := run_index_mac4 a b c d e f
  have hx5 := run_index_mac5 a b c d e f
  go_enter Try.func62, Try.ntmps62
  go_wp2_with fail
  refine forget (fun W => Below w.heap.size w W) ((Below.refl _ _).alloc (by simp) _) ?_
  intro W hB
  have hsz := hB.size
  go_loopw [4, 8] (fun v i wr => ∃ k : Nat, k ≤ 6 ∧ i = .int .i64 k ∧ Bys wr w.heap.size v ((txt6 a b c d e f).take (3 * k - 1)) ∧ Below w.heap.size w wr) (fun _ i _ => 6 - (intOf i).toNat)
  case atStart => exact ⟨0, by omega, rfl, Bys.none _ _, hB⟩
  case round =>
    obtain ⟨k, hk, rfl, hown, hb1⟩ := hrel
    by_cases hlt : k < 6
    · have hz := hb1.size
      have hk6 : k = 0 ∨ k = 1 ∨ k = 2 ∨ k = 3 ∨ k = 4 ∨ k = 5 := by omega
      rcases hk6 with rfl | rfl | rfl | rfl | rfl | rfl
      · go_wp2_with (first | (at_builtin; refine wpList_append_two rfl (.tmp 17) (.tmp 25) rfl w.heap.size _ _ wr (hexd (a / 16)) (hexd a) rfl rfl hown rfl ?_ ?_ ?_) | (go_at_call 78; refine (digit_any _ _ (by omega) (by omega)).mono ?_; rintro _ _ ⟨rfl, rfl⟩))
        · simp [txt6]
        · omega
        · intro v' w1 hown' hb'
          have hb2 := Lib.hid (hb1.trans (hb'.mono (by omega)))
          have hown2 := Lib.hid hown'
          clear hb1 hb' hown hown' hz
          go_wp2
          go_roundw
          case rel => exact ⟨1, by omega, by go_num, by simpa [txt6] using hown2.out, hb2.out⟩
          case measure => simp [intOf]
      · go_wp2_with (at_builtin; refine wpList_append_byte rfl (.tmp 14) (.tmp 15) rfl w.heap.size _ _ wr 58 rfl rfl hown rfl (by omega) (by omega) ?_ ?_ ?_)
        · simp [txt6]
        · omega
        · intro v1 w1 hown1 hb'
          have hb2 := hb1.trans (hb'.mono (by omega))
          have hz1 := hb2.size
          clear hb1 hb' hown
          go_wp2_with (first | (at_builtin; refine wpList_append_two rfl (.tmp 17) (.tmp 25) rfl w.heap.size _ _ w1 (hexd (b / 16)) (hexd b) rfl rfl hown1 rfl ?_ ?_ ?_) | (go_at_call 78; refine (digit_any _ _ (by omega) (by omega)).mono ?_; rintro _ _ ⟨rfl, rfl⟩))
          · simp [txt6]
          · omega
          · intro v' w2 hown' hb'
            have hb3 := Lib.hid (hb2.trans (hb'.mono (by omega)))
            have hown2 := Lib.hid hown'
            clear hb2 hb' hown1 hown' hz hz1
            go_wp2
            go_roundw
            case rel => exact ⟨2, by omega, by go_num, by simpa [txt6] using hown2.out, hb3.out⟩
            case measure => simp [intOf]
      · go_wp2_with (at_builtin; refine wpList_append_byte rfl (.tmp 14) (.tmp 15) rfl w.heap.size _ _ wr 58 rfl rfl hown rfl (by omega) (by omega) ?_ ?_ ?_)
        · simp [txt6]
        · omega
        · intro v1 w1 hown1 hb'
          have hb2 := hb1.trans (hb'.mono (by omega))
          have hz1 := hb2.size
          clear hb1 hb' hown
          go_wp2_with (first | (at_builtin; refine wpList_append_two rfl (.tmp 17) (.tmp 25) rfl w.heap.size _ _ w1 (hexd (c / 16)) (hexd c) rfl rfl hown1 rfl ?_ ?_ ?_) | (go_at_call 78; refine (digit_any _ _ (by omega) (by omega)).mono ?_; rintro _ _ ⟨rfl, rfl⟩))
          · simp [txt6]
          · omega
          · intro v' w2 hown' hb'
            have hb3 := Lib.hid (hb2.trans (hb'.mono (by omega)))
            have hown2 := Lib.hid hown'
            clear hb2 hb' hown1 hown' hz hz1
            go_wp2
            go_roundw
            case rel => exact ⟨3, by omega, by go_num, by simpa [txt6] using hown2.out, hb3.out⟩
            case measure => simp [intOf]
      · go_wp2_with (at_builtin; refine wpList_append_byte rfl (.tmp 14) (.tmp 15) rfl w.heap.size _ _ wr 58 rfl rfl hown rfl (by omega) (by omega) ?_ ?_ ?_)
        · simp [txt6]
        · omega
        · intro v1 w1 hown1 hb'
          have hb2 := hb1.trans (hb'.mono (by omega))
          have hz1 := hb2.size
          clear hb1 hb' hown
          go_wp2_with (first | (at_builtin; refine wpList_append_two rfl (.tmp 17) (.tmp 25) rfl w.heap.size _ _ w1 (hexd (d / 16)) (hexd d) rfl rfl hown1 rfl ?_ ?_ ?_) | (go_at_call 78; refine (digit_any _ _ (by omega) (by omega)).mono ?_; rintro _ _ ⟨rfl, rfl⟩))
          · simp [txt6]
          · omega
          · intro v' w2 hown' hb'
            have hb3 := Lib.hid (hb2.trans (hb'.mono (by omega)))
            have hown2 := Lib.hid hown'
            clear hb2 hb' hown1 hown' hz hz1
            go_wp2
            go_roundw
            case rel => exact ⟨4, by omega, by go_num, by simpa [txt6] using hown2.out, hb3.out⟩
            case measure => simp [intOf]
      · go_wp2_with (at_builtin; refine wpList_append_byte rfl (.tmp 14) (.tmp 15) rfl w.heap.size _ _ wr 58 rfl rfl hown rfl (by omega) (by omega) ?_ ?_ ?_)
        · simp [txt6]
        · omega
        · intro v1 w1 hown1 hb'
          have hb2 := hb1.trans (hb'.mono (by omega))
          have hz1 := hb2.size
          clear hb1 hb' hown
          go_wp2_with (first | (at_builtin; refine wpList_append_two rfl (.tmp 17) (.tmp 25) rfl w.heap.size _ _ w1 (hexd (e / 16)) (hexd e) rfl rfl hown1 rfl ?_ ?_ ?_) | (go_at_call 78; refine (digit_any _ _ (by omega) (by omega)).mono ?_; rintro _ _ ⟨rfl, rfl⟩))
          · simp [txt6]
          · omega
          · intro v' w2 hown' hb'
            have hb3 := Lib.hid (hb2.trans (hb'.mono (by omega)))
            have hown2 := Lib.hid hown'
            clear hb2 hb' hown1 hown' hz hz1
            go_wp2
            go_roundw
            case rel => exact ⟨5, by omega, by go_num, by simpa [txt6] using hown2.out, hb3.out⟩
            case measure => simp [intOf]
      · go_wp2_with (at_builtin; refine wpList_append_byte rfl (.tmp 14) (.tmp 15) rfl w.heap.size _ _ wr 58 rfl rfl hown rfl (by omega) (by omega) ?_ ?_ ?_)
        · simp [txt6]
        · omega
        · intro v1 w1 hown1 hb'
          have hb2 := hb1.trans (hb'.mono (by omega))
          have hz1 := hb2.size
          clear hb1 hb' hown
          go_wp2_with (first | (at_builtin; refine wpList_append_two rfl (.tmp 17) (.tmp 25) rfl w.heap.size _ _ w1 (hexd (f / 16)) (hexd f) rfl rfl hown1 rfl ?_ ?_ ?_) | (go_at_call 78; refine (digit_any _ _ (by omega) (by omega)).mono ?_; rintro _ _ ⟨rfl, rfl⟩))
          · simp [txt6]
          · omega
          · intro v' w2 hown' hb'
            have hb3 := Lib.hid (hb2.trans (hb'.mono (by omega)))
            have hown2 := Lib.hid hown'
            clear hb2 hb' hown1 hown' hz hz1
            go_wp2
            go_roundw
            case rel => exact ⟨6, by omega, by go_num, by simpa [txt6] using hown2.out, hb3.out⟩
            case measure => simp [intOf]
    · obtain rfl : k = 6 := by omega
      have hs := run_string_bys hown
      go_wp2
      go_ret
      exact ⟨rfl, hb1⟩
end Go.Proofs.Ytknahemnmboidaa
