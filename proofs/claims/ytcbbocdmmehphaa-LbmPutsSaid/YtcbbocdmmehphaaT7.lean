/- tlv: the reference's Take, walked. -/
import Derived.Test.YtcbbocdmmehphaaT6
import Derived.Lib.SmallJoins
set_option linter.unusedVariables false
namespace Go.Proofs.Ytcbbocdmmehphaa
open Go.RowKit

theorem takeT_len : ∀ (n : Nat) (s : List UInt8), s.length ≤ n → (takeT s).1.length ≤ s.length
  | _, [], _ => by rw [takeT_nil]; simp
  | n + 1, c :: s, hn => by
    have ih := takeT_len n (s.drop (2 + ((s.getD 0 0).toNat * 256 + (s.getD 1 0).toNat))) (by simp at hn ⊢; omega)
    simp at ih
    rw [takeT]
    split
    · simp
    · split
      · simp
      · split
        · simp
        · split
          · simp; omega
          · simp
theorem beq_u8 (c : UInt8) (x : Int) (h : (c.toNat : Int) = x) : (c = 0) ↔ x = 0 := by
  constructor
  · rintro rfl; rw [← h]; rfl
  · intro e; apply UInt8.toNat_inj.1; show _ = 0; omega

set_option maxRecDepth 100000 in
set_option maxHeartbeats 8000000 in
theorem refTake11_any : ∀ (n : Nat) (s : List UInt8) (w : World), s.length ≤ n → s.length ≤ 100000 → Calls Try.prog 70 #[.string (bs s)] w fun en w' =>
    ∃ v', en = .returned (.tuple #[v', .string (bs (takeT s).2.1), .int .i64 (takeT s).2.2]) ∧ TlR w' w.heap.size v' (takeT s).1 ∧ Below w.heap.size w w' := by
  intro n
  induction n with
  | zero =>
    intro s w hn hl
    have h0 : s = [] := List.eq_nil_of_length_eq_zero (by omega)
    subst h0
    rw [takeT_nil]
    have e0 : (bs []).toList.isEmpty = true := by rw [bs_tl]; rfl
    go_enter Try.func70, Try.ntmps70
    go_wp2
    refine bodyPost_ret (v := .tuple #[.slice none 0 0, .string (bs []), .int .i64 3]) (by simp [results, Try.results70, go_sem]; rfl) rfl ⟨_, rfl, TlR.none _ _, Below.refl _ _⟩
  | succ n ih =>
    have IH := Lib.hid ih
    clear ih
    intro s w hn hl
    match s with
    | [] =>
      rw [takeT_nil]
      have e0 : (bs []).toList.isEmpty = true := by rw [bs_tl]; rfl
      go_enter Try.func70, Try.ntmps70
      go_wp2
      refine bodyPost_ret (v := .tuple #[.slice none 0 0, .string (bs []), .int .i64 3]) (by simp [results, Try.results70, go_sem]; rfl) rfl ⟨_, rfl, TlR.none _ _, Below.refl _ _⟩
    | c :: r =>
      obtain ⟨S, hS⟩ : ∃ S, c :: r = S := ⟨_, rfl⟩
      have e0 : (bs S).toList.isEmpty = false := by rw [bs_tl, ← hS]; rfl
      have hsz := bs_size S
      have hSl : S.length = r.length + 1 := by rw [← hS]; rfl
      obtain ⟨x, hx⟩ : ∃ x : Int, (c.toNat : Int) = x := ⟨_, rfl⟩
      have gx : ∀ h' : 0 < (bs S).size, (((bs S)[0]'h').toNat : Int) = x := fun h' => by
        subst hS; rw [bs_get _ 0 h' (by simp), ← hx]; rfl
      have hc0 := beq_u8 c x hx
      obtain ⟨R, hR⟩ : ∃ R, takeT S = R := ⟨_, rfl⟩
      rw [hS, hR]
      have HR := Lib.hid hR
      have HS := Lib.hid hS
      have HX := Lib.hid hx
      have HC0 := Lib.hid hc0
      have hS1 : 1 ≤ S.length := by omega
      have hS2 : S.length ≤ 100000 := by rw [← hS]; exact hl
      have hcut1 : (bs S).extract 1 S.length = bs r := by rw [bs_drop _ _ _ (Nat.le_refl _), ← hS]; rfl
      have HSL := Lib.hid hSl
      have hrn : r.length ≤ n := by simpa using hn
      clear hR hS hx hc0 hSl hn hl
      by_cases h0 : x = 0
      · have d0 : (x == 0) = true := by simpa using h0
        have hRR : R = ([], r, 0) := by rw [← HR.out, ← HS.out, (HC0.out).2 h0]; exact takeT_zero r
        have HRR := Lib.hid hRR
        clear h0 hRR
        go_enter Try.func70, Try.ntmps70
        go_wp2_with fail
        refine wp_region_later (by kernel_rfl) (by kernel_rfl) ?_
        repeat (go_big_quiet_step (fail))
        refine wpQuiet_nil ?_
        rintro _ ⟨K, rfl⟩
        have HK := Lib.hid (Later.bel (Below.refl w.heap.size w) K)
        go_wp2
        refine bodyPost_ret (v := .tuple #[.slice none 0 0, .string (bs r), .int .i64 0]) (by simp [results, Try.results70, go_sem]) rfl ⟨_, by rw [HRR.out], by rw [HRR.out]; exact TlR.none _ _, HK.out⟩
      have d0 : (x == 0) = false := by simpa using h0
      have hcn : c ≠ 0 := fun h => h0 ((HC0.out).1 h)
      clear h0
      by_cases h3 : S.length < 3
      · have d3 : decide ((S.length : Int) < 3) = true := decide_eq_true (by omega)
        have hRR : R = ([], [], 3) := by rw [← HR.out, ← HS.out]; exact takeT_short1 c r hcn (by have := HSL.out; omega)
        have HRR := Lib.hid hRR
        clear hRR hcn h3
        go_enter Try.func70, Try.ntmps70
        go_wp2
        refine bodyPost_ret (v := .tuple #[.slice none 0 0, .string (bs []), .int .i64 3]) (by simp [results, Try.results70, go_sem]; rfl) rfl ⟨_, by rw [HRR.out], by rw [HRR.out]; exact TlR.none _ _, Below.refl _ _⟩
      have d3 : decide ((S.length : Int) < 3) = false := decide_eq_false (by omega)
      obtain ⟨a, b, t, hr⟩ : ∃ a b t, r = a :: b :: t := by
        match r, HSL.out with
        | [], h => simp at h; omega
        | [_], h => simp at h; omega
        | a :: b :: t, _ => exact ⟨a, b, t, rfl⟩
      have hSt : S.length = t.length + 3 := by rw [HSL.out, hr]; simp
      obtain ⟨y, hy⟩ : ∃ y : Nat, a.toNat = y := ⟨_, rfl⟩
      obtain ⟨z, hz⟩ : ∃ z : Nat, b.toNat = z := ⟨_, rfl⟩
      have hy1 : y < 256 := by rw [← hy]; exact a.toNat_lt
      have hz1 : z < 256 := by rw [← hz]; exact b.toNat_lt
      have gy : ∀ h' : 1 < (bs S).size, (((bs S)[1]'h').toNat : Int) = (y : Int) := fun h' => by
        rw [bs_get _ 1 h' (by omega), ← hy]; have h := HS.out; rw [hr] at h; subst h; rfl
      have gz : ∀ h' : 2 < (bs S).size, (((bs S)[2]'h').toNat : Int) = (z : Int) := fun h' => by
        rw [bs_get _ 2 h' (by omega), ← hz]; have h := HS.out; rw [hr] at h; subst h; rfl
      have wy : IntKind.i64.wrap (y : Int) = (y : Int) := IntWalk.i64_in _ (by omega)
      have wz : IntKind.i64.wrap (z : Int) = (z : Int) := IntWalk.i64_in _ (by omega)
      obtain ⟨N, hN⟩ : ∃ N : Nat, y * 256 + z = N := ⟨_, rfl⟩
      have eN : (y : Int) * 256 + (z : Int) = (N : Int) := by omega
      have hN1 : N < 65536 := by omega
      by_cases h4 : S.length < 3 + N
      · have d4 : decide ((S.length : Int) < 3 + (N : Int)) = true := decide_eq_true (by omega)
        have hRR : R = ([], [], 3) := by rw [← HR.out, ← HS.out, hr]; exact takeT_short2 c a b t hcn (by rw [hy, hz]; omega)
        have HRR := Lib.hid hRR
        have S3 : 3 ≤ S.length := by omega
        clear hRR hcn h3 h4 hr hSt hN hy hz
        go_enter Try.func70, Try.ntmps70
        go_wp2_with fail
        refine wp_region_later (by kernel_rfl) (by kernel_rfl) ?_
        repeat (go_big_quiet_step (fail))
        refine wpQuiet_nil ?_
        rintro _ ⟨K, rfl⟩
        have HK := Lib.hid (Later.bel (Below.refl w.heap.size w) K)
        go_wp2
        refine bodyPost_ret (v := .tuple #[.slice none 0 0, .string (bs []), .int .i64 3]) (by simp [results, Try.results70, go_sem]; rfl) rfl ⟨_, by rw [HRR.out], by rw [HRR.out]; exact TlR.none _ _, HK.out⟩
      have d4 : decide ((S.length : Int) < 3 + (N : Int)) = false := decide_eq_false (by omega)
      obtain ⟨t1, t2, ht, ht1⟩ : ∃ t1 t2, t = t1 ++ t2 ∧ t1.length = N := ⟨t.take N, t.drop N, (List.take_append_drop N t).symm, by simp; omega⟩
      have hT := takeT_cons c 0 t1 t2 a b hcn (by rw [hy, hz, hN, ht1])
      have hcS : c :: a :: b :: (t1 ++ t2) = S := by rw [← ht, ← hr]; exact HS.out
      rw [hcS, HR.out] at hT
      have hcutA : (bs S).extract (3 + N) S.length = bs t2 := by
        rw [bs_drop _ _ _ (Nat.le_refl _), ← hcS]
        congr 1
        rw [Nat.add_comm 3]; exact List.drop_left' (l₁ := t1) ht1
      have hcutB : (bs S).extract 3 (3 + N) = bs t1 := by
        rw [bs_extract, ← hcS]
        congr 1
        rw [show 3 + N - 3 = N by omega]; exact List.take_left' (l₁ := t1) ht1
      have C := Lib.hid (fun w => IH.out t2 w (by have := hrn; rw [hr, ht] at this; simp at this; omega) (by have := hS2; rw [hSt, ht] at this; simp at this; omega))
      obtain ⟨l2, s2, e2, hR2⟩ : ∃ l2 s2 e2, takeT t2 = (l2, s2, e2) := ⟨_, _, _, rfl⟩
      have hE2 : e2 ≠ 0 → e2 = 3 := fun h => by
        have := takeT_err _ t2 (Nat.le_refl _) (by rw [hR2]; exact h)
        rw [hR2] at this; simpa using congrArg (fun q => q.2.2) this
      have hl2 : l2.length ≤ 100000 := by
        have h1 := takeT_len _ t2 (Nat.le_refl _)
        rw [hR2] at h1
        have h2 := hS2; rw [hSt, ht] at h2; simp at h1 h2; omega
      rw [hR2] at hT C
      have HT := Lib.hid hT
      have hN2 : 3 + N ≤ S.length := by omega
      have HE2 := Lib.hid hE2
      clear hcn h3 h4 hr hSt hN hy hz ht ht1 hT hcS hR2 hE2
      go_enter Try.func70, Try.ntmps70
      go_wp2_with fail
      refine wp_region_later (by kernel_rfl) (by kernel_rfl) ?_
      repeat (go_big_quiet_step (fail))
      refine wpQuiet_nil ?_
      rintro _ ⟨K, rfl⟩
      go_wp2_with fail
      rw [hcutA]
      with_reducible refine (C.out _).mono ?_
      rintro en w2 ⟨v', rfl, hown, hb⟩
      have HB := Lib.hid (Later.bel (Below.refl w.heap.size w) K |>.trans (hb.mono K.h.size))
      have HO := Lib.hid (hown.mono K.h.size)
      clear hown hb hcutA
      by_cases he : e2 = 0
      · have de : (e2 == 0) = true := by simpa using he
        have de' : (e2 != 0) = false := by unfold bne; rw [de]; rfl
        have hRR := HT.out
        rw [if_pos he, he] at hRR
        have HRR := Lib.hid hRR
        have hlit := TlR.lit w2 w.heap.size (c, t1) HB.out.size
        simp only at hlit
        rw [HX.out] at hlit
        have HLIT : Hid (TlR (w2.alloc (.cells #[.int .u8 x, .string (bs t1)] 65)).drew w.heap.size (.slice (some ⟨w2.heap.size, 0, none⟩) 1 1) [(c, t1)]) := hlit.later (Below.refl _ _).drew
        have HSRC : Hid (Tls (w2.alloc (.cells #[.int .u8 x, .string (bs t1)] 65)).drew v' l2) := (HO.out.later (((Below.refl _ _).alloc (Nat.le_refl _) _).drew)).tls
        have HBW : Hid (Below w.heap.size w (w2.alloc (.cells #[.int .u8 x, .string (bs t1)] 65)).drew) := (HB.out.alloc HB.out.size _).drew
        have S0 : 0 < S.length := by omega
        have hcutB' : (bs S).extract 3 ((3 : Int) + (N : Int)).toNat = bs t1 := by rw [show ((3 : Int) + (N : Int)).toNat = 3 + N by omega]; exact hcutB
        have wN : IntKind.i64.wrap (3 + (N : Int)) = 3 + (N : Int) := IntWalk.i64_in _ (by omega)
        have b1 : (0 : Int) ≤ 3 + (N : Int) := by omega
        have b2 : (3 : Int) ≤ 3 + (N : Int) := by omega
        have b3 : (3 : Int) + (N : Int) ≤ (S.length : Int) := by omega
        clear he hRR hlit
        go_wp2_with fail
        go_region_law (first
          | (refine step_append_R rfl _ _ rfl w.heap.size _ [(c, t1)] (by rfl) (by exact HLIT.out) _ l2 (by rfl) (by exact HSRC.out) (by simp; omega) (by exact HBW.out.size) ?_; intro v3 w3 hown3 hb3))
        all_goals
          have HB3 := Lib.hid (HBW.out.trans hb3)
          have HO3 := Lib.hid hown3
          clear hown3 hb3
        all_goals go_wp2
        all_goals refine bodyPost_ret (v := .tuple #[v3, .string (bs s2), .int .i64 0]) (by simp [results, Try.results70, go_sem]) rfl ⟨_, by rw [HRR.out], by rw [HRR.out]; exact HO3.out, HB3.out⟩
      · have de : (e2 == 0) = false := by simpa using he
        have de' : (e2 != 0) = true := by unfold bne; rw [de]; rfl
        have hRR := HT.out
        rw [if_neg he] at hRR
        have HRR := Lib.hid hRR
        have he3 := HE2.out he
        subst he3
        clear he hRR
        go_wp2
        refine bodyPost_ret (v := .tuple #[.slice none 0 0, .string (bs []), .int .i64 3]) (by simp [results, Try.results70, go_sem]; rfl) rfl ⟨_, by rw [HRR.out], by rw [HRR.out]; exact TlR.none _ _, HB.out⟩
end Go.Proofs.Ytcbbocdmmehphaa
