/- wire: widths, and what Put makes. -/
import Derived.Test.YtecoomkpkdapdaaK1
set_option linter.unusedVariables false
namespace Go.Proofs.Ytecoomkpkdapdaa
open Go.RowKit

set_option maxRecDepth 100000 in
set_option maxHeartbeats 1000000 in
theorem width_uint8 (w : World) : Calls Try.prog 104 #[] w fun e w' => e = .returned (.int .i64 1) ∧ w = w' := by
  have hs : IntKind.u8.signed = false := rfl
  have hm : bits BinOp.xor IntKind.u8 IntKind.u8.max 0 = 255 := by decide
  go_enter Try.func104, Try.ntmps104
  go_wp2
  refine wp_loop_rounds 2 ?_
  iterate 2 (rw [rounds_succ]; go_wp2)
  go_ret
  exact ⟨rfl, rfl⟩

set_option maxRecDepth 100000 in
set_option maxHeartbeats 1000000 in
theorem width_uint16 (w : World) : Calls Try.prog 102 #[] w fun e w' => e = .returned (.int .i64 2) ∧ w = w' := by
  have hs : IntKind.u16.signed = false := rfl
  have hm : bits BinOp.xor IntKind.u16 IntKind.u16.max 0 = 65535 := by decide
  go_enter Try.func102, Try.ntmps102
  go_wp2
  refine wp_loop_rounds 3 ?_
  iterate 3 (rw [rounds_succ]; go_wp2)
  go_ret
  exact ⟨rfl, rfl⟩

set_option maxRecDepth 100000 in
set_option maxHeartbeats 1000000 in
theorem width_uint32 (w : World) : Calls Try.prog 105 #[] w fun e w' => e = .returned (.int .i64 4) ∧ w = w' := by
  have hs : IntKind.u32.signed = false := rfl
  have hm : bits BinOp.xor IntKind.u32 IntKind.u32.max 0 = 4294967295 := by decide
  go_enter Try.func105, Try.ntmps105
  go_wp2
  refine wp_loop_rounds 5 ?_
  iterate 5 (rw [rounds_succ]; go_wp2)
  go_ret
  exact ⟨rfl, rfl⟩

set_option maxRecDepth 100000 in
set_option maxHeartbeats 1000000 in
theorem width_uint64 (w : World) : Calls Try.prog 103 #[] w fun e w' => e = .returned (.int .i64 8) ∧ w = w' := by
  have hs : IntKind.u64.signed = false := rfl
  have hm : bits BinOp.xor IntKind.u64 IntKind.u64.max 0 = 18446744073709551615 := by decide
  go_enter Try.func103, Try.ntmps103
  go_wp2
  refine wp_loop_rounds 9 ?_
  iterate 9 (rw [rounds_succ]; go_wp2)
  go_ret
  exact ⟨rfl, rfl⟩

/-- The i-th of k bytes of a number. -/
def beB (k : Nat) (n : Int) (i : Nat) : UInt8 := UInt8.ofNat (n / 2 ^ (8 * (k - 1 - i)) % 256).toNat
/-- A number's bytes. -/
def be (k : Nat) (n : Int) : List UInt8 := (List.range k).map (beB k n)
def beTo (k : Nat) (n : Int) (i : Nat) : List UInt8 := (List.range i).map (beB k n)
theorem beTo_succ (k : Nat) (n : Int) (i : Nat) : beTo k n (i + 1) = beTo k n i ++ [beB k n i] := by
  simp [beTo, List.range_succ]
theorem beTo_length (k : Nat) (n : Int) (i : Nat) : (beTo k n i).length = i := by simp [beTo]
theorem be_length (k : Nat) (n : Int) : (be k n).length = k := by simp [be]

theorem beTo_next {w1 : World} {B : Nat} {v' : Value} {l : List UInt8} {K : Nat} {n : Int} {k : Nat} {c : Nat} (h : Bys w1 B v' (l ++ (beTo K n k ++ [UInt8.ofNat (n / 2 ^ c % 256).toNat]))) (hc : c = 8 * (K - 1 - k)) : Bys w1 B v' (l ++ beTo K n (k + 1)) := by
  rw [beTo_succ]; subst hc; exact h

set_option maxRecDepth 100000 in
set_option maxHeartbeats 1000000 in
/-- A number's bytes behind owned ones. -/
theorem put_uint16 (B : Nat) (v : Value) (l : List UInt8) (n : Int) (w : World) (hB : B ≤ w.heap.size) (hv : Bys w B v l) (hn : 0 ≤ n) (hn2 : n < 65536) (hl : l.length ≤ 1000000000000) :
    Calls Try.prog 81 #[v, .int .u16 n] w fun e w' => ∃ v', e = .returned v' ∧ Bys w' B v' (l ++ be 2 n) ∧ Below B w w' := by
  go_enter Try.func81, Try.ntmps81
  go_wp2_with (go_at_call 102; refine (width_uint16 _).mono ?_; rintro e w' ⟨rfl, rfl⟩)
  go_loopw [0, 9] (fun v i wr => ∃ k : Nat, k ≤ 2 ∧ i = .int .i64 k ∧ Bys wr B v (l ++ beTo 2 n k) ∧ Below B w wr) (fun _ i _ => 2 - (intOf i).toNat)
  case atStart => exact ⟨0, by omega, rfl, by simpa [beTo] using hv, Below.refl _ _⟩
  case round =>
    obtain ⟨k, hk, rfl, hown, hb⟩ := hrel
    by_cases hlt : k < 2
    · have hsz := hb.size
      go_wp2_with (at_builtin; refine wpList_append_byte rfl (.tmp 12) (.tmp 22) rfl B _ _ wr _ rfl rfl hown rfl ?_ ?_ ?_ ?_ ?_)
      · exact Int.emod_nonneg _ (by decide)
      · exact Int.emod_lt_of_pos _ (by decide)
      · simp [beTo_length]; omega
      · omega
      · intro v' w1 hown' hb'
        have hb2 := Lib.hid (hb.trans hb')
        have hown2 := Lib.hid (beTo_next hown' (by omega))
        clear hb hb' hown hown' hsz
        go_wp2
        go_roundw
        case rel => exact ⟨k + 1, by omega, by go_num, hown2.out, hb2.out⟩
        case measure => simp [intOf]; omega
    · obtain rfl : k = 2 := by omega
      go_wp2
      go_ret
      exact ⟨_, rfl, hown, hb⟩

set_option maxRecDepth 100000 in
set_option maxHeartbeats 1000000 in
/-- A number's bytes behind owned ones. -/
theorem put_uint32 (B : Nat) (v : Value) (l : List UInt8) (n : Int) (w : World) (hB : B ≤ w.heap.size) (hv : Bys w B v l) (hn : 0 ≤ n) (hn2 : n < 4294967296) (hl : l.length ≤ 1000000000000) :
    Calls Try.prog 111 #[v, .int .u32 n] w fun e w' => ∃ v', e = .returned v' ∧ Bys w' B v' (l ++ be 4 n) ∧ Below B w w' := by
  go_enter Try.func111, Try.ntmps111
  go_wp2_with (go_at_call 105; refine (width_uint32 _).mono ?_; rintro e w' ⟨rfl, rfl⟩)
  go_loopw [0, 9] (fun v i wr => ∃ k : Nat, k ≤ 4 ∧ i = .int .i64 k ∧ Bys wr B v (l ++ beTo 4 n k) ∧ Below B w wr) (fun _ i _ => 4 - (intOf i).toNat)
  case atStart => exact ⟨0, by omega, rfl, by simpa [beTo] using hv, Below.refl _ _⟩
  case round =>
    obtain ⟨k, hk, rfl, hown, hb⟩ := hrel
    by_cases hlt : k < 4
    · have hsz := hb.size
      go_wp2_with (at_builtin; refine wpList_append_byte rfl (.tmp 12) (.tmp 22) rfl B _ _ wr _ rfl rfl hown rfl ?_ ?_ ?_ ?_ ?_)
      · exact Int.emod_nonneg _ (by decide)
      · exact Int.emod_lt_of_pos _ (by decide)
      · simp [beTo_length]; omega
      · omega
      · intro v' w1 hown' hb'
        have hb2 := Lib.hid (hb.trans hb')
        have hown2 := Lib.hid (beTo_next hown' (by omega))
        clear hb hb' hown hown' hsz
        go_wp2
        go_roundw
        case rel => exact ⟨k + 1, by omega, by go_num, hown2.out, hb2.out⟩
        case measure => simp [intOf]; omega
    · obtain rfl : k = 4 := by omega
      go_wp2
      go_ret
      exact ⟨_, rfl, hown, hb⟩

set_option maxRecDepth 100000 in
set_option maxHeartbeats 1000000 in
/-- A number's bytes behind owned ones. -/
theorem put_uint64 (B : Nat) (v : Value) (l : List UInt8) (n : Int) (w : World) (hB : B ≤ w.heap.size) (hv : Bys w B v l) (hn : 0 ≤ n) (hn2 : n < 18446744073709551616) (hl : l.length ≤ 1000000000000) :
    Calls Try.prog 82 #[v, .int .u64 n] w fun e w' => ∃ v', e = .returned v' ∧ Bys w' B v' (l ++ be 8 n) ∧ Below B w w' := by
  go_enter Try.func82, Try.ntmps82
  go_wp2_with (go_at_call 103; refine (width_uint64 _).mono ?_; rintro e w' ⟨rfl, rfl⟩)
  go_loopw [0, 9] (fun v i wr => ∃ k : Nat, k ≤ 8 ∧ i = .int .i64 k ∧ Bys wr B v (l ++ beTo 8 n k) ∧ Below B w wr) (fun _ i _ => 8 - (intOf i).toNat)
  case atStart => exact ⟨0, by omega, rfl, by simpa [beTo] using hv, Below.refl _ _⟩
  case round =>
    obtain ⟨k, hk, rfl, hown, hb⟩ := hrel
    by_cases hlt : k < 8
    · have hsz := hb.size
      go_wp2_with (at_builtin; refine wpList_append_byte rfl (.tmp 12) (.tmp 21) rfl B _ _ wr _ rfl rfl hown rfl ?_ ?_ ?_ ?_ ?_)
      · exact Int.emod_nonneg _ (by decide)
      · exact Int.emod_lt_of_pos _ (by decide)
      · simp [beTo_length]; omega
      · omega
      · intro v' w1 hown' hb'
        have hb2 := Lib.hid (hb.trans hb')
        have hown2 := Lib.hid (beTo_next hown' (by omega))
        clear hb hb' hown hown' hsz
        go_wp2
        go_roundw
        case rel => exact ⟨k + 1, by omega, by go_num, hown2.out, hb2.out⟩
        case measure => simp [intOf]; omega
    · obtain rfl : k = 8 := by omega
      go_wp2
      go_ret
      exact ⟨_, rfl, hown, hb⟩

end Go.Proofs.Ytecoomkpkdapdaa
