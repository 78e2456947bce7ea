/- ZB02: the texts W0, W1 as one. -/
import Derived.Test.YtpkkjbmgbgakdaaGreatDoorZB01
/- wire: widths, and what Put makes. -/
set_option linter.unusedVariables false
namespace Go.Proofs.YtpkkjbmgbgakdaaGreatDoor
open Go.RowKit

set_option maxRecDepth 100000 in
set_option maxHeartbeats 1000000 in
theorem width_uint8 (w : World) : Calls Tryz.prog 254 #[] w fun e w' => e = .returned (.int .i64 1) ∧ w = w' := by
  have hs : IntKind.u8.signed = false := rfl
  have hm : bits BinOp.xor IntKind.u8 IntKind.u8.max 0 = 255 := by decide
  go_enter Tryz.func254, Tryz.ntmps254
  go_wp2
  refine wp_loop_rounds 2 ?_
  iterate 2 (rw [rounds_succ]; go_wp2)
  go_ret
  exact ⟨rfl, rfl⟩

set_option maxRecDepth 100000 in
set_option maxHeartbeats 1000000 in
theorem width_uint16 (w : World) : Calls Tryz.prog 174 #[] w fun e w' => e = .returned (.int .i64 2) ∧ w = w' := by
  have hs : IntKind.u16.signed = false := rfl
  have hm : bits BinOp.xor IntKind.u16 IntKind.u16.max 0 = 65535 := by decide
  go_enter Tryz.func174, Tryz.ntmps174
  go_wp2
  refine wp_loop_rounds 3 ?_
  iterate 3 (rw [rounds_succ]; go_wp2)
  go_ret
  exact ⟨rfl, rfl⟩

set_option maxRecDepth 100000 in
set_option maxHeartbeats 1000000 in
theorem width_uint32 (w : World) : Calls Tryz.prog 197 #[] w fun e w' => e = .returned (.int .i64 4) ∧ w = w' := by
  have hs : IntKind.u32.signed = false := rfl
  have hm : bits BinOp.xor IntKind.u32 IntKind.u32.max 0 = 4294967295 := by decide
  go_enter Tryz.func197, Tryz.ntmps197
  go_wp2
  refine wp_loop_rounds 5 ?_
  iterate 5 (rw [rounds_succ]; go_wp2)
  go_ret
  exact ⟨rfl, rfl⟩

set_option maxRecDepth 100000 in
set_option maxHeartbeats 1000000 in
theorem width_uint64 (w : World) : Calls Tryz.prog 138 #[] w fun e w' => e = .returned (.int .i64 8) ∧ w = w' := by
  have hs : IntKind.u64.signed = false := rfl
  have hm : bits BinOp.xor IntKind.u64 IntKind.u64.max 0 = 18446744073709551615 := by decide
  go_enter Tryz.func138, Tryz.ntmps138
  go_wp2
  refine wp_loop_rounds 9 ?_
  iterate 9 (rw [rounds_succ]; go_wp2)
  go_ret
  exact ⟨rfl, rfl⟩

/-- The i-th of k bytes of a number. -/
def beB (k : Nat) (n : Int) (i : Nat) : UInt8 := UInt8.ofNat (n / 2 ^ (8 * (k - 1 - i)) % 256).toNat
/-- A number's bytes. -/
def be (k : Nat) (n : Int) : List UInt8 := (List.range k).map (beB k n)
def beTo (k : Nat) (n : Int) (i : Nat) : List UInt8 := (List.range i).map (beB k n)
theorem beTo_succ (k : Nat) (n : Int) (i : Nat) : beTo k n (i + 1) = beTo k n i ++ [beB k n i] := by
  simp [beTo, List.range_succ]
theorem beTo_length (k : Nat) (n : Int) (i : Nat) : (beTo k n i).length = i := by simp [beTo]
theorem be_length (k : Nat) (n : Int) : (be k n).length = k := by simp [be]

theorem beTo_next {w1 : World} {B : Nat} {v' : Value} {l : List UInt8} {K : Nat} {n : Int} {k : Nat} {c : Nat} (h : Bys w1 B v' (l ++ (beTo K n k ++ [UInt8.ofNat (n / 2 ^ c % 256).toNat]))) (hc : c = 8 * (K - 1 - k)) : Bys w1 B v' (l ++ beTo K n (k + 1)) := by
  rw [beTo_succ]; subst hc; exact h

set_option maxRecDepth 100000 in
set_option maxHeartbeats 1000000 in
/-- A number's bytes behind owned ones. -/
theorem put_uint16 (B : Nat) (v : Value) (l : List UInt8) (n : Int) (w : World) (hB : B ≤ w.heap.size) (hv : Bys w B v l) (hn : 0 ≤ n) (hn2 : n < 65536) (hl : l.length ≤ 1000000000000) :
    Calls Tryz.prog 142 #[v, .int .u16 n] w fun e w' => ∃ v', e = .returned v' ∧ Bys w' B v' (l ++ be 2 n) ∧ Below B w w' := by
  go_enter Tryz.func142, Tryz.ntmps142
  go_wp2_with (go_at_call 174; refine (width_uint16 _).mono ?_; rintro e w' ⟨rfl, rfl⟩)
  go_loopw [0, 9] (fun v i wr => ∃ k : Nat, k ≤ 2 ∧ i = .int .i64 k ∧ Bys wr B v (l ++ beTo 2 n k) ∧ Below B w wr) (fun _ i _ => 2 - (intOf i).toNat)
  case atStart => exact ⟨0, by omega, rfl, by simpa [beTo] using hv, Below.refl _ _⟩
  case round =>
    obtain ⟨k, hk, rfl, hown, hb⟩ := hrel
    by_cases hlt : k < 2
    · have hsz := hb.size
      go_wp2_with (at_builtin; refine wpList_append_byte rfl (.tmp 12) (.tmp 22) rfl B _ _ wr _ rfl rfl hown rfl ?_ ?_ ?_ ?_ ?_)
      · exact Int.emod_nonneg _ (by decide)
      · exact Int.emod_lt_of_pos _ (by decide)
      · simp [beTo_length]; omega
      · omega
      · intro v' w1 hown' hb'
        have hb2 := Lib.hid (hb.trans hb')
        have hown2 := Lib.hid (beTo_next hown' (by omega))
        clear hb hb' hown hown' hsz
        go_wp2
        go_roundw
        case rel => exact ⟨k + 1, by omega, by go_num, hown2.out, hb2.out⟩
        case measure => simp [intOf]; omega
    · obtain rfl : k = 2 := by omega
      go_wp2
      go_ret
      exact ⟨_, rfl, hown, hb⟩

set_option maxRecDepth 100000 in
set_option maxHeartbeats 1000000 in
/-- A number's bytes behind owned ones. -/
theorem put_uint32 (B : Nat) (v : Value) (l : List UInt8) (n : Int) (w : World) (hB : B ≤ w.heap.size) (hv : Bys w B v l) (hn : 0 ≤ n) (hn2 : n < 4294967296) (hl : l.length ≤ 1000000000000) :
    Calls Tryz.prog 144 #[v, .int .u32 n] w fun e w' => ∃ v', e = .returned v' ∧ Bys w' B v' (l ++ be 4 n) ∧ Below B w w' := by
  go_enter Tryz.func144, Tryz.ntmps144
  go_wp2_with (go_at_call 197; refine (width_uint32 _).mono ?_; rintro e w' ⟨rfl, rfl⟩)
  go_loopw [0, 9] (fun v i wr => ∃ k : Nat, k ≤ 4 ∧ i = .int .i64 k ∧ Bys wr B v (l ++ beTo 4 n k) ∧ Below B w wr) (fun _ i _ => 4 - (intOf i).toNat)
  case atStart => exact ⟨0, by omega, rfl, by simpa [beTo] using hv, Below.refl _ _⟩
  case round =>
    obtain ⟨k, hk, rfl, hown, hb⟩ := hrel
    by_cases hlt : k < 4
    · have hsz := hb.size
      go_wp2_with (at_builtin; refine wpList_append_byte rfl (.tmp 12) (.tmp 22) rfl B _ _ wr _ rfl rfl hown rfl ?_ ?_ ?_ ?_ ?_)
      · exact Int.emod_nonneg _ (by decide)
      · exact Int.emod_lt_of_pos _ (by decide)
      · simp [beTo_length]; omega
      · omega
      · intro v' w1 hown' hb'
        have hb2 := Lib.hid (hb.trans hb')
        have hown2 := Lib.hid (beTo_next hown' (by omega))
        clear hb hb' hown hown' hsz
        go_wp2
        go_roundw
        case rel => exact ⟨k + 1, by omega, by go_num, hown2.out, hb2.out⟩
        case measure => simp [intOf]; omega
    · obtain rfl : k = 4 := by omega
      go_wp2
      go_ret
      exact ⟨_, rfl, hown, hb⟩

set_option maxRecDepth 100000 in
set_option maxHeartbeats 1000000 in
/-- A number's bytes behind owned ones. -/
theorem put_uint64 (B : Nat) (v : Value) (l : List UInt8) (n : Int) (w : World) (hB : B ≤ w.heap.size) (hv : Bys w B v l) (hn : 0 ≤ n) (hn2 : n < 18446744073709551616) (hl : l.length ≤ 1000000000000) :
    Calls Tryz.prog 73 #[v, .int .u64 n] w fun e w' => ∃ v', e = .returned v' ∧ Bys w' B v' (l ++ be 8 n) ∧ Below B w w' := by
  go_enter Tryz.func73, Tryz.ntmps73
  go_wp2_with (go_at_call 138; refine (width_uint64 _).mono ?_; rintro e w' ⟨rfl, rfl⟩)
  go_loopw [0, 9] (fun v i wr => ∃ k : Nat, k ≤ 8 ∧ i = .int .i64 k ∧ Bys wr B v (l ++ beTo 8 n k) ∧ Below B w wr) (fun _ i _ => 8 - (intOf i).toNat)
  case atStart => exact ⟨0, by omega, rfl, by simpa [beTo] using hv, Below.refl _ _⟩
  case round =>
    obtain ⟨k, hk, rfl, hown, hb⟩ := hrel
    by_cases hlt : k < 8
    · have hsz := hb.size
      go_wp2_with (at_builtin; refine wpList_append_byte rfl (.tmp 12) (.tmp 21) rfl B _ _ wr _ rfl rfl hown rfl ?_ ?_ ?_ ?_ ?_)
      · exact Int.emod_nonneg _ (by decide)
      · exact Int.emod_lt_of_pos _ (by decide)
      · simp [beTo_length]; omega
      · omega
      · intro v' w1 hown' hb'
        have hb2 := Lib.hid (hb.trans hb')
        have hown2 := Lib.hid (beTo_next hown' (by omega))
        clear hb hb' hown hown' hsz
        go_wp2
        go_roundw
        case rel => exact ⟨k + 1, by omega, by go_num, hown2.out, hb2.out⟩
        case measure => simp [intOf]; omega
    · obtain rfl : k = 8 := by omega
      go_wp2
      go_ret
      exact ⟨_, rfl, hown, hb⟩

end Go.Proofs.YtpkkjbmgbgakdaaGreatDoor

/- wire: the reader. -/
set_option linter.unusedVariables false
namespace Go.Proofs.YtpkkjbmgbgakdaaGreatDoor
open Go.RowKit

/-- A reader at block p: what is left, and the error. -/
def Rd (w : World) (p : Nat) (l : List UInt8) (e : Int) : Prop := w.heap[p]? = some (.cells #[.string (bs l), .int .i64 e] 234 (0, 0))
theorem Rd.lt {w : World} {p : Nat} {l : List UInt8} {e : Int} (h : Rd w p l e) : p < w.heap.size := by
  rcases Nat.lt_or_ge p w.heap.size with h1 | h1
  · exact h1
  · unfold Rd at h; rw [Array.getElem?_eq_none h1] at h; cases h
theorem Rd.c0 {w : World} {p : Nat} {l : List UInt8} {e : Int} (h : Rd w p l e) : w.cell? ⟨p, 0, none⟩ = some (.string (bs l)) := by
  unfold Rd at h; simp [World.cell?, h]
theorem Rd.c1 {w : World} {p : Nat} {l : List UInt8} {e : Int} (h : Rd w p l e) : w.cell? ⟨p, 1, none⟩ = some (.int .i64 e) := by
  unfold Rd at h; simp [World.cell?, h]
theorem Rd.f0 {w : World} {p : Nat} {l : List UInt8} {e : Int} (h : Rd w p l e) : w.frozen? ⟨p, 0, none⟩ = false := by
  unfold Rd at h; simp [World.frozen?, h]
theorem Rd.f1 {w : World} {p : Nat} {l : List UInt8} {e : Int} (h : Rd w p l e) : w.frozen? ⟨p, 1, none⟩ = false := by
  unfold Rd at h; simp [World.frozen?, h]
theorem Rd.set0 {w : World} {p : Nat} {l : List UInt8} {e : Int} (h : Rd w p l e) (l' : List UInt8) : Rd (w.setCell ⟨p, 0, none⟩ (.string (bs l'))) p l' e := by
  unfold Rd at *
  simp [World.setCell, Array.getElem?_modify, h]
theorem Rd.set1 {w : World} {p : Nat} {l : List UInt8} {e : Int} (h : Rd w p l e) (e' : Int) : Rd (w.setCell ⟨p, 1, none⟩ (.int .i64 e')) p l e' := by
  unfold Rd at *
  simp [World.setCell, Array.getElem?_modify, h]
/-- All but block p is as it was. -/
def Only (p : Nat) (w w' : World) : Prop := w.grownBy w' (some p)
theorem Only.refl (p : Nat) (w : World) : Only p w w := World.grownBy.refl w _
theorem Only.trans {p : Nat} {a b c : World} (h : Only p a b) (k : Only p b c) : Only p a c :=
  ⟨k.os.trans h.os, k.tape.trans h.tape, k.output.trans h.output, Nat.le_trans h.size k.size, fun i hi hne => (k.block i (Nat.lt_of_lt_of_le hi h.size) hne).trans (h.block i hi hne)⟩
theorem Only.set (p : Nat) (w : World) (o : Nat) (v : Value) : Only p w (w.setCell ⟨p, o, none⟩ v) :=
  ⟨rfl, rfl, rfl, by simp [World.setCell], fun k hk hne => Below.heap_setCell _ _ _ _ (by intro e; exact hne (by rw [e]))⟩
theorem Only.below {p B : Nat} {w w' : World} (h : Only p w w') (hB : B ≤ p) (hs : B ≤ w.heap.size) : Below B w w' :=
  (Below.refl _ _).grown h hs (fun k hk => by cases hk; exact hB)
/-- What else lies there stays. -/
theorem Only.rd {p q : Nat} {w w' : World} (h : Only p w w') (hne : q ≠ p) {l : List UInt8} {e : Int} (hr : Rd w q l e) : Rd w' q l e := by
  unfold Rd; rw [h.block q hr.lt (by simpa using hne)]; exact hr
theorem Rd.later {q : Nat} {w w' : World} {l : List UInt8} {e : Int} (hr : Rd w q l e) (h : Below w.heap.size w w') : Rd w' q l e := by
  unfold Rd; rw [h.block q hr.lt]; exact hr

set_option maxRecDepth 100000 in
set_option maxHeartbeats 1000000 in
/-- A reader of a text. -/
theorem of_any (l : List UInt8) (w : World) : Calls Tryz.prog 50 #[.string (bs l)] w fun e w' => e = .returned (.pointer (some ⟨w.heap.size, 0, none⟩)) ∧ Rd w' w.heap.size l 0 ∧ Below w.heap.size w w' ∧ w.heap.size < w'.heap.size := by
  go_enter Tryz.func50, Tryz.ntmps50
  go_wp2
  go_ret
  refine ⟨rfl, ?_, (Below.refl _ _).alloc (by simp) _, by simp⟩
  unfold Rd
  exact heap_alloc_new w _

/-- The reader fails, if it has not. -/
def rdFail (l : List UInt8) (e x : Int) : List UInt8 × Int := if e = 0 then ([], x) else (l, e)
set_option maxRecDepth 100000 in
set_option maxHeartbeats 1000000 in
theorem fail_any (p : Nat) (l : List UInt8) (e x : Int) (w : World) (hr : Rd w p l e) :
    Calls Tryz.prog 117 #[.pointer (some ⟨p, 0, none⟩), .int .i64 x] w fun en w' => en = .returned (.tuple #[]) ∧ Rd w' p (rdFail l e x).1 (rdFail l e x).2 ∧ Only p w w' := by
  have c0 := hr.c0
  have c1 := hr.c1
  have f0 := hr.f0
  have f1 := hr.f1
  have HR := Lib.hid hr; clear hr
  by_cases he : e = 0
  · subst he
    go_enter Tryz.func117, Tryz.ntmps117
    go_wp2
    go_end0
    exact ⟨rfl, (HR.out.set0 []).set1 x, (Only.set p w 0 _).trans (Only.set p _ 1 _)⟩
  · have he' : (e == 0) = false := by simp [he]
    have hv : rdFail l e x = (l, e) := by unfold rdFail; rw [if_neg he]
    rw [hv]
    clear he hv
    go_enter Tryz.func117, Tryz.ntmps117
    go_wp2
    go_end0
    exact ⟨rfl, HR.out, Only.refl _ _⟩
end Go.Proofs.YtpkkjbmgbgakdaaGreatDoor
