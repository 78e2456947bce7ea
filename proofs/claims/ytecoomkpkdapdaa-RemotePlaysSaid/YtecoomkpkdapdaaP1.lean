/- maid: Put. -/
import Derived.Test.YtecoomkpkdapdaaP0
set_option linter.unusedVariables false
namespace Go.Proofs.Ytecoomkpkdapdaa
open Go.RowKit

/-- A length's byte. -/
def lenB (l : List UInt8) : UInt8 := UInt8.ofNat l.length
theorem lenB_wrap (l : List UInt8) : IntKind.u8.wrap (l.length : Int) = ((lenB l).toNat : Int) := by
  rw [wrap_u8 _ (by omega)]; unfold lenB; simp

set_option maxRecDepth 100000 in
set_option maxHeartbeats 4000000 in
theorem mput_any (B : Nat) (v : Value) (l t : List UInt8) (f : UInt8) (w : World) (hB : B ≤ w.heap.size) (hv : Bys w B v l) (hl : l.length ≤ 1000) (ht : t.length ≤ 1000) :
    Calls Try.prog 135 #[v, .int .u8 (f.toNat : Int), .string (bs t)] w fun en w' => ∃ v', en = .returned v' ∧ Bys w' B v' (l ++ f :: lenB t :: t) ∧ Below B w w' := by
  have hs := bs_size t
  have hw := lenB_wrap t
  obtain ⟨x, hx⟩ : ∃ x : Int, (f.toNat : Int) = x := ⟨_, rfl⟩
  obtain ⟨y, hy⟩ : ∃ y : Int, ((lenB t).toNat : Int) = y := ⟨_, rfl⟩
  rw [hx]
  rw [hy] at hw
  have HO := Lib.hid hv
  clear hv
  go_enter Try.func135, Try.ntmps135
  go_wp2_with (at_builtin; refine wpList_append_two rfl (.tmp 7) (.tmp 12) rfl B _ _ w f (lenB t) (by rw [hx, hy]) rfl HO.out rfl ?_ ?_ ?_)
  · omega
  · exact hB
  · intro v1 w1 hown1 hb1
    have hz1 := hb1.size
    go_wp2_with (at_builtin; refine wpList_append_str rfl (.tmp 13) (.tmp 14) rfl B _ _ rfl hown1 t rfl ?_ ?_ ?_)
    · simp; omega
    · omega
    · intro v2 w2 hown2 hb2
      have HO2 := Lib.hid hown2
      have HB2 := Lib.hid (hb1.trans hb2)
      clear hb1 hb2 hown1 hown2
      go_wp2
      go_ret
      exact ⟨_, rfl, by simpa using HO2.out, HB2.out⟩
end Go.Proofs.Ytecoomkpkdapdaa
