/- mac: the reference's text. -/
import Derived.Test.YtknahemnmboidaaM15
import Derived.Lib.SmallJoins
set_option linter.unusedVariables false
namespace Go.Proofs.Ytknahemnmboidaa
open Go.RowKit

theorem hex_cut_fin : ∀ n : Fin 16, ({ data := #[48, 49, 50, 51, 52, 53, 54, 55, 56, 57, 97, 98, 99, 100, 101, 102] } : ByteArray).extract ((n.val : Int)).toNat ((n.val : Int) + 1).toNat = { data := #[hexd (n.val : Int)] } := by decide +kernel
theorem hex_cut (x : Int) (h0 : 0 ≤ x) (h1 : x < 16) : ({ data := #[48, 49, 50, 51, 52, 53, 54, 55, 56, 57, 97, 98, 99, 100, 101, 102] } : ByteArray).extract x.toNat (x + 1).toNat = { data := #[hexd x] } := by
  have h := hex_cut_fin ⟨x.toNat, by omega⟩
  simpa only [Int.toNat_of_nonneg h0] using h
theorem hexd_mod (x : Int) : hexd (x % 16) = hexd x := by unfold hexd; rw [show x % 16 % 16 = x % 16 by omega]

set_option maxRecDepth 100000 in
set_option maxHeartbeats 4000000 in
theorem refText_mac (a b c d e f : Int) (w : World) (h : wfM a b c d e f) : Calls Try.prog 63 #[.agg #[.int .u8 a, .int .u8 b, .int .u8 c, .int .u8 d, .int .u8 e, .int .u8 f]] w fun en w' => en = .returned (.string (bs (txt6 a b c d e f))) ∧ Below w.heap.size w w' := by
  obtain ⟨⟨a0, a1⟩, ⟨b0, b1⟩, ⟨c0, c1⟩, ⟨d0, d1⟩, ⟨e0, e1⟩, ⟨f0, f1⟩⟩ := h
  have da : a.tdiv 16 = a / 16 := Int.tdiv_eq_ediv_of_nonneg a0
  have ma : a.tmod 16 = a % 16 := Int.tmod_eq_emod_of_nonneg a0
  have pa := hex_cut (a / 16) (by omega) (by omega)
  have qa := hex_cut (a % 16) (by omega) (by omega)
  rw [hexd_mod] at qa
  have db : b.tdiv 16 = b / 16 := Int.tdiv_eq_ediv_of_nonneg b0
  have mb : b.tmod 16 = b % 16 := Int.tmod_eq_emod_of_nonneg b0
  have pb := hex_cut (b / 16) (by omega) (by omega)
  have qb := hex_cut (b % 16) (by omega) (by omega)
  rw [hexd_mod] at qb
  have dc : c.tdiv 16 = c / 16 := Int.tdiv_eq_ediv_of_nonneg c0
  have mc : c.tmod 16 = c % 16 := Int.tmod_eq_emod_of_nonneg c0
  have pc := hex_cut (c / 16) (by omega) (by omega)
  have qc := hex_cut (c % 16) (by omega) (by omega)
  rw [hexd_mod] at qc
  have dd : d.tdiv 16 = d / 16 := Int.tdiv_eq_ediv_of_nonneg d0
  have md : d.tmod 16 = d % 16 := Int.tmod_eq_emod_of_nonneg d0
  have pd := hex_cut (d / 16) (by omega) (by omega)
  have qd := hex_cut (d % 16) (by omega) (by omega)
  rw [hexd_mod] at qd
  have de : e.tdiv 16 = e / 16 := Int.tdiv_eq_ediv_of_nonneg e0
  have me : e.tmod 16 = e % 16 := Int.tmod_eq_emod_of_nonneg e0
  have pe := hex_cut (e / 16) (by omega) (by omega)
  have qe := hex_cut (e % 16) (by omega) (by omega)
  rw [hexd_mod] at qe
  have df : f.tdiv 16 = f / 16 := Int.tdiv_eq_ediv_of_nonneg f0
  have mf : f.tmod 16 = f % 16 := Int.tmod_eq_emod_of_nonneg f0
  have pf := hex_cut (f / 16) (by omega) (by omega)
  have qf := hex_cut (f % 16) (by omega) (by omega)
  rw [hexd_mod] at qf
  go_enter Try.func63, Try.ntmps63
  go_wp2_with fail
  refine wp_loop_rounds 7 ?_
  iterate 6 (rw [rounds_succ]; go_wp2_with fail; go_quiet (fail); go_wp2)
  rw [rounds_succ]
  go_wp2
  have hT : ({ data := #[] } : ByteArray) ++ { data := #[hexd (a / 16)] } ++ { data := #[hexd a] } ++ { data := #[58] } ++ { data := #[hexd (b / 16)] } ++ { data := #[hexd b] } ++ { data := #[58] } ++ { data := #[hexd (c / 16)] } ++ { data := #[hexd c] } ++ { data := #[58] } ++ { data := #[hexd (d / 16)] } ++ { data := #[hexd d] } ++ { data := #[58] } ++ { data := #[hexd (e / 16)] } ++ { data := #[hexd e] } ++ { data := #[58] } ++ { data := #[hexd (f / 16)] } ++ { data := #[hexd f] } = bs (txt6 a b c d e f) := by
    simp only [show ({ data := #[] } : ByteArray) = bs [] from rfl, show ∀ x : UInt8, ({ data := #[x] } : ByteArray) = bs [x] from fun _ => rfl, bs_append]
    rfl
  refine bodyPost_ret (v := .string (bs (txt6 a b c d e f))) (by simp [results, Try.results63, go_sem, ← hT]) rfl ⟨rfl, ?_⟩
  exact ((Below.refl _ _).alloc (by simp) _).trans (Go.Joins.below_draws _ _ _)
end Go.Proofs.Ytknahemnmboidaa
