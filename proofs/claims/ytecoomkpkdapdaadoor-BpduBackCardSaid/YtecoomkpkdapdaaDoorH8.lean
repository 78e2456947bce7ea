/- bpdu: what is put is taken, plain. -/
import Derived.Test.YtecoomkpkdapdaaDoorH5
import Derived.Test.YtecoomkpkdapdaaDoorH2
set_option linter.unusedVariables false
namespace Go.Proofs.YtecoomkpkdapdaaDoor
open Go.RowKit

theorem numOf_beM (k : Nat) (n M : Int) (hM : (256 : Int) ^ k = M) (h : 0 ≤ n ∧ n < M) : numOf (be k n) = n := by
  rw [numOf_be, hM]; exact Int.emod_eq_of_lt h.1 h.2
theorem rest_all (z : List UInt8) : rdRest z 0 = (z, [], 0) := by
  unfold rdRest rdText
  cases z with
  | nil => rw [if_pos (Or.inl (by decide))]
  | cons a r =>
    rw [if_neg (by simp), if_neg (by omega)]; simp
theorem flB_bits (b : Bp) : decide (flB b % 2 = 1) = b.pr ∧ decide (flB b / 2 % 2 = 1) = b.ag ∧ decide (flB b / 4 % 2 = 1) = b.tp := by
  unfold flB; cases b.pr <;> cases b.ag <;> cases b.tp <;> exact ⟨rfl, rfl, rfl⟩
/-- The steps of Take, of bytes in their parts. -/
theorem bt_parts {p1 p2 p3 p4 p5 p6 p7 p8 p9 p10 z : List UInt8} (h1 : p1.length = 2) (h2 : p2.length = 1) (h3 : p3.length = 1) (h4 : p4.length = 8) (h5 : p5.length = 4) (h6 : p6.length = 8) (h7 : p7.length = 1) (h8 : p8.length = 1) (h9 : p9.length = 8) (h10 : p10.length = 8) {s : List UInt8} (hs : s = p1 ++ (p2 ++ (p3 ++ (p4 ++ (p5 ++ (p6 ++ (p7 ++ (p8 ++ (p9 ++ (p10 ++ z)))))))))) :
    (bt1 s).1 = p1 ∧ (bt2 s).1 = p2 ∧ (bt3 s).1 = p3 ∧ (bt4 s).1 = p4 ∧ (bt5 s).1 = p5 ∧ (bt6 s).1 = p6 ∧ (bt7 s).1 = p7 ∧ (bt8 s).1 = p8 ∧ (bt9 s).1 = p9 ∧ (bt10 s).1 = p10 ∧ btR s = (z, [], 0) := by
  have e1 : bt1 s = (p1, p2 ++ (p3 ++ (p4 ++ (p5 ++ (p6 ++ (p7 ++ (p8 ++ (p9 ++ (p10 ++ z)))))))), 0) := by
    unfold bt1; rw [hs]; exact rdText_app p1 _ 2 h1 (by decide)
  have e2 : bt2 s = (p2, p3 ++ (p4 ++ (p5 ++ (p6 ++ (p7 ++ (p8 ++ (p9 ++ (p10 ++ z))))))), 0) := by
    unfold bt2; rw [e1]; exact rdText_app p2 _ 1 h2 (by decide)
  have e3 : bt3 s = (p3, p4 ++ (p5 ++ (p6 ++ (p7 ++ (p8 ++ (p9 ++ (p10 ++ z)))))), 0) := by
    unfold bt3; rw [e2]; exact rdText_app p3 _ 1 h3 (by decide)
  have e4 : bt4 s = (p4, p5 ++ (p6 ++ (p7 ++ (p8 ++ (p9 ++ (p10 ++ z))))), 0) := by
    unfold bt4; rw [e3]; exact rdText_app p4 _ 8 h4 (by decide)
  have e5 : bt5 s = (p5, p6 ++ (p7 ++ (p8 ++ (p9 ++ (p10 ++ z)))), 0) := by
    unfold bt5; rw [e4]; exact rdText_app p5 _ 4 h5 (by decide)
  have e6 : bt6 s = (p6, p7 ++ (p8 ++ (p9 ++ (p10 ++ z))), 0) := by
    unfold bt6; rw [e5]; exact rdText_app p6 _ 8 h6 (by decide)
  have e7 : bt7 s = (p7, p8 ++ (p9 ++ (p10 ++ z)), 0) := by
    unfold bt7; rw [e6]; exact rdText_app p7 _ 1 h7 (by decide)
  have e8 : bt8 s = (p8, p9 ++ (p10 ++ z), 0) := by
    unfold bt8; rw [e7]; exact rdText_app p8 _ 1 h8 (by decide)
  have e9 : bt9 s = (p9, p10 ++ z, 0) := by
    unfold bt9; rw [e8]; exact rdText_app p9 _ 8 h9 (by decide)
  have e10 : bt10 s = (p10, z, 0) := by
    unfold bt10; rw [e9]; exact rdText_app p10 _ 8 h10 (by decide)
  have eR : btR s = (z, [], 0) := by unfold btR; rw [e10]; exact rest_all z
  exact ⟨by rw [e1], by rw [e2], by rw [e3], by rw [e4], by rw [e5], by rw [e6], by rw [e7], by rw [e8], by rw [e9], by rw [e10], eR⟩
theorem tkB_put (b : Bp) (hb : b.Ok) (hm : mayB b = true) (z : List UInt8) (hz : ∀ x ∈ z, x = 0) : tkB (byB b ++ z) = (b, 0) := by
  obtain ⟨q1, q2, q3, q4, q5, q6, q7, q8, q9, q10, qR⟩ := bt_parts (p1 := [67, 77]) (p2 := be 1 b.ro) (p3 := be 1 (flB b)) (p4 := be 8 b.rt) (p5 := be 4 b.co) (p6 := be 8 b.br) (p7 := be 1 b.po) (p8 := be 1 b.ho) (p9 := be 8 b.ve) (p10 := be 8 b.ec) (z := z) rfl (be_length _ _) (be_length _ _) (be_length _ _) (be_length _ _) (be_length _ _) (be_length _ _) (be_length _ _) (be_length _ _) (be_length _ _) (s := byB b ++ z) (by unfold byB; simp only [List.append_assoc])
  have hfb := flB_bd b
  have n2 := numOf_beM 1 b.ro 256 (by decide) hb.ro
  have n3 := numOf_beM 1 (flB b) 256 (by decide) (by omega)
  have n4 := numOf_beM 8 b.rt 18446744073709551616 (by decide) hb.rt
  have n5 := numOf_beM 4 b.co 4294967296 (by decide) hb.co
  have n6 := numOf_beM 8 b.br 18446744073709551616 (by decide) hb.br
  have n7 := numOf_beM 1 b.po 256 (by decide) hb.po
  have n8 := numOf_beM 1 b.ho 256 (by decide) hb.ho
  have n9 := numOf_beM 8 b.ve 18446744073709551616 (by decide) hb.ve
  have n10 := numOf_beM 8 b.ec 18446744073709551616 (by decide) hb.ec
  obtain ⟨f1, f2, f4⟩ := flB_bits b
  have hbp : bpOf (byB b ++ z) = b := by
    unfold bpOf
    rw [q2, q3, q4, q5, q6, q7, q8, q9, q10, n2, n3, n4, n5, n6, n7, n8, n9, n10, f1, f2, f4]
  have hg : goodB (byB b ++ z) = true := by
    unfold goodB
    rw [q1, q3, hbp, hm, n3, qR, decide_eq_true (show numOf [67, 77] = 17229 by decide), decide_eq_true hfb.2, decide_eq_true ((trim_nil 0 z).2 hz)]; rfl
  have he : errB (byB b ++ z) = 0 := by unfold errB; rw [if_pos hg, qR]
  unfold tkB
  rw [if_pos he, hbp]
end Go.Proofs.YtecoomkpkdapdaaDoor
