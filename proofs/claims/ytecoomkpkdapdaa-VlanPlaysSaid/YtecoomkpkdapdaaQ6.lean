/- ref07: without. -/
import Derived.Test.YtecoomkpkdapdaaQ5
set_option linter.unusedVariables false
namespace Go.Proofs.Ytecoomkpkdapdaa
open Go.RowKit

theorem info_vn : (Try.prog.info? 50).map (fun i => (i.zero, i.size, i.bytes)) = some (some (.agg #[.int .u16 0, .int .u8 0, .int .u8 0]), 3, 4) := by kernel_rfl
theorem vnC_one (x : Vn) : ∀ u ∈ vnC x, u.oneCell' = true := by
  intro u hu
  simp only [vnC, List.mem_cons, List.not_mem_nil, or_false] at hu
  rcases hu with rfl | rfl | rfl <;> rfl
/-- A slice that owns these VLANs. -/
abbrev VO (w : World) (B : Nat) (s : Value) (V : List Vn) : Prop := Ow 3 vnC 50 w B s V
theorem VO.lit (w : World) (B : Nat) (x : Vn) (hB : B ≤ w.heap.size) : Vs (w.alloc (.cells #[.int .u16 x.1, .int .u8 x.2.1, .int .u8 x.2.2] 50)) (.slice (some ⟨w.heap.size, 0, none⟩) 1 1) [x] :=
  (Ow.lit (E := 50) vnC_len w B x #[.int .u16 x.1, .int .u8 x.2.1, .int .u8 x.2.2] rfl hB).rw vnC_len
theorem vDel_next {V : List Vn} {j : Nat} {x : Vn} {k : Int} (h : V.take (j + 1) = V.take j ++ [x]) : vDel (V.take (j + 1)) k = if x.1 = k then vDel (V.take j) k else vDel (V.take j) k ++ [x] := by
  unfold vDel
  rw [h, List.filter_append]
  by_cases hk : x.1 = k
  · rw [if_pos hk]; simp [hk]
  · rw [if_neg hk]; simp [hk]
theorem RA_put (n : Int) (s s' : Value) (o : List Int) : (RA n s o).setIfInBounds 1 s' = RA n s' o := by unfold RA; simp
theorem refInfo {A : Array Value} (h : A.size = 10) : (Try.prog.info? 43).map (·.size) = some A.size := by rw [h]; kernel_rfl
theorem Ow.only {α : Type} {k : Nat} {f : α → List Value} {w w' : World} {v : Value} {l : List α} {E : TypeId} {B q : Nat} (h : Ow k f E w B v l) (ho : Only q w w') (hq : q < B) : Ow k f E w' B v l := by
  refine World.ownsRow.kept h ho ?_
  rcases h.2 with ⟨rfl, _⟩ | ⟨g, cap, cur, rfl, hg, _⟩
  · exact .inl rfl
  · exact .inr (by simp [Value.ownBlock]; omega)
theorem Only.setCells (q : Nat) : ∀ (vs : List Value) (o : Nat) (w : World), Only q w (w.setCells q o vs)
  | [], _, w => Only.refl _ _
  | v :: r, o, w => (Only.set q w o v).trans (Only.setCells q r (o + 1) _)
theorem GB.set {T : TypeId} {W : World} {q : Nat} {A : Array Value} (h : GB T W q A) (j : Nat) (v : Value) : GB T (W.setCell ⟨q, j, none⟩ v) q (A.setIfInBounds j v) := by
  unfold GB at *
  simp [World.setCell, Array.getElem?_modify, h]
set_option maxRecDepth 100000 in
set_option maxHeartbeats 8000000 in
theorem without_any (n : Int) (s : Value) (o : List Int) (V : List Vn) (k : Int) (w : World) (hV : Vs w s V) (hl : V.length ≤ 100) (ho : o.length = 8) : Calls Try.prog 90 #[.agg (RA n s o), .int .u16 k] w fun en w' => ∃ s', en = .returned (.agg (RA n s' o)) ∧ VO w' w.heap.size s' (vDel V k) ∧ Below w.heap.size w w' := by
  obtain ⟨A, hA⟩ : ∃ A, RA n s o = A := ⟨_, rfl⟩
  have HA := Lib.hid hA
  have a1 : A[1]? = some s := by rw [← hA]; rfl
  obtain ⟨Z, hZ⟩ : ∃ Z, RA 0 (.slice none 0 0) [0, 0, 0, 0, 0, 0, 0, 0] = Z := ⟨_, rfl⟩
  have HZ := Lib.hid hZ
  have hZ' : #[.int .i64 0, .slice none 0 0, .int .u16 0, .int .u16 0, .int .u16 0, .int .u16 0, .int .u16 0, .int .u16 0, .int .u16 0, .int .u16 0] = Z := by rw [← hZ]; rfl
  rw [hA]
  clear hA hZ
  go_enter Try.func90, Try.ntmps90
  go_upto_region 1 with fail
  clear hZ'
  have g0 := (GB.new 43 w A).later ((Below.refl _ _).alloc (Nat.le_refl _) (.cells Z 43))
  have gz := GB.new 43 (w.alloc (.cells A 43)) Z
  rw [World.size_alloc] at gz
  have hb0 : Below w.heap.size w ((w.alloc (.cells A 43)).alloc (.cells Z 43)) := ((Below.refl _ _).alloc (Nat.le_refl _) _).alloc (by simp) _
  have hsz : ((w.alloc (.cells A 43)).alloc (.cells Z 43)).heap.size = w.heap.size + 2 := by simp
  obtain ⟨w0, hw0⟩ : ∃ k, (w.alloc (.cells A 43)).alloc (.cells Z 43) = k := ⟨_, rfl⟩
  rw [hw0] at g0 gz hb0 hsz ⊢
  obtain ⟨a, c, rfl, hc⟩ := (hV.later vnC_len hb0).shape
  have HC := Lib.hid hc
  have HB := Lib.hid hb0
  have HG0 := Lib.hid g0
  have HGZ := Lib.hid gz
  have HSZ := Lib.hid hsz
  clear hw0 hc hb0 hV g0 gz hsz
  obtain ⟨p, hp⟩ : ∃ k, w.heap.size = k := ⟨_, rfl⟩
  rw [hp] at HB HG0 HGZ HSZ ⊢
  have HP := Lib.hid hp
  clear hp
  have hs10 : A.size = 10 := by rw [← HA.out]; exact RA_size ho
  go_wp2_with fail
  go_loopw [5, 6] (fun s i wr => ∃ j : Nat, j ≤ V.length ∧ i = .int .i64 j ∧ VO wr (p + 2) s (vDel (V.take j) k) ∧ Below (p + 2) w0 wr) (fun _ i _ => V.length - (intOf i).toNat)
  case atStart => exact ⟨0, by omega, rfl, Ow.none _ _, Below.refl _ _⟩
  case round =>
    obtain ⟨j, hj, rfl, hown, hbw⟩ := hrel
    have c1 := (HG0.out.below (by omega) hbw).c 1 _ a1
    have hdl : (vDel (V.take j) k).length ≤ 100 := by
      have h1 : (vDel (V.take j) k).length ≤ (V.take j).length := List.length_filter_le _ _
      have h2 : (V.take j).length ≤ V.length := by simp; omega
      omega
    by_cases hlt : j < V.length
    · have dk : decide ((j : Int) < (V.length : Int)) = true := decide_eq_true (by omega)
      obtain ⟨b, off, rfl, hcc⟩ := HC.out.resolve_left (by intro h; rw [h] at hlt; simp at hlt)
      have hnx : V.take (j + 1) = V.take j ++ [V[j]] := List.take_succ_eq_append_getElem hlt
      have hdn := vDel_next (k := k) hnx
      have hc0 := hcc j hlt
      obtain ⟨x, hx⟩ : ∃ x, V[j] = x := ⟨_, rfl⟩
      rw [hx] at hc0 hdn
      have b2 : b < p + 2 := by
        have h0 := hc0 0 (by decide)
        have h1 : w0.cell? ⟨b, off + j * 3 + 0, none⟩ = some (.int .u16 x.1) := h0
        have := World.block_lt_of_cell? w0 _ h1
        have h2 := HSZ.out
        simp only at this
        omega
      have rr : wr.rangeAt b (off + j * 3) [.int .u16 x.1, .int .u8 x.2.1, .int .u8 x.2.2] := fun i v hv => by
        have hi : i < 3 := by have := (List.getElem?_eq_some_iff.1 hv).1; simpa using this
        have h3 := hc0 i hi
        rw [show (vnC x)[i]? = some v from hv] at h3
        exact (hbw.cell (p := ⟨b, off + j * 3 + i, none⟩) b2).trans h3
      have c0 : wr.cell? ⟨b, off + j * 3, none⟩ = some (.int .u16 x.1) := by
        have := rr 0 _ rfl
        simpa using this
      have c2 : wr.cell? ⟨b, off + j * 3 + 1, none⟩ = some (.int .u8 x.2.1) := rr 1 _ rfl
      have c3 : wr.cell? ⟨b, off + j * 3 + 2, none⟩ = some (.int .u8 x.2.2) := rr 2 _ rfl
      have HD := Lib.hid hdn
      have HO := Lib.hid hown
      have HW := Lib.hid hbw
      have HDL := Lib.hid hdl
      have HWS := Lib.hid (show p + 2 ≤ wr.heap.size by have := hbw.size; have := HSZ.out; omega)
      have HLIT := Lib.hid (VO.lit wr 0 x (Nat.zero_le _))
      have HJ : (j : Int) < V.length := by omega
      obtain ⟨x1, x2, x3⟩ := x
      obtain ⟨L0, hL0⟩ : ∃ L0, vDel (V.take j) k = L0 := ⟨_, rfl⟩
      rw [hL0] at HD HO HDL
      simp only at HD c0 c2 c3 HLIT
      clear hnx hdn hc0 hx hcc rr hown hbw b2 hdl hL0
      by_cases hk : x1 = k
      · have HD2 := Lib.hid (HD.out.trans (if_pos hk))
        have bk : (x1 == k) = true := by simpa using hk
        obtain ⟨N, hN⟩ : ∃ N, V.length = N := ⟨_, rfl⟩
        rw [hN] at dk HJ hlt hj ⊢
        clear hk
        go_wp2
        exact ⟨⟨j + 1, by omega, by go_num, by rw [HD2.out]; exact HO.out, HW.out⟩, by simp [intOf]; omega⟩
      · have HD2 := Lib.hid (HD.out.trans (if_neg hk))
        have bk : (x1 == k) = false := by simpa using hk
        obtain ⟨N, hN⟩ : ∃ N, V.length = N := ⟨_, rfl⟩
        rw [hN] at dk HJ hlt hj ⊢
        clear hk
        go_wp2_with (at_builtin; refine wpList_append_rw vnC_len vnC_one 50 40 (.agg #[.int .u16 0, .int .u8 0, .int .u8 0]) 4 Try.underlying40 info_vn rfl (by decide) (by decide) rfl (.tmp 22) (.tmp 28) rfl (p + 2) _ L0 rfl (HO.out.later ((Below.refl _ _).alloc (Nat.le_refl _) _)) _ [(x1, x2, x3)] rfl HLIT.out (by have := HDL.out; simp; omega) (by have := HWS.out; simp; omega) ?_; intro v1 w1 hown1 hb1; have HO1 := Lib.hid hown1; have HB1 := Lib.hid (((HW.out.alloc HWS.out _)).trans hb1); clear hown1 hb1)
        exact ⟨⟨j + 1, by omega, by go_num, by rw [HD2.out]; exact HO1.out, HB1.out⟩, by simp [intOf]; omega⟩
    · obtain rfl : j = V.length := by omega
      rw [List.take_length] at hown
      have dk : decide ((V.length : Int) < (V.length : Int)) = false := decide_eq_false (by omega)
      have HO := Lib.hid hown
      have HW := Lib.hid hbw
      obtain ⟨N, hN⟩ : ∃ N, V.length = N := ⟨_, rfl⟩
      have f1 := (HG0.out.below (by omega) hbw).fr 1
      rw [hN] at dk c1 ⊢
      clear hown hbw hdl
      obtain ⟨a', c', rfl, _⟩ := (HO.out.rw vnC_len).shape
      obtain ⟨M, hM⟩ : ∃ M, (vDel V k).length = M := ⟨_, rfl⟩
      rw [hM] at HO ⊢
      have h1 := (HG0.out.below (Nat.lt_succ_of_lt (Nat.lt_succ_self _)) HW.out).set 1 (.slice a' M c')
      rw [← HA.out, RA_put] at h1
      have h2 := (HGZ.out.below (Nat.lt_succ_self _) HW.out).other (t := p) (o := 1) (by omega) (.slice a' M c')
      have h3 := below_set (HB.out.trans (HW.out.mono (by omega))) (Nat.le_refl p) (o := 1) (.slice a' M c')
      have h4 := (HO.out.later (w' := wr) (Below.refl _ _))
      obtain ⟨A', hA'⟩ : ∃ A', RA n (.slice a' M c') o = A' := ⟨_, rfl⟩
      rw [hA'] at h1
      have hs' : A'.size = 10 := by rw [← hA']; exact RA_size ho
      have OC := Lib.hid (show A'.all (·.oneCell') = true by rw [← hA']; exact RA_one rfl)
      have HI := Lib.hid (refInfo hs')
      have HIL : Hid ((Try.prog.info? 43).map (·.size) = some A'.toList.length) := Lib.hid (by rw [Array.length_toList]; exact HI.out)
      have HA' := Lib.hid hA'
      have G1 := Lib.hid h1
      have G2 := Lib.hid h2
      have HB3 := Lib.hid h3
      have TH := Lib.hid (h2.there (n := A'.size) (by rw [hs', ← HZ.out]; simp [RA]))
      have HS' := Lib.hid hs'
      clear h1 h2 h3 h4 hA' hs' hj hlt a1 hs10
      go_upto_region 8 with fail
      have HO2 := Lib.hid (((HO.out.only (Only.set p wr 1 (.slice a' M c')) (by omega)).only (Only.setCells (p + 1) A'.toList 0 _) (by omega)).mono (by omega : p ≤ p + 2))
      have HB4 := Lib.hid (below_cellsG (t := p + 1) (Nat.le_succ p) A'.toList 0 _ HB3.out)
      obtain ⟨w5, hw5⟩ : ∃ k, wr.setCell ⟨p, 1, none⟩ (.slice a' M c') = k := ⟨_, rfl⟩
      have G3 := Lib.hid (G2.out.store (A := A') (by rw [HS'.out, ← HZ.out]; simp [RA]) OC.out)
      rw [hw5] at G1 G2 TH HO2 HB4 G3 ⊢
      clear hw5 HB3 f1 c1
      go_wp2_with (first
        | ((with_reducible refine wpList_load_mid rfl 43 (.tmp 2) rfl p 0 ?hx A'.toList _ G1.out.range Try.underlying43 ?hu HIL.out ?_); (case hx => rfl); (case hu => rfl))
        | ((with_reducible refine wpList_store_mid rfl 43 (.tmp 4) (.tmp 32) rfl (p + 1) 0 A' ?hx ?hy TH.out HI.out OC.out ?_); (case hx => rfl); (case hy => rfl)))
      exact bodyPost_ret (v := .agg A') (res_one (d := _) rfl rfl Try.underlying43 _ _ (p + 1) _ rfl G3.out HI.out) rfl ⟨_, by rw [← HA'.out], by rw [HP.out]; exact HO2.out, by rw [HP.out]; exact HB4.out⟩
end Go.Proofs.Ytecoomkpkdapdaa
