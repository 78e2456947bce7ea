/- ZP16: the texts T10 as one. -/
import Derived.Test.YtlkdfofpnmpidaaGreatZP15
import Derived.WalkMore
/- tlv: the walk of Take. -/
set_option linter.unusedVariables false
namespace Go.Proofs.YtlkdfofpnmpidaaGreat
open Go.RowKit

set_option maxRecDepth 100000 in
set_option maxHeartbeats 8000000 in
theorem ttake_any (s : List UInt8) (w : World) (hl : s.length ≤ 100000) : Calls Tryz.prog 92 #[.string (bs s)] w fun en w' =>
    ∃ v', en = .returned (.tuple #[v', .string (bs (takeT s).2.1), .int .i64 (takeT s).2.2]) ∧ TlT w' w.heap.size v' (takeT s).1 ∧ Below w.heap.size w w' := by
  obtain ⟨R, hR⟩ : ∃ R, takeT s = R := ⟨_, rfl⟩
  have HR := Lib.hid hR
  rw [hR]; clear hR
  go_enter Tryz.func92, Tryz.ntmps92
  go_wp2
  go_step3
  go_wp2_with fail
  with_reducible refine (of_any s w).mono ?_
  rintro en w1 ⟨rfl, hr, hb, hlt⟩
  have tk0 : TK w w1.heap.size (w1.alloc (.cells #[.pointer (some ⟨w.heap.size, 0, none⟩)] 188)) s 0 :=
    ⟨hr.later ((Below.refl _ _).alloc (Nat.le_refl _) _), by simp [go_sem], hb.alloc hb.size _, by simp, hlt⟩
  have TK0 := Lib.hid tk0
  clear tk0 hr hb
  go_wp2_with fail
  go_step3
  go_wp2_with fail
  refine forget (fun W => TK w w1.heap.size W s 0) TK0.out ?_
  intro W0 tk0
  obtain ⟨q, hq⟩ : ∃ q, w1.heap.size = q := ⟨_, rfl⟩
  rw [hq] at tk0 hlt ⊢
  clear TK0 hq
  go_loopg [6] (s.length + 1) (fun g v wx => ∃ cur e out, g = cur.length + (if e = 0 then 1 else 0) ∧ TK w q wx cur e ∧ TlT wx (q + 1) v out ∧ out.length + cur.length ≤ 100000 ∧ ((e = 0 ∧ Sp s cur out) ∨ (e = 3 ∧ cur = [] ∧ takeT s = ([], [], 3))))
  case atStart => exact ⟨s, 0, [], by simp, tk0, TlT.none _ _, by simpa using hl, .inl ⟨rfl, Sp.start s⟩⟩
  case round =>
    clear tk0
    obtain ⟨cur, e, out, hg, tk, hown, hol, hinv⟩ := hrel
    have HG := Lib.hid hg
    have HO := Lib.hid hown
    have HOL := Lib.hid hol
    have cq := tk.ptr
    have TK1 := Lib.hid tk
    clear hg hown hol tk
    have hcl : cur.length ≤ 100000 := by have := HOL.out; omega
    rcases hinv with ⟨rfl, hS⟩ | ⟨rfl, rfl, hS⟩
    · match cur with
      | [] =>
        have hRR := HR.out.symm.trans (hS.bad takeT_nil)
        have HRR := Lib.hid hRR
        have HU : Hid (Calls Tryz.prog 90 #[.pointer (some ⟨w.heap.size, 0, none⟩)] wr fun en w' => en = .returned (.int .u8 0) ∧ Rd w' w.heap.size [] 3 ∧ Only w.heap.size wr w') := U8_any w.heap.size [] 0 wr TK1.out.rd (by simp)
        clear hS hRR
        go_wp2_with fail
        with_reducible refine HU.out.mono ?_
        rintro en w2 ⟨rfl, hr2, ho2⟩
        have tk2 := TK1.out.next hr2 ho2
        have cq2 := tk2.ptr
        have TK2 := Lib.hid tk2
        have HE := Lib.hid (err_any w.heap.size [] 3 w2 hr2)
        clear hr2 ho2 tk2 cq TK1 HU
        go_wp2_with fail
        with_reducible refine HE.out.mono ?_
        rintro en _ ⟨rfl, rfl⟩
        go_wp2
        try rw [Exit.noGoto_ret]
        refine bodyPost_ret (v := .tuple #[.slice none 0 0, .string (bs []), .int .i64 3]) (by simp [results, Tryz.results92, go_sem]; rfl) rfl ⟨_, by rw [HRR.out], by rw [HRR.out]; exact TlT.none _ _, TK2.out.bel⟩
      | c :: r =>
        obtain ⟨x, hx⟩ : ∃ x : Int, (c.toNat : Int) = x := ⟨_, rfl⟩
        have hc0 : c = 0 ↔ x = 0 := by
          constructor
          · rintro rfl; rw [← hx]; rfl
          · intro h; apply UInt8.toNat_inj.1; show _ = 0; omega
        have HU : Hid (Calls Tryz.prog 90 #[.pointer (some ⟨w.heap.size, 0, none⟩)] wr fun en w' => en = .returned (.int .u8 x) ∧ Rd w' w.heap.size r 0 ∧ Only w.heap.size wr w') := by
          have h := U8_any w.heap.size (c :: r) 0 wr TK1.out.rd (by have := hcl; omega)
          have e1 : rdText (c :: r) 0 1 = ([c], r, 0) := rd_one c r
          simp only [e1, numOf_one, hx] at h
          exact h
        have hrl : r.length ≤ 100000 := by simp at hcl; omega
        have hgr : gk = r.length + 2 := by have := HG.out; simp at this; omega
        have hol2 : out.length + r.length + 1 ≤ 100000 := by have := HOL.out; simp at this; omega
        go_wp2_with fail
        with_reducible refine HU.out.mono ?_
        rintro en w2 ⟨rfl, hr2, ho2⟩
        have tk2 := TK1.out.next hr2 ho2
        have cq2 := tk2.ptr
        have TK2 := Lib.hid tk2
        have HE := Lib.hid (err_any w.heap.size r 0 w2 hr2)
        have HO2 := Lib.hid (HO.out.only ho2 (by have := tk2.2.2.2.2; omega))
        clear hr2 ho2 tk2 cq TK1 HU HO
        go_wp2_with fail
        with_reducible refine HE.out.mono ?_
        rintro en _ ⟨rfl, rfl⟩
        by_cases h0 : x = 0
        · have d0 : (x == 0) = true := by simpa using h0
          have hT : takeT s = (out, r, 0) := by
            have := hS; unfold Sp at this; rw [hc0.2 h0, takeT_zero, if_pos rfl] at this; simpa using this
          have hRR := HR.out.symm.trans hT
          have HRR := Lib.hid hRR
          have e1 : rdRest r 0 = (r, [], 0) := by
            have := rd_exact r []
            rw [List.append_nil] at this; exact this
          have HRS : Hid (Calls Tryz.prog 93 #[.pointer (some ⟨w.heap.size, 0, none⟩)] w2 fun en w' => en = .returned (.string (bs r)) ∧ Only w.heap.size w2 w') := by
            have h := rest_any w.heap.size r 0 w2 TK2.out.rd (by omega)
            rw [e1] at h
            exact h.mono fun _ _ h => ⟨h.1, h.2.2⟩
          clear h0 hT hRR hS hc0 e1
          go_wp2_with fail
          with_reducible refine HRS.out.mono ?_
          rintro en w3 ⟨rfl, ho3⟩
          have HO3 := Lib.hid (HO2.out.only ho3 (by have := TK2.out.2.2.2.2; omega))
          have HB3 := Lib.hid (TK2.out.bel.trans (ho3.below (Nat.le_refl _) TK2.out.bel.size))
          have HQ := Lib.hid TK2.out.2.2.2.2
          clear ho3
          go_wp2
          rw [Exit.noGoto_ret]
          refine bodyPost_ret (v := .tuple #[u6, .string (bs r), .int .i64 0]) (by simp [results, Tryz.results92, go_sem]) rfl ⟨_, by rw [HRR.out], by rw [HRR.out]; exact HO3.out.mono (by have := HQ.out; omega), HB3.out⟩
        · have d0 : (x == 0) = false := by simpa using h0
          have hcn : c ≠ 0 := fun h => h0 (hc0.1 h)
          have hst := step_T hcn hS
          have HT := Lib.hid (thing_any q w.heap.size r 0 x w2 TK2.out.rd cq2 TK2.out.lt TK2.out.ne (by omega))
          obtain ⟨V, l', e', hV⟩ : ∃ V l' e', tkThing r 0 = (V, l', e') := ⟨_, _, _, rfl⟩
          have hl' : l'.length ≤ r.length := by
            have : (tkThing r 0).2.1.length ≤ r.length := by unfold tkThing; exact Nat.le_trans (rd_le _ _ _) (rd_le _ _ _)
            rw [hV] at this; exact this
          rw [hV] at HT hst
          simp only at HT hst
          have HST := Lib.hid hst
          have HX := Lib.hid hx
          clear h0 hcn hS hc0 hst hV hx
          go_wp2_with fail
          with_reducible refine HT.out.mono ?_
          rintro en w3 ⟨rfl, hr3, ho3⟩
          have tk3 := TK2.out.next hr3 ho3
          have hq1 : q + 1 ≤ w3.heap.size := tk3.lt
          have HO3 := Lib.hid ((HO2.out.only ho3 (by have := TK2.out.2.2.2.2; omega)).later ((Below.refl _ _).alloc (Nat.le_refl _) (.cells #[.int .u8 x, .string (bs V)] 182)))
          have HSRC : Hid (Tls (w3.alloc (.cells #[.int .u8 x, .string (bs V)] 182)) (.slice (some ⟨w3.heap.size, 0, none⟩) 1 1) [(c, V)]) := by
            have h := (TlT.lit w3 0 (c, V) (Nat.zero_le _)).tls
            simp only at h
            rw [HX.out] at h; exact h
          have TK3 := Lib.hid (tk3.below ((Below.refl _ _).alloc hq1 (.cells #[.int .u8 x, .string (bs V)] 182)))
          clear hr3 ho3 tk3 cq2 TK2 HO2
          go_wp2_with (at_builtin; refine wpList_append_T rfl (.tmp 21) (.tmp 25) rfl (q + 1) _ out rfl HO3.out _ [(c, V)] rfl HSRC.out ?_ ?_ ?_)
          · simp; omega
          · simp; omega
          · intro v4 w4 hown4 hb4
            have HO4 := Lib.hid hown4
            have TK4 := Lib.hid (TK3.out.below hb4)
            clear hown4 hb4 HO3 HSRC TK3
            go_wp2
            go_roundg (l'.length + (if e' = 0 then 1 else 0))
            case measure => rw [hgr]; split <;> omega
            case rel =>
              refine ⟨l', e', out ++ [(c, V)], rfl, TK4.out, HO4.out, by simp; omega, ?_⟩
              rcases HST.out with ⟨h1, h2, _⟩ | ⟨h1, h2, h3⟩
              · exact .inl ⟨h1, h2⟩
              · exact .inr ⟨h1, h2, h3⟩
    · have hRR := HR.out.symm.trans hS
      have HRR := Lib.hid hRR
      have HU : Hid (Calls Tryz.prog 90 #[.pointer (some ⟨w.heap.size, 0, none⟩)] wr fun en w' => en = .returned (.int .u8 0) ∧ Rd w' w.heap.size [] 3 ∧ Only w.heap.size wr w') := U8_any w.heap.size [] 3 wr TK1.out.rd (by simp)
      clear hS hRR
      go_wp2_with fail
      with_reducible refine HU.out.mono ?_
      rintro en w2 ⟨rfl, hr2, ho2⟩
      have tk2 := TK1.out.next hr2 ho2
      have cq2 := tk2.ptr
      have TK2 := Lib.hid tk2
      have HE := Lib.hid (err_any w.heap.size [] 3 w2 hr2)
      clear hr2 ho2 tk2 cq TK1 HU
      go_wp2_with fail
      with_reducible refine HE.out.mono ?_
      rintro en _ ⟨rfl, rfl⟩
      go_wp2
      rw [Exit.noGoto_ret]
      refine bodyPost_ret (v := .tuple #[.slice none 0 0, .string (bs []), .int .i64 3]) (by simp [results, Tryz.results92, go_sem]; rfl) rfl ⟨_, by rw [HRR.out], by rw [HRR.out]; exact TlT.none _ _, TK2.out.bel⟩
end Go.Proofs.YtlkdfofpnmpidaaGreat
