/- law18: the walk of RemotePlays. -/
import Derived.Test.YtecoomkpkdapdaaS22
import Derived.Test.YtecoomkpkdapdaaS23
import Derived.Test.YtecoomkpkdapdaaS24
set_option linter.unusedVariables false
set_option linter.unusedSimpArgs false
namespace Go.Proofs.Ytecoomkpkdapdaa
open Go.RowKit

theorem hdC_one (x : Hd) : ∀ u ∈ hdC x, u.oneCell' = true := by
  intro u hu
  unfold hdC ckC at hu
  simp only [List.mem_cons, List.not_mem_nil, or_false] at hu
  rcases hu with rfl | rfl | rfl | rfl | rfl | rfl | rfl <;> rfl
theorem info_hd : (Try.prog.info? 76).map (fun i => (i.zero, i.size, i.bytes)) = some (some (.agg #[.int .i64 0, .int .u8 0, .bool false, .int .u8 0, .int .u32 0, .int .u16 0, .string { data := #[] }]), 7, 40) := by kernel_rfl
theorem Ow.two {α : Type} {k : Nat} {f : α → List Value} {E : TypeId} {w w' : World} {B q m : Nat} {v : Value} {l : List α} (h : Ow k f E w B v l) (ht : Two q m w w') (hq : q < B) (hm : m < B) : Ow k f E w' B v l := by
  obtain ⟨h1, h2⟩ := h
  refine ⟨h1, ?_⟩
  rcases h2 with h2 | ⟨g, cap, cur, hv, hg, hh, r⟩
  · exact .inl h2
  · refine .inr ⟨g, cap, cur, hv, hg, ?_, r⟩
    rw [ht.block g (Array.getElem?_eq_some_iff.1 hh).1 (by omega) (by omega)]; exact hh
theorem Rw.two {α : Type} {k : Nat} {f : α → List Value} {w w' : World} {q m : Nat} {v : Value} {l : List α} {B : Nat} {E : TypeId} (hf : ∀ x, (f x).length = k) (h : Ow k f E w B v l) (ht : Two q m w w') (hq : q < B) (hm : m < B) : Rw k f w' v l := (h.two ht hq hm).rw hf
theorem Ow.belowB {α : Type} {k : Nat} {f : α → List Value} {E : TypeId} {w w' : World} {B C : Nat} {v : Value} {l : List α} (h : Ow k f E w B v l) (hb : Below C w w') (hl : ∀ g, v.ownBlock = some g → g < C) : Ow k f E w' B v l := by
  obtain ⟨h1, h2⟩ := h
  refine ⟨h1, ?_⟩
  rcases h2 with h2 | ⟨g, cap, cur, rfl, hg, hh, r⟩
  · exact .inl h2
  · refine .inr ⟨g, cap, cur, rfl, hg, ?_, r⟩
    rw [hb.block g (hl g (by simp [Value.ownBlock]))]; exact hh
/-- What is kept: the machine, the own point's box; the others; what was heard. -/
structure PS (w W : World) (B A H q m : Nat) (a : Ow8) (V : List Vn) (bd cr : Int) (av : Value) (all : List Int) (hv : Value) (hs : List Hd) : Prop where
  mc : MC W q a m V bd cr
  gb : GB 56 W B (ow8A a)
  bel : Below B w W
  bq : B < q
  bm : B < m
  qa : q < A
  ma : m < A
  ah : A ≤ H
  oa : OwU W A av all
  oh : Ow 7 hdC 76 W H hv hs
  al : ∀ g, av.ownBlock = some g → g < H
  hz : H ≤ W.heap.size
  wz : w.heap.size = B
section
variable {w W W' : World} {B A H q m : Nat} {a : Ow8} {V V' : List Vn} {bd cr bd' cr' : Int} {av hv : Value} {all : List Int} {hs : List Hd}
theorem PS.later (h : PS w W B A H q m a V bd cr av all hv hs) (hb : Below W.heap.size W W') : PS w W' B A H q m a V bd cr av all hv hs :=
  ⟨h.mc.later hb, h.gb.later hb, h.bel.trans (hb.mono (by have := h.gb.lt; omega)), h.bq, h.bm, h.qa, h.ma, h.ah, Ow.later h.oa hb, Ow.later h.oh hb, h.al, Nat.le_trans h.hz hb.size, h.wz⟩
theorem PS.two (h : PS w W B A H q m a V bd cr av all hv hs) (hm : MC W' q a m V' bd' cr') (ht : Two q m W W') : PS w W' B A H q m a V' bd' cr' av all hv hs :=
  ⟨hm, (ht.block B h.gb.lt (by have := h.bq; omega) (by have := h.bm; omega)).trans h.gb, h.bel.trans (ht.below (by have := h.bq; omega) (by have := h.bm; omega) (by have := h.gb.lt; omega)), h.bq, h.bm, h.qa, h.ma, h.ah, Ow.two h.oa ht h.qa h.ma, Ow.two h.oh ht (by have := h.qa; have := h.ah; omega) (by have := h.ma; have := h.ah; omega), h.al, Nat.le_trans h.hz ht.size, h.wz⟩
end
theorem PS.app {w W W' : World} {B A H q m : Nat} {a : Ow8} {V : List Vn} {bd cr : Int} {av hv hv' : Value} {all : List Int} {hs hs' : List Hd} (h : PS w W B A H q m a V bd cr av all hv hs) (hb : Below H W W') (ho : Ow 7 hdC 76 W' H hv' hs') : PS w W' B A H q m a V bd cr av all hv' hs' :=
  ⟨h.mc.blk (hb.block q (by have := h.qa; have := h.ah; omega)) (hb.block m (by have := h.ma; have := h.ah; omega)), (hb.block B (by have := h.bq; have := h.qa; have := h.ah; omega)).trans h.gb, h.bel.trans (hb.mono (by have := h.bq; have := h.qa; have := h.ah; omega)), h.bq, h.bm, h.qa, h.ma, h.ah, Ow.belowB h.oa hb h.al, ho, h.al, Nat.le_trans h.hz hb.size, h.wz⟩
/-- A round's step of what was heard. -/
theorem grA_false {l : List Ak} (h : grA l = false) : ∀ x ∈ l, x.c.md.length ≤ 100 := by
  intro x hx
  unfold grA at h
  rw [List.any_eq_false] at h
  have := h x hx
  simp at this
  omega
set_option maxRecDepth 100000 in
set_option maxHeartbeats 16000000 in
theorem RemotePlays_walk (a : Ow8) (sv : Value) (ks : List Int) (lv : Value) (l : List Ak) (w : World) (ha : OwA a) (hK : Rw 1 u1 w sv ks ∧ ks.length ≤ maxLen ∧ ∀ x ∈ ks, 0 ≤ x ∧ x < 65536) (hL : Rw 7 akC w lv l ∧ l.length ≤ maxLen ∧ ∀ x ∈ l, x.Ok) :
    Calls Try.prog 7 #[.agg (ow8A a), sv, lv] w fun en w' => en = .returned (.bool true) ∧ Below w.heap.size w w' := by
  obtain ⟨hK1, hK2, hK3⟩ := hK
  obtain ⟨hL1, hL2, hL3⟩ := hL
  have WK := Lib.hid wakes18_any
  have OF : Hid (∀ w, Calls Try.prog 27 #[.agg #[.int .u8 a.lv, .int .u16 a.mp, .int .u8 a.iv, .string (bs a.md)]] w fun en w' => en = .returned (.agg #[.int .u8 a.lv, .int .u16 a.mp, .int .u8 a.iv, .string (bs a.md)]) ∧ Below w.heap.size w w') := Lib.hid fun w => of18_any a w
  have GR := Lib.hid (fun w' (hb : Below w.heap.size w w') => great_any a sv ks lv l w' (hK1.later u1_len hb) (hL1.later akC_len hb) (fun x hx => (hL3 x hx).2.2.2.2.2) ha.2.2.2 hK2 hL2)
  obtain ⟨G, hG⟩ : ∃ G, grB a ks l = G := ⟨_, rfl⟩
  rw [hG] at GR
  have HG := Lib.hid hG
  have HKL := Lib.hid (And.intro hK1 (And.intro hL1 (And.intro hK3 (And.intro hL3 ha))))
  clear hK1 hL1 hK2 hL2 hK3 hL3 ha hG
  unfold ow8A at GR ⊢
  go_enter Try.func7, Try.ntmps7
  go_upto_region 1 with fail
  have g0 : GB 56 (w.alloc (.cells #[.int .u8 a.lv, .int .u16 a.mp, .int .u8 a.iv, .string (bs a.md)] 56)) w.heap.size (ow8A a) := heap_alloc_new _ _
  have b0 : Below w.heap.size w (w.alloc (.cells #[.int .u8 a.lv, .int .u16 a.mp, .int .u8 a.iv, .string (bs a.md)] 56)) := (Below.refl _ _).alloc (Nat.le_refl _) _
  obtain ⟨w0, hw0⟩ : ∃ k, w.alloc (.cells #[.int .u8 a.lv, .int .u16 a.mp, .int .u8 a.iv, .string (bs a.md)] 56) = k := ⟨_, rfl⟩
  rw [hw0] at g0 b0 ⊢
  obtain ⟨B, hB⟩ : ∃ k, w.heap.size = k := ⟨_, rfl⟩
  have HB := Lib.hid hB
  rw [hB] at g0 b0 GR ⊢
  have S0 := Lib.hid (And.intro g0 b0)
  clear hw0 g0 b0 hB
  have k0 : w0.cell? ⟨B, 0, none⟩ = some (.int .u8 a.lv) := S0.out.1.c 0 _ rfl
  have k1 : w0.cell? ⟨B, 1, none⟩ = some (.int .u16 a.mp) := S0.out.1.c 1 _ rfl
  have k2 : w0.cell? ⟨B, 2, none⟩ = some (.int .u8 a.iv) := S0.out.1.c 2 _ rfl
  have k3 : w0.cell? ⟨B, 3, none⟩ = some (.string (bs a.md)) := S0.out.1.c 3 _ rfl
  go_wp2_with fail
  with_reducible refine (GR.out _ S0.out.2).mono ?_
  rintro en w1 ⟨rfl, hb1⟩
  have S1 := Lib.hid (And.intro (S0.out.1.later hb1) (S0.out.2.trans (hb1.mono (by have := S0.out.1.lt; omega))))
  clear hb1 S0 k0 k1 k2 k3 GR
  cases G
  rotate_left
  · go_wp2_with (go_at_call 25; with_reducible refine (WK.out _).mono ?_; rintro e w' ⟨rfl, hb⟩)
    go_ret
    exact ⟨rfl, by rw [HB.out]; exact S1.out.2.trans (hb.mono (by have := S1.out.1.lt; omega))⟩
  have hg := HG.out
  unfold grB at hg
  simp only [Bool.or_eq_false_iff, decide_eq_false_iff_not] at hg
  obtain ⟨hg1, hg2, hg3, hg4⟩ := hg
  have HN := Lib.hid (And.intro (show l.length ≤ 150 by omega) (And.intro (show ks.length ≤ 20 by omega) (And.intro (show a.md.length ≤ 100 by omega) (grA_false hg4))))
  have HAO : Hid a.Ok := Lib.hid ⟨HKL.out.2.2.2.2.1, HKL.out.2.2.2.2.2.1, HKL.out.2.2.2.2.2.2.1, by have := HN.out.2.2.1; omega⟩
  clear hg1 hg2 hg3 hg4 HG
  have k0 : w1.cell? ⟨B, 0, none⟩ = some (.int .u8 a.lv) := S1.out.1.c 0 _ rfl
  have k1 : w1.cell? ⟨B, 1, none⟩ = some (.int .u16 a.mp) := S1.out.1.c 1 _ rfl
  have k2 : w1.cell? ⟨B, 2, none⟩ = some (.int .u8 a.iv) := S1.out.1.c 2 _ rfl
  have k3 : w1.cell? ⟨B, 3, none⟩ = some (.string (bs a.md)) := S1.out.1.c 3 _ rfl
  go_wp2_with fail
  with_reducible refine (OF.out _).mono ?_
  rintro en w2 ⟨rfl, hb1⟩
  have S2 := Lib.hid (And.intro (S1.out.1.later hb1) (S1.out.2.trans (hb1.mono (by have := S1.out.1.lt; omega))))
  clear hb1 S1 k0 k1 k2 k3
  have NW : Hid (Calls Try.prog 26 #[.agg #[.int .u8 a.lv, .int .u16 a.mp, .int .u8 a.iv, .string (bs a.md)], sv] w2 fun en w' =>
    (newV a ks = none ∧ en = .returned (.tuple #[.pointer none, .int .i64 2]) ∧ Below w2.heap.size w2 w') ∨
    ∃ V q m, newV a ks = some V ∧ en = .returned (.tuple #[.pointer (some ⟨q, 0, none⟩), .int .i64 0]) ∧ NS w2 w' q m a V) := Lib.hid
    (new18_any a HAO.out sv ks HKL.out.2.2.1 w2 (HKL.out.1.later u1_len (by rw [HB.out]; exact S2.out.2)) (by have := HN.out.2.1; omega))
  have MY : Hid (∀ W, Below B w W → Calls Try.prog 28 #[.agg #[.int .u8 a.lv, .int .u16 a.mp, .int .u8 a.iv, .string (bs a.md)], sv] W fun en w' => en = .returned (.bool (mayR a ks)) ∧ Below W.heap.size W w') := Lib.hid fun W hb =>
    may18_any a HAO.out sv ks W (HKL.out.1.later u1_len (by rw [HB.out]; exact hb)) (by have := HN.out.2.1; omega)
  go_wp2_with fail
  with_reducible refine NW.out.mono ?_
  rintro en w3 hnew
  clear NW
  rcases new_may a ks with ⟨hm, hv⟩ | ⟨hm, V0, hv, hks, hinv⟩
  · rw [hm] at MY
    rcases hnew with ⟨_, rfl, hb3⟩ | ⟨V', q', m', hv', _⟩
    rotate_left
    · rw [hv] at hv'; cases hv'
    have S3 := Lib.hid (And.intro (S2.out.1.later hb3) (S2.out.2.trans (hb3.mono (by have := S2.out.1.lt; omega))))
    clear hb3 S2 hm hv
    have k0 : w3.cell? ⟨B, 0, none⟩ = some (.int .u8 a.lv) := S3.out.1.c 0 _ rfl
    have k1 : w3.cell? ⟨B, 1, none⟩ = some (.int .u16 a.mp) := S3.out.1.c 1 _ rfl
    have k2 : w3.cell? ⟨B, 2, none⟩ = some (.int .u8 a.iv) := S3.out.1.c 2 _ rfl
    have k3 : w3.cell? ⟨B, 3, none⟩ = some (.string (bs a.md)) := S3.out.1.c 3 _ rfl
    go_wp2_with fail
    with_reducible refine (MY.out _ S3.out.2).mono ?_
    rintro en w4 ⟨rfl, hb4⟩
    have S4 := Lib.hid (And.intro (S3.out.1.later hb4) (S3.out.2.trans (hb4.mono (by have := S3.out.1.lt; omega))))
    clear hb4 S3 k0 k1 k2 k3
    go_wp2_with (go_at_call 25; with_reducible refine (WK.out _).mono ?_; rintro e w' ⟨rfl, hb⟩)
    go_ret
    exact ⟨rfl, by rw [HB.out]; exact S4.out.2.trans (hb.mono (by have := S4.out.1.lt; omega))⟩
  · rw [hm] at MY
    rcases hnew with ⟨hv', _⟩ | ⟨V', q, m, hv', rfl, ns⟩
    · rw [hv] at hv'; cases hv'
    rw [hv] at hv'
    cases hv'
    have hb3 := ns.bel
    have S3 := Lib.hid (And.intro (S2.out.1.later hb3) (And.intro (S2.out.2.trans (hb3.mono (by have := S2.out.1.lt; omega))) (And.intro ns.mc (And.intro (show B < q by have := ns.lq; have := S2.out.1.lt; omega) (show B < m by have := ns.lm; have := S2.out.1.lt; omega)))))
    have HINV := Lib.hid hinv
    clear hb3 S2 hm hv ns hinv hks
    have k0 : w3.cell? ⟨B, 0, none⟩ = some (.int .u8 a.lv) := S3.out.1.c 0 _ rfl
    have k1 : w3.cell? ⟨B, 1, none⟩ = some (.int .u16 a.mp) := S3.out.1.c 1 _ rfl
    have k2 : w3.cell? ⟨B, 2, none⟩ = some (.int .u8 a.iv) := S3.out.1.c 2 _ rfl
    have k3 : w3.cell? ⟨B, 3, none⟩ = some (.string (bs a.md)) := S3.out.1.c 3 _ rfl
    go_wp2_with fail
    with_reducible refine (MY.out _ S3.out.2.1).mono ?_
    rintro en w4 ⟨rfl, hb4⟩
    have S4 := Lib.hid (And.intro (S3.out.1.later hb4) (And.intro (S3.out.2.1.trans (hb4.mono (by have := S3.out.1.lt; omega))) (And.intro (S3.out.2.2.1.later hb4) S3.out.2.2.2)))
    clear hb4 S3 k0 k1 k2 k3 MY
    go_wp2_with fail
    with_reducible refine (rising_any sv ks _ (HKL.out.1.later u1_len (by rw [HB.out]; exact S4.out.2.1)) (by have := HN.out.2.1; omega) HKL.out.2.2.1).mono ?_
    rintro en w5 ⟨av, rfl, hoa, hb5⟩
    obtain ⟨all, hall⟩ : ∃ z, riseN ks 8192 = z := ⟨_, rfl⟩
    rw [hall] at hoa HINV
    have P0 : Hid (PS w w5 B w4.heap.size w5.heap.size q m a V0 0 0 av all (.slice none 0 0) []) := Lib.hid
      ⟨S4.out.2.2.1.later hb5, S4.out.1.later hb5, S4.out.2.1.trans (hb5.mono (by have := S4.out.1.lt; omega)), S4.out.2.2.2.1, S4.out.2.2.2.2, S4.out.2.2.1.lt, S4.out.2.2.1.om.lt, hb5.size, hoa, Ow.none _ _, fun g hg => (World.ownsRow.lt hoa g hg).2, Nat.le_refl _, HB.out⟩
    clear hoa hb5 S4 hall
    obtain ⟨la, lc, rfl, hsh⟩ := HKL.out.2.1.shape
    have HSH := Lib.hid hsh
    obtain ⟨L, hLL⟩ : ∃ L, l.length = L := ⟨_, rfl⟩
    have HL := Lib.hid hLL
    have hL150 : L ≤ 150 := by have := HN.out.1; omega
    have HLO : Hid (∀ x ∈ l, x.Ok ∧ x.c.md.length ≤ 100) := Lib.hid fun x hx => ⟨HKL.out.2.2.2.1 x hx, HN.out.2.2.2 x hx⟩
    have HIN : Hid (Inv a all V0 0 0 [] 0) := HINV
    rw [hLL]
    obtain ⟨A, hA⟩ : ∃ z, w4.heap.size = z := ⟨_, rfl⟩
    rw [hA] at P0
    obtain ⟨H, hH⟩ : ∃ z, w5.heap.size = z := ⟨_, rfl⟩
    rw [hH] at P0
    clear hsh hLL HKL HN HINV hA hH
    have WE : Hid (∀ wr hv hs V bd cr, PS w wr B A H q m a V bd cr av all hv hs → Below B w wr) := Lib.hid fun wr hv hs V bd cr h => h.bel
    go_wp2_with fail
    go_loopw [10, 11, 12] (fun hv nw i wr => ∃ (j : Nat) (now : Int) (V : List Vn) (bd cr : Int) (hs : List Hd) (hx : Value), j ≤ L ∧ hx = hv ∧ i = .int .i64 j ∧ nw = .int .i64 now ∧ (0 ≤ now ∧ now ≤ j) ∧ Hid (PS w wr B A H q m a V bd cr av all hx hs) ∧ Hid (Inv a all V bd cr hs now ∧ hs.length ≤ j ∧ ∀ h ∈ hs, h.Ok)) (fun _ _ i _ => L - (intOf i).toNat)
    case atStart => exact ⟨0, 0, V0, 0, 0, [], _, Nat.zero_le _, rfl, rfl, rfl, by omega, P0, Lib.hid ⟨HIN.out, by simp, by simp⟩⟩
    case round =>
      obtain ⟨j, now, V, bd, cr, hs, hv, hj, rfl, rfl, rfl, hnw, HP, HI⟩ := hrel
      have hjb : (j : Int) < 1000 := by omega
      clear P0 HIN
      by_cases hlt : j < L
      rotate_left
      · obtain rfl : j = L := by omega
        have dk : decide ((j : Int) < (j : Int)) = false := decide_eq_false (by omega)
        have k0 : wr.cell? ⟨B, 0, none⟩ = some (.int .u8 a.lv) := HP.out.gb.c 0 _ rfl
        have k1 : wr.cell? ⟨B, 1, none⟩ = some (.int .u16 a.mp) := HP.out.gb.c 1 _ rfl
        have k2 : wr.cell? ⟨B, 2, none⟩ = some (.int .u8 a.iv) := HP.out.gb.c 2 _ rfl
        have k3 : wr.cell? ⟨B, 3, none⟩ = some (.string (bs a.md)) := HP.out.gb.c 3 _ rfl
        have TE : Hid (Calls Try.prog 33 #[.pointer (some ⟨q, 0, none⟩), .agg #[.int .u8 a.lv, .int .u16 a.mp, .int .u8 a.iv, .string (bs a.md)], av, hv, .int .i64 now] wr fun en w' => en = .returned (.bool true) ∧ Below wr.heap.size wr w') := Lib.hid
          (tells_any q m a all V bd cr av hv hs now wr HP.out.mc HI.out.1 (OwU.ru HP.out.oa) (HP.out.oh.rw hdC_len) (by have := HI.out.2.1; omega) HI.out.2.2 (by omega))
        clear hlt hj
        go_wp2_with (first | (go_at_call 33; with_reducible refine TE.out.mono ?_; rintro e1 w1' ⟨rfl, hb1⟩) | (go_at_call 25; with_reducible refine (WK.out _).mono ?_; rintro e w' ⟨rfl, hb⟩))
        go_ret
        exact ⟨rfl, by rw [HB.out]; exact (HP.out.bel.trans (hb1.mono (by have := HP.out.gb.lt; omega))).trans (hb.mono (by have := HP.out.gb.lt; have := hb1.size; omega))⟩
      have dk : decide ((j : Int) < (L : Int)) = true := decide_eq_true (by omega)
      obtain ⟨b, off, rfl, hcc⟩ := HSH.out.resolve_left (by intro h; have := HL.out; rw [h] at this; simp at this; omega)
      have hjl : j < l.length := by rw [HL.out]; exact hlt
      obtain ⟨x, hx⟩ : ∃ x, l[j] = x := ⟨_, rfl⟩
      have HXO : Hid (x.Ok ∧ x.c.md.length ≤ 100) := Lib.hid (by rw [← hx]; exact HLO.out _ (List.getElem_mem _))
      have cellx : Hid (∀ i v, i < 7 → (akC x)[i]? = some v → ∀ W, Below B w W → W.cell? ⟨b, off + j * 7 + i, none⟩ = some v) := Lib.hid fun i v hi hv W hW => by
        have h1 : w.cell? ⟨b, off + j * 7 + i, none⟩ = some v := by rw [hcc j hjl i hi, hx]; exact hv
        rw [← HB.out] at hW
        exact (hW.cell (World.block_lt_of_cell? w _ h1)).trans h1
      clear hcc hjl hx
      have x0 : wr.cell? ⟨b, off + j * 7, none⟩ = some (.int .u8 x.dq) := cellx.out 0 _ (by decide) rfl _ HP.out.bel
      obtain ⟨D, hD⟩ : ∃ z, (x.dq == 0) = z := ⟨_, rfl⟩
      have HN1 := Lib.hid hnw
      clear hnw hj
      go_upto_if 57 with fail
      go_cut [10, 11] (fun hv2 nw2 wx => ∃ (now' : Int) (V' : List Vn) (bd' cr' : Int) (hs' : List Hd) (hx' : Value), hx' = hv2 ∧ nw2 = .int .i64 now' ∧ (0 ≤ now' ∧ now' ≤ (j : Int) + 1) ∧ Hid (PS w wx B A H q m a V' bd' cr' av all hx' hs') ∧ Hid (Inv a all V' bd' cr' hs' now' ∧ hs'.length ≤ j + 1 ∧ ∀ h ∈ hs', h.Ok))
      case first =>
        cases D
        · have C0 : ∀ W, Below B w W → W.cell? ⟨b, off + j * 7 + 1, none⟩ = some (.int .u8 x.c.lv) ∧ W.cell? ⟨b, off + j * 7 + 2, none⟩ = some (.bool x.c.rd) ∧ W.cell? ⟨b, off + j * 7 + 3, none⟩ = some (.int .u8 x.c.iv) ∧ W.cell? ⟨b, off + j * 7 + 4, none⟩ = some (.int .u32 x.c.sq) ∧ W.cell? ⟨b, off + j * 7 + 5, none⟩ = some (.int .u16 x.c.me) ∧ W.cell? ⟨b, off + j * 7 + 6, none⟩ = some (.string (bs x.c.md)) := fun W h =>
            ⟨cellx.out 1 _ (by decide) rfl W h, cellx.out 2 _ (by decide) rfl W h, cellx.out 3 _ (by decide) rfl W h, cellx.out 4 _ (by decide) rfl W h, cellx.out 5 _ (by decide) rfl W h, cellx.out 6 _ (by decide) rfl W h⟩
          have CX := Lib.hid C0
          have CH : Hid (∀ w, Calls Try.prog 32 #[.agg #[.int .u8 x.c.lv, .bool x.c.rd, .int .u8 x.c.iv, .int .u32 x.c.sq, .int .u16 x.c.me, .string (bs x.c.md)]] w fun en w' => en = .returned (.agg #[.int .u8 x.c.lv, .bool x.c.rd, .int .u8 x.c.iv, .int .u32 x.c.sq, .int .u16 x.c.me, .string (bs x.c.md)]) ∧ Below w.heap.size w w') := Lib.hid fun w => chk18_any x.c.lv x.c.rd x.c.iv x.c.sq x.c.me x.c.md w
          clear C0 x0
          obtain ⟨x1, x2, x3, x4, x5, x6⟩ := CX.out _ HP.out.bel
          go_wp2_with fail
          with_reducible refine (CH.out _).mono ?_
          rintro e1 w1' ⟨rfl, hb1⟩
          have HP2 := Lib.hid (HP.out.later hb1)
          have HE := Lib.hid (hear_any q m a V bd cr x.c.lv x.c.rd x.c.iv x.c.sq x.c.me x.c.md w1' HP2.out.mc HI.out.1.bnd (by have := HXO.out.2; omega) HXO.out.1.2.2.2.1 HXO.out.1.2.2.2.2.1)
          have HI2 := Lib.hid (Inv.hear HP2.out.mc.ri HI.out.1 x.c HXO.out.1.2.2.2.2.1)
          clear hb1 x1 x2 x3 x4 x5 x6 HP
          obtain ⟨⟨V2, bd2, cr2⟩, hR⟩ : ∃ z, hearC a V bd cr x.c.lv x.c.rd x.c.iv x.c.me x.c.md = z := ⟨_, rfl⟩
          rw [hR] at HE HI2
          simp only at HE HI2
          clear hR
          go_wp2_with fail
          with_reducible refine HE.out.mono ?_
          rintro e2 w2' ⟨rfl, hmc, htw⟩
          have HP3 := Lib.hid (HP2.out.two hmc htw)
          clear hmc htw HE HP2
          obtain ⟨x1, x2, x3, x4, x5, x6⟩ := CX.out _ HP3.out.bel
          have hnb := HN1.out
          go_wp2_with (at_builtin; refine wpList_append_rw hdC_len hdC_one 76 66 _ 40 Try.underlying66 info_hd rfl (by decide) (by decide) rfl (.tmp 70) (.tmp 78) rfl H _ hs rfl (HP3.out.oh.later ((Below.refl _ _).alloc (Nat.le_refl _) _)) _ [⟨now, x.c⟩] rfl ((Ow.lit (E := 76) hdC_len _ 0 ⟨now, x.c⟩ #[.int .i64 now, .int .u8 x.c.lv, .bool x.c.rd, .int .u8 x.c.iv, .int .u32 x.c.sq, .int .u16 x.c.me, .string (bs x.c.md)] rfl (Nat.zero_le _)).rw hdC_len) (by have := HI.out.2.1; rw [List.length_singleton]; omega) (by have := HP3.out.hz; simp; omega) ?_; intro v1 w4' hown1 hb4; have HO1 := Lib.hid hown1; have HB1 := Lib.hid hb4; clear hown1 hb4)
          go_meet
          refine ⟨now, V2, bd2, cr2, hs ++ [⟨now, x.c⟩], v1, rfl, rfl, by omega, Lib.hid ((HP3.out.later ((Below.refl _ _).alloc (Nat.le_refl _) _)).app HB1.out HO1.out), Lib.hid ⟨HI2.out, by have := HI.out.2.1; simp; omega, fun h hh => ?_⟩⟩
          rcases List.mem_append.1 hh with hh | hh
          · exact HI.out.2.2 h hh
          · rw [List.mem_singleton.1 hh]
            exact ⟨⟨by show 0 ≤ now; omega, by show now ≤ 1000; omega⟩, by show x.c.md.length ≤ 1000; have := HXO.out.2; omega, HXO.out.1.2.2.2.2.1⟩
        · have TK := Lib.hid (tick_any q m a V bd cr wr HP.out.mc HI.out.1.bnd)
          go_wp2_with fail
          with_reducible refine TK.out.mono ?_
          rintro e1 w1' ⟨rfl, hmc, htw⟩
          have HP2 := Lib.hid (HP.out.two hmc htw)
          clear hmc htw
          have hnb := HN1.out
          go_wp2_with fail
          go_meet
          exact ⟨now + 1, _, _, _, hs, hv, rfl, by go_num, by omega, HP2, Lib.hid ⟨HI.out.1.tick, by have := HI.out.2.1; omega, HI.out.2.2⟩⟩
      case rest =>
        obtain ⟨now2, V2, bd2, cr2, hs2, hv2, rfl, rfl, hnw2, HP2, HI2⟩ := hcut
        have HN2 := Lib.hid hnw2
        have k0 : wc.cell? ⟨B, 0, none⟩ = some (.int .u8 a.lv) := HP2.out.gb.c 0 _ rfl
        have k1 : wc.cell? ⟨B, 1, none⟩ = some (.int .u16 a.mp) := HP2.out.gb.c 1 _ rfl
        have k2 : wc.cell? ⟨B, 2, none⟩ = some (.int .u8 a.iv) := HP2.out.gb.c 2 _ rfl
        have k3 : wc.cell? ⟨B, 3, none⟩ = some (.string (bs a.md)) := HP2.out.gb.c 3 _ rfl
        have TE : Hid (Calls Try.prog 33 #[.pointer (some ⟨q, 0, none⟩), .agg #[.int .u8 a.lv, .int .u16 a.mp, .int .u8 a.iv, .string (bs a.md)], av, hv2, .int .i64 now2] wc fun en w' => en = .returned (.bool true) ∧ Below wc.heap.size wc w') := Lib.hid
          (tells_any q m a all V2 bd2 cr2 av hv2 hs2 now2 wc HP2.out.mc HI2.out.1 (OwU.ru HP2.out.oa) (HP2.out.oh.rw hdC_len) (by have := HI2.out.2.1; omega) HI2.out.2.2 (by omega))
        clear hD x0 HP HI
        go_wp2_with fail
        with_reducible refine TE.out.mono ?_
        rintro e1 w1' ⟨rfl, hb1⟩
        have HP3 := Lib.hid (HP2.out.later hb1)
        clear hb1 HP2 k0 k1 k2 k3 TE
        go_wp2
        exact ⟨⟨j + 1, now2, V2, bd2, cr2, hs2, hv2, by omega, rfl, by go_num, rfl, by have := HN2.out; omega, HP3, HI2⟩, by simp [intOf]; omega⟩
end Go.Proofs.Ytecoomkpkdapdaa
