/- ZB34: the texts NM, NN as one. -/
import Derived.Test.YtpkkjbmgbgakdaaGreatDoorZB33
import Derived.RangeFuncBox
import Derived.RangeFuncLeaves
import Derived.RangeFuncBound
import Derived.RangeFuncCalls
import Derived.Shelf.Abstract
import Derived.Shelf.RegionOpen
import Derived.WalkKit
import Derived.OwnWalkIn
import Derived.TacticsInMore
import Derived.LoopNIn
import Derived.LoopIn
import Derived.Maps.AppendAt
import Derived.RangeFuncNested
/- bridge: the ports of a set, one after another. -/
set_option linter.unusedVariables false
set_option linter.unusedSimpArgs false
namespace Go.Proofs.YtpkkjbmgbgakdaaGreatDoor
open Go.RowKit Go.Shelf

/-- A port of a set. -/
abbrev Pt (x : Int) := { p : Nat // p < 8 ∧ x / 2 ^ p % 2 = 1 }
/-- Those below k. -/
def ptL (x : Int) : Nat → List (Pt x)
  | 0 => []
  | k + 1 => if h : k < 8 ∧ x / 2 ^ k % 2 = 1 then ptL x k ++ [⟨k, h⟩] else ptL x k
theorem ptL_len (x : Int) : ∀ k, (ptL x k).length ≤ k
  | 0 => Nat.le_refl _
  | k + 1 => by
    have := ptL_len x k
    unfold ptL
    split
    · simp; omega
    · omega
/-- The box of the set reads as it did. -/
def KpB (Bs : Nat) (A B : World) : Prop := B.cell? ⟨Bs, 0, none⟩ = A.cell? ⟨Bs, 0, none⟩ ∧ A.heap.size ≤ B.heap.size
theorem kpB_t {Bs : Nat} {A B C : World} (h : KpB Bs A B) (k : KpB Bs B C) : KpB Bs A C := ⟨k.1.trans h.1, Nat.le_trans h.2 k.2⟩
theorem kpB_b {Bs : Nat} {w : World} (hB : Bs < w.heap.size) (W : World) (l : Nat) (o o' : Obj) (hl : w.heap.size ≤ l) (_ : W.heap[l]? = some o) (_ : o.isCells = false) (_ : o.isWalk = false) : KpB Bs W (W.putObj l o') := by
  refine ⟨?_, (grownBy_putObj' W l o').size⟩
  unfold World.cell?
  rw [World.putObj_heap_other (by simp; omega)]
attribute [local go_sem] Oper.semAt_some
set_option maxRecDepth 100000 in
set_option maxHeartbeats 4000000 in
theorem ports1_in (x : Int) (hx : 0 ≤ x ∧ x < 256) (l Bs : Nat) (J Jx : List (Pt x) → World → Prop)
    (hY : ∀ pre (p : Pt x) W, J pre W → pre.length < 8 → YieldAt Fence.wide 1 Tryz.prog l #[.int .u8 (p.1 : Int)] W fun e W' => (e = .returned (.bool true) ∧ J (pre ++ [p]) W' ∧ KpB Bs W W') ∨ (e = .returned (.bool false) ∧ Jx (pre ++ [p]) W'))
    (W : World) (hc : W.cell? ⟨Bs, 0, none⟩ = some (.int .u8 x)) (h0 : J [] W) :
    CallsIn Fence.wide 2 Tryz.prog 207 #[.func (.yield l) #[] #[], .pointer (some ⟨Bs, 0, none⟩)] W fun e W' => (∃ v, e = .returned v) ∧ ((∃ xs, xs = ptL x 8 ∧ J xs W') ∨ (∃ pre : List (Pt x), True ∧ Jx pre W')) := by
  refine callsIn_of_wp Tryz.func207 rfl trivial ?_ rfl
  simp only [Tryz.ntmps207, List.size_toArray, List.length_cons, List.length_nil, Nat.reduceAdd, Nat.reduceSub, Array.replicate_succ, Array.replicate_zero, List.push_toArray, List.append_toArray, List.nil_append, List.cons_append]
  gi_wp2
  gi_loopw [4] (fun i wr => ∃ k : Nat, k ≤ 8 ∧ i = .int .u8 k ∧ wr.cell? ⟨Bs, 0, none⟩ = some (.int .u8 x) ∧ J (ptL x k) wr) (fun i _ => 8 - (intOf i).toNat)
  case atStart => exact ⟨0, by omega, rfl, hc, h0⟩
  case round =>
    obtain ⟨k, hk, rfl, hcr, hJ⟩ := hrel
    by_cases hlt : k < 8
    · have dk : decide ((k : Int) < 8) = true := decide_eq_true (by omega)
      have p0 : (0 : Int) ≤ (k : Int) := by omega
      have p8 : (k : Int) ≤ 8 := by omega
      have bb := and_shr x k hx
      by_cases hbit : x / 2 ^ k % 2 = 1
      · rw [decide_eq_true hbit] at bb
        obtain ⟨fn, tmps, assign, body, hy, hR⟩ := hY (ptL x k) ⟨k, hlt, hbit⟩ wr hJ (by have := ptL_len x k; omega)
        have hn : ptL x (k + 1) = ptL x k ++ [⟨k, hlt, hbit⟩] := by rw [ptL, dif_pos ⟨hlt, hbit⟩]
        gi_wp2
        refine hR.mono ?_
        rintro e W3 (⟨rfl, hJ3, hk3⟩ | ⟨rfl, hJx3⟩)
        · have hc3 := hk3.1.trans hcr
          gi_wp2
          go_roundw
          case rel => exact ⟨k + 1, by omega, by go_num, hc3, by rw [hn]; exact hJ3⟩
          case measure => simp [intOf]; omega
        · gi_wp2
          refine bodyPost_ret (results_none rfl _ _ _) rfl ?_
          exact ⟨⟨_, rfl⟩, .inr ⟨_, trivial, hJx3⟩⟩
      · rw [decide_eq_false hbit] at bb
        have hn : ptL x (k + 1) = ptL x k := by rw [ptL, dif_neg (fun h => hbit h.2)]
        gi_wp2
        refine ⟨fun _ h => (by cases h), ?_⟩
        gi_wp2
        go_roundw
        case rel => exact ⟨k + 1, by omega, by go_num, hcr, by rw [hn]; exact hJ⟩
        case measure => simp [intOf]; omega
    · have dk : decide ((k : Int) < 8) = false := decide_eq_false (by omega)
      obtain rfl : k = 8 := by omega
      gi_wp2
      go_end0
      exact ⟨⟨_, rfl⟩, .inl ⟨_, rfl, hJ⟩⟩
theorem portsStops (x : Int) (hx : 0 ≤ x ∧ x < 256) (Bs : Nat) (w : World) (hB : Bs < w.heap.size) (hc : w.cell? ⟨Bs, 0, none⟩ = some (.int .u8 x)) :
    SeqStopsK Fence.wide 2 Tryz.prog 207 #[.pointer (some ⟨Bs, 0, none⟩)] (fun p : Pt x => #[.int .u8 (p.1 : Int)]) (KpB Bs) (fun xs => xs = ptL x 8) (fun _ => True) 8 w := fun l J Jx W hW hJ _ hY h0 =>
  ports1_in x hx l Bs J Jx hY W ((hW.cell (p := ⟨Bs, 0, none⟩) hB).trans hc) h0
set_option maxHeartbeats 1000000 in
theorem ports_any (x : Int) (w : World) : Calls Tryz.prog 155 #[.int .u8 x] w fun e w' => e = .returned (.func (.func 207) #[] #[.pointer (some ⟨w.heap.size, 0, none⟩)]) ∧ w' = w.alloc (.cells #[.int .u8 x] 5) := by
  go_enter Tryz.func155, Tryz.ntmps155
  go_wp2
  go_ret
  exact ⟨rfl, rfl⟩
end Go.Proofs.YtpkkjbmgbgakdaaGreatDoor

/- bridge: which ports forward. -/
set_option linter.unusedVariables false
set_option linter.unusedSimpArgs false
namespace Go.Proofs.YtpkkjbmgbgakdaaGreatDoor
open Go.RowKit Go.Shelf

attribute [local go_sem] Oper.semAt_some
def accF (a : Int) (p : Nat) : Int := if p = 0 then bits .or .u8 a 1 else if p = 1 then bits .or .u8 a 2 else a
def accL (l : List (Pt 255)) : Int := (l.map (·.1)).foldl accF 0
theorem accL_all : accL (ptL 255 8) = 3 := by decide +kernel
theorem accL_snoc (l : List (Pt 255)) (p : Pt 255) : accL (l ++ [p]) = accF (accL l) p.1 := by simp [accL]
set_option maxRecDepth 100000 in
set_option maxHeartbeats 4000000 in
theorem bforwards_in (P : BP) (o : List Int) (V : List Vn) (v : Value) (dr : Int) (w : World) (h : BS w P [true, true] o V v dr) :
    CallsIn Fence.wide 3 Tryz.prog 157 #[.pointer (some ⟨P.b, 0, none⟩)] w fun en w' => en = .returned (.int .u8 3) ∧ Below w.heap.size w w' := by
  refine callsIn_of_wp_marks Tryz.func157 rfl trivial ?_ rfl
  simp only [Tryz.ntmps157, List.size_toArray, List.length_cons, List.length_nil, Nat.reduceAdd, Nat.reduceSub, Array.replicate_succ, Array.replicate_zero, List.push_toArray, List.append_toArray, List.nil_append, List.cons_append]
  have HH := Lib.hid h
  clear h
  have PO := ports_any 255
  gi_wp2_with (refine ⟨trivial, ?_⟩; gi_at_call 155; refine (callsIn_wide.2 (PO _)).mono ?_; rintro e w1 ⟨rfl, rfl⟩)
  have hz3 : (((w.alloc (.cells #[.pointer (some ⟨P.b, 0, none⟩)] 27)).alloc (.cells #[.int .u8 0] 5)).alloc (.cells #[.int .u8 255] 5)).heap.size = w.heap.size + 3 := by simp
  have bA := (Below.refl w.heap.size w).alloc (Nat.le_refl _) (.cells #[.pointer (some ⟨P.b, 0, none⟩)] 27)
  have gA := GB.new 27 w #[.pointer (some ⟨P.b, 0, none⟩)]
  obtain ⟨wa, hwa⟩ : ∃ z, w.alloc (.cells #[.pointer (some ⟨P.b, 0, none⟩)] 27) = z := ⟨_, rfl⟩
  have hza : wa.heap.size = w.heap.size + 1 := by rw [← hwa]; simp
  rw [hwa] at bA gA hz3 ⊢
  have bx0 := GB.new 5 wa #[.int .u8 0]
  have bx := bx0.later ((Below.refl _ _).alloc (Nat.le_refl _) (.cells #[.int .u8 255] 5))
  have bs := GB.new 5 (wa.alloc (.cells #[.int .u8 0] 5)) #[.int .u8 255]
  have b3 := ((Below.refl wa.heap.size wa).alloc (Nat.le_refl _) (.cells #[.int .u8 0] 5)).alloc (by simp) (.cells #[.int .u8 255] 5)
  rw [show (wa.alloc (.cells #[.int .u8 0] 5)).heap.size = w.heap.size + 2 by simp; omega] at bs
  rw [hza] at bx b3
  obtain ⟨w3, hw3⟩ : ∃ z, (wa.alloc (.cells #[.int .u8 0] 5)).alloc (.cells #[.int .u8 255] 5) = z := ⟨_, rfl⟩
  rw [hw3] at bx bs b3 hz3 ⊢
  have hsz : wa.heap.size = w.heap.size + 1 := hza
  have BH := Lib.hid fun (W : World) (hW : Below (w.heap.size + 1) wa W) => HH.out.later (bA.trans ((show Below wa.heap.size wa W by rw [hsz]; exact hW).mono bA.size))
  have CB := Lib.hid fun (W : World) (hW : Below (w.heap.size + 1) wa W) => show W.cell? ⟨w.heap.size, 0, none⟩ = some (.pointer (some ⟨P.b, 0, none⟩)) from (gA.later (show Below wa.heap.size wa W by rw [hsz]; exact hW)).c 0 _ rfl
  have BW := Lib.hid fun (W : World) (hW : Below (w.heap.size + 1) wa W) => bA.trans (hW.mono (Nat.le_succ _))
  have c255 := bs.c 0 _ rfl
  refine wpIn_rangeFunc_ownG rfl (by decide) (gf := 207) (lb := #[.pointer (some ⟨w.heap.size + 2, 0, none⟩)]) rfl trivial (enters_of Tryz.func207 (by kernel_rfl) rfl) (portsStops 255 (by decide) (w.heap.size + 2) w3 (by omega) c255) kpB_t (kpB_b (by omega)) (Below.refl _ _) (fun _ => rfl)
    (fun pre W => Boxed W (w.heap.size + 1) 5 (.int .u8 (accL pre)) ∧ Below (w.heap.size + 1) wa W)
    (fun _ _ _ => False)
    (OwnFrom.and (Own.from (boxed_own (w.heap.size + 1) 5 (fun pre => .int .u8 (accL pre))) _) (ownFrom_below (by omega) (by omega)))
    (fun _ _ _ _ _ hs _ _ => hs)
    ⟨bx, b3⟩
    (fun p => { tmps := #[.pointer (some ⟨P.b, 0, none⟩), .pointer (some ⟨w.heap.size, 0, none⟩), .int .u8 0, .pointer (some ⟨w.heap.size + 1, 0, none⟩), .int .u8 (p.1 : Int), .func (.func 207) #[] #[.pointer (some ⟨w.heap.size + 2, 0, none⟩)], .int .u8 (p.1 : Int), undef, undef, undef, undef, undef, undef, undef, undef, undef, undef, undef], defers := [] }) ?assign ?body ?done ?stop
  case assign =>
    intro l x W K hK
    gi_wp2
    exact hK
  case body =>
    rintro l pre ⟨p, hp8, hpb⟩ W ⟨hv, hB⟩ hlt
    have cb := CB.out W hB
    have hc := hv.cell
    have hf := hv.frozen
    have B0 := BH.out W hB
    have c1 := B0.c1
    have TF := Lib.hid (tfwd_host P.m P.g P.cap P.t 16 [true, true] p (by omega) W B0.tr)
    have hbl : w.heap.size + 1 < W.heap.size := hv.lt
    have hs3 : w.heap.size + 3 ≤ w3.heap.size := by omega
    have KO := Lib.hid fun u => (KeepsOthers.setCell W ⟨w.heap.size + 1, 0, none⟩ u).from w3.heap.size
    have KP := Lib.hid fun u => show KpB (w.heap.size + 2) W (W.setCell ⟨w.heap.size + 1, 0, none⟩ u) from ⟨by unfold World.cell?; rw [Below.heap_setCell _ _ _ _ (by simp)], by simp [World.setCell]⟩
    have NB := Lib.hid fun (x : Int) => show Boxed (W.setCell ⟨w.heap.size + 1, 0, none⟩ (.int .u8 x)) (w.heap.size + 1) 5 (.int .u8 x) from (show GB 5 W (w.heap.size + 1) #[.int .u8 (accL pre)] from hv).set 0 _
    have NW := Lib.hid fun u => show Below (w.heap.size + 1) wa (W.setCell ⟨w.heap.size + 1, 0, none⟩ u) from below_set hB (Nat.le_refl _) u
    have HS := Lib.hid (accL_snoc pre ⟨p, hp8, hpb⟩)
    have HV := Lib.hid hv
    have HBB := Lib.hid hB
    clear hv hB B0
    dsimp only
    by_cases h0 : p = 0
    · subst h0
      have TF : Hid (Calls Tryz.prog 72 #[.pointer (some ⟨P.m, 0, none⟩), .int .u8 0] W fun en w' => en = .returned (.bool true) ∧ W = w') := Lib.hid (TF.out.mono fun e w' h => ⟨h.1, h.2.symm⟩)
      gi_wp2_with (refine ⟨trivial, ?_⟩; gi_at_call 72; refine (CallsIn.inRound l (callsIn_wide.2 TF.out)).mono ?_; rintro e wx ⟨rfl, rfl⟩)
      refine ⟨KO.out _, KP.out _, ?_, NW.out _⟩
      rw [HS.out]
      exact NB.out _
    · by_cases h1 : p = 1
      · subst h1
        have TF : Hid (Calls Tryz.prog 72 #[.pointer (some ⟨P.m, 0, none⟩), .int .u8 1] W fun en w' => en = .returned (.bool true) ∧ W = w') := Lib.hid (TF.out.mono fun e w' h => ⟨h.1, h.2.symm⟩)
        gi_wp2_with (refine ⟨trivial, ?_⟩; gi_at_call 72; refine (CallsIn.inRound l (callsIn_wide.2 TF.out)).mono ?_; rintro e wx ⟨rfl, rfl⟩)
        refine ⟨KO.out _, KP.out _, ?_, NW.out _⟩
        rw [HS.out]
        exact NB.out _
      · have hu : upH [true, true] p = false := by
          unfold upH
          rw [List.getElem?_eq_none (by simp; omega)]; rfl
        have TF : Hid (Calls Tryz.prog 72 #[.pointer (some ⟨P.m, 0, none⟩), .int .u8 (p : Int)] W fun en w' => en = .returned (.bool false) ∧ W = w') := Lib.hid (TF.out.mono fun e w' h => ⟨by rw [h.1, hu], h.2.symm⟩)
        gi_wp2_with (refine ⟨trivial, ?_⟩; gi_at_call 72; refine (CallsIn.inRound l (callsIn_wide.2 TF.out)).mono ?_; rintro e wx ⟨rfl, rfl⟩)
        refine ⟨KeepsFrom.refl _ _, ⟨rfl, Nat.le_refl _⟩, ?_, HBB.out⟩
        rw [HS.out, show accF (accL pre) p = accL pre by unfold accF; rw [if_neg h0, if_neg h1]]
        exact HV.out
  case done =>
    rintro D ys W hD rfl ⟨hv, hB⟩ hK
    rw [accL_all] at hv
    have hc := hv.cell
    gi_wp2
    refine ⟨by simp, .inl ⟨_, _, rfl, run_takeDeferred hK, ?_⟩⟩
    exact ⟨_, results_tmp rfl _ _ _, rfl, (BW.out W hB).trans (belowK_b (w := w) (Nat.le_refl _) W D _ _ (by omega) hK rfl rfl)⟩
  case stop =>
    rintro D c pre W _ _ h _
    exact h.elim
end Go.Proofs.YtpkkjbmgbgakdaaGreatDoor
