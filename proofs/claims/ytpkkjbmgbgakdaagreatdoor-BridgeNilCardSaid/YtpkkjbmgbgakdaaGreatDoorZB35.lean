/- ZB35: the texts NO, RI as one. -/
import Derived.Test.YtpkkjbmgbgakdaaGreatDoorZB34
import Derived.Deep.RegionHeld3
/- bridge: the known frame goes outwards. -/
set_option linter.unusedVariables false
set_option linter.unusedSimpArgs false
namespace Go.Proofs.YtpkkjbmgbgakdaaGreatDoor
open Go.RowKit

set_option maxRecDepth 100000 in
set_option maxHeartbeats 8000000 in
theorem boutA (P : BP) (U : List Bool) (o : List Int) (v : Value) (dr : Int) (w : World) (h : BS w P U o [(1, 3, 3)] v dr) : Calls Tryz.prog 158 #[.pointer (some ⟨P.b, 0, none⟩), .int .u8 1, .int .u16 1, .agg #[.int .u8 255, .int .u8 255, .int .u8 255, .int .u8 255, .int .u8 255, .int .u8 255, .int .u8 2, .int .u8 0, .int .u8 0, .int .u8 0, .int .u8 0, .int .u8 1, .bool false, .int .u8 0, .int .u16 0, .int .u16 2048, .string (bs [120])]] w fun en w' => ∃ g, en = .returned (.slice (some ⟨g, 0, none⟩) 1 1) ∧ Rw 2 stC w' (.slice (some ⟨g, 0, none⟩) 1 1) [()] ∧ w.heap.size ≤ g ∧ Below w.heap.size w w' := by
  obtain ⟨A, hA⟩ : ∃ A : Array Value, A = #[.int .u8 255, .int .u8 255, .int .u8 255, .int .u8 255, .int .u8 255, .int .u8 255, .int .u8 2, .int .u8 0, .int .u8 0, .int .u8 0, .int .u8 0, .int .u8 1, .bool false, .int .u8 0, .int .u16 0, .int .u16 2048, .string (bs [120])] := ⟨_, rfl⟩
  have WI : Hid (∀ W, BS W P U o [(1, 3, 3)] v dr → Calls Tryz.prog 96 #[.pointer (some ⟨P.b, 0, none⟩), .int .u8 1, .int .u16 1, .agg A] W fun en w' => ∃ g, en = .returned (.slice (some ⟨g, 0, none⟩) 1 1) ∧ Rw 2 stC w' (.slice (some ⟨g, 0, none⟩) 1 1) [()] ∧ W.heap.size ≤ g ∧ Below W.heap.size W w') := Lib.hid fun W hW => by
    rw [hA]; exact bwireA P U o v dr W hW
  have CO : Hid (∀ w, Calls Tryz.prog 66 #[.agg A] w fun en w' => en = .returned (.tuple #[.int .u8 0, .int .u8 0, .bool false]) ∧ Below w.heap.size w w') := Lib.hid fun w => by rw [hA]; exact cofA w
  have hI : isFr A := by rw [hA]; exact isFr_A
  rw [← hA]
  clear hA
  have HIL := Lib.hid (frame_infoL hI)
  clear hI
  have hb := (Below.refl w.heap.size w).alloc (Nat.le_refl _) (.cells A 68)
  have g1 := GB.new 68 w A
  have h0 := h.later hb
  obtain ⟨w0, hw0⟩ : ∃ z, w.alloc (.cells A 68) = z := ⟨_, rfl⟩
  rw [hw0] at hb g1 h0
  have HB := Lib.hid hb
  have HS := Lib.hid h0
  have r0 := g1.range
  have G1 := Lib.hid g1
  clear h hb g1 h0
  go_enter Tryz.func158, Tryz.ntmps158
  go_upto_region 1 with fail
  clear hw0
  go_upto_region 12 with (first
    | ((with_reducible refine wpList_load_mid rfl 68 (.tmp 7) rfl w.heap.size 0 ?hx A.toList _ r0 Tryz.underlying68 ?hu HIL.out ?_); (case hx => rfl); (case hu => rfl))
    | (go_at_call 66; with_reducible refine (CO.out _).mono ?_; rintro e w1 ⟨rfl, hb1⟩))
  have r1 := (G1.out.later hb1).range
  have W1 := Lib.hid (WI.out w1 (HS.out.later hb1))
  have HB1 := Lib.hid (HB.out.trans (hb1.mono HB.out.size))
  clear hb1 r0
  go_wp2_with (first
    | ((with_reducible refine wpList_load_mid rfl 68 (.tmp 7) rfl w.heap.size 0 ?hx A.toList _ r1 Tryz.underlying68 ?hu HIL.out ?_); (case hx => rfl); (case hu => rfl))
    | (go_at_call 96; with_reducible refine W1.out.mono ?_; rintro e w2 ⟨g, rfl, hr, hg, hb2⟩))
  go_ret
  exact ⟨_, rfl, hr, Nat.le_trans HB1.out.size hg, HB1.out.trans (hb2.mono HB1.out.size)⟩
end Go.Proofs.YtpkkjbmgbgakdaaGreatDoor

/- A region that draws its order, in a round of a range over a function, walked as any region. -/
set_option linter.unusedVariables false
namespace Go.Proofs.YtpkkjbmgbgakdaaGreatDoor
open Go.RowKit Go.Shelf

section
variable {P : Program} {md : Region.Mode} {ops : Array Oper} {Q : Exit → Act → World → Prop} {l n : Nat}
theorem rows_in {row : String} {args : Array Value} {w : World} {R : Value → World → Prop} (h : Rows P row args w R) : RowsIn (Fence.wide.inRound l) n P row args w R :=
  fun c cs _ => let ⟨v, w', r, s⟩ := h c cs; ⟨v, w', r, stepsIn_wide.2 s⟩
theorem upon_in {o : Oper} {a : Act} {K K' : Act → World → Prop} (hK : ∀ a w, K a w → K' a w) : ∀ {r : Result Next}, o.upon P a K Q r → o.uponIn (Fence.wide.inRound l) n P a K' Q r
  | .ok (.value v) w', h => hK _ _ h
  | .ok .skip w', h => hK _ _ h
  | .ok (.defer d) w', h => hK _ _ h
  | .ok (.enter f args) w', h => ⟨fun h => (by cases h), CallsIn.inRound l (callsIn_wide.2 (Calls.mono h fun e w'' he => by
      cases e with
      | returned v => exact hK _ _ he
      | panicked c => exact he
      | outgrown => exact he))⟩
  | .ok (.row row args) w', h => ⟨fun h => (by cases h), (rows_in h).mono fun v w' => hK _ _⟩
  | .ok (.round _ _ _ _ _) w', h => h.elim
  | .halt (.panic v) w', h => h
/-- No operation is a 'defer'. -/
def noDefer (ops : Array Oper) : Bool := ops.all fun o => match o.op with | .defer _ => false | _ => true
theorem noDefer_at (h : noDefer ops = true) {i : Nat} {o : Oper} (ho : ops[i]? = some o) : ∀ c, o.op ≠ .defer c := by
  intro c hc
  obtain ⟨hi, e⟩ := Array.getElem?_eq_some_iff.1 ho
  have := (Array.all_eq_true.1 h) i hi
  rw [e, hc] at this
  cases this
theorem wpOp_in (hd : noDefer ops = true) (hQ : ¬ LetsOut Q) {K K' : Act → World → Prop} (hK : ∀ a w, K a w → K' a w) {i : Nat} {a : Act} {w : World} (h : wpOp P ops Q i K a w) : wpOpIn (Fence.wide.inRound l) n P ops Q i K' a w := by
  unfold wpOp at h
  unfold wpOpIn
  split
  · rename_i ho
    rw [ho] at h
    exact hK _ _ h
  · rename_i o ho
    rw [ho] at h
    simp only at h
    split
    · rename_i hw
      rw [if_pos hw] at h
      refine ⟨fun _ _ => trivial, ?_⟩
      rw [Oper.semAt_eq _ _ _ (noDefer_at hd ho)]
      exact upon_in hK (h.resolve_right fun h => hQ h.2)
    · rename_i hw
      rw [if_neg hw] at h
      exact ⟨fun _ _ => trivial, hK _ _ h⟩
theorem wpAny_in (hd : noDefer ops = true) (hQ : ¬ LetsOut Q) : ∀ (fuel : Nat) (listed : Array Bool) (a : Act) (w : World), wpAny P md ops Q fuel listed a w → wpAnyIn (Fence.wide.inRound l) n P md ops Q fuel listed a w
  | 0, _, _, _, h => h
  | fuel + 1, listed, a, w, h => ⟨h.1, fun i hi => wpOp_in hd hQ (wpAny_in hd hQ fuel _) (h.2 i hi)⟩
/-- In a round: the beginning of a region's walk by 'held' facts. -/
theorem wpIn_region_held_drew {id : Nat} {a : Act} {w : World} {S : World → Prop} (hm : P.follows .mixedOrders = true) (hd : noDefer ops = true) (hQ : ¬ LetsOut Q) (hS : S w.drew)
    (h : S w.drew → wpAnyH P .any ops Q S ops.size (Array.replicate ops.size false) a w.drew) : (Code.region id ops true).wpIn (Fence.wide.inRound l) n P Q a w :=
  wpIn_region_any hm (wpAny_in hd hQ _ _ _ _ (wpAny_of_held _ _ _ _ (h hS)))
end
end Go.Proofs.YtpkkjbmgbgakdaaGreatDoor
