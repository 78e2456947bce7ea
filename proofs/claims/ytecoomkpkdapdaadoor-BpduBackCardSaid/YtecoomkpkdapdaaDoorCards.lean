/-
  DERIVED. GIVEN WITH THE SEED: THE CARDS: each row of YtecoomkpkdapdaaDoorRows.lean that lists a variable, with what it lists TIED to the program's text (the seventh form; the later family's looks); each row that meets fmt, with fmt's text TOLD by the authors' own Lean function (tested against real Go, not proved from fmt's source: count such statements apart). THE CARD IS WHAT COUNTS. Prove the row's statement (the work); the ties are given (YtecoomkpkdapdaaDoorTie.lean); close each card by the builder's one call (the guide's Derived/Test/ToyasCard.lean, 'card_holds'). Laid BY PROGRAM, IN A SANDBOX (cutbox-door.mjs). By AI agents, Wed Nov 11 2026. No macro, syntax, notation, axiom, sorry.
-/
import Derived.Test.YtecoomkpkdapdaaDoorRows
import GoSem.ClaimSeven
namespace Go.Proofs.YtecoomkpkdapdaaDoor
namespace Rows

/-- THE TIED CARD OF 'viaductlaw05.BpduPuts'. -/
def bpduPutsCard : Claim7 := { stood := { row := bpduPutsRow, standIns := [], harness := (true, "339d13e59e3a03c4d636d12f3392c59407e929cf860656f1b2a57e510d8895d8"), looks := false }, kinds := [], alts := [], laidByText := true, laidKinds := [.data, .pinned], laidTests := true, laidLooks := .later }
def BpduPutsCardSaid : Prop := Claim7.holds Tryd.pinned (.plain (OpenSpec.ofChange bpduPutsSpec)) bpduPutsCard

/-- THE TIED CARD OF 'viaductlaw05.BpduTakes'. -/
def bpduTakesCard : Claim7 := { stood := { row := bpduTakesRow, standIns := [], harness := (true, "339d13e59e3a03c4d636d12f3392c59407e929cf860656f1b2a57e510d8895d8"), looks := false }, kinds := [], alts := [], laidByText := true, laidKinds := [.data, .pinned], laidTests := true, laidLooks := .later }
def BpduTakesCardSaid : Prop := Claim7.holds Tryd.pinned (.plain (OpenSpec.ofChange bpduTakesSpec)) bpduTakesCard

/-- THE TIED CARD OF 'viaductlaw05.BpduBack'. -/
def bpduBackCard : Claim7 := { stood := { row := bpduBackRow, standIns := [], harness := (true, "339d13e59e3a03c4d636d12f3392c59407e929cf860656f1b2a57e510d8895d8"), looks := false }, kinds := [], alts := [], laidByText := true, laidKinds := [.data, .pinned], laidTests := true, laidLooks := .later }
def BpduBackCardSaid : Prop := Claim7.holds Tryd.pinned (.plain (OpenSpec.ofChange bpduBackSpec)) bpduBackCard

/-- THE TIED CARD OF 'viaductlaw05.BpduEach'. -/
def bpduEachCard : Claim7 := { stood := { row := bpduEachRow, standIns := [], harness := (true, "339d13e59e3a03c4d636d12f3392c59407e929cf860656f1b2a57e510d8895d8"), looks := false }, kinds := [], alts := [], laidByText := true, laidKinds := [.data, .pinned], laidTests := true, laidLooks := .later }
def BpduEachCardSaid : Prop := Claim7.holds Tryd.pinned (.plain (OpenSpec.ofChange bpduEachSpec)) bpduEachCard

/-- THE SECOND FORM's CARD OF 'viaductlaw05.BpduPuts'. -/
def bpduPutsUptoCard : Claim7 := { stood := { row := bpduPutsUptoRow, standIns := [], harness := (true, "339d13e59e3a03c4d636d12f3392c59407e929cf860656f1b2a57e510d8895d8"), looks := false }, kinds := [], alts := [], laidByText := true, laidKinds := [.data, .pinned], laidTests := true, laidLooks := .later }
def BpduPutsUptoCardSaid : Prop := Claim7.holds Tryd.pinned (.plain (OpenSpec.upto bpduPutsSpec)) bpduPutsUptoCard

/-- THE SECOND FORM's CARD OF 'viaductlaw05.BpduTakes'. -/
def bpduTakesUptoCard : Claim7 := { stood := { row := bpduTakesUptoRow, standIns := [], harness := (true, "339d13e59e3a03c4d636d12f3392c59407e929cf860656f1b2a57e510d8895d8"), looks := false }, kinds := [], alts := [], laidByText := true, laidKinds := [.data, .pinned], laidTests := true, laidLooks := .later }
def BpduTakesUptoCardSaid : Prop := Claim7.holds Tryd.pinned (.plain (OpenSpec.upto bpduTakesSpec)) bpduTakesUptoCard

/-- THE SECOND FORM's CARD OF 'viaductlaw05.BpduBack'. -/
def bpduBackUptoCard : Claim7 := { stood := { row := bpduBackUptoRow, standIns := [], harness := (true, "339d13e59e3a03c4d636d12f3392c59407e929cf860656f1b2a57e510d8895d8"), looks := false }, kinds := [], alts := [], laidByText := true, laidKinds := [.data, .pinned], laidTests := true, laidLooks := .later }
def BpduBackUptoCardSaid : Prop := Claim7.holds Tryd.pinned (.plain (OpenSpec.upto bpduBackSpec)) bpduBackUptoCard

/-- THE SECOND FORM's CARD OF 'viaductlaw05.BpduEach'. -/
def bpduEachUptoCard : Claim7 := { stood := { row := bpduEachUptoRow, standIns := [], harness := (true, "339d13e59e3a03c4d636d12f3392c59407e929cf860656f1b2a57e510d8895d8"), looks := false }, kinds := [], alts := [], laidByText := true, laidKinds := [.data, .pinned], laidTests := true, laidLooks := .later }
def BpduEachUptoCardSaid : Prop := Claim7.holds Tryd.pinned (.plain (OpenSpec.upto bpduEachSpec)) bpduEachUptoCard
end Rows
end Go.Proofs.YtecoomkpkdapdaaDoor
