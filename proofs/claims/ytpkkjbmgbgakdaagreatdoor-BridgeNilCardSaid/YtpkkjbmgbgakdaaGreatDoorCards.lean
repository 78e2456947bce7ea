/-
  DERIVED. GIVEN WITH THE SEED: THE CARDS: each row of YtpkkjbmgbgakdaaGreatDoorRows.lean that lists a variable, with what it lists TIED to the program's text (the seventh form; the later family's looks); each row that meets fmt, with fmt's text TOLD by the authors' own Lean function (tested against real Go, not proved from fmt's source: count such statements apart). THE CARD IS WHAT COUNTS. Prove the row's statement (the work); the ties are given (YtpkkjbmgbgakdaaGreatDoorTie.lean); close each card by the builder's one call (the guide's Derived/Test/ToyasCard.lean, 'card_holds'). Laid BY PROGRAM, IN A SANDBOX (cutbox-door.mjs). By AI agents, Wed Nov 11 2026. No macro, syntax, notation, axiom, sorry.
-/
import Derived.Test.YtpkkjbmgbgakdaaGreatDoorRows
import GoSem.ClaimSeven
namespace Go.Proofs.YtpkkjbmgbgakdaaGreatDoor
namespace Rows

/-- THE TIED CARD OF 'viaductlaw22.BridgeBars'. -/
def bridgeBarsCard : Claim7 := { stood := { row := bridgeBarsRow, standIns := [], harness := (true, "ae5d774a8b1b59c10c7c734b81a4b64c4bf016ed5766c236255f4ea095003117"), looks := false }, kinds := [], alts := [], laidByText := true, laidKinds := [.data, .pinned], laidTests := true, laidLooks := .later }
def BridgeBarsCardSaid : Prop := Claim7.holds Tryz.pinned (.plain (OpenSpec.ofChange bridgeBarsSpec)) bridgeBarsCard

/-- THE TIED CARD OF 'viaductlaw22.BridgeNil'. -/
def bridgeNilCard : Claim7 := { stood := { row := bridgeNilRow, standIns := [], harness := (true, "ae5d774a8b1b59c10c7c734b81a4b64c4bf016ed5766c236255f4ea095003117"), looks := false }, kinds := [], alts := [], laidByText := true, laidKinds := [.data, .pinned], laidTests := true, laidLooks := .later }
def BridgeNilCardSaid : Prop := Claim7.holds Tryz.pinned (.plain (OpenSpec.ofChange bridgeNilSpec)) bridgeNilCard

/-- THE SECOND FORM's CARD OF 'viaductlaw22.BridgeBars'. -/
def bridgeBarsUptoCard : Claim7 := { stood := { row := bridgeBarsUptoRow, standIns := [], harness := (true, "ae5d774a8b1b59c10c7c734b81a4b64c4bf016ed5766c236255f4ea095003117"), looks := false }, kinds := [], alts := [], laidByText := true, laidKinds := [.data, .pinned], laidTests := true, laidLooks := .later }
def BridgeBarsUptoCardSaid : Prop := Claim7.holds Tryz.pinned (.plain (OpenSpec.upto bridgeBarsSpec)) bridgeBarsUptoCard

/-- THE SECOND FORM's CARD OF 'viaductlaw22.BridgeNil'. -/
def bridgeNilUptoCard : Claim7 := { stood := { row := bridgeNilUptoRow, standIns := [], harness := (true, "ae5d774a8b1b59c10c7c734b81a4b64c4bf016ed5766c236255f4ea095003117"), looks := false }, kinds := [], alts := [], laidByText := true, laidKinds := [.data, .pinned], laidTests := true, laidLooks := .later }
def BridgeNilUptoCardSaid : Prop := Claim7.holds Tryz.pinned (.plain (OpenSpec.upto bridgeNilSpec)) bridgeNilUptoCard
end Rows
end Go.Proofs.YtpkkjbmgbgakdaaGreatDoor
