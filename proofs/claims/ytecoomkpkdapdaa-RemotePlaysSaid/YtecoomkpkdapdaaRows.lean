/-
  No cell of these rows narrows 'for every input' (looked for: loops, veiled, ifaces, maps, wideKeys, modest, calm, conditions, laid).
  DERIVED. THE GIVEN ROWS OF THIS SEAT. 8 by the template 'for every input the law returns true; each argument reads behind the call as it read before'; 0 by the template 'total and deterministic' (their statements: YtecoomkpkdapdaaTotals.lean).
  GIVEN WITH THE SEED: the statements are not yours to turn. If you find one false, say at which input.
  Laid BY PROGRAM, IN A SANDBOX (cutbox-rows.mjs): the forced cells as the released guide's own fill.sh prints them over the translation e6c2b77f80a96c26… (all of the seat's roots in one cut). By AI agents, Wed Nov 11 2026. No macro, syntax, notation, axiom, sorry.
-/
import Derived.Test.YtecoomkpkdapdaaChecked
import GoSem.Claim
import GoSem.ClaimJoined
import GoSem.ClaimMapViews
import Derived.JoinedTies
import Derived.KernelRfl
namespace Go.Proofs.Ytecoomkpkdapdaa
/- THE CELL 'sum', in the pinned program and in every row, IS THE sha256 OF THE DUMP (.gsa) THAT YtecoomkpkdapdaaProg.lean LOADS. Nothing in Lean hashes anything: it is a label: what it is worth is what the hold of that sum in a sandbox is worth. -/
noncomputable def Try.pinned : Pinned := { name := "ytecoomkpkdapdaa", sum := "e6c2b77f80a96c26997daef55df3efd0bab751a24ef2b0a3dc8cea3d1c070578", checked := Try.checked }
namespace Rows
def none {H : Type} : Left H := { results := [], args := [] }

/-- 'viaductlaw07.VlanBack': WHATEVER THE INPUT: true; the input reads as it did. -/
def vlanBackSpec : ChangeSpec := { name := "vlanBack", fn := fun _ => fun
  | [d1, d2, d3, d4, d5] => { results := [.lit (.bool true)], args := [d1, d2, d3, d4, d5] }
  | _ => none }
def vlanBackRow : OpenClaim := { program := "ytecoomkpkdapdaa", sum := "e6c2b77f80a96c26997daef55df3efd0bab751a24ef2b0a3dc8cea3d1c070578", func := "viaduct/viaductlaw07.VlanBack", spec := "vlanBack", unfollowed := true, recurses := true, apart := false }
def VlanBackSaid : Prop := vlanBackRow.holds Try.pinned (OpenSpec.ofChange vlanBackSpec)

/-- ITS FALSE NEIGHBOUR: 'it returns false'. Refute it at one input. -/
def vlanBackWrong : ChangeSpec := { name := "vlanBack", fn := fun _ => fun
  | [d1, d2, d3, d4, d5] => { results := [.lit (.bool false)], args := [d1, d2, d3, d4, d5] }
  | _ => none }
def VlanBackWrongFalsely : Prop := vlanBackRow.holds Try.pinned (OpenSpec.ofChange vlanBackWrong)

/-- 'viaductlaw07.VlanPlays': WHATEVER THE INPUT: true; the input reads as it did. -/
def vlanPlaysSpec : ChangeSpec := { name := "vlanPlays", fn := fun _ => fun
  | [d1, d2, d3, d4, d5] => { results := [.lit (.bool true)], args := [d1, d2, d3, d4, d5] }
  | _ => none }
def vlanPlaysRow : OpenClaim := { program := "ytecoomkpkdapdaa", sum := "e6c2b77f80a96c26997daef55df3efd0bab751a24ef2b0a3dc8cea3d1c070578", func := "viaduct/viaductlaw07.VlanPlays", spec := "vlanPlays", unfollowed := true, recurses := true, apart := false }
def VlanPlaysSaid : Prop := vlanPlaysRow.holds Try.pinned (OpenSpec.ofChange vlanPlaysSpec)

/-- ITS FALSE NEIGHBOUR: 'it returns false'. Refute it at one input. -/
def vlanPlaysWrong : ChangeSpec := { name := "vlanPlays", fn := fun _ => fun
  | [d1, d2, d3, d4, d5] => { results := [.lit (.bool false)], args := [d1, d2, d3, d4, d5] }
  | _ => none }
def VlanPlaysWrongFalsely : Prop := vlanPlaysRow.holds Try.pinned (OpenSpec.ofChange vlanPlaysWrong)

/-- 'viaductlaw07.VlanNil': WHATEVER THE INPUT: true; the input reads as it did. -/
def vlanNilSpec : ChangeSpec := { name := "vlanNil", fn := fun _ => fun
  | [d1, d2, d3] => { results := [.lit (.bool true)], args := [d1, d2, d3] }
  | _ => none }
def vlanNilRow : OpenClaim := { program := "ytecoomkpkdapdaa", sum := "e6c2b77f80a96c26997daef55df3efd0bab751a24ef2b0a3dc8cea3d1c070578", func := "viaduct/viaductlaw07.VlanNil", spec := "vlanNil", unfollowed := true, recurses := true, apart := false }
def VlanNilSaid : Prop := vlanNilRow.holds Try.pinned (OpenSpec.ofChange vlanNilSpec)

/-- ITS FALSE NEIGHBOUR: 'it returns false'. Refute it at one input. -/
def vlanNilWrong : ChangeSpec := { name := "vlanNil", fn := fun _ => fun
  | [d1, d2, d3] => { results := [.lit (.bool false)], args := [d1, d2, d3] }
  | _ => none }
def VlanNilWrongFalsely : Prop := vlanNilRow.holds Try.pinned (OpenSpec.ofChange vlanNilWrong)

/-- 'viaductlaw07.VlanApart': WHATEVER THE INPUT: true; the input reads as it did. -/
def vlanApartSpec : ChangeSpec := { name := "vlanApart", fn := fun _ => fun
  | [d1, d2, d3] => { results := [.lit (.bool true)], args := [d1, d2, d3] }
  | _ => none }
def vlanApartRow : OpenClaim := { program := "ytecoomkpkdapdaa", sum := "e6c2b77f80a96c26997daef55df3efd0bab751a24ef2b0a3dc8cea3d1c070578", func := "viaduct/viaductlaw07.VlanApart", spec := "vlanApart", unfollowed := true, recurses := true, apart := false }
def VlanApartSaid : Prop := vlanApartRow.holds Try.pinned (OpenSpec.ofChange vlanApartSpec)

/-- ITS FALSE NEIGHBOUR: 'it returns false'. Refute it at one input. -/
def vlanApartWrong : ChangeSpec := { name := "vlanApart", fn := fun _ => fun
  | [d1, d2, d3] => { results := [.lit (.bool false)], args := [d1, d2, d3] }
  | _ => none }
def VlanApartWrongFalsely : Prop := vlanApartRow.holds Try.pinned (OpenSpec.ofChange vlanApartWrong)

/-- 'viaductlaw18.RemotePlays': WHATEVER THE INPUT: true; the input reads as it did. -/
def remotePlaysSpec : ChangeSpec := { name := "remotePlays", fn := fun _ => fun
  | [d1, d2, d3] => { results := [.lit (.bool true)], args := [d1, d2, d3] }
  | _ => none }
def remotePlaysRow : OpenClaim := { program := "ytecoomkpkdapdaa", sum := "e6c2b77f80a96c26997daef55df3efd0bab751a24ef2b0a3dc8cea3d1c070578", func := "viaduct/viaductlaw18.RemotePlays", spec := "remotePlays", unfollowed := true, recurses := true, apart := false }
def RemotePlaysSaid : Prop := remotePlaysRow.holds Try.pinned (OpenSpec.ofChange remotePlaysSpec)

/-- ITS FALSE NEIGHBOUR: 'it returns false'. Refute it at one input. -/
def remotePlaysWrong : ChangeSpec := { name := "remotePlays", fn := fun _ => fun
  | [d1, d2, d3] => { results := [.lit (.bool false)], args := [d1, d2, d3] }
  | _ => none }
def RemotePlaysWrongFalsely : Prop := remotePlaysRow.holds Try.pinned (OpenSpec.ofChange remotePlaysWrong)

/-- 'viaductlaw18.RemoteNil': WHATEVER THE INPUT: true; the input reads as it did. -/
def remoteNilSpec : ChangeSpec := { name := "remoteNil", fn := fun _ => fun
  | [d1, d2] => { results := [.lit (.bool true)], args := [d1, d2] }
  | _ => none }
def remoteNilRow : OpenClaim := { program := "ytecoomkpkdapdaa", sum := "e6c2b77f80a96c26997daef55df3efd0bab751a24ef2b0a3dc8cea3d1c070578", func := "viaduct/viaductlaw18.RemoteNil", spec := "remoteNil", unfollowed := true, recurses := true, apart := false }
def RemoteNilSaid : Prop := remoteNilRow.holds Try.pinned (OpenSpec.ofChange remoteNilSpec)

/-- ITS FALSE NEIGHBOUR: 'it returns false'. Refute it at one input. -/
def remoteNilWrong : ChangeSpec := { name := "remoteNil", fn := fun _ => fun
  | [d1, d2] => { results := [.lit (.bool false)], args := [d1, d2] }
  | _ => none }
def RemoteNilWrongFalsely : Prop := remoteNilRow.holds Try.pinned (OpenSpec.ofChange remoteNilWrong)

/-- 'viaductlaw18.RemoteThere': WHATEVER THE INPUT: true; the input reads as it did. -/
def remoteThereSpec : ChangeSpec := { name := "remoteThere", fn := fun _ => fun
  | [d1, d2, d3, d4] => { results := [.lit (.bool true)], args := [d1, d2, d3, d4] }
  | _ => none }
def remoteThereRow : OpenClaim := { program := "ytecoomkpkdapdaa", sum := "e6c2b77f80a96c26997daef55df3efd0bab751a24ef2b0a3dc8cea3d1c070578", func := "viaduct/viaductlaw18.RemoteThere", spec := "remoteThere", unfollowed := true, recurses := true, apart := false }
def RemoteThereSaid : Prop := remoteThereRow.holds Try.pinned (OpenSpec.ofChange remoteThereSpec)

/-- ITS FALSE NEIGHBOUR: 'it returns false'. Refute it at one input. -/
def remoteThereWrong : ChangeSpec := { name := "remoteThere", fn := fun _ => fun
  | [d1, d2, d3, d4] => { results := [.lit (.bool false)], args := [d1, d2, d3, d4] }
  | _ => none }
def RemoteThereWrongFalsely : Prop := remoteThereRow.holds Try.pinned (OpenSpec.ofChange remoteThereWrong)

/-- 'viaductlaw01.WireReads': WHATEVER THE INPUT: true; the input reads as it did. -/
def wireReadsSpec : ChangeSpec := { name := "wireReads", fn := fun _ => fun
  | [d1, d2] => { results := [.lit (.bool true)], args := [d1, d2] }
  | _ => none }
def wireReadsRow : OpenClaim := { program := "ytecoomkpkdapdaa", sum := "e6c2b77f80a96c26997daef55df3efd0bab751a24ef2b0a3dc8cea3d1c070578", func := "viaduct/viaductlaw01.WireReads", spec := "wireReads", apart := false }
def WireReadsSaid : Prop := wireReadsRow.holds Try.pinned (OpenSpec.ofChange wireReadsSpec)

/-- ITS FALSE NEIGHBOUR: 'it returns false'. Refute it at one input. -/
def wireReadsWrong : ChangeSpec := { name := "wireReads", fn := fun _ => fun
  | [d1, d2] => { results := [.lit (.bool false)], args := [d1, d2] }
  | _ => none }
def WireReadsWrongFalsely : Prop := wireReadsRow.holds Try.pinned (OpenSpec.ofChange wireReadsWrong)

/- THE SECOND FORM. 'bulk': how many values and letters a reading holds, each counted each time it is reached (what is shared counts as often as it is met; a slice's spare places count too). A statement '..UptoSaid' is the law's where the arguments, and the package variables that the reading takes, are together of bulk at most 1048576: NARROWER than '..Said'. Prove '..Said' where nothing that the law and all that it calls make is longer than what came in: it says more and counts as full. Else prove '..UptoSaid'. A law counts once. -/
mutual
def uptoBulk {H : Type} : DataW H → Nat
  | .lit (.string bytes) => bytes.length + 1
  | .lit _ => 1
  | .nil => 1
  | .ptr d => uptoBulk d + 1
  | .slice elems spare => uptoBulkAll elems + uptoBulkAll spare + 1
  | .agg parts => uptoBulkAll parts + 1
  | .iface _ d => uptoBulk d + 1
  | .map entries => uptoBulkEntries entries + 1
  | .held _ => 1
def uptoBulkAll {H : Type} : List (DataW H) → Nat
  | [] => 0
  | d :: r => uptoBulk d + uptoBulkAll r
def uptoBulkEntries {H : Type} : List (Lit × DataW H) → Nat
  | [] => 0
  | x :: r => uptoBulkEntry x + uptoBulkEntries r
def uptoBulkEntry {H : Type} : Lit × DataW H → Nat
  | (.string bytes, d) => bytes.length + uptoBulk d + 1
  | (_, d) => uptoBulk d + 1
 end
def uptoSmall : (H : Type) → List (DataW H) → Bool := fun _ ds => decide (uptoBulkAll ds ≤ 1048576)
def OpenSpec.upto (s : _root_.Go.ChangeSpec) : _root_.Go.OpenSpec := { _root_.Go.OpenSpec.ofChange s with cond := some uptoSmall }

/-- 'viaductlaw07.VlanBack', WHERE WHAT IT READS IS OF BULK AT MOST 1048576: true; the input reads as it did. -/
def vlanBackUptoRow : OpenClaim := { program := "ytecoomkpkdapdaa", sum := "e6c2b77f80a96c26997daef55df3efd0bab751a24ef2b0a3dc8cea3d1c070578", func := "viaduct/viaductlaw07.VlanBack", spec := "vlanBack", unfollowed := true, recurses := true, apart := false, narrowed := true }
def VlanBackUptoSaid : Prop := vlanBackUptoRow.holds Try.pinned (OpenSpec.upto vlanBackSpec)

/-- 'viaductlaw07.VlanPlays', WHERE WHAT IT READS IS OF BULK AT MOST 1048576: true; the input reads as it did. -/
def vlanPlaysUptoRow : OpenClaim := { program := "ytecoomkpkdapdaa", sum := "e6c2b77f80a96c26997daef55df3efd0bab751a24ef2b0a3dc8cea3d1c070578", func := "viaduct/viaductlaw07.VlanPlays", spec := "vlanPlays", unfollowed := true, recurses := true, apart := false, narrowed := true }
def VlanPlaysUptoSaid : Prop := vlanPlaysUptoRow.holds Try.pinned (OpenSpec.upto vlanPlaysSpec)

/-- 'viaductlaw07.VlanNil', WHERE WHAT IT READS IS OF BULK AT MOST 1048576: true; the input reads as it did. -/
def vlanNilUptoRow : OpenClaim := { program := "ytecoomkpkdapdaa", sum := "e6c2b77f80a96c26997daef55df3efd0bab751a24ef2b0a3dc8cea3d1c070578", func := "viaduct/viaductlaw07.VlanNil", spec := "vlanNil", unfollowed := true, recurses := true, apart := false, narrowed := true }
def VlanNilUptoSaid : Prop := vlanNilUptoRow.holds Try.pinned (OpenSpec.upto vlanNilSpec)

/-- 'viaductlaw07.VlanApart', WHERE WHAT IT READS IS OF BULK AT MOST 1048576: true; the input reads as it did. -/
def vlanApartUptoRow : OpenClaim := { program := "ytecoomkpkdapdaa", sum := "e6c2b77f80a96c26997daef55df3efd0bab751a24ef2b0a3dc8cea3d1c070578", func := "viaduct/viaductlaw07.VlanApart", spec := "vlanApart", unfollowed := true, recurses := true, apart := false, narrowed := true }
def VlanApartUptoSaid : Prop := vlanApartUptoRow.holds Try.pinned (OpenSpec.upto vlanApartSpec)

/-- 'viaductlaw18.RemotePlays', WHERE WHAT IT READS IS OF BULK AT MOST 1048576: true; the input reads as it did. -/
def remotePlaysUptoRow : OpenClaim := { program := "ytecoomkpkdapdaa", sum := "e6c2b77f80a96c26997daef55df3efd0bab751a24ef2b0a3dc8cea3d1c070578", func := "viaduct/viaductlaw18.RemotePlays", spec := "remotePlays", unfollowed := true, recurses := true, apart := false, narrowed := true }
def RemotePlaysUptoSaid : Prop := remotePlaysUptoRow.holds Try.pinned (OpenSpec.upto remotePlaysSpec)

/-- 'viaductlaw18.RemoteNil', WHERE WHAT IT READS IS OF BULK AT MOST 1048576: true; the input reads as it did. -/
def remoteNilUptoRow : OpenClaim := { program := "ytecoomkpkdapdaa", sum := "e6c2b77f80a96c26997daef55df3efd0bab751a24ef2b0a3dc8cea3d1c070578", func := "viaduct/viaductlaw18.RemoteNil", spec := "remoteNil", unfollowed := true, recurses := true, apart := false, narrowed := true }
def RemoteNilUptoSaid : Prop := remoteNilUptoRow.holds Try.pinned (OpenSpec.upto remoteNilSpec)

/-- 'viaductlaw18.RemoteThere', WHERE WHAT IT READS IS OF BULK AT MOST 1048576: true; the input reads as it did. -/
def remoteThereUptoRow : OpenClaim := { program := "ytecoomkpkdapdaa", sum := "e6c2b77f80a96c26997daef55df3efd0bab751a24ef2b0a3dc8cea3d1c070578", func := "viaduct/viaductlaw18.RemoteThere", spec := "remoteThere", unfollowed := true, recurses := true, apart := false, narrowed := true }
def RemoteThereUptoSaid : Prop := remoteThereUptoRow.holds Try.pinned (OpenSpec.upto remoteThereSpec)

/-- 'viaductlaw01.WireReads', WHERE WHAT IT READS IS OF BULK AT MOST 1048576: true; the input reads as it did. -/
def wireReadsUptoRow : OpenClaim := { program := "ytecoomkpkdapdaa", sum := "e6c2b77f80a96c26997daef55df3efd0bab751a24ef2b0a3dc8cea3d1c070578", func := "viaduct/viaductlaw01.WireReads", spec := "wireReads", apart := false, narrowed := true }
def WireReadsUptoSaid : Prop := wireReadsUptoRow.holds Try.pinned (OpenSpec.upto wireReadsSpec)

end Rows
end Go.Proofs.Ytecoomkpkdapdaa
