/-
  No cell of these rows narrows 'for every input' (looked for: loops, veiled, ifaces, maps, wideKeys, modest, calm, conditions, laid).
  DERIVED. THE GIVEN ROWS OF THIS SEAT. 12 by the template 'for every input the law returns true; each argument reads behind the call as it read before'; 0 by the template 'total and deterministic' (their statements: YtknahemnmboidaaTotals.lean).
  GIVEN WITH THE SEED: the statements are not yours to turn. If you find one false, say at which input.
  Laid BY PROGRAM, IN A SANDBOX (cutbox-rows.mjs): the forced cells as the released guide's own fill.sh prints them over the translation 0c16f1a3326ddd50… (all of the seat's roots in one cut). By AI agents, Wed Nov 11 2026. No macro, syntax, notation, axiom, sorry.
-/
import Derived.Test.YtknahemnmboidaaChecked
import GoSem.Claim
import GoSem.ClaimJoined
import GoSem.ClaimMapViews
import Derived.JoinedTies
import Derived.KernelRfl
namespace Go.Proofs.Ytknahemnmboidaa
/- THE CELL 'sum', in the pinned program and in every row, IS THE sha256 OF THE DUMP (.gsa) THAT YtknahemnmboidaaProg.lean LOADS. Nothing in Lean hashes anything: it is a label: what it is worth is what the hold of that sum in a sandbox is worth. -/
noncomputable def Try.pinned : Pinned := { name := "ytknahemnmboidaa", sum := "0c16f1a3326ddd50f59cc11540ae06f5022a977d0893363e555978a2297417a0", checked := Try.checked }
namespace Rows
def none {H : Type} : Left H := { results := [], args := [] }

/-- 'viaductlaw17.LevelTells': WHATEVER THE INPUT: true; the input reads as it did. -/
def levelTellsSpec : ChangeSpec := { name := "levelTells", fn := fun _ => fun
  | [d1, d2, d3, d4] => { results := [.lit (.bool true)], args := [d1, d2, d3, d4] }
  | _ => none }
def levelTellsRow : OpenClaim := { program := "ytknahemnmboidaa", sum := "0c16f1a3326ddd50f59cc11540ae06f5022a977d0893363e555978a2297417a0", func := "viaduct/viaductlaw17.LevelTells", spec := "levelTells", unfollowed := true, recurses := true, apart := false }
def LevelTellsSaid : Prop := levelTellsRow.holds Try.pinned (OpenSpec.ofChange levelTellsSpec)

/-- ITS FALSE NEIGHBOUR: 'it returns false'. Refute it at one input. -/
def levelTellsWrong : ChangeSpec := { name := "levelTells", fn := fun _ => fun
  | [d1, d2, d3, d4] => { results := [.lit (.bool false)], args := [d1, d2, d3, d4] }
  | _ => none }
def LevelTellsWrongFalsely : Prop := levelTellsRow.holds Try.pinned (OpenSpec.ofChange levelTellsWrong)

/-- 'viaductlaw17.LevelBars': WHATEVER THE INPUT: true; the input reads as it did. -/
def levelBarsSpec : ChangeSpec := { name := "levelBars", fn := fun _ => fun
  | [d1, d2, d3] => { results := [.lit (.bool true)], args := [d1, d2, d3] }
  | _ => none }
def levelBarsRow : OpenClaim := { program := "ytknahemnmboidaa", sum := "0c16f1a3326ddd50f59cc11540ae06f5022a977d0893363e555978a2297417a0", func := "viaduct/viaductlaw17.LevelBars", spec := "levelBars", unfollowed := true, recurses := true, apart := false }
def LevelBarsSaid : Prop := levelBarsRow.holds Try.pinned (OpenSpec.ofChange levelBarsSpec)

/-- ITS FALSE NEIGHBOUR: 'it returns false'. Refute it at one input. -/
def levelBarsWrong : ChangeSpec := { name := "levelBars", fn := fun _ => fun
  | [d1, d2, d3] => { results := [.lit (.bool false)], args := [d1, d2, d3] }
  | _ => none }
def LevelBarsWrongFalsely : Prop := levelBarsRow.holds Try.pinned (OpenSpec.ofChange levelBarsWrong)

/-- 'viaductlaw02.MacLevels': WHATEVER THE INPUT: true; the input reads as it did. -/
def macLevelsSpec : ChangeSpec := { name := "macLevels", fn := fun _ => fun
  | [d1, d2] => { results := [.lit (.bool true)], args := [d1, d2] }
  | _ => none }
def macLevelsRow : OpenClaim := { program := "ytknahemnmboidaa", sum := "0c16f1a3326ddd50f59cc11540ae06f5022a977d0893363e555978a2297417a0", func := "viaduct/viaductlaw02.MacLevels", spec := "macLevels", unfollowed := true, recurses := true, apart := false }
def MacLevelsSaid : Prop := macLevelsRow.holds Try.pinned (OpenSpec.ofChange macLevelsSpec)

/-- ITS FALSE NEIGHBOUR: 'it returns false'. Refute it at one input. -/
def macLevelsWrong : ChangeSpec := { name := "macLevels", fn := fun _ => fun
  | [d1, d2] => { results := [.lit (.bool false)], args := [d1, d2] }
  | _ => none }
def MacLevelsWrongFalsely : Prop := macLevelsRow.holds Try.pinned (OpenSpec.ofChange macLevelsWrong)

/-- 'viaductlaw01.WirePuts': WHATEVER THE INPUT: true; the input reads as it did. -/
def wirePutsSpec : ChangeSpec := { name := "wirePuts", fn := fun _ => fun
  | [d1, d2] => { results := [.lit (.bool true)], args := [d1, d2] }
  | _ => none }
def wirePutsRow : OpenClaim := { program := "ytknahemnmboidaa", sum := "0c16f1a3326ddd50f59cc11540ae06f5022a977d0893363e555978a2297417a0", func := "viaduct/viaductlaw01.WirePuts", spec := "wirePuts", recurses := true, apart := false }
def WirePutsSaid : Prop := wirePutsRow.holds Try.pinned (OpenSpec.ofChange wirePutsSpec)

/-- ITS FALSE NEIGHBOUR: 'it returns false'. Refute it at one input. -/
def wirePutsWrong : ChangeSpec := { name := "wirePuts", fn := fun _ => fun
  | [d1, d2] => { results := [.lit (.bool false)], args := [d1, d2] }
  | _ => none }
def WirePutsWrongFalsely : Prop := wirePutsRow.holds Try.pinned (OpenSpec.ofChange wirePutsWrong)

/-- 'viaductlaw02.MacMakes': WHATEVER THE INPUT: true; the input reads as it did. -/
def macMakesSpec : ChangeSpec := { name := "macMakes", fn := fun _ => fun
  | [d1, d2] => { results := [.lit (.bool true)], args := [d1, d2] }
  | _ => none }
def macMakesRow : OpenClaim := { program := "ytknahemnmboidaa", sum := "0c16f1a3326ddd50f59cc11540ae06f5022a977d0893363e555978a2297417a0", func := "viaduct/viaductlaw02.MacMakes", spec := "macMakes", unfollowed := true, recurses := true, apart := false }
def MacMakesSaid : Prop := macMakesRow.holds Try.pinned (OpenSpec.ofChange macMakesSpec)

/-- ITS FALSE NEIGHBOUR: 'it returns false'. Refute it at one input. -/
def macMakesWrong : ChangeSpec := { name := "macMakes", fn := fun _ => fun
  | [d1, d2] => { results := [.lit (.bool false)], args := [d1, d2] }
  | _ => none }
def MacMakesWrongFalsely : Prop := macMakesRow.holds Try.pinned (OpenSpec.ofChange macMakesWrong)

/-- 'viaductlaw02.MacParses': WHATEVER THE INPUT: true; the input reads as it did. -/
def macParsesSpec : ChangeSpec := { name := "macParses", fn := fun _ => fun
  | [d] => { results := [.lit (.bool true)], args := [d] }
  | _ => none }
def macParsesRow : OpenClaim := { program := "ytknahemnmboidaa", sum := "0c16f1a3326ddd50f59cc11540ae06f5022a977d0893363e555978a2297417a0", func := "viaduct/viaductlaw02.MacParses", spec := "macParses", unfollowed := true, recurses := true, apart := false }
def MacParsesSaid : Prop := macParsesRow.holds Try.pinned (OpenSpec.ofChange macParsesSpec)

/-- ITS FALSE NEIGHBOUR: 'it returns false'. Refute it at one input. -/
def macParsesWrong : ChangeSpec := { name := "macParses", fn := fun _ => fun
  | [d] => { results := [.lit (.bool false)], args := [d] }
  | _ => none }
def MacParsesWrongFalsely : Prop := macParsesRow.holds Try.pinned (OpenSpec.ofChange macParsesWrong)

/-- 'viaductlaw01.WireOne': WHATEVER THE INPUT: true; the input reads as it did. -/
def wireOneSpec : ChangeSpec := { name := "wireOne", fn := fun _ => fun
  | [d1, d2] => { results := [.lit (.bool true)], args := [d1, d2] }
  | _ => none }
def wireOneRow : OpenClaim := { program := "ytknahemnmboidaa", sum := "0c16f1a3326ddd50f59cc11540ae06f5022a977d0893363e555978a2297417a0", func := "viaduct/viaductlaw01.WireOne", spec := "wireOne", apart := false }
def WireOneSaid : Prop := wireOneRow.holds Try.pinned (OpenSpec.ofChange wireOneSpec)

/-- ITS FALSE NEIGHBOUR: 'it returns false'. Refute it at one input. -/
def wireOneWrong : ChangeSpec := { name := "wireOne", fn := fun _ => fun
  | [d1, d2] => { results := [.lit (.bool false)], args := [d1, d2] }
  | _ => none }
def WireOneWrongFalsely : Prop := wireOneRow.holds Try.pinned (OpenSpec.ofChange wireOneWrong)

/-- 'viaductlaw01.WireBack': WHATEVER THE INPUT: true; the input reads as it did. -/
def wireBackSpec : ChangeSpec := { name := "wireBack", fn := fun _ => fun
  | [d] => { results := [.lit (.bool true)], args := [d] }
  | _ => none }
def wireBackRow : OpenClaim := { program := "ytknahemnmboidaa", sum := "0c16f1a3326ddd50f59cc11540ae06f5022a977d0893363e555978a2297417a0", func := "viaduct/viaductlaw01.WireBack", spec := "wireBack", apart := false }
def WireBackSaid : Prop := wireBackRow.holds Try.pinned (OpenSpec.ofChange wireBackSpec)

/-- ITS FALSE NEIGHBOUR: 'it returns false'. Refute it at one input. -/
def wireBackWrong : ChangeSpec := { name := "wireBack", fn := fun _ => fun
  | [d] => { results := [.lit (.bool false)], args := [d] }
  | _ => none }
def WireBackWrongFalsely : Prop := wireBackRow.holds Try.pinned (OpenSpec.ofChange wireBackWrong)

/-- 'viaductlaw01.WireReads': WHATEVER THE INPUT: true; the input reads as it did. -/
def wireReadsSpec : ChangeSpec := { name := "wireReads", fn := fun _ => fun
  | [d1, d2] => { results := [.lit (.bool true)], args := [d1, d2] }
  | _ => none }
def wireReadsRow : OpenClaim := { program := "ytknahemnmboidaa", sum := "0c16f1a3326ddd50f59cc11540ae06f5022a977d0893363e555978a2297417a0", func := "viaduct/viaductlaw01.WireReads", spec := "wireReads", apart := false }
def WireReadsSaid : Prop := wireReadsRow.holds Try.pinned (OpenSpec.ofChange wireReadsSpec)

/-- ITS FALSE NEIGHBOUR: 'it returns false'. Refute it at one input. -/
def wireReadsWrong : ChangeSpec := { name := "wireReads", fn := fun _ => fun
  | [d1, d2] => { results := [.lit (.bool false)], args := [d1, d2] }
  | _ => none }
def WireReadsWrongFalsely : Prop := wireReadsRow.holds Try.pinned (OpenSpec.ofChange wireReadsWrong)

/-- 'viaductlaw01.WireNil': WHATEVER THE INPUT: true; the input reads as it did. -/
def wireNilSpec : ChangeSpec := { name := "wireNil", fn := fun _ => fun
  | [d] => { results := [.lit (.bool true)], args := [d] }
  | _ => none }
def wireNilRow : OpenClaim := { program := "ytknahemnmboidaa", sum := "0c16f1a3326ddd50f59cc11540ae06f5022a977d0893363e555978a2297417a0", func := "viaduct/viaductlaw01.WireNil", spec := "wireNil", apart := false }
def WireNilSaid : Prop := wireNilRow.holds Try.pinned (OpenSpec.ofChange wireNilSpec)

/-- ITS FALSE NEIGHBOUR: 'it returns false'. Refute it at one input. -/
def wireNilWrong : ChangeSpec := { name := "wireNil", fn := fun _ => fun
  | [d] => { results := [.lit (.bool false)], args := [d] }
  | _ => none }
def WireNilWrongFalsely : Prop := wireNilRow.holds Try.pinned (OpenSpec.ofChange wireNilWrong)

/-- 'viaductlaw02.MacTells': WHATEVER THE INPUT: true; the input reads as it did. -/
def macTellsSpec : ChangeSpec := { name := "macTells", fn := fun _ => fun
  | [d] => { results := [.lit (.bool true)], args := [d] }
  | _ => none }
def macTellsRow : OpenClaim := { program := "ytknahemnmboidaa", sum := "0c16f1a3326ddd50f59cc11540ae06f5022a977d0893363e555978a2297417a0", func := "viaduct/viaductlaw02.MacTells", spec := "macTells", unfollowed := true, recurses := true, apart := false }
def MacTellsSaid : Prop := macTellsRow.holds Try.pinned (OpenSpec.ofChange macTellsSpec)

/-- ITS FALSE NEIGHBOUR: 'it returns false'. Refute it at one input. -/
def macTellsWrong : ChangeSpec := { name := "macTells", fn := fun _ => fun
  | [d] => { results := [.lit (.bool false)], args := [d] }
  | _ => none }
def MacTellsWrongFalsely : Prop := macTellsRow.holds Try.pinned (OpenSpec.ofChange macTellsWrong)

/-- 'viaductlaw02.MacBack': WHATEVER THE INPUT: true; the input reads as it did. -/
def macBackSpec : ChangeSpec := { name := "macBack", fn := fun _ => fun
  | [d1, d2, d3, d4] => { results := [.lit (.bool true)], args := [d1, d2, d3, d4] }
  | _ => none }
def macBackRow : OpenClaim := { program := "ytknahemnmboidaa", sum := "0c16f1a3326ddd50f59cc11540ae06f5022a977d0893363e555978a2297417a0", func := "viaduct/viaductlaw02.MacBack", spec := "macBack", unfollowed := true, recurses := true, apart := false }
def MacBackSaid : Prop := macBackRow.holds Try.pinned (OpenSpec.ofChange macBackSpec)

/-- ITS FALSE NEIGHBOUR: 'it returns false'. Refute it at one input. -/
def macBackWrong : ChangeSpec := { name := "macBack", fn := fun _ => fun
  | [d1, d2, d3, d4] => { results := [.lit (.bool false)], args := [d1, d2, d3, d4] }
  | _ => none }
def MacBackWrongFalsely : Prop := macBackRow.holds Try.pinned (OpenSpec.ofChange macBackWrong)

/- THE SECOND FORM. 'bulk': how many values and letters a reading holds, each counted each time it is reached (what is shared counts as often as it is met; a slice's spare places count too). A statement '..UptoSaid' is the law's where the arguments, and the package variables that the reading takes, are together of bulk at most 1048576: NARROWER than '..Said'. Prove '..Said' where nothing that the law and all that it calls make is longer than what came in: it says more and counts as full. Else prove '..UptoSaid'. A law counts once. -/
mutual
def uptoBulk {H : Type} : DataW H → Nat
  | .lit (.string bytes) => bytes.length + 1
  | .lit _ => 1
  | .nil => 1
  | .ptr d => uptoBulk d + 1
  | .slice elems spare => uptoBulkAll elems + uptoBulkAll spare + 1
  | .agg parts => uptoBulkAll parts + 1
  | .iface _ d => uptoBulk d + 1
  | .map entries => uptoBulkEntries entries + 1
  | .held _ => 1
def uptoBulkAll {H : Type} : List (DataW H) → Nat
  | [] => 0
  | d :: r => uptoBulk d + uptoBulkAll r
def uptoBulkEntries {H : Type} : List (Lit × DataW H) → Nat
  | [] => 0
  | x :: r => uptoBulkEntry x + uptoBulkEntries r
def uptoBulkEntry {H : Type} : Lit × DataW H → Nat
  | (.string bytes, d) => bytes.length + uptoBulk d + 1
  | (_, d) => uptoBulk d + 1
 end
def uptoSmall : (H : Type) → List (DataW H) → Bool := fun _ ds => decide (uptoBulkAll ds ≤ 1048576)
def OpenSpec.upto (s : _root_.Go.ChangeSpec) : _root_.Go.OpenSpec := { _root_.Go.OpenSpec.ofChange s with cond := some uptoSmall }

/-- 'viaductlaw17.LevelTells', WHERE WHAT IT READS IS OF BULK AT MOST 1048576: true; the input reads as it did. -/
def levelTellsUptoRow : OpenClaim := { program := "ytknahemnmboidaa", sum := "0c16f1a3326ddd50f59cc11540ae06f5022a977d0893363e555978a2297417a0", func := "viaduct/viaductlaw17.LevelTells", spec := "levelTells", unfollowed := true, recurses := true, apart := false, narrowed := true }
def LevelTellsUptoSaid : Prop := levelTellsUptoRow.holds Try.pinned (OpenSpec.upto levelTellsSpec)

/-- 'viaductlaw17.LevelBars', WHERE WHAT IT READS IS OF BULK AT MOST 1048576: true; the input reads as it did. -/
def levelBarsUptoRow : OpenClaim := { program := "ytknahemnmboidaa", sum := "0c16f1a3326ddd50f59cc11540ae06f5022a977d0893363e555978a2297417a0", func := "viaduct/viaductlaw17.LevelBars", spec := "levelBars", unfollowed := true, recurses := true, apart := false, narrowed := true }
def LevelBarsUptoSaid : Prop := levelBarsUptoRow.holds Try.pinned (OpenSpec.upto levelBarsSpec)

/-- 'viaductlaw02.MacLevels', WHERE WHAT IT READS IS OF BULK AT MOST 1048576: true; the input reads as it did. -/
def macLevelsUptoRow : OpenClaim := { program := "ytknahemnmboidaa", sum := "0c16f1a3326ddd50f59cc11540ae06f5022a977d0893363e555978a2297417a0", func := "viaduct/viaductlaw02.MacLevels", spec := "macLevels", unfollowed := true, recurses := true, apart := false, narrowed := true }
def MacLevelsUptoSaid : Prop := macLevelsUptoRow.holds Try.pinned (OpenSpec.upto macLevelsSpec)

/-- 'viaductlaw01.WirePuts', WHERE WHAT IT READS IS OF BULK AT MOST 1048576: true; the input reads as it did. -/
def wirePutsUptoRow : OpenClaim := { program := "ytknahemnmboidaa", sum := "0c16f1a3326ddd50f59cc11540ae06f5022a977d0893363e555978a2297417a0", func := "viaduct/viaductlaw01.WirePuts", spec := "wirePuts", recurses := true, apart := false, narrowed := true }
def WirePutsUptoSaid : Prop := wirePutsUptoRow.holds Try.pinned (OpenSpec.upto wirePutsSpec)

/-- 'viaductlaw02.MacMakes', WHERE WHAT IT READS IS OF BULK AT MOST 1048576: true; the input reads as it did. -/
def macMakesUptoRow : OpenClaim := { program := "ytknahemnmboidaa", sum := "0c16f1a3326ddd50f59cc11540ae06f5022a977d0893363e555978a2297417a0", func := "viaduct/viaductlaw02.MacMakes", spec := "macMakes", unfollowed := true, recurses := true, apart := false, narrowed := true }
def MacMakesUptoSaid : Prop := macMakesUptoRow.holds Try.pinned (OpenSpec.upto macMakesSpec)

/-- 'viaductlaw02.MacParses', WHERE WHAT IT READS IS OF BULK AT MOST 1048576: true; the input reads as it did. -/
def macParsesUptoRow : OpenClaim := { program := "ytknahemnmboidaa", sum := "0c16f1a3326ddd50f59cc11540ae06f5022a977d0893363e555978a2297417a0", func := "viaduct/viaductlaw02.MacParses", spec := "macParses", unfollowed := true, recurses := true, apart := false, narrowed := true }
def MacParsesUptoSaid : Prop := macParsesUptoRow.holds Try.pinned (OpenSpec.upto macParsesSpec)

/-- 'viaductlaw01.WireOne', WHERE WHAT IT READS IS OF BULK AT MOST 1048576: true; the input reads as it did. -/
def wireOneUptoRow : OpenClaim := { program := "ytknahemnmboidaa", sum := "0c16f1a3326ddd50f59cc11540ae06f5022a977d0893363e555978a2297417a0", func := "viaduct/viaductlaw01.WireOne", spec := "wireOne", apart := false, narrowed := true }
def WireOneUptoSaid : Prop := wireOneUptoRow.holds Try.pinned (OpenSpec.upto wireOneSpec)

/-- 'viaductlaw01.WireBack', WHERE WHAT IT READS IS OF BULK AT MOST 1048576: true; the input reads as it did. -/
def wireBackUptoRow : OpenClaim := { program := "ytknahemnmboidaa", sum := "0c16f1a3326ddd50f59cc11540ae06f5022a977d0893363e555978a2297417a0", func := "viaduct/viaductlaw01.WireBack", spec := "wireBack", apart := false, narrowed := true }
def WireBackUptoSaid : Prop := wireBackUptoRow.holds Try.pinned (OpenSpec.upto wireBackSpec)

/-- 'viaductlaw01.WireReads', WHERE WHAT IT READS IS OF BULK AT MOST 1048576: true; the input reads as it did. -/
def wireReadsUptoRow : OpenClaim := { program := "ytknahemnmboidaa", sum := "0c16f1a3326ddd50f59cc11540ae06f5022a977d0893363e555978a2297417a0", func := "viaduct/viaductlaw01.WireReads", spec := "wireReads", apart := false, narrowed := true }
def WireReadsUptoSaid : Prop := wireReadsUptoRow.holds Try.pinned (OpenSpec.upto wireReadsSpec)

/-- 'viaductlaw01.WireNil', WHERE WHAT IT READS IS OF BULK AT MOST 1048576: true; the input reads as it did. -/
def wireNilUptoRow : OpenClaim := { program := "ytknahemnmboidaa", sum := "0c16f1a3326ddd50f59cc11540ae06f5022a977d0893363e555978a2297417a0", func := "viaduct/viaductlaw01.WireNil", spec := "wireNil", apart := false, narrowed := true }
def WireNilUptoSaid : Prop := wireNilUptoRow.holds Try.pinned (OpenSpec.upto wireNilSpec)

/-- 'viaductlaw02.MacTells', WHERE WHAT IT READS IS OF BULK AT MOST 1048576: true; the input reads as it did. -/
def macTellsUptoRow : OpenClaim := { program := "ytknahemnmboidaa", sum := "0c16f1a3326ddd50f59cc11540ae06f5022a977d0893363e555978a2297417a0", func := "viaduct/viaductlaw02.MacTells", spec := "macTells", unfollowed := true, recurses := true, apart := false, narrowed := true }
def MacTellsUptoSaid : Prop := macTellsUptoRow.holds Try.pinned (OpenSpec.upto macTellsSpec)

/-- 'viaductlaw02.MacBack', WHERE WHAT IT READS IS OF BULK AT MOST 1048576: true; the input reads as it did. -/
def macBackUptoRow : OpenClaim := { program := "ytknahemnmboidaa", sum := "0c16f1a3326ddd50f59cc11540ae06f5022a977d0893363e555978a2297417a0", func := "viaduct/viaductlaw02.MacBack", spec := "macBack", unfollowed := true, recurses := true, apart := false, narrowed := true }
def MacBackUptoSaid : Prop := macBackUptoRow.holds Try.pinned (OpenSpec.upto macBackSpec)

end Rows
end Go.Proofs.Ytknahemnmboidaa
