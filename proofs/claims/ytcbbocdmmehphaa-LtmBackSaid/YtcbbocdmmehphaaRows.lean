/-
  No cell of these rows narrows 'for every input' (looked for: loops, veiled, ifaces, maps, wideKeys, modest, calm, conditions, laid).
  DERIVED. THE GIVEN ROWS OF THIS SEAT. 12 by the template 'for every input the law returns true; each argument reads behind the call as it read before'; 0 by the template 'total and deterministic' (their statements: YtcbbocdmmehphaaTotals.lean).
  GIVEN WITH THE SEED: the statements are not yours to turn. If you find one false, say at which input.
  Laid BY PROGRAM, IN A SANDBOX (cutbox-rows.mjs): the forced cells as the released guide's own fill.sh prints them over the translation 1de159599b5b16b1… (all of the seat's roots in one cut). By AI agents, Wed Nov 11 2026. No macro, syntax, notation, axiom, sorry.
-/
import Derived.Test.YtcbbocdmmehphaaChecked
import GoSem.Claim
import GoSem.ClaimJoined
import GoSem.ClaimMapViews
import Derived.JoinedTies
import Derived.KernelRfl
namespace Go.Proofs.Ytcbbocdmmehphaa
/- THE CELL 'sum', in the pinned program and in every row, IS THE sha256 OF THE DUMP (.gsa) THAT YtcbbocdmmehphaaProg.lean LOADS. Nothing in Lean hashes anything: it is a label: what it is worth is what the hold of that sum in a sandbox is worth. -/
noncomputable def Try.pinned : Pinned := { name := "ytcbbocdmmehphaa", sum := "1de159599b5b16b1a93a6fc5f59e6b1a742927afa7a5357f788b75f927a55295", checked := Try.checked }
namespace Rows
def none {H : Type} : Left H := { results := [], args := [] }

/-- 'viaductlaw12.CfmPuts': WHATEVER THE INPUT: true; the input reads as it did. -/
def cfmPutsSpec : ChangeSpec := { name := "cfmPuts", fn := fun _ => fun
  | [d] => { results := [.lit (.bool true)], args := [d] }
  | _ => none }
def cfmPutsRow : OpenClaim := { program := "ytcbbocdmmehphaa", sum := "1de159599b5b16b1a93a6fc5f59e6b1a742927afa7a5357f788b75f927a55295", func := "viaduct/viaductlaw12.CfmPuts", spec := "cfmPuts", unfollowed := true, recurses := true, apart := false }
def CfmPutsSaid : Prop := cfmPutsRow.holds Try.pinned (OpenSpec.ofChange cfmPutsSpec)

/-- ITS FALSE NEIGHBOUR: 'it returns false'. Refute it at one input. -/
def cfmPutsWrong : ChangeSpec := { name := "cfmPuts", fn := fun _ => fun
  | [d] => { results := [.lit (.bool false)], args := [d] }
  | _ => none }
def CfmPutsWrongFalsely : Prop := cfmPutsRow.holds Try.pinned (OpenSpec.ofChange cfmPutsWrong)

/-- 'viaductlaw12.CfmBack': WHATEVER THE INPUT: true; the input reads as it did. -/
def cfmBackSpec : ChangeSpec := { name := "cfmBack", fn := fun _ => fun
  | [d1, d2, d3] => { results := [.lit (.bool true)], args := [d1, d2, d3] }
  | _ => none }
def cfmBackRow : OpenClaim := { program := "ytcbbocdmmehphaa", sum := "1de159599b5b16b1a93a6fc5f59e6b1a742927afa7a5357f788b75f927a55295", func := "viaduct/viaductlaw12.CfmBack", spec := "cfmBack", unfollowed := true, recurses := true, apart := false }
def CfmBackSaid : Prop := cfmBackRow.holds Try.pinned (OpenSpec.ofChange cfmBackSpec)

/-- ITS FALSE NEIGHBOUR: 'it returns false'. Refute it at one input. -/
def cfmBackWrong : ChangeSpec := { name := "cfmBack", fn := fun _ => fun
  | [d1, d2, d3] => { results := [.lit (.bool false)], args := [d1, d2, d3] }
  | _ => none }
def CfmBackWrongFalsely : Prop := cfmBackRow.holds Try.pinned (OpenSpec.ofChange cfmBackWrong)

/-- 'viaductlaw12.CfmTakes': WHATEVER THE INPUT: true; the input reads as it did. -/
def cfmTakesSpec : ChangeSpec := { name := "cfmTakes", fn := fun _ => fun
  | [d1, d2] => { results := [.lit (.bool true)], args := [d1, d2] }
  | _ => none }
def cfmTakesRow : OpenClaim := { program := "ytcbbocdmmehphaa", sum := "1de159599b5b16b1a93a6fc5f59e6b1a742927afa7a5357f788b75f927a55295", func := "viaduct/viaductlaw12.CfmTakes", spec := "cfmTakes", unfollowed := true, recurses := true, apart := false }
def CfmTakesSaid : Prop := cfmTakesRow.holds Try.pinned (OpenSpec.ofChange cfmTakesSpec)

/-- ITS FALSE NEIGHBOUR: 'it returns false'. Refute it at one input. -/
def cfmTakesWrong : ChangeSpec := { name := "cfmTakes", fn := fun _ => fun
  | [d1, d2] => { results := [.lit (.bool false)], args := [d1, d2] }
  | _ => none }
def CfmTakesWrongFalsely : Prop := cfmTakesRow.holds Try.pinned (OpenSpec.ofChange cfmTakesWrong)

/-- 'viaductlaw14.LbmPuts': WHATEVER THE INPUT: true; the input reads as it did. -/
def lbmPutsSpec : ChangeSpec := { name := "lbmPuts", fn := fun _ => fun
  | [d] => { results := [.lit (.bool true)], args := [d] }
  | _ => none }
def lbmPutsRow : OpenClaim := { program := "ytcbbocdmmehphaa", sum := "1de159599b5b16b1a93a6fc5f59e6b1a742927afa7a5357f788b75f927a55295", func := "viaduct/viaductlaw14.LbmPuts", spec := "lbmPuts", unfollowed := true, recurses := true, apart := false }
def LbmPutsSaid : Prop := lbmPutsRow.holds Try.pinned (OpenSpec.ofChange lbmPutsSpec)

/-- ITS FALSE NEIGHBOUR: 'it returns false'. Refute it at one input. -/
def lbmPutsWrong : ChangeSpec := { name := "lbmPuts", fn := fun _ => fun
  | [d] => { results := [.lit (.bool false)], args := [d] }
  | _ => none }
def LbmPutsWrongFalsely : Prop := lbmPutsRow.holds Try.pinned (OpenSpec.ofChange lbmPutsWrong)

/-- 'viaductlaw14.LbmTakes': WHATEVER THE INPUT: true; the input reads as it did. -/
def lbmTakesSpec : ChangeSpec := { name := "lbmTakes", fn := fun _ => fun
  | [d] => { results := [.lit (.bool true)], args := [d] }
  | _ => none }
def lbmTakesRow : OpenClaim := { program := "ytcbbocdmmehphaa", sum := "1de159599b5b16b1a93a6fc5f59e6b1a742927afa7a5357f788b75f927a55295", func := "viaduct/viaductlaw14.LbmTakes", spec := "lbmTakes", unfollowed := true, recurses := true, apart := false }
def LbmTakesSaid : Prop := lbmTakesRow.holds Try.pinned (OpenSpec.ofChange lbmTakesSpec)

/-- ITS FALSE NEIGHBOUR: 'it returns false'. Refute it at one input. -/
def lbmTakesWrong : ChangeSpec := { name := "lbmTakes", fn := fun _ => fun
  | [d] => { results := [.lit (.bool false)], args := [d] }
  | _ => none }
def LbmTakesWrongFalsely : Prop := lbmTakesRow.holds Try.pinned (OpenSpec.ofChange lbmTakesWrong)

/-- 'viaductlaw14.LbmBack': WHATEVER THE INPUT: true; the input reads as it did. -/
def lbmBackSpec : ChangeSpec := { name := "lbmBack", fn := fun _ => fun
  | [d1, d2, d3] => { results := [.lit (.bool true)], args := [d1, d2, d3] }
  | _ => none }
def lbmBackRow : OpenClaim := { program := "ytcbbocdmmehphaa", sum := "1de159599b5b16b1a93a6fc5f59e6b1a742927afa7a5357f788b75f927a55295", func := "viaduct/viaductlaw14.LbmBack", spec := "lbmBack", unfollowed := true, recurses := true, apart := false }
def LbmBackSaid : Prop := lbmBackRow.holds Try.pinned (OpenSpec.ofChange lbmBackSpec)

/-- ITS FALSE NEIGHBOUR: 'it returns false'. Refute it at one input. -/
def lbmBackWrong : ChangeSpec := { name := "lbmBack", fn := fun _ => fun
  | [d1, d2, d3] => { results := [.lit (.bool false)], args := [d1, d2, d3] }
  | _ => none }
def LbmBackWrongFalsely : Prop := lbmBackRow.holds Try.pinned (OpenSpec.ofChange lbmBackWrong)

/-- 'viaductlaw15.LtmPuts': WHATEVER THE INPUT: true; the input reads as it did. -/
def ltmPutsSpec : ChangeSpec := { name := "ltmPuts", fn := fun _ => fun
  | [d1, d2] => { results := [.lit (.bool true)], args := [d1, d2] }
  | _ => none }
def ltmPutsRow : OpenClaim := { program := "ytcbbocdmmehphaa", sum := "1de159599b5b16b1a93a6fc5f59e6b1a742927afa7a5357f788b75f927a55295", func := "viaduct/viaductlaw15.LtmPuts", spec := "ltmPuts", unfollowed := true, recurses := true, apart := false }
def LtmPutsSaid : Prop := ltmPutsRow.holds Try.pinned (OpenSpec.ofChange ltmPutsSpec)

/-- ITS FALSE NEIGHBOUR: 'it returns false'. Refute it at one input. -/
def ltmPutsWrong : ChangeSpec := { name := "ltmPuts", fn := fun _ => fun
  | [d1, d2] => { results := [.lit (.bool false)], args := [d1, d2] }
  | _ => none }
def LtmPutsWrongFalsely : Prop := ltmPutsRow.holds Try.pinned (OpenSpec.ofChange ltmPutsWrong)

/-- 'viaductlaw15.LtmBack': WHATEVER THE INPUT: true; the input reads as it did. -/
def ltmBackSpec : ChangeSpec := { name := "ltmBack", fn := fun _ => fun
  | [d1, d2, d3] => { results := [.lit (.bool true)], args := [d1, d2, d3] }
  | _ => none }
def ltmBackRow : OpenClaim := { program := "ytcbbocdmmehphaa", sum := "1de159599b5b16b1a93a6fc5f59e6b1a742927afa7a5357f788b75f927a55295", func := "viaduct/viaductlaw15.LtmBack", spec := "ltmBack", unfollowed := true, recurses := true, apart := false }
def LtmBackSaid : Prop := ltmBackRow.holds Try.pinned (OpenSpec.ofChange ltmBackSpec)

/-- ITS FALSE NEIGHBOUR: 'it returns false'. Refute it at one input. -/
def ltmBackWrong : ChangeSpec := { name := "ltmBack", fn := fun _ => fun
  | [d1, d2, d3] => { results := [.lit (.bool false)], args := [d1, d2, d3] }
  | _ => none }
def LtmBackWrongFalsely : Prop := ltmBackRow.holds Try.pinned (OpenSpec.ofChange ltmBackWrong)

/-- 'viaductlaw13.CcmPuts': WHATEVER THE INPUT: true; the input reads as it did. -/
def ccmPutsSpec : ChangeSpec := { name := "ccmPuts", fn := fun _ => fun
  | [d] => { results := [.lit (.bool true)], args := [d] }
  | _ => none }
def ccmPutsRow : OpenClaim := { program := "ytcbbocdmmehphaa", sum := "1de159599b5b16b1a93a6fc5f59e6b1a742927afa7a5357f788b75f927a55295", func := "viaduct/viaductlaw13.CcmPuts", spec := "ccmPuts", unfollowed := true, recurses := true, apart := false }
def CcmPutsSaid : Prop := ccmPutsRow.holds Try.pinned (OpenSpec.ofChange ccmPutsSpec)

/-- ITS FALSE NEIGHBOUR: 'it returns false'. Refute it at one input. -/
def ccmPutsWrong : ChangeSpec := { name := "ccmPuts", fn := fun _ => fun
  | [d] => { results := [.lit (.bool false)], args := [d] }
  | _ => none }
def CcmPutsWrongFalsely : Prop := ccmPutsRow.holds Try.pinned (OpenSpec.ofChange ccmPutsWrong)

/-- 'viaductlaw13.CcmTakes': WHATEVER THE INPUT: true; the input reads as it did. -/
def ccmTakesSpec : ChangeSpec := { name := "ccmTakes", fn := fun _ => fun
  | [d] => { results := [.lit (.bool true)], args := [d] }
  | _ => none }
def ccmTakesRow : OpenClaim := { program := "ytcbbocdmmehphaa", sum := "1de159599b5b16b1a93a6fc5f59e6b1a742927afa7a5357f788b75f927a55295", func := "viaduct/viaductlaw13.CcmTakes", spec := "ccmTakes", unfollowed := true, recurses := true, apart := false }
def CcmTakesSaid : Prop := ccmTakesRow.holds Try.pinned (OpenSpec.ofChange ccmTakesSpec)

/-- ITS FALSE NEIGHBOUR: 'it returns false'. Refute it at one input. -/
def ccmTakesWrong : ChangeSpec := { name := "ccmTakes", fn := fun _ => fun
  | [d] => { results := [.lit (.bool false)], args := [d] }
  | _ => none }
def CcmTakesWrongFalsely : Prop := ccmTakesRow.holds Try.pinned (OpenSpec.ofChange ccmTakesWrong)

/-- 'viaductlaw13.CcmBack': WHATEVER THE INPUT: true; the input reads as it did. -/
def ccmBackSpec : ChangeSpec := { name := "ccmBack", fn := fun _ => fun
  | [d1, d2, d3] => { results := [.lit (.bool true)], args := [d1, d2, d3] }
  | _ => none }
def ccmBackRow : OpenClaim := { program := "ytcbbocdmmehphaa", sum := "1de159599b5b16b1a93a6fc5f59e6b1a742927afa7a5357f788b75f927a55295", func := "viaduct/viaductlaw13.CcmBack", spec := "ccmBack", unfollowed := true, recurses := true, apart := false }
def CcmBackSaid : Prop := ccmBackRow.holds Try.pinned (OpenSpec.ofChange ccmBackSpec)

/-- ITS FALSE NEIGHBOUR: 'it returns false'. Refute it at one input. -/
def ccmBackWrong : ChangeSpec := { name := "ccmBack", fn := fun _ => fun
  | [d1, d2, d3] => { results := [.lit (.bool false)], args := [d1, d2, d3] }
  | _ => none }
def CcmBackWrongFalsely : Prop := ccmBackRow.holds Try.pinned (OpenSpec.ofChange ccmBackWrong)

/-- 'viaductlaw01.WireReads': WHATEVER THE INPUT: true; the input reads as it did. -/
def wireReadsSpec : ChangeSpec := { name := "wireReads", fn := fun _ => fun
  | [d1, d2] => { results := [.lit (.bool true)], args := [d1, d2] }
  | _ => none }
def wireReadsRow : OpenClaim := { program := "ytcbbocdmmehphaa", sum := "1de159599b5b16b1a93a6fc5f59e6b1a742927afa7a5357f788b75f927a55295", func := "viaduct/viaductlaw01.WireReads", spec := "wireReads", apart := false }
def WireReadsSaid : Prop := wireReadsRow.holds Try.pinned (OpenSpec.ofChange wireReadsSpec)

/-- ITS FALSE NEIGHBOUR: 'it returns false'. Refute it at one input. -/
def wireReadsWrong : ChangeSpec := { name := "wireReads", fn := fun _ => fun
  | [d1, d2] => { results := [.lit (.bool false)], args := [d1, d2] }
  | _ => none }
def WireReadsWrongFalsely : Prop := wireReadsRow.holds Try.pinned (OpenSpec.ofChange wireReadsWrong)

/- THE SECOND FORM. 'bulk': how many values and letters a reading holds, each counted each time it is reached (what is shared counts as often as it is met; a slice's spare places count too). A statement '..UptoSaid' is the law's where the arguments, and the package variables that the reading takes, are together of bulk at most 1048576: NARROWER than '..Said'. Prove '..Said' where nothing that the law and all that it calls make is longer than what came in: it says more and counts as full. Else prove '..UptoSaid'. A law counts once. -/
mutual
def uptoBulk {H : Type} : DataW H → Nat
  | .lit (.string bytes) => bytes.length + 1
  | .lit _ => 1
  | .nil => 1
  | .ptr d => uptoBulk d + 1
  | .slice elems spare => uptoBulkAll elems + uptoBulkAll spare + 1
  | .agg parts => uptoBulkAll parts + 1
  | .iface _ d => uptoBulk d + 1
  | .map entries => uptoBulkEntries entries + 1
  | .held _ => 1
def uptoBulkAll {H : Type} : List (DataW H) → Nat
  | [] => 0
  | d :: r => uptoBulk d + uptoBulkAll r
def uptoBulkEntries {H : Type} : List (Lit × DataW H) → Nat
  | [] => 0
  | x :: r => uptoBulkEntry x + uptoBulkEntries r
def uptoBulkEntry {H : Type} : Lit × DataW H → Nat
  | (.string bytes, d) => bytes.length + uptoBulk d + 1
  | (_, d) => uptoBulk d + 1
 end
def uptoSmall : (H : Type) → List (DataW H) → Bool := fun _ ds => decide (uptoBulkAll ds ≤ 1048576)
def OpenSpec.upto (s : _root_.Go.ChangeSpec) : _root_.Go.OpenSpec := { _root_.Go.OpenSpec.ofChange s with cond := some uptoSmall }

/-- 'viaductlaw12.CfmPuts', WHERE WHAT IT READS IS OF BULK AT MOST 1048576: true; the input reads as it did. -/
def cfmPutsUptoRow : OpenClaim := { program := "ytcbbocdmmehphaa", sum := "1de159599b5b16b1a93a6fc5f59e6b1a742927afa7a5357f788b75f927a55295", func := "viaduct/viaductlaw12.CfmPuts", spec := "cfmPuts", unfollowed := true, recurses := true, apart := false, narrowed := true }
def CfmPutsUptoSaid : Prop := cfmPutsUptoRow.holds Try.pinned (OpenSpec.upto cfmPutsSpec)

/-- 'viaductlaw12.CfmBack', WHERE WHAT IT READS IS OF BULK AT MOST 1048576: true; the input reads as it did. -/
def cfmBackUptoRow : OpenClaim := { program := "ytcbbocdmmehphaa", sum := "1de159599b5b16b1a93a6fc5f59e6b1a742927afa7a5357f788b75f927a55295", func := "viaduct/viaductlaw12.CfmBack", spec := "cfmBack", unfollowed := true, recurses := true, apart := false, narrowed := true }
def CfmBackUptoSaid : Prop := cfmBackUptoRow.holds Try.pinned (OpenSpec.upto cfmBackSpec)

/-- 'viaductlaw12.CfmTakes', WHERE WHAT IT READS IS OF BULK AT MOST 1048576: true; the input reads as it did. -/
def cfmTakesUptoRow : OpenClaim := { program := "ytcbbocdmmehphaa", sum := "1de159599b5b16b1a93a6fc5f59e6b1a742927afa7a5357f788b75f927a55295", func := "viaduct/viaductlaw12.CfmTakes", spec := "cfmTakes", unfollowed := true, recurses := true, apart := false, narrowed := true }
def CfmTakesUptoSaid : Prop := cfmTakesUptoRow.holds Try.pinned (OpenSpec.upto cfmTakesSpec)

/-- 'viaductlaw14.LbmPuts', WHERE WHAT IT READS IS OF BULK AT MOST 1048576: true; the input reads as it did. -/
def lbmPutsUptoRow : OpenClaim := { program := "ytcbbocdmmehphaa", sum := "1de159599b5b16b1a93a6fc5f59e6b1a742927afa7a5357f788b75f927a55295", func := "viaduct/viaductlaw14.LbmPuts", spec := "lbmPuts", unfollowed := true, recurses := true, apart := false, narrowed := true }
def LbmPutsUptoSaid : Prop := lbmPutsUptoRow.holds Try.pinned (OpenSpec.upto lbmPutsSpec)

/-- 'viaductlaw14.LbmTakes', WHERE WHAT IT READS IS OF BULK AT MOST 1048576: true; the input reads as it did. -/
def lbmTakesUptoRow : OpenClaim := { program := "ytcbbocdmmehphaa", sum := "1de159599b5b16b1a93a6fc5f59e6b1a742927afa7a5357f788b75f927a55295", func := "viaduct/viaductlaw14.LbmTakes", spec := "lbmTakes", unfollowed := true, recurses := true, apart := false, narrowed := true }
def LbmTakesUptoSaid : Prop := lbmTakesUptoRow.holds Try.pinned (OpenSpec.upto lbmTakesSpec)

/-- 'viaductlaw14.LbmBack', WHERE WHAT IT READS IS OF BULK AT MOST 1048576: true; the input reads as it did. -/
def lbmBackUptoRow : OpenClaim := { program := "ytcbbocdmmehphaa", sum := "1de159599b5b16b1a93a6fc5f59e6b1a742927afa7a5357f788b75f927a55295", func := "viaduct/viaductlaw14.LbmBack", spec := "lbmBack", unfollowed := true, recurses := true, apart := false, narrowed := true }
def LbmBackUptoSaid : Prop := lbmBackUptoRow.holds Try.pinned (OpenSpec.upto lbmBackSpec)

/-- 'viaductlaw15.LtmPuts', WHERE WHAT IT READS IS OF BULK AT MOST 1048576: true; the input reads as it did. -/
def ltmPutsUptoRow : OpenClaim := { program := "ytcbbocdmmehphaa", sum := "1de159599b5b16b1a93a6fc5f59e6b1a742927afa7a5357f788b75f927a55295", func := "viaduct/viaductlaw15.LtmPuts", spec := "ltmPuts", unfollowed := true, recurses := true, apart := false, narrowed := true }
def LtmPutsUptoSaid : Prop := ltmPutsUptoRow.holds Try.pinned (OpenSpec.upto ltmPutsSpec)

/-- 'viaductlaw15.LtmBack', WHERE WHAT IT READS IS OF BULK AT MOST 1048576: true; the input reads as it did. -/
def ltmBackUptoRow : OpenClaim := { program := "ytcbbocdmmehphaa", sum := "1de159599b5b16b1a93a6fc5f59e6b1a742927afa7a5357f788b75f927a55295", func := "viaduct/viaductlaw15.LtmBack", spec := "ltmBack", unfollowed := true, recurses := true, apart := false, narrowed := true }
def LtmBackUptoSaid : Prop := ltmBackUptoRow.holds Try.pinned (OpenSpec.upto ltmBackSpec)

/-- 'viaductlaw13.CcmPuts', WHERE WHAT IT READS IS OF BULK AT MOST 1048576: true; the input reads as it did. -/
def ccmPutsUptoRow : OpenClaim := { program := "ytcbbocdmmehphaa", sum := "1de159599b5b16b1a93a6fc5f59e6b1a742927afa7a5357f788b75f927a55295", func := "viaduct/viaductlaw13.CcmPuts", spec := "ccmPuts", unfollowed := true, recurses := true, apart := false, narrowed := true }
def CcmPutsUptoSaid : Prop := ccmPutsUptoRow.holds Try.pinned (OpenSpec.upto ccmPutsSpec)

/-- 'viaductlaw13.CcmTakes', WHERE WHAT IT READS IS OF BULK AT MOST 1048576: true; the input reads as it did. -/
def ccmTakesUptoRow : OpenClaim := { program := "ytcbbocdmmehphaa", sum := "1de159599b5b16b1a93a6fc5f59e6b1a742927afa7a5357f788b75f927a55295", func := "viaduct/viaductlaw13.CcmTakes", spec := "ccmTakes", unfollowed := true, recurses := true, apart := false, narrowed := true }
def CcmTakesUptoSaid : Prop := ccmTakesUptoRow.holds Try.pinned (OpenSpec.upto ccmTakesSpec)

/-- 'viaductlaw13.CcmBack', WHERE WHAT IT READS IS OF BULK AT MOST 1048576: true; the input reads as it did. -/
def ccmBackUptoRow : OpenClaim := { program := "ytcbbocdmmehphaa", sum := "1de159599b5b16b1a93a6fc5f59e6b1a742927afa7a5357f788b75f927a55295", func := "viaduct/viaductlaw13.CcmBack", spec := "ccmBack", unfollowed := true, recurses := true, apart := false, narrowed := true }
def CcmBackUptoSaid : Prop := ccmBackUptoRow.holds Try.pinned (OpenSpec.upto ccmBackSpec)

/-- 'viaductlaw01.WireReads', WHERE WHAT IT READS IS OF BULK AT MOST 1048576: true; the input reads as it did. -/
def wireReadsUptoRow : OpenClaim := { program := "ytcbbocdmmehphaa", sum := "1de159599b5b16b1a93a6fc5f59e6b1a742927afa7a5357f788b75f927a55295", func := "viaduct/viaductlaw01.WireReads", spec := "wireReads", apart := false, narrowed := true }
def WireReadsUptoSaid : Prop := wireReadsUptoRow.holds Try.pinned (OpenSpec.upto wireReadsSpec)

end Rows
end Go.Proofs.Ytcbbocdmmehphaa
