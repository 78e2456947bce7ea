/-
  No cell of these rows narrows 'for every input' (looked for: loops, veiled, ifaces, maps, wideKeys, modest, calm, conditions, laid).
  DERIVED. THE GIVEN ROWS OF THIS SEAT. 12 by the template 'for every input the law returns true; each argument reads behind the call as it read before'; 0 by the template 'total and deterministic' (their statements: YtblmpndaofhmjaaTotals.lean).
  GIVEN WITH THE SEED: the statements are not yours to turn. If you find one false, say at which input.
  Laid BY PROGRAM, IN A SANDBOX (cutbox-rows.mjs): the forced cells as the released guide's own fill.sh prints them over the translation eaf630c8caa9feab… (all of the seat's roots in one cut). By AI agents, Wed Nov 11 2026. No macro, syntax, notation, axiom, sorry.
-/
import Derived.Test.YtblmpndaofhmjaaChecked
import GoSem.Claim
import GoSem.ClaimJoined
import GoSem.ClaimMapViews
import Derived.JoinedTies
import Derived.KernelRfl
namespace Go.Proofs.Ytblmpndaofhmjaa
/- THE CELL 'sum', in the pinned program and in every row, IS THE sha256 OF THE DUMP (.gsa) THAT YtblmpndaofhmjaaProg.lean LOADS. Nothing in Lean hashes anything: it is a label: what it is worth is what the hold of that sum in a sandbox is worth. -/
noncomputable def Try.pinned : Pinned := { name := "ytblmpndaofhmjaa", sum := "eaf630c8caa9feab9d13fec999247f922602980710363011b20171c2343f3ca3", checked := Try.checked }
namespace Rows
def none {H : Type} : Left H := { results := [], args := [] }

/-- 'viaductlaw10.MaidPuts': WHATEVER THE INPUT: true; the input reads as it did. -/
def maidPutsSpec : ChangeSpec := { name := "maidPuts", fn := fun _ => fun
  | [d1, d2] => { results := [.lit (.bool true)], args := [d1, d2] }
  | _ => none }
def maidPutsRow : OpenClaim := { program := "ytblmpndaofhmjaa", sum := "eaf630c8caa9feab9d13fec999247f922602980710363011b20171c2343f3ca3", func := "viaduct/viaductlaw10.MaidPuts", spec := "maidPuts", unfollowed := true, recurses := true, apart := false }
def MaidPutsSaid : Prop := maidPutsRow.holds Try.pinned (OpenSpec.ofChange maidPutsSpec)

/-- ITS FALSE NEIGHBOUR: 'it returns false'. Refute it at one input. -/
def maidPutsWrong : ChangeSpec := { name := "maidPuts", fn := fun _ => fun
  | [d1, d2] => { results := [.lit (.bool false)], args := [d1, d2] }
  | _ => none }
def MaidPutsWrongFalsely : Prop := maidPutsRow.holds Try.pinned (OpenSpec.ofChange maidPutsWrong)

/-- 'viaductlaw10.MaidTakes': WHATEVER THE INPUT: true; the input reads as it did. -/
def maidTakesSpec : ChangeSpec := { name := "maidTakes", fn := fun _ => fun
  | [d] => { results := [.lit (.bool true)], args := [d] }
  | _ => none }
def maidTakesRow : OpenClaim := { program := "ytblmpndaofhmjaa", sum := "eaf630c8caa9feab9d13fec999247f922602980710363011b20171c2343f3ca3", func := "viaduct/viaductlaw10.MaidTakes", spec := "maidTakes", unfollowed := true, recurses := true, apart := false }
def MaidTakesSaid : Prop := maidTakesRow.holds Try.pinned (OpenSpec.ofChange maidTakesSpec)

/-- ITS FALSE NEIGHBOUR: 'it returns false'. Refute it at one input. -/
def maidTakesWrong : ChangeSpec := { name := "maidTakes", fn := fun _ => fun
  | [d] => { results := [.lit (.bool false)], args := [d] }
  | _ => none }
def MaidTakesWrongFalsely : Prop := maidTakesRow.holds Try.pinned (OpenSpec.ofChange maidTakesWrong)

/-- 'viaductlaw10.MaidBack': WHATEVER THE INPUT: true; the input reads as it did. -/
def maidBackSpec : ChangeSpec := { name := "maidBack", fn := fun _ => fun
  | [d1, d2, d3, d4, d5] => { results := [.lit (.bool true)], args := [d1, d2, d3, d4, d5] }
  | _ => none }
def maidBackRow : OpenClaim := { program := "ytblmpndaofhmjaa", sum := "eaf630c8caa9feab9d13fec999247f922602980710363011b20171c2343f3ca3", func := "viaduct/viaductlaw10.MaidBack", spec := "maidBack", unfollowed := true, recurses := true, apart := false }
def MaidBackSaid : Prop := maidBackRow.holds Try.pinned (OpenSpec.ofChange maidBackSpec)

/-- ITS FALSE NEIGHBOUR: 'it returns false'. Refute it at one input. -/
def maidBackWrong : ChangeSpec := { name := "maidBack", fn := fun _ => fun
  | [d1, d2, d3, d4, d5] => { results := [.lit (.bool false)], args := [d1, d2, d3, d4, d5] }
  | _ => none }
def MaidBackWrongFalsely : Prop := maidBackRow.holds Try.pinned (OpenSpec.ofChange maidBackWrong)

/-- 'viaductlaw11.TlvPuts': WHATEVER THE INPUT: true; the input reads as it did. -/
def tlvPutsSpec : ChangeSpec := { name := "tlvPuts", fn := fun _ => fun
  | [d1, d2] => { results := [.lit (.bool true)], args := [d1, d2] }
  | _ => none }
def tlvPutsRow : OpenClaim := { program := "ytblmpndaofhmjaa", sum := "eaf630c8caa9feab9d13fec999247f922602980710363011b20171c2343f3ca3", func := "viaduct/viaductlaw11.TlvPuts", spec := "tlvPuts", unfollowed := true, recurses := true, apart := false }
def TlvPutsSaid : Prop := tlvPutsRow.holds Try.pinned (OpenSpec.ofChange tlvPutsSpec)

/-- ITS FALSE NEIGHBOUR: 'it returns false'. Refute it at one input. -/
def tlvPutsWrong : ChangeSpec := { name := "tlvPuts", fn := fun _ => fun
  | [d1, d2] => { results := [.lit (.bool false)], args := [d1, d2] }
  | _ => none }
def TlvPutsWrongFalsely : Prop := tlvPutsRow.holds Try.pinned (OpenSpec.ofChange tlvPutsWrong)

/-- 'viaductlaw11.TlvTakes': WHATEVER THE INPUT: true; the input reads as it did. -/
def tlvTakesSpec : ChangeSpec := { name := "tlvTakes", fn := fun _ => fun
  | [d] => { results := [.lit (.bool true)], args := [d] }
  | _ => none }
def tlvTakesRow : OpenClaim := { program := "ytblmpndaofhmjaa", sum := "eaf630c8caa9feab9d13fec999247f922602980710363011b20171c2343f3ca3", func := "viaduct/viaductlaw11.TlvTakes", spec := "tlvTakes", unfollowed := true, recurses := true, apart := false }
def TlvTakesSaid : Prop := tlvTakesRow.holds Try.pinned (OpenSpec.ofChange tlvTakesSpec)

/-- ITS FALSE NEIGHBOUR: 'it returns false'. Refute it at one input. -/
def tlvTakesWrong : ChangeSpec := { name := "tlvTakes", fn := fun _ => fun
  | [d] => { results := [.lit (.bool false)], args := [d] }
  | _ => none }
def TlvTakesWrongFalsely : Prop := tlvTakesRow.holds Try.pinned (OpenSpec.ofChange tlvTakesWrong)

/-- 'viaductlaw11.TlvBack': WHATEVER THE INPUT: true; the input reads as it did. -/
def tlvBackSpec : ChangeSpec := { name := "tlvBack", fn := fun _ => fun
  | [d1, d2] => { results := [.lit (.bool true)], args := [d1, d2] }
  | _ => none }
def tlvBackRow : OpenClaim := { program := "ytblmpndaofhmjaa", sum := "eaf630c8caa9feab9d13fec999247f922602980710363011b20171c2343f3ca3", func := "viaduct/viaductlaw11.TlvBack", spec := "tlvBack", unfollowed := true, recurses := true, apart := false }
def TlvBackSaid : Prop := tlvBackRow.holds Try.pinned (OpenSpec.ofChange tlvBackSpec)

/-- ITS FALSE NEIGHBOUR: 'it returns false'. Refute it at one input. -/
def tlvBackWrong : ChangeSpec := { name := "tlvBack", fn := fun _ => fun
  | [d1, d2] => { results := [.lit (.bool false)], args := [d1, d2] }
  | _ => none }
def TlvBackWrongFalsely : Prop := tlvBackRow.holds Try.pinned (OpenSpec.ofChange tlvBackWrong)

/-- 'viaductlaw03.FramePuts': WHATEVER THE INPUT: true; the input reads as it did. -/
def framePutsSpec : ChangeSpec := { name := "framePuts", fn := fun _ => fun
  | [d] => { results := [.lit (.bool true)], args := [d] }
  | _ => none }
def framePutsRow : OpenClaim := { program := "ytblmpndaofhmjaa", sum := "eaf630c8caa9feab9d13fec999247f922602980710363011b20171c2343f3ca3", func := "viaduct/viaductlaw03.FramePuts", spec := "framePuts", unfollowed := true, recurses := true, apart := false }
def FramePutsSaid : Prop := framePutsRow.holds Try.pinned (OpenSpec.ofChange framePutsSpec)

/-- ITS FALSE NEIGHBOUR: 'it returns false'. Refute it at one input. -/
def framePutsWrong : ChangeSpec := { name := "framePuts", fn := fun _ => fun
  | [d] => { results := [.lit (.bool false)], args := [d] }
  | _ => none }
def FramePutsWrongFalsely : Prop := framePutsRow.holds Try.pinned (OpenSpec.ofChange framePutsWrong)

/-- 'viaductlaw03.FrameTakes': WHATEVER THE INPUT: true; the input reads as it did. -/
def frameTakesSpec : ChangeSpec := { name := "frameTakes", fn := fun _ => fun
  | [d] => { results := [.lit (.bool true)], args := [d] }
  | _ => none }
def frameTakesRow : OpenClaim := { program := "ytblmpndaofhmjaa", sum := "eaf630c8caa9feab9d13fec999247f922602980710363011b20171c2343f3ca3", func := "viaduct/viaductlaw03.FrameTakes", spec := "frameTakes", unfollowed := true, recurses := true, apart := false }
def FrameTakesSaid : Prop := frameTakesRow.holds Try.pinned (OpenSpec.ofChange frameTakesSpec)

/-- ITS FALSE NEIGHBOUR: 'it returns false'. Refute it at one input. -/
def frameTakesWrong : ChangeSpec := { name := "frameTakes", fn := fun _ => fun
  | [d] => { results := [.lit (.bool false)], args := [d] }
  | _ => none }
def FrameTakesWrongFalsely : Prop := frameTakesRow.holds Try.pinned (OpenSpec.ofChange frameTakesWrong)

/-- 'viaductlaw03.FrameBack': WHATEVER THE INPUT: true; the input reads as it did. -/
def frameBackSpec : ChangeSpec := { name := "frameBack", fn := fun _ => fun
  | [d1, d2] => { results := [.lit (.bool true)], args := [d1, d2] }
  | _ => none }
def frameBackRow : OpenClaim := { program := "ytblmpndaofhmjaa", sum := "eaf630c8caa9feab9d13fec999247f922602980710363011b20171c2343f3ca3", func := "viaduct/viaductlaw03.FrameBack", spec := "frameBack", unfollowed := true, recurses := true, apart := false }
def FrameBackSaid : Prop := frameBackRow.holds Try.pinned (OpenSpec.ofChange frameBackSpec)

/-- ITS FALSE NEIGHBOUR: 'it returns false'. Refute it at one input. -/
def frameBackWrong : ChangeSpec := { name := "frameBack", fn := fun _ => fun
  | [d1, d2] => { results := [.lit (.bool false)], args := [d1, d2] }
  | _ => none }
def FrameBackWrongFalsely : Prop := frameBackRow.holds Try.pinned (OpenSpec.ofChange frameBackWrong)

/-- 'viaductlaw03.FrameLong': WHATEVER THE INPUT: true; the input reads as it did. -/
def frameLongSpec : ChangeSpec := { name := "frameLong", fn := fun _ => fun
  | [d] => { results := [.lit (.bool true)], args := [d] }
  | _ => none }
def frameLongRow : OpenClaim := { program := "ytblmpndaofhmjaa", sum := "eaf630c8caa9feab9d13fec999247f922602980710363011b20171c2343f3ca3", func := "viaduct/viaductlaw03.FrameLong", spec := "frameLong", unfollowed := true, recurses := true, apart := false }
def FrameLongSaid : Prop := frameLongRow.holds Try.pinned (OpenSpec.ofChange frameLongSpec)

/-- ITS FALSE NEIGHBOUR: 'it returns false'. Refute it at one input. -/
def frameLongWrong : ChangeSpec := { name := "frameLong", fn := fun _ => fun
  | [d] => { results := [.lit (.bool false)], args := [d] }
  | _ => none }
def FrameLongWrongFalsely : Prop := frameLongRow.holds Try.pinned (OpenSpec.ofChange frameLongWrong)

/-- 'viaductlaw01.WirePuts': WHATEVER THE INPUT: true; the input reads as it did. -/
def wirePutsSpec : ChangeSpec := { name := "wirePuts", fn := fun _ => fun
  | [d1, d2] => { results := [.lit (.bool true)], args := [d1, d2] }
  | _ => none }
def wirePutsRow : OpenClaim := { program := "ytblmpndaofhmjaa", sum := "eaf630c8caa9feab9d13fec999247f922602980710363011b20171c2343f3ca3", func := "viaduct/viaductlaw01.WirePuts", spec := "wirePuts", recurses := true, apart := false }
def WirePutsSaid : Prop := wirePutsRow.holds Try.pinned (OpenSpec.ofChange wirePutsSpec)

/-- ITS FALSE NEIGHBOUR: 'it returns false'. Refute it at one input. -/
def wirePutsWrong : ChangeSpec := { name := "wirePuts", fn := fun _ => fun
  | [d1, d2] => { results := [.lit (.bool false)], args := [d1, d2] }
  | _ => none }
def WirePutsWrongFalsely : Prop := wirePutsRow.holds Try.pinned (OpenSpec.ofChange wirePutsWrong)

/-- 'viaductlaw01.WireReads': WHATEVER THE INPUT: true; the input reads as it did. -/
def wireReadsSpec : ChangeSpec := { name := "wireReads", fn := fun _ => fun
  | [d1, d2] => { results := [.lit (.bool true)], args := [d1, d2] }
  | _ => none }
def wireReadsRow : OpenClaim := { program := "ytblmpndaofhmjaa", sum := "eaf630c8caa9feab9d13fec999247f922602980710363011b20171c2343f3ca3", func := "viaduct/viaductlaw01.WireReads", spec := "wireReads", apart := false }
def WireReadsSaid : Prop := wireReadsRow.holds Try.pinned (OpenSpec.ofChange wireReadsSpec)

/-- ITS FALSE NEIGHBOUR: 'it returns false'. Refute it at one input. -/
def wireReadsWrong : ChangeSpec := { name := "wireReads", fn := fun _ => fun
  | [d1, d2] => { results := [.lit (.bool false)], args := [d1, d2] }
  | _ => none }
def WireReadsWrongFalsely : Prop := wireReadsRow.holds Try.pinned (OpenSpec.ofChange wireReadsWrong)

/- THE SECOND FORM. 'bulk': how many values and letters a reading holds, each counted each time it is reached (what is shared counts as often as it is met; a slice's spare places count too). A statement '..UptoSaid' is the law's where the arguments, and the package variables that the reading takes, are together of bulk at most 1048576: NARROWER than '..Said'. Prove '..Said' where nothing that the law and all that it calls make is longer than what came in: it says more and counts as full. Else prove '..UptoSaid'. A law counts once. -/
mutual
def uptoBulk {H : Type} : DataW H → Nat
  | .lit (.string bytes) => bytes.length + 1
  | .lit _ => 1
  | .nil => 1
  | .ptr d => uptoBulk d + 1
  | .slice elems spare => uptoBulkAll elems + uptoBulkAll spare + 1
  | .agg parts => uptoBulkAll parts + 1
  | .iface _ d => uptoBulk d + 1
  | .map entries => uptoBulkEntries entries + 1
  | .held _ => 1
def uptoBulkAll {H : Type} : List (DataW H) → Nat
  | [] => 0
  | d :: r => uptoBulk d + uptoBulkAll r
def uptoBulkEntries {H : Type} : List (Lit × DataW H) → Nat
  | [] => 0
  | x :: r => uptoBulkEntry x + uptoBulkEntries r
def uptoBulkEntry {H : Type} : Lit × DataW H → Nat
  | (.string bytes, d) => bytes.length + uptoBulk d + 1
  | (_, d) => uptoBulk d + 1
 end
def uptoSmall : (H : Type) → List (DataW H) → Bool := fun _ ds => decide (uptoBulkAll ds ≤ 1048576)
def OpenSpec.upto (s : _root_.Go.ChangeSpec) : _root_.Go.OpenSpec := { _root_.Go.OpenSpec.ofChange s with cond := some uptoSmall }

/-- 'viaductlaw10.MaidPuts', WHERE WHAT IT READS IS OF BULK AT MOST 1048576: true; the input reads as it did. -/
def maidPutsUptoRow : OpenClaim := { program := "ytblmpndaofhmjaa", sum := "eaf630c8caa9feab9d13fec999247f922602980710363011b20171c2343f3ca3", func := "viaduct/viaductlaw10.MaidPuts", spec := "maidPuts", unfollowed := true, recurses := true, apart := false, narrowed := true }
def MaidPutsUptoSaid : Prop := maidPutsUptoRow.holds Try.pinned (OpenSpec.upto maidPutsSpec)

/-- 'viaductlaw10.MaidTakes', WHERE WHAT IT READS IS OF BULK AT MOST 1048576: true; the input reads as it did. -/
def maidTakesUptoRow : OpenClaim := { program := "ytblmpndaofhmjaa", sum := "eaf630c8caa9feab9d13fec999247f922602980710363011b20171c2343f3ca3", func := "viaduct/viaductlaw10.MaidTakes", spec := "maidTakes", unfollowed := true, recurses := true, apart := false, narrowed := true }
def MaidTakesUptoSaid : Prop := maidTakesUptoRow.holds Try.pinned (OpenSpec.upto maidTakesSpec)

/-- 'viaductlaw10.MaidBack', WHERE WHAT IT READS IS OF BULK AT MOST 1048576: true; the input reads as it did. -/
def maidBackUptoRow : OpenClaim := { program := "ytblmpndaofhmjaa", sum := "eaf630c8caa9feab9d13fec999247f922602980710363011b20171c2343f3ca3", func := "viaduct/viaductlaw10.MaidBack", spec := "maidBack", unfollowed := true, recurses := true, apart := false, narrowed := true }
def MaidBackUptoSaid : Prop := maidBackUptoRow.holds Try.pinned (OpenSpec.upto maidBackSpec)

/-- 'viaductlaw11.TlvPuts', WHERE WHAT IT READS IS OF BULK AT MOST 1048576: true; the input reads as it did. -/
def tlvPutsUptoRow : OpenClaim := { program := "ytblmpndaofhmjaa", sum := "eaf630c8caa9feab9d13fec999247f922602980710363011b20171c2343f3ca3", func := "viaduct/viaductlaw11.TlvPuts", spec := "tlvPuts", unfollowed := true, recurses := true, apart := false, narrowed := true }
def TlvPutsUptoSaid : Prop := tlvPutsUptoRow.holds Try.pinned (OpenSpec.upto tlvPutsSpec)

/-- 'viaductlaw11.TlvTakes', WHERE WHAT IT READS IS OF BULK AT MOST 1048576: true; the input reads as it did. -/
def tlvTakesUptoRow : OpenClaim := { program := "ytblmpndaofhmjaa", sum := "eaf630c8caa9feab9d13fec999247f922602980710363011b20171c2343f3ca3", func := "viaduct/viaductlaw11.TlvTakes", spec := "tlvTakes", unfollowed := true, recurses := true, apart := false, narrowed := true }
def TlvTakesUptoSaid : Prop := tlvTakesUptoRow.holds Try.pinned (OpenSpec.upto tlvTakesSpec)

/-- 'viaductlaw11.TlvBack', WHERE WHAT IT READS IS OF BULK AT MOST 1048576: true; the input reads as it did. -/
def tlvBackUptoRow : OpenClaim := { program := "ytblmpndaofhmjaa", sum := "eaf630c8caa9feab9d13fec999247f922602980710363011b20171c2343f3ca3", func := "viaduct/viaductlaw11.TlvBack", spec := "tlvBack", unfollowed := true, recurses := true, apart := false, narrowed := true }
def TlvBackUptoSaid : Prop := tlvBackUptoRow.holds Try.pinned (OpenSpec.upto tlvBackSpec)

/-- 'viaductlaw03.FramePuts', WHERE WHAT IT READS IS OF BULK AT MOST 1048576: true; the input reads as it did. -/
def framePutsUptoRow : OpenClaim := { program := "ytblmpndaofhmjaa", sum := "eaf630c8caa9feab9d13fec999247f922602980710363011b20171c2343f3ca3", func := "viaduct/viaductlaw03.FramePuts", spec := "framePuts", unfollowed := true, recurses := true, apart := false, narrowed := true }
def FramePutsUptoSaid : Prop := framePutsUptoRow.holds Try.pinned (OpenSpec.upto framePutsSpec)

/-- 'viaductlaw03.FrameTakes', WHERE WHAT IT READS IS OF BULK AT MOST 1048576: true; the input reads as it did. -/
def frameTakesUptoRow : OpenClaim := { program := "ytblmpndaofhmjaa", sum := "eaf630c8caa9feab9d13fec999247f922602980710363011b20171c2343f3ca3", func := "viaduct/viaductlaw03.FrameTakes", spec := "frameTakes", unfollowed := true, recurses := true, apart := false, narrowed := true }
def FrameTakesUptoSaid : Prop := frameTakesUptoRow.holds Try.pinned (OpenSpec.upto frameTakesSpec)

/-- 'viaductlaw03.FrameBack', WHERE WHAT IT READS IS OF BULK AT MOST 1048576: true; the input reads as it did. -/
def frameBackUptoRow : OpenClaim := { program := "ytblmpndaofhmjaa", sum := "eaf630c8caa9feab9d13fec999247f922602980710363011b20171c2343f3ca3", func := "viaduct/viaductlaw03.FrameBack", spec := "frameBack", unfollowed := true, recurses := true, apart := false, narrowed := true }
def FrameBackUptoSaid : Prop := frameBackUptoRow.holds Try.pinned (OpenSpec.upto frameBackSpec)

/-- 'viaductlaw03.FrameLong', WHERE WHAT IT READS IS OF BULK AT MOST 1048576: true; the input reads as it did. -/
def frameLongUptoRow : OpenClaim := { program := "ytblmpndaofhmjaa", sum := "eaf630c8caa9feab9d13fec999247f922602980710363011b20171c2343f3ca3", func := "viaduct/viaductlaw03.FrameLong", spec := "frameLong", unfollowed := true, recurses := true, apart := false, narrowed := true }
def FrameLongUptoSaid : Prop := frameLongUptoRow.holds Try.pinned (OpenSpec.upto frameLongSpec)

/-- 'viaductlaw01.WirePuts', WHERE WHAT IT READS IS OF BULK AT MOST 1048576: true; the input reads as it did. -/
def wirePutsUptoRow : OpenClaim := { program := "ytblmpndaofhmjaa", sum := "eaf630c8caa9feab9d13fec999247f922602980710363011b20171c2343f3ca3", func := "viaduct/viaductlaw01.WirePuts", spec := "wirePuts", recurses := true, apart := false, narrowed := true }
def WirePutsUptoSaid : Prop := wirePutsUptoRow.holds Try.pinned (OpenSpec.upto wirePutsSpec)

/-- 'viaductlaw01.WireReads', WHERE WHAT IT READS IS OF BULK AT MOST 1048576: true; the input reads as it did. -/
def wireReadsUptoRow : OpenClaim := { program := "ytblmpndaofhmjaa", sum := "eaf630c8caa9feab9d13fec999247f922602980710363011b20171c2343f3ca3", func := "viaduct/viaductlaw01.WireReads", spec := "wireReads", apart := false, narrowed := true }
def WireReadsUptoSaid : Prop := wireReadsUptoRow.holds Try.pinned (OpenSpec.upto wireReadsSpec)

end Rows
end Go.Proofs.Ytblmpndaofhmjaa
