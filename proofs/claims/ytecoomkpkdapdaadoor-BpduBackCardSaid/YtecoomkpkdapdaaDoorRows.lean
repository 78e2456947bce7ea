/-
  NARROWER THAN 'FOR EVERY INPUT', by the rows' own cells (each row's printed sentence says how): BpduPuts: laid · BpduTakes: laid · BpduBack: laid · BpduEach: laid.
  DERIVED. THE GIVEN ROWS OF THIS SEAT. 4 by the template 'for every input the law returns true; each argument reads behind the call as it read before'; 0 by the template 'total and deterministic' (their statements: YtecoomkpkdapdaaDoorTotals.lean).
  GIVEN WITH THE SEED: the statements are not yours to turn. If you find one false, say at which input.
  Laid BY PROGRAM, IN A SANDBOX (cutbox-rows.mjs): the forced cells as the released guide's own fill.sh prints them over the translation 98d4ec44afb2f388… (all of the seat's roots in one cut). By AI agents, Wed Nov 11 2026. No macro, syntax, notation, axiom, sorry.
-/
import Derived.Test.YtecoomkpkdapdaaDoorChecked
import GoSem.PinnedTables
import GoSem.Claim
import GoSem.ClaimJoined
import GoSem.ClaimMapViews
import Derived.JoinedTies
import Derived.KernelRfl
namespace Go.Proofs.YtecoomkpkdapdaaDoor
/- THE CELL 'sum', in the pinned program and in every row, IS THE sha256 OF THE DUMP (.gsa) THAT YtecoomkpkdapdaaDoorProg.lean LOADS. Nothing in Lean hashes anything: it is a label: what it is worth is what the hold of that sum in a sandbox is worth. -/
noncomputable def Tryd.pinned : Pinned := { name := "ytecoomkpkdapdaadoor", sum := "98d4ec44afb2f388fd300042a190e3f6e37ba10f6ba42ab92efd85ed31f9fac9", checked := Tryd.checked }
namespace Rows
def none {H : Type} : Left H := { results := [], args := [] }

/- WHAT THE LISTED PACKAGE-LEVEL VARIABLES READ AS WHEN THE CALL BEGINS. Each datum BY PROGRAM (the guide's laid-datum.mjs) off the statement by which the dump's own 'gosem.cut.vars' lays the variable. In a bare row this is a premise. The card (YtecoomkpkdapdaaDoorCards.lean) ties it to the program's text. -/
def laid_unicode_utf8_acceptRanges {H : Type} : DataW H := .agg [.agg [.lit (.int .u8 128), .lit (.int .u8 191)], .agg [.lit (.int .u8 160), .lit (.int .u8 191)], .agg [.lit (.int .u8 128), .lit (.int .u8 159)], .agg [.lit (.int .u8 144), .lit (.int .u8 191)], .agg [.lit (.int .u8 128), .lit (.int .u8 143)], .agg [.lit (.int .u8 0), .lit (.int .u8 0)], .agg [.lit (.int .u8 0), .lit (.int .u8 0)], .agg [.lit (.int .u8 0), .lit (.int .u8 0)], .agg [.lit (.int .u8 0), .lit (.int .u8 0)], .agg [.lit (.int .u8 0), .lit (.int .u8 0)], .agg [.lit (.int .u8 0), .lit (.int .u8 0)], .agg [.lit (.int .u8 0), .lit (.int .u8 0)], .agg [.lit (.int .u8 0), .lit (.int .u8 0)], .agg [.lit (.int .u8 0), .lit (.int .u8 0)], .agg [.lit (.int .u8 0), .lit (.int .u8 0)], .agg [.lit (.int .u8 0), .lit (.int .u8 0)]]
/-- One of Go's own tables, pinned by name: the form's constant. -/
def laid_unicode_utf8_first : DataW Unit := Go.Pinned.utf8First

/-- 'viaductlaw05.BpduPuts': WHATEVER THE INPUT: true; the input reads as it did. -/
def bpduPutsSpec : ChangeSpec := { name := "bpduPuts", fn := fun _ => fun
  | [d] => { results := [.lit (.bool true)], args := [d] }
  | _ => none }
def bpduPutsRow : OpenClaim := { program := "ytecoomkpkdapdaadoor", sum := "98d4ec44afb2f388fd300042a190e3f6e37ba10f6ba42ab92efd85ed31f9fac9", func := "viaduct/viaductlaw05.BpduPuts", spec := "bpduPuts", inPlace := ["internal/bytealg.IndexByteString", "internal/bytealg.IndexString"], unfollowed := true, recurses := true, named := ["unicode/utf8.first", "unicode/utf8.acceptRanges", "internal/bytealg.MaxLen"], apart := false, laid := [("unicode/utf8.acceptRanges", laid_unicode_utf8_acceptRanges), ("unicode/utf8.first", laid_unicode_utf8_first)] }
def BpduPutsSaid : Prop := bpduPutsRow.holds Tryd.pinned (OpenSpec.ofChange bpduPutsSpec)

/-- ITS FALSE NEIGHBOUR: 'it returns false'. Refute it at one input. -/
def bpduPutsWrong : ChangeSpec := { name := "bpduPuts", fn := fun _ => fun
  | [d] => { results := [.lit (.bool false)], args := [d] }
  | _ => none }
def BpduPutsWrongFalsely : Prop := bpduPutsRow.holds Tryd.pinned (OpenSpec.ofChange bpduPutsWrong)

/-- 'viaductlaw05.BpduTakes': WHATEVER THE INPUT: true; the input reads as it did. -/
def bpduTakesSpec : ChangeSpec := { name := "bpduTakes", fn := fun _ => fun
  | [d] => { results := [.lit (.bool true)], args := [d] }
  | _ => none }
def bpduTakesRow : OpenClaim := { program := "ytecoomkpkdapdaadoor", sum := "98d4ec44afb2f388fd300042a190e3f6e37ba10f6ba42ab92efd85ed31f9fac9", func := "viaduct/viaductlaw05.BpduTakes", spec := "bpduTakes", inPlace := ["internal/bytealg.IndexByteString", "internal/bytealg.IndexString"], unfollowed := true, recurses := true, named := ["unicode/utf8.first", "unicode/utf8.acceptRanges", "internal/bytealg.MaxLen"], apart := false, laid := [("unicode/utf8.acceptRanges", laid_unicode_utf8_acceptRanges), ("unicode/utf8.first", laid_unicode_utf8_first)] }
def BpduTakesSaid : Prop := bpduTakesRow.holds Tryd.pinned (OpenSpec.ofChange bpduTakesSpec)

/-- ITS FALSE NEIGHBOUR: 'it returns false'. Refute it at one input. -/
def bpduTakesWrong : ChangeSpec := { name := "bpduTakes", fn := fun _ => fun
  | [d] => { results := [.lit (.bool false)], args := [d] }
  | _ => none }
def BpduTakesWrongFalsely : Prop := bpduTakesRow.holds Tryd.pinned (OpenSpec.ofChange bpduTakesWrong)

/-- 'viaductlaw05.BpduBack': WHATEVER THE INPUT: true; the input reads as it did. -/
def bpduBackSpec : ChangeSpec := { name := "bpduBack", fn := fun _ => fun
  | [d1, d2, d3, d4] => { results := [.lit (.bool true)], args := [d1, d2, d3, d4] }
  | _ => none }
def bpduBackRow : OpenClaim := { program := "ytecoomkpkdapdaadoor", sum := "98d4ec44afb2f388fd300042a190e3f6e37ba10f6ba42ab92efd85ed31f9fac9", func := "viaduct/viaductlaw05.BpduBack", spec := "bpduBack", inPlace := ["internal/bytealg.IndexByteString", "internal/bytealg.IndexString"], unfollowed := true, recurses := true, named := ["unicode/utf8.first", "unicode/utf8.acceptRanges", "internal/bytealg.MaxLen"], apart := false, laid := [("unicode/utf8.acceptRanges", laid_unicode_utf8_acceptRanges), ("unicode/utf8.first", laid_unicode_utf8_first)] }
def BpduBackSaid : Prop := bpduBackRow.holds Tryd.pinned (OpenSpec.ofChange bpduBackSpec)

/-- ITS FALSE NEIGHBOUR: 'it returns false'. Refute it at one input. -/
def bpduBackWrong : ChangeSpec := { name := "bpduBack", fn := fun _ => fun
  | [d1, d2, d3, d4] => { results := [.lit (.bool false)], args := [d1, d2, d3, d4] }
  | _ => none }
def BpduBackWrongFalsely : Prop := bpduBackRow.holds Tryd.pinned (OpenSpec.ofChange bpduBackWrong)

/-- 'viaductlaw05.BpduEach': WHATEVER THE INPUT: true; the input reads as it did. -/
def bpduEachSpec : ChangeSpec := { name := "bpduEach", fn := fun _ => fun
  | [d1, d2, d3] => { results := [.lit (.bool true)], args := [d1, d2, d3] }
  | _ => none }
def bpduEachRow : OpenClaim := { program := "ytecoomkpkdapdaadoor", sum := "98d4ec44afb2f388fd300042a190e3f6e37ba10f6ba42ab92efd85ed31f9fac9", func := "viaduct/viaductlaw05.BpduEach", spec := "bpduEach", inPlace := ["internal/bytealg.IndexByteString", "internal/bytealg.IndexString"], unfollowed := true, recurses := true, named := ["unicode/utf8.first", "unicode/utf8.acceptRanges", "internal/bytealg.MaxLen"], apart := false, laid := [("unicode/utf8.acceptRanges", laid_unicode_utf8_acceptRanges), ("unicode/utf8.first", laid_unicode_utf8_first)] }
def BpduEachSaid : Prop := bpduEachRow.holds Tryd.pinned (OpenSpec.ofChange bpduEachSpec)

/-- ITS FALSE NEIGHBOUR: 'it returns false'. Refute it at one input. -/
def bpduEachWrong : ChangeSpec := { name := "bpduEach", fn := fun _ => fun
  | [d1, d2, d3] => { results := [.lit (.bool false)], args := [d1, d2, d3] }
  | _ => none }
def BpduEachWrongFalsely : Prop := bpduEachRow.holds Tryd.pinned (OpenSpec.ofChange bpduEachWrong)

/- THE SECOND FORM. 'bulk': how many values and letters a reading holds, each counted each time it is reached (what is shared counts as often as it is met; a slice's spare places count too). A statement '..UptoSaid' is the law's where the arguments, and the package variables that the reading takes, are together of bulk at most 1048576: NARROWER than '..Said'. Prove '..Said' where nothing that the law and all that it calls make is longer than what came in: it says more and counts as full. Else prove '..UptoSaid'. A law counts once. -/
mutual
def uptoBulk {H : Type} : DataW H → Nat
  | .lit (.string bytes) => bytes.length + 1
  | .lit _ => 1
  | .nil => 1
  | .ptr d => uptoBulk d + 1
  | .slice elems spare => uptoBulkAll elems + uptoBulkAll spare + 1
  | .agg parts => uptoBulkAll parts + 1
  | .iface _ d => uptoBulk d + 1
  | .map entries => uptoBulkEntries entries + 1
  | .held _ => 1
def uptoBulkAll {H : Type} : List (DataW H) → Nat
  | [] => 0
  | d :: r => uptoBulk d + uptoBulkAll r
def uptoBulkEntries {H : Type} : List (Lit × DataW H) → Nat
  | [] => 0
  | x :: r => uptoBulkEntry x + uptoBulkEntries r
def uptoBulkEntry {H : Type} : Lit × DataW H → Nat
  | (.string bytes, d) => bytes.length + uptoBulk d + 1
  | (_, d) => uptoBulk d + 1
 end
def uptoSmall : (H : Type) → List (DataW H) → Bool := fun _ ds => decide (uptoBulkAll ds ≤ 1048576)
def OpenSpec.upto (s : _root_.Go.ChangeSpec) : _root_.Go.OpenSpec := { _root_.Go.OpenSpec.ofChange s with cond := some uptoSmall }

/-- 'viaductlaw05.BpduPuts', WHERE WHAT IT READS IS OF BULK AT MOST 1048576: true; the input reads as it did. -/
def bpduPutsUptoRow : OpenClaim := { program := "ytecoomkpkdapdaadoor", sum := "98d4ec44afb2f388fd300042a190e3f6e37ba10f6ba42ab92efd85ed31f9fac9", func := "viaduct/viaductlaw05.BpduPuts", spec := "bpduPuts", inPlace := ["internal/bytealg.IndexByteString", "internal/bytealg.IndexString"], unfollowed := true, recurses := true, named := ["unicode/utf8.first", "unicode/utf8.acceptRanges", "internal/bytealg.MaxLen"], apart := false, laid := [("unicode/utf8.acceptRanges", laid_unicode_utf8_acceptRanges), ("unicode/utf8.first", laid_unicode_utf8_first)], narrowed := true }
def BpduPutsUptoSaid : Prop := bpduPutsUptoRow.holds Tryd.pinned (OpenSpec.upto bpduPutsSpec)

/-- 'viaductlaw05.BpduTakes', WHERE WHAT IT READS IS OF BULK AT MOST 1048576: true; the input reads as it did. -/
def bpduTakesUptoRow : OpenClaim := { program := "ytecoomkpkdapdaadoor", sum := "98d4ec44afb2f388fd300042a190e3f6e37ba10f6ba42ab92efd85ed31f9fac9", func := "viaduct/viaductlaw05.BpduTakes", spec := "bpduTakes", inPlace := ["internal/bytealg.IndexByteString", "internal/bytealg.IndexString"], unfollowed := true, recurses := true, named := ["unicode/utf8.first", "unicode/utf8.acceptRanges", "internal/bytealg.MaxLen"], apart := false, laid := [("unicode/utf8.acceptRanges", laid_unicode_utf8_acceptRanges), ("unicode/utf8.first", laid_unicode_utf8_first)], narrowed := true }
def BpduTakesUptoSaid : Prop := bpduTakesUptoRow.holds Tryd.pinned (OpenSpec.upto bpduTakesSpec)

/-- 'viaductlaw05.BpduBack', WHERE WHAT IT READS IS OF BULK AT MOST 1048576: true; the input reads as it did. -/
def bpduBackUptoRow : OpenClaim := { program := "ytecoomkpkdapdaadoor", sum := "98d4ec44afb2f388fd300042a190e3f6e37ba10f6ba42ab92efd85ed31f9fac9", func := "viaduct/viaductlaw05.BpduBack", spec := "bpduBack", inPlace := ["internal/bytealg.IndexByteString", "internal/bytealg.IndexString"], unfollowed := true, recurses := true, named := ["unicode/utf8.first", "unicode/utf8.acceptRanges", "internal/bytealg.MaxLen"], apart := false, laid := [("unicode/utf8.acceptRanges", laid_unicode_utf8_acceptRanges), ("unicode/utf8.first", laid_unicode_utf8_first)], narrowed := true }
def BpduBackUptoSaid : Prop := bpduBackUptoRow.holds Tryd.pinned (OpenSpec.upto bpduBackSpec)

/-- 'viaductlaw05.BpduEach', WHERE WHAT IT READS IS OF BULK AT MOST 1048576: true; the input reads as it did. -/
def bpduEachUptoRow : OpenClaim := { program := "ytecoomkpkdapdaadoor", sum := "98d4ec44afb2f388fd300042a190e3f6e37ba10f6ba42ab92efd85ed31f9fac9", func := "viaduct/viaductlaw05.BpduEach", spec := "bpduEach", inPlace := ["internal/bytealg.IndexByteString", "internal/bytealg.IndexString"], unfollowed := true, recurses := true, named := ["unicode/utf8.first", "unicode/utf8.acceptRanges", "internal/bytealg.MaxLen"], apart := false, laid := [("unicode/utf8.acceptRanges", laid_unicode_utf8_acceptRanges), ("unicode/utf8.first", laid_unicode_utf8_first)], narrowed := true }
def BpduEachUptoSaid : Prop := bpduEachUptoRow.holds Tryd.pinned (OpenSpec.upto bpduEachSpec)

end Rows
end Go.Proofs.YtecoomkpkdapdaaDoor
