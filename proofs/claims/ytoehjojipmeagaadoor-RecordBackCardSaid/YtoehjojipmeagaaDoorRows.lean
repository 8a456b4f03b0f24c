/-
  NARROWER THAN 'FOR EVERY INPUT', by the rows' own cells (each row's printed sentence says how): RecordWrites: laid · RecordReads: laid · RecordScans: laid · RecordBack: laid · RecordTails: laid · RecordCuts: laid · RecordTurns: laid · RecordOther: laid.
  DERIVED. THE GIVEN ROWS OF THIS SEAT. 8 by the template 'for every input the law returns true; each argument reads behind the call as it read before'; 0 by the template 'total and deterministic' (their statements: YtoehjojipmeagaaDoorTotals.lean).
  GIVEN WITH THE SEED: the statements are not yours to turn. If you find one false, say at which input.
  Laid BY PROGRAM, IN A SANDBOX (cutbox-rows.mjs): the forced cells as the released guide's own fill.sh prints them over the translation ed8e564ca074c1f9… (all of the seat's roots in one cut). By AI agents, Wed Nov 11 2026. No macro, syntax, notation, axiom, sorry.
-/
import Derived.Test.YtoehjojipmeagaaDoorChecked
import GoSem.Claim
import GoSem.ClaimJoined
import GoSem.ClaimMapViews
import Derived.JoinedTies
import Derived.KernelRfl
namespace Go.Proofs.YtoehjojipmeagaaDoor
/- THE CELL 'sum', in the pinned program and in every row, IS THE sha256 OF THE DUMP (.gsa) THAT YtoehjojipmeagaaDoorProg.lean LOADS. Nothing in Lean hashes anything: it is a label: what it is worth is what the hold of that sum in a sandbox is worth. -/
noncomputable def Tryd.pinned : Pinned := { name := "ytoehjojipmeagaadoor", sum := "ed8e564ca074c1f93787c512d518b210c91ef128a169515daf3b4ce4f616913e", checked := Tryd.checked }
namespace Rows
def none {H : Type} : Left H := { results := [], args := [] }

/- WHAT THE LISTED PACKAGE-LEVEL VARIABLES READ AS WHEN THE CALL BEGINS. Each datum BY PROGRAM (the guide's laid-datum.mjs) off the statement by which the dump's own 'gosem.cut.vars' lays the variable. In a bare row this is a premise. The card (YtoehjojipmeagaaDoorCards.lean) ties it to the program's text. -/
def laid_colophon_sums_halves {H : Type} : DataW H := .agg [.lit (.int .u32 0), .lit (.int .u32 498536548), .lit (.int .u32 997073096), .lit (.int .u32 651767980), .lit (.int .u32 1994146192), .lit (.int .u32 1802195444), .lit (.int .u32 1303535960), .lit (.int .u32 1342533948), .lit (.int .u32 3988292384), .lit (.int .u32 4027552580), .lit (.int .u32 3604390888), .lit (.int .u32 3412177804), .lit (.int .u32 2607071920), .lit (.int .u32 2262029012), .lit (.int .u32 2685067896), .lit (.int .u32 3183342108)]

/-- 'colophonlaw18.RecordWrites': WHATEVER THE INPUT: true; the input reads as it did. -/
def recordWritesSpec : ChangeSpec := { name := "recordWrites", fn := fun _ => fun
  | [d1, d2, d3, d4] => { results := [.lit (.bool true)], args := [d1, d2, d3, d4] }
  | _ => none }
def recordWritesRow : OpenClaim := { program := "ytoehjojipmeagaadoor", sum := "ed8e564ca074c1f93787c512d518b210c91ef128a169515daf3b4ce4f616913e", func := "colophon/colophonlaw18.RecordWrites", spec := "recordWrites", named := ["colophon/sums.halves"], apart := false, laid := [("colophon/sums.halves", laid_colophon_sums_halves)] }
def RecordWritesSaid : Prop := recordWritesRow.holds Tryd.pinned (OpenSpec.ofChange recordWritesSpec)

/-- ITS FALSE NEIGHBOUR: 'it returns false'. Refute it at one input. -/
def recordWritesWrong : ChangeSpec := { name := "recordWrites", fn := fun _ => fun
  | [d1, d2, d3, d4] => { results := [.lit (.bool false)], args := [d1, d2, d3, d4] }
  | _ => none }
def RecordWritesWrongFalsely : Prop := recordWritesRow.holds Tryd.pinned (OpenSpec.ofChange recordWritesWrong)

/-- 'colophonlaw18.RecordReads': WHATEVER THE INPUT: true; the input reads as it did. -/
def recordReadsSpec : ChangeSpec := { name := "recordReads", fn := fun _ => fun
  | [d1, d2, d3] => { results := [.lit (.bool true)], args := [d1, d2, d3] }
  | _ => none }
def recordReadsRow : OpenClaim := { program := "ytoehjojipmeagaadoor", sum := "ed8e564ca074c1f93787c512d518b210c91ef128a169515daf3b4ce4f616913e", func := "colophon/colophonlaw18.RecordReads", spec := "recordReads", named := ["colophon/sums.halves"], apart := false, laid := [("colophon/sums.halves", laid_colophon_sums_halves)] }
def RecordReadsSaid : Prop := recordReadsRow.holds Tryd.pinned (OpenSpec.ofChange recordReadsSpec)

/-- ITS FALSE NEIGHBOUR: 'it returns false'. Refute it at one input. -/
def recordReadsWrong : ChangeSpec := { name := "recordReads", fn := fun _ => fun
  | [d1, d2, d3] => { results := [.lit (.bool false)], args := [d1, d2, d3] }
  | _ => none }
def RecordReadsWrongFalsely : Prop := recordReadsRow.holds Tryd.pinned (OpenSpec.ofChange recordReadsWrong)

/-- 'colophonlaw18.RecordScans': WHATEVER THE INPUT: true; the input reads as it did. -/
def recordScansSpec : ChangeSpec := { name := "recordScans", fn := fun _ => fun
  | [d1, d2, d3] => { results := [.lit (.bool true)], args := [d1, d2, d3] }
  | _ => none }
def recordScansRow : OpenClaim := { program := "ytoehjojipmeagaadoor", sum := "ed8e564ca074c1f93787c512d518b210c91ef128a169515daf3b4ce4f616913e", func := "colophon/colophonlaw18.RecordScans", spec := "recordScans", named := ["colophon/sums.halves"], apart := false, laid := [("colophon/sums.halves", laid_colophon_sums_halves)] }
def RecordScansSaid : Prop := recordScansRow.holds Tryd.pinned (OpenSpec.ofChange recordScansSpec)

/-- ITS FALSE NEIGHBOUR: 'it returns false'. Refute it at one input. -/
def recordScansWrong : ChangeSpec := { name := "recordScans", fn := fun _ => fun
  | [d1, d2, d3] => { results := [.lit (.bool false)], args := [d1, d2, d3] }
  | _ => none }
def RecordScansWrongFalsely : Prop := recordScansRow.holds Tryd.pinned (OpenSpec.ofChange recordScansWrong)

/-- 'colophonlaw18.RecordBack': WHATEVER THE INPUT: true; the input reads as it did. -/
def recordBackSpec : ChangeSpec := { name := "recordBack", fn := fun _ => fun
  | [d] => { results := [.lit (.bool true)], args := [d] }
  | _ => none }
def recordBackRow : OpenClaim := { program := "ytoehjojipmeagaadoor", sum := "ed8e564ca074c1f93787c512d518b210c91ef128a169515daf3b4ce4f616913e", func := "colophon/colophonlaw18.RecordBack", spec := "recordBack", named := ["colophon/sums.halves"], apart := false, laid := [("colophon/sums.halves", laid_colophon_sums_halves)] }
def RecordBackSaid : Prop := recordBackRow.holds Tryd.pinned (OpenSpec.ofChange recordBackSpec)

/-- ITS FALSE NEIGHBOUR: 'it returns false'. Refute it at one input. -/
def recordBackWrong : ChangeSpec := { name := "recordBack", fn := fun _ => fun
  | [d] => { results := [.lit (.bool false)], args := [d] }
  | _ => none }
def RecordBackWrongFalsely : Prop := recordBackRow.holds Tryd.pinned (OpenSpec.ofChange recordBackWrong)

/-- 'colophonlaw18.RecordTails': WHATEVER THE INPUT: true; the input reads as it did. -/
def recordTailsSpec : ChangeSpec := { name := "recordTails", fn := fun _ => fun
  | [d1, d2] => { results := [.lit (.bool true)], args := [d1, d2] }
  | _ => none }
def recordTailsRow : OpenClaim := { program := "ytoehjojipmeagaadoor", sum := "ed8e564ca074c1f93787c512d518b210c91ef128a169515daf3b4ce4f616913e", func := "colophon/colophonlaw18.RecordTails", spec := "recordTails", named := ["colophon/sums.halves"], apart := false, laid := [("colophon/sums.halves", laid_colophon_sums_halves)] }
def RecordTailsSaid : Prop := recordTailsRow.holds Tryd.pinned (OpenSpec.ofChange recordTailsSpec)

/-- ITS FALSE NEIGHBOUR: 'it returns false'. Refute it at one input. -/
def recordTailsWrong : ChangeSpec := { name := "recordTails", fn := fun _ => fun
  | [d1, d2] => { results := [.lit (.bool false)], args := [d1, d2] }
  | _ => none }
def RecordTailsWrongFalsely : Prop := recordTailsRow.holds Tryd.pinned (OpenSpec.ofChange recordTailsWrong)

/-- 'colophonlaw18.RecordCuts': WHATEVER THE INPUT: true; the input reads as it did. -/
def recordCutsSpec : ChangeSpec := { name := "recordCuts", fn := fun _ => fun
  | [d1, d2] => { results := [.lit (.bool true)], args := [d1, d2] }
  | _ => none }
def recordCutsRow : OpenClaim := { program := "ytoehjojipmeagaadoor", sum := "ed8e564ca074c1f93787c512d518b210c91ef128a169515daf3b4ce4f616913e", func := "colophon/colophonlaw18.RecordCuts", spec := "recordCuts", named := ["colophon/sums.halves"], apart := false, laid := [("colophon/sums.halves", laid_colophon_sums_halves)] }
def RecordCutsSaid : Prop := recordCutsRow.holds Tryd.pinned (OpenSpec.ofChange recordCutsSpec)

/-- ITS FALSE NEIGHBOUR: 'it returns false'. Refute it at one input. -/
def recordCutsWrong : ChangeSpec := { name := "recordCuts", fn := fun _ => fun
  | [d1, d2] => { results := [.lit (.bool false)], args := [d1, d2] }
  | _ => none }
def RecordCutsWrongFalsely : Prop := recordCutsRow.holds Tryd.pinned (OpenSpec.ofChange recordCutsWrong)

/-- 'colophonlaw18.RecordTurns': WHATEVER THE INPUT: true; the input reads as it did. -/
def recordTurnsSpec : ChangeSpec := { name := "recordTurns", fn := fun _ => fun
  | [d1, d2, d3] => { results := [.lit (.bool true)], args := [d1, d2, d3] }
  | _ => none }
def recordTurnsRow : OpenClaim := { program := "ytoehjojipmeagaadoor", sum := "ed8e564ca074c1f93787c512d518b210c91ef128a169515daf3b4ce4f616913e", func := "colophon/colophonlaw18.RecordTurns", spec := "recordTurns", named := ["colophon/sums.halves"], apart := false, laid := [("colophon/sums.halves", laid_colophon_sums_halves)] }
def RecordTurnsSaid : Prop := recordTurnsRow.holds Tryd.pinned (OpenSpec.ofChange recordTurnsSpec)

/-- ITS FALSE NEIGHBOUR: 'it returns false'. Refute it at one input. -/
def recordTurnsWrong : ChangeSpec := { name := "recordTurns", fn := fun _ => fun
  | [d1, d2, d3] => { results := [.lit (.bool false)], args := [d1, d2, d3] }
  | _ => none }
def RecordTurnsWrongFalsely : Prop := recordTurnsRow.holds Tryd.pinned (OpenSpec.ofChange recordTurnsWrong)

/-- 'colophonlaw18.RecordOther': WHATEVER THE INPUT: true; the input reads as it did. -/
def recordOtherSpec : ChangeSpec := { name := "recordOther", fn := fun _ => fun
  | [d1, d2, d3] => { results := [.lit (.bool true)], args := [d1, d2, d3] }
  | _ => none }
def recordOtherRow : OpenClaim := { program := "ytoehjojipmeagaadoor", sum := "ed8e564ca074c1f93787c512d518b210c91ef128a169515daf3b4ce4f616913e", func := "colophon/colophonlaw18.RecordOther", spec := "recordOther", named := ["colophon/sums.halves"], apart := false, laid := [("colophon/sums.halves", laid_colophon_sums_halves)] }
def RecordOtherSaid : Prop := recordOtherRow.holds Tryd.pinned (OpenSpec.ofChange recordOtherSpec)

/-- ITS FALSE NEIGHBOUR: 'it returns false'. Refute it at one input. -/
def recordOtherWrong : ChangeSpec := { name := "recordOther", fn := fun _ => fun
  | [d1, d2, d3] => { results := [.lit (.bool false)], args := [d1, d2, d3] }
  | _ => none }
def RecordOtherWrongFalsely : Prop := recordOtherRow.holds Tryd.pinned (OpenSpec.ofChange recordOtherWrong)

/- THE SECOND FORM. 'bulk': how many values and letters a reading holds, each counted each time it is reached (what is shared counts as often as it is met; a slice's spare places count too). A statement '..UptoSaid' is the law's where the arguments, and the package variables that the reading takes, are together of bulk at most 1048576: NARROWER than '..Said'. Prove '..Said' where nothing that the law and all that it calls make is longer than what came in: it says more and counts as full. Else prove '..UptoSaid'. A law counts once. -/
mutual
def uptoBulk {H : Type} : DataW H → Nat
  | .lit (.string bytes) => bytes.length + 1
  | .lit _ => 1
  | .nil => 1
  | .ptr d => uptoBulk d + 1
  | .slice elems spare => uptoBulkAll elems + uptoBulkAll spare + 1
  | .agg parts => uptoBulkAll parts + 1
  | .iface _ d => uptoBulk d + 1
  | .map entries => uptoBulkEntries entries + 1
  | .held _ => 1
def uptoBulkAll {H : Type} : List (DataW H) → Nat
  | [] => 0
  | d :: r => uptoBulk d + uptoBulkAll r
def uptoBulkEntries {H : Type} : List (Lit × DataW H) → Nat
  | [] => 0
  | x :: r => uptoBulkEntry x + uptoBulkEntries r
def uptoBulkEntry {H : Type} : Lit × DataW H → Nat
  | (.string bytes, d) => bytes.length + uptoBulk d + 1
  | (_, d) => uptoBulk d + 1
 end
def uptoSmall : (H : Type) → List (DataW H) → Bool := fun _ ds => decide (uptoBulkAll ds ≤ 1048576)
def OpenSpec.upto (s : _root_.Go.ChangeSpec) : _root_.Go.OpenSpec := { _root_.Go.OpenSpec.ofChange s with cond := some uptoSmall }

/-- 'colophonlaw18.RecordWrites', WHERE WHAT IT READS IS OF BULK AT MOST 1048576: true; the input reads as it did. -/
def recordWritesUptoRow : OpenClaim := { program := "ytoehjojipmeagaadoor", sum := "ed8e564ca074c1f93787c512d518b210c91ef128a169515daf3b4ce4f616913e", func := "colophon/colophonlaw18.RecordWrites", spec := "recordWrites", named := ["colophon/sums.halves"], apart := false, laid := [("colophon/sums.halves", laid_colophon_sums_halves)], narrowed := true }
def RecordWritesUptoSaid : Prop := recordWritesUptoRow.holds Tryd.pinned (OpenSpec.upto recordWritesSpec)

/-- 'colophonlaw18.RecordReads', WHERE WHAT IT READS IS OF BULK AT MOST 1048576: true; the input reads as it did. -/
def recordReadsUptoRow : OpenClaim := { program := "ytoehjojipmeagaadoor", sum := "ed8e564ca074c1f93787c512d518b210c91ef128a169515daf3b4ce4f616913e", func := "colophon/colophonlaw18.RecordReads", spec := "recordReads", named := ["colophon/sums.halves"], apart := false, laid := [("colophon/sums.halves", laid_colophon_sums_halves)], narrowed := true }
def RecordReadsUptoSaid : Prop := recordReadsUptoRow.holds Tryd.pinned (OpenSpec.upto recordReadsSpec)

/-- 'colophonlaw18.RecordScans', WHERE WHAT IT READS IS OF BULK AT MOST 1048576: true; the input reads as it did. -/
def recordScansUptoRow : OpenClaim := { program := "ytoehjojipmeagaadoor", sum := "ed8e564ca074c1f93787c512d518b210c91ef128a169515daf3b4ce4f616913e", func := "colophon/colophonlaw18.RecordScans", spec := "recordScans", named := ["colophon/sums.halves"], apart := false, laid := [("colophon/sums.halves", laid_colophon_sums_halves)], narrowed := true }
def RecordScansUptoSaid : Prop := recordScansUptoRow.holds Tryd.pinned (OpenSpec.upto recordScansSpec)

/-- 'colophonlaw18.RecordBack', WHERE WHAT IT READS IS OF BULK AT MOST 1048576: true; the input reads as it did. -/
def recordBackUptoRow : OpenClaim := { program := "ytoehjojipmeagaadoor", sum := "ed8e564ca074c1f93787c512d518b210c91ef128a169515daf3b4ce4f616913e", func := "colophon/colophonlaw18.RecordBack", spec := "recordBack", named := ["colophon/sums.halves"], apart := false, laid := [("colophon/sums.halves", laid_colophon_sums_halves)], narrowed := true }
def RecordBackUptoSaid : Prop := recordBackUptoRow.holds Tryd.pinned (OpenSpec.upto recordBackSpec)

/-- 'colophonlaw18.RecordTails', WHERE WHAT IT READS IS OF BULK AT MOST 1048576: true; the input reads as it did. -/
def recordTailsUptoRow : OpenClaim := { program := "ytoehjojipmeagaadoor", sum := "ed8e564ca074c1f93787c512d518b210c91ef128a169515daf3b4ce4f616913e", func := "colophon/colophonlaw18.RecordTails", spec := "recordTails", named := ["colophon/sums.halves"], apart := false, laid := [("colophon/sums.halves", laid_colophon_sums_halves)], narrowed := true }
def RecordTailsUptoSaid : Prop := recordTailsUptoRow.holds Tryd.pinned (OpenSpec.upto recordTailsSpec)

/-- 'colophonlaw18.RecordCuts', WHERE WHAT IT READS IS OF BULK AT MOST 1048576: true; the input reads as it did. -/
def recordCutsUptoRow : OpenClaim := { program := "ytoehjojipmeagaadoor", sum := "ed8e564ca074c1f93787c512d518b210c91ef128a169515daf3b4ce4f616913e", func := "colophon/colophonlaw18.RecordCuts", spec := "recordCuts", named := ["colophon/sums.halves"], apart := false, laid := [("colophon/sums.halves", laid_colophon_sums_halves)], narrowed := true }
def RecordCutsUptoSaid : Prop := recordCutsUptoRow.holds Tryd.pinned (OpenSpec.upto recordCutsSpec)

/-- 'colophonlaw18.RecordTurns', WHERE WHAT IT READS IS OF BULK AT MOST 1048576: true; the input reads as it did. -/
def recordTurnsUptoRow : OpenClaim := { program := "ytoehjojipmeagaadoor", sum := "ed8e564ca074c1f93787c512d518b210c91ef128a169515daf3b4ce4f616913e", func := "colophon/colophonlaw18.RecordTurns", spec := "recordTurns", named := ["colophon/sums.halves"], apart := false, laid := [("colophon/sums.halves", laid_colophon_sums_halves)], narrowed := true }
def RecordTurnsUptoSaid : Prop := recordTurnsUptoRow.holds Tryd.pinned (OpenSpec.upto recordTurnsSpec)

/-- 'colophonlaw18.RecordOther', WHERE WHAT IT READS IS OF BULK AT MOST 1048576: true; the input reads as it did. -/
def recordOtherUptoRow : OpenClaim := { program := "ytoehjojipmeagaadoor", sum := "ed8e564ca074c1f93787c512d518b210c91ef128a169515daf3b4ce4f616913e", func := "colophon/colophonlaw18.RecordOther", spec := "recordOther", named := ["colophon/sums.halves"], apart := false, laid := [("colophon/sums.halves", laid_colophon_sums_halves)], narrowed := true }
def RecordOtherUptoSaid : Prop := recordOtherUptoRow.holds Tryd.pinned (OpenSpec.upto recordOtherSpec)

end Rows
end Go.Proofs.YtoehjojipmeagaaDoor
