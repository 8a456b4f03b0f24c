/-
  NARROWER THAN 'FOR EVERY INPUT', by the rows' own cells (each row's printed sentence says how): ChunkCuts: laid · ChunkJoins: laid · ChunkBack: laid · ChunkTurned: laid · ChunkOrder: laid.
  DERIVED. THE GIVEN ROWS OF THIS SEAT. 5 by the template 'for every input the law returns true; each argument reads behind the call as it read before'; 0 by the template 'total and deterministic' (their statements: YtkocgfcoebodkaaDoorTotals.lean).
  GIVEN WITH THE SEED: the statements are not yours to turn. If you find one false, say at which input.
  Laid BY PROGRAM, IN A SANDBOX (cutbox-rows.mjs): the forced cells as the released guide's own fill.sh prints them over the translation 1bf4b91a95d55e1c… (all of the seat's roots in one cut). By AI agents, Wed Nov 11 2026. No macro, syntax, notation, axiom, sorry.
-/
import Derived.Test.YtkocgfcoebodkaaDoorChecked
import GoSem.Claim
import GoSem.ClaimJoined
import GoSem.ClaimMapViews
import Derived.JoinedTies
import Derived.KernelRfl
namespace Go.Proofs.YtkocgfcoebodkaaDoor
/- THE CELL 'sum', in the pinned program and in every row, IS THE sha256 OF THE DUMP (.gsa) THAT YtkocgfcoebodkaaDoorProg.lean LOADS. Nothing in Lean hashes anything: it is a label: what it is worth is what the hold of that sum in a sandbox is worth. -/
noncomputable def Tryd.pinned : Pinned := { name := "ytkocgfcoebodkaadoor", sum := "1bf4b91a95d55e1c481ee40c9d4c686f1b15cf167230eab47965b7959b0da1a9", checked := Tryd.checked }
namespace Rows
def none {H : Type} : Left H := { results := [], args := [] }

/- WHAT THE LISTED PACKAGE-LEVEL VARIABLES READ AS WHEN THE CALL BEGINS. Each datum BY PROGRAM (the guide's laid-datum.mjs) off the statement by which the dump's own 'gosem.cut.vars' lays the variable. In a bare row this is a premise. The card (YtkocgfcoebodkaaDoorCards.lean) ties it to the program's text. -/
def laid_colophon_sums_halves {H : Type} : DataW H := .agg [.lit (.int .u32 0), .lit (.int .u32 498536548), .lit (.int .u32 997073096), .lit (.int .u32 651767980), .lit (.int .u32 1994146192), .lit (.int .u32 1802195444), .lit (.int .u32 1303535960), .lit (.int .u32 1342533948), .lit (.int .u32 3988292384), .lit (.int .u32 4027552580), .lit (.int .u32 3604390888), .lit (.int .u32 3412177804), .lit (.int .u32 2607071920), .lit (.int .u32 2262029012), .lit (.int .u32 2685067896), .lit (.int .u32 3183342108)]

/-- 'colophonlaw20.ChunkCuts': WHATEVER THE INPUT: true; the input reads as it did. -/
def chunkCutsSpec : ChangeSpec := { name := "chunkCuts", fn := fun _ => fun
  | [d1, d2, d3] => { results := [.lit (.bool true)], args := [d1, d2, d3] }
  | _ => none }
def chunkCutsRow : OpenClaim := { program := "ytkocgfcoebodkaadoor", sum := "1bf4b91a95d55e1c481ee40c9d4c686f1b15cf167230eab47965b7959b0da1a9", func := "colophon/colophonlaw20.ChunkCuts", spec := "chunkCuts", named := ["colophon/sums.halves"], apart := false, laid := [("colophon/sums.halves", laid_colophon_sums_halves)] }
def ChunkCutsSaid : Prop := chunkCutsRow.holds Tryd.pinned (OpenSpec.ofChange chunkCutsSpec)

/-- ITS FALSE NEIGHBOUR: 'it returns false'. Refute it at one input. -/
def chunkCutsWrong : ChangeSpec := { name := "chunkCuts", fn := fun _ => fun
  | [d1, d2, d3] => { results := [.lit (.bool false)], args := [d1, d2, d3] }
  | _ => none }
def ChunkCutsWrongFalsely : Prop := chunkCutsRow.holds Tryd.pinned (OpenSpec.ofChange chunkCutsWrong)

/-- 'colophonlaw20.ChunkJoins': WHATEVER THE INPUT: true; the input reads as it did. -/
def chunkJoinsSpec : ChangeSpec := { name := "chunkJoins", fn := fun _ => fun
  | [d1, d2, d3] => { results := [.lit (.bool true)], args := [d1, d2, d3] }
  | _ => none }
def chunkJoinsRow : OpenClaim := { program := "ytkocgfcoebodkaadoor", sum := "1bf4b91a95d55e1c481ee40c9d4c686f1b15cf167230eab47965b7959b0da1a9", func := "colophon/colophonlaw20.ChunkJoins", spec := "chunkJoins", named := ["colophon/sums.halves"], apart := false, laid := [("colophon/sums.halves", laid_colophon_sums_halves)] }
def ChunkJoinsSaid : Prop := chunkJoinsRow.holds Tryd.pinned (OpenSpec.ofChange chunkJoinsSpec)

/-- ITS FALSE NEIGHBOUR: 'it returns false'. Refute it at one input. -/
def chunkJoinsWrong : ChangeSpec := { name := "chunkJoins", fn := fun _ => fun
  | [d1, d2, d3] => { results := [.lit (.bool false)], args := [d1, d2, d3] }
  | _ => none }
def ChunkJoinsWrongFalsely : Prop := chunkJoinsRow.holds Tryd.pinned (OpenSpec.ofChange chunkJoinsWrong)

/-- 'colophonlaw20.ChunkBack': WHATEVER THE INPUT: true; the input reads as it did. -/
def chunkBackSpec : ChangeSpec := { name := "chunkBack", fn := fun _ => fun
  | [d1, d2] => { results := [.lit (.bool true)], args := [d1, d2] }
  | _ => none }
def chunkBackRow : OpenClaim := { program := "ytkocgfcoebodkaadoor", sum := "1bf4b91a95d55e1c481ee40c9d4c686f1b15cf167230eab47965b7959b0da1a9", func := "colophon/colophonlaw20.ChunkBack", spec := "chunkBack", named := ["colophon/sums.halves"], apart := false, laid := [("colophon/sums.halves", laid_colophon_sums_halves)] }
def ChunkBackSaid : Prop := chunkBackRow.holds Tryd.pinned (OpenSpec.ofChange chunkBackSpec)

/-- ITS FALSE NEIGHBOUR: 'it returns false'. Refute it at one input. -/
def chunkBackWrong : ChangeSpec := { name := "chunkBack", fn := fun _ => fun
  | [d1, d2] => { results := [.lit (.bool false)], args := [d1, d2] }
  | _ => none }
def ChunkBackWrongFalsely : Prop := chunkBackRow.holds Tryd.pinned (OpenSpec.ofChange chunkBackWrong)

/-- 'colophonlaw20.ChunkTurned': WHATEVER THE INPUT: true; the input reads as it did. -/
def chunkTurnedSpec : ChangeSpec := { name := "chunkTurned", fn := fun _ => fun
  | [d1, d2, d3, d4] => { results := [.lit (.bool true)], args := [d1, d2, d3, d4] }
  | _ => none }
def chunkTurnedRow : OpenClaim := { program := "ytkocgfcoebodkaadoor", sum := "1bf4b91a95d55e1c481ee40c9d4c686f1b15cf167230eab47965b7959b0da1a9", func := "colophon/colophonlaw20.ChunkTurned", spec := "chunkTurned", named := ["colophon/sums.halves"], apart := false, laid := [("colophon/sums.halves", laid_colophon_sums_halves)] }
def ChunkTurnedSaid : Prop := chunkTurnedRow.holds Tryd.pinned (OpenSpec.ofChange chunkTurnedSpec)

/-- ITS FALSE NEIGHBOUR: 'it returns false'. Refute it at one input. -/
def chunkTurnedWrong : ChangeSpec := { name := "chunkTurned", fn := fun _ => fun
  | [d1, d2, d3, d4] => { results := [.lit (.bool false)], args := [d1, d2, d3, d4] }
  | _ => none }
def ChunkTurnedWrongFalsely : Prop := chunkTurnedRow.holds Tryd.pinned (OpenSpec.ofChange chunkTurnedWrong)

/-- 'colophonlaw20.ChunkOrder': WHATEVER THE INPUT: true; the input reads as it did. -/
def chunkOrderSpec : ChangeSpec := { name := "chunkOrder", fn := fun _ => fun
  | [d1, d2, d3, d4] => { results := [.lit (.bool true)], args := [d1, d2, d3, d4] }
  | _ => none }
def chunkOrderRow : OpenClaim := { program := "ytkocgfcoebodkaadoor", sum := "1bf4b91a95d55e1c481ee40c9d4c686f1b15cf167230eab47965b7959b0da1a9", func := "colophon/colophonlaw20.ChunkOrder", spec := "chunkOrder", named := ["colophon/sums.halves"], apart := false, laid := [("colophon/sums.halves", laid_colophon_sums_halves)] }
def ChunkOrderSaid : Prop := chunkOrderRow.holds Tryd.pinned (OpenSpec.ofChange chunkOrderSpec)

/-- ITS FALSE NEIGHBOUR: 'it returns false'. Refute it at one input. -/
def chunkOrderWrong : ChangeSpec := { name := "chunkOrder", fn := fun _ => fun
  | [d1, d2, d3, d4] => { results := [.lit (.bool false)], args := [d1, d2, d3, d4] }
  | _ => none }
def ChunkOrderWrongFalsely : Prop := chunkOrderRow.holds Tryd.pinned (OpenSpec.ofChange chunkOrderWrong)

/- THE SECOND FORM. 'bulk': how many values and letters a reading holds, each counted each time it is reached (what is shared counts as often as it is met; a slice's spare places count too). A statement '..UptoSaid' is the law's where the arguments, and the package variables that the reading takes, are together of bulk at most 1048576: NARROWER than '..Said'. Prove '..Said' where nothing that the law and all that it calls make is longer than what came in: it says more and counts as full. Else prove '..UptoSaid'. A law counts once. -/
mutual
def uptoBulk {H : Type} : DataW H → Nat
  | .lit (.string bytes) => bytes.length + 1
  | .lit _ => 1
  | .nil => 1
  | .ptr d => uptoBulk d + 1
  | .slice elems spare => uptoBulkAll elems + uptoBulkAll spare + 1
  | .agg parts => uptoBulkAll parts + 1
  | .iface _ d => uptoBulk d + 1
  | .map entries => uptoBulkEntries entries + 1
  | .held _ => 1
def uptoBulkAll {H : Type} : List (DataW H) → Nat
  | [] => 0
  | d :: r => uptoBulk d + uptoBulkAll r
def uptoBulkEntries {H : Type} : List (Lit × DataW H) → Nat
  | [] => 0
  | x :: r => uptoBulkEntry x + uptoBulkEntries r
def uptoBulkEntry {H : Type} : Lit × DataW H → Nat
  | (.string bytes, d) => bytes.length + uptoBulk d + 1
  | (_, d) => uptoBulk d + 1
 end
def uptoSmall : (H : Type) → List (DataW H) → Bool := fun _ ds => decide (uptoBulkAll ds ≤ 1048576)
def OpenSpec.upto (s : _root_.Go.ChangeSpec) : _root_.Go.OpenSpec := { _root_.Go.OpenSpec.ofChange s with cond := some uptoSmall }

/-- 'colophonlaw20.ChunkCuts', WHERE WHAT IT READS IS OF BULK AT MOST 1048576: true; the input reads as it did. -/
def chunkCutsUptoRow : OpenClaim := { program := "ytkocgfcoebodkaadoor", sum := "1bf4b91a95d55e1c481ee40c9d4c686f1b15cf167230eab47965b7959b0da1a9", func := "colophon/colophonlaw20.ChunkCuts", spec := "chunkCuts", named := ["colophon/sums.halves"], apart := false, laid := [("colophon/sums.halves", laid_colophon_sums_halves)], narrowed := true }
def ChunkCutsUptoSaid : Prop := chunkCutsUptoRow.holds Tryd.pinned (OpenSpec.upto chunkCutsSpec)

/-- 'colophonlaw20.ChunkJoins', WHERE WHAT IT READS IS OF BULK AT MOST 1048576: true; the input reads as it did. -/
def chunkJoinsUptoRow : OpenClaim := { program := "ytkocgfcoebodkaadoor", sum := "1bf4b91a95d55e1c481ee40c9d4c686f1b15cf167230eab47965b7959b0da1a9", func := "colophon/colophonlaw20.ChunkJoins", spec := "chunkJoins", named := ["colophon/sums.halves"], apart := false, laid := [("colophon/sums.halves", laid_colophon_sums_halves)], narrowed := true }
def ChunkJoinsUptoSaid : Prop := chunkJoinsUptoRow.holds Tryd.pinned (OpenSpec.upto chunkJoinsSpec)

/-- 'colophonlaw20.ChunkBack', WHERE WHAT IT READS IS OF BULK AT MOST 1048576: true; the input reads as it did. -/
def chunkBackUptoRow : OpenClaim := { program := "ytkocgfcoebodkaadoor", sum := "1bf4b91a95d55e1c481ee40c9d4c686f1b15cf167230eab47965b7959b0da1a9", func := "colophon/colophonlaw20.ChunkBack", spec := "chunkBack", named := ["colophon/sums.halves"], apart := false, laid := [("colophon/sums.halves", laid_colophon_sums_halves)], narrowed := true }
def ChunkBackUptoSaid : Prop := chunkBackUptoRow.holds Tryd.pinned (OpenSpec.upto chunkBackSpec)

/-- 'colophonlaw20.ChunkTurned', WHERE WHAT IT READS IS OF BULK AT MOST 1048576: true; the input reads as it did. -/
def chunkTurnedUptoRow : OpenClaim := { program := "ytkocgfcoebodkaadoor", sum := "1bf4b91a95d55e1c481ee40c9d4c686f1b15cf167230eab47965b7959b0da1a9", func := "colophon/colophonlaw20.ChunkTurned", spec := "chunkTurned", named := ["colophon/sums.halves"], apart := false, laid := [("colophon/sums.halves", laid_colophon_sums_halves)], narrowed := true }
def ChunkTurnedUptoSaid : Prop := chunkTurnedUptoRow.holds Tryd.pinned (OpenSpec.upto chunkTurnedSpec)

/-- 'colophonlaw20.ChunkOrder', WHERE WHAT IT READS IS OF BULK AT MOST 1048576: true; the input reads as it did. -/
def chunkOrderUptoRow : OpenClaim := { program := "ytkocgfcoebodkaadoor", sum := "1bf4b91a95d55e1c481ee40c9d4c686f1b15cf167230eab47965b7959b0da1a9", func := "colophon/colophonlaw20.ChunkOrder", spec := "chunkOrder", named := ["colophon/sums.halves"], apart := false, laid := [("colophon/sums.halves", laid_colophon_sums_halves)], narrowed := true }
def ChunkOrderUptoSaid : Prop := chunkOrderUptoRow.holds Tryd.pinned (OpenSpec.upto chunkOrderSpec)

end Rows
end Go.Proofs.YtkocgfcoebodkaaDoor
