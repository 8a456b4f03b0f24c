/-
  No cell of these rows narrows 'for every input' (looked for: loops, veiled, ifaces, maps, wideKeys, modest, calm, conditions, laid).
  DERIVED. THE GIVEN ROWS OF THIS SEAT. 6 by the template 'for every input the law returns true; each argument reads behind the call as it read before'; 0 by the template 'total and deterministic' (their statements: YteldofimjklckaaTotals.lean).
  GIVEN WITH THE SEED: the statements are not yours to turn. If you find one false, say at which input.
  Laid BY PROGRAM, IN A SANDBOX (cutbox-rows.mjs): the forced cells as the released guide's own fill.sh prints them over the translation 6cb7abe46070b92e… (all of the seat's roots in one cut). By AI agents, Wed Nov 11 2026. No macro, syntax, notation, axiom, sorry.
-/
import Derived.Test.YteldofimjklckaaChecked
import GoSem.Claim
import GoSem.ClaimJoined
import GoSem.ClaimMapViews
import Derived.JoinedTies
import Derived.KernelRfl
namespace Go.Proofs.Yteldofimjklckaa
/- THE CELL 'sum', in the pinned program and in every row, IS THE sha256 OF THE DUMP (.gsa) THAT YteldofimjklckaaProg.lean LOADS. Nothing in Lean hashes anything: it is a label: what it is worth is what the hold of that sum in a sandbox is worth. -/
noncomputable def Try.pinned : Pinned := { name := "yteldofimjklckaa", sum := "6cb7abe46070b92e6dd35f54542dae91f7d8edff4a20fa82581e4a1c5a81de4a", checked := Try.checked }
namespace Rows
def none {H : Type} : Left H := { results := [], args := [] }

/-- 'colophonlaw08.RunsLevels': WHATEVER THE INPUT: true; the input reads as it did. -/
def runsLevelsSpec : ChangeSpec := { name := "runsLevels", fn := fun _ => fun
  | [d] => { results := [.lit (.bool true)], args := [d] }
  | _ => none }
def runsLevelsRow : OpenClaim := { program := "yteldofimjklckaa", sum := "6cb7abe46070b92e6dd35f54542dae91f7d8edff4a20fa82581e4a1c5a81de4a", func := "colophon/colophonlaw08.RunsLevels", spec := "runsLevels", unfollowed := true, recurses := true, apart := false }
def RunsLevelsSaid : Prop := runsLevelsRow.holds Try.pinned (OpenSpec.ofChange runsLevelsSpec)

/-- ITS FALSE NEIGHBOUR: 'it returns false'. Refute it at one input. -/
def runsLevelsWrong : ChangeSpec := { name := "runsLevels", fn := fun _ => fun
  | [d] => { results := [.lit (.bool false)], args := [d] }
  | _ => none }
def RunsLevelsWrongFalsely : Prop := runsLevelsRow.holds Try.pinned (OpenSpec.ofChange runsLevelsWrong)

/-- 'colophonlaw08.RunsSequences': WHATEVER THE INPUT: true; the input reads as it did. -/
def runsSequencesSpec : ChangeSpec := { name := "runsSequences", fn := fun _ => fun
  | [d1, d2] => { results := [.lit (.bool true)], args := [d1, d2] }
  | _ => none }
def runsSequencesRow : OpenClaim := { program := "yteldofimjklckaa", sum := "6cb7abe46070b92e6dd35f54542dae91f7d8edff4a20fa82581e4a1c5a81de4a", func := "colophon/colophonlaw08.RunsSequences", spec := "runsSequences", unfollowed := true, recurses := true, apart := false }
def RunsSequencesSaid : Prop := runsSequencesRow.holds Try.pinned (OpenSpec.ofChange runsSequencesSpec)

/-- ITS FALSE NEIGHBOUR: 'it returns false'. Refute it at one input. -/
def runsSequencesWrong : ChangeSpec := { name := "runsSequences", fn := fun _ => fun
  | [d1, d2] => { results := [.lit (.bool false)], args := [d1, d2] }
  | _ => none }
def RunsSequencesWrongFalsely : Prop := runsSequencesRow.holds Try.pinned (OpenSpec.ofChange runsSequencesWrong)

/-- 'colophonlaw08.RunsCover': WHATEVER THE INPUT: true; the input reads as it did. -/
def runsCoverSpec : ChangeSpec := { name := "runsCover", fn := fun _ => fun
  | [d1, d2] => { results := [.lit (.bool true)], args := [d1, d2] }
  | _ => none }
def runsCoverRow : OpenClaim := { program := "yteldofimjklckaa", sum := "6cb7abe46070b92e6dd35f54542dae91f7d8edff4a20fa82581e4a1c5a81de4a", func := "colophon/colophonlaw08.RunsCover", spec := "runsCover", unfollowed := true, recurses := true, apart := false }
def RunsCoverSaid : Prop := runsCoverRow.holds Try.pinned (OpenSpec.ofChange runsCoverSpec)

/-- ITS FALSE NEIGHBOUR: 'it returns false'. Refute it at one input. -/
def runsCoverWrong : ChangeSpec := { name := "runsCover", fn := fun _ => fun
  | [d1, d2] => { results := [.lit (.bool false)], args := [d1, d2] }
  | _ => none }
def RunsCoverWrongFalsely : Prop := runsCoverRow.holds Try.pinned (OpenSpec.ofChange runsCoverWrong)

/-- 'colophonlaw08.RunsLinks': WHATEVER THE INPUT: true; the input reads as it did. -/
def runsLinksSpec : ChangeSpec := { name := "runsLinks", fn := fun _ => fun
  | [d1, d2] => { results := [.lit (.bool true)], args := [d1, d2] }
  | _ => none }
def runsLinksRow : OpenClaim := { program := "yteldofimjklckaa", sum := "6cb7abe46070b92e6dd35f54542dae91f7d8edff4a20fa82581e4a1c5a81de4a", func := "colophon/colophonlaw08.RunsLinks", spec := "runsLinks", unfollowed := true, recurses := true, apart := false }
def RunsLinksSaid : Prop := runsLinksRow.holds Try.pinned (OpenSpec.ofChange runsLinksSpec)

/-- ITS FALSE NEIGHBOUR: 'it returns false'. Refute it at one input. -/
def runsLinksWrong : ChangeSpec := { name := "runsLinks", fn := fun _ => fun
  | [d1, d2] => { results := [.lit (.bool false)], args := [d1, d2] }
  | _ => none }
def RunsLinksWrongFalsely : Prop := runsLinksRow.holds Try.pinned (OpenSpec.ofChange runsLinksWrong)

/-- 'colophonlaw08.RunsJoin': WHATEVER THE INPUT: true; the input reads as it did. -/
def runsJoinSpec : ChangeSpec := { name := "runsJoin", fn := fun _ => fun
  | [d] => { results := [.lit (.bool true)], args := [d] }
  | _ => none }
def runsJoinRow : OpenClaim := { program := "yteldofimjklckaa", sum := "6cb7abe46070b92e6dd35f54542dae91f7d8edff4a20fa82581e4a1c5a81de4a", func := "colophon/colophonlaw08.RunsJoin", spec := "runsJoin", unfollowed := true, recurses := true, apart := false }
def RunsJoinSaid : Prop := runsJoinRow.holds Try.pinned (OpenSpec.ofChange runsJoinSpec)

/-- ITS FALSE NEIGHBOUR: 'it returns false'. Refute it at one input. -/
def runsJoinWrong : ChangeSpec := { name := "runsJoin", fn := fun _ => fun
  | [d] => { results := [.lit (.bool false)], args := [d] }
  | _ => none }
def RunsJoinWrongFalsely : Prop := runsJoinRow.holds Try.pinned (OpenSpec.ofChange runsJoinWrong)

/-- 'colophonlaw08.RunsSides': WHATEVER THE INPUT: true; the input reads as it did. -/
def runsSidesSpec : ChangeSpec := { name := "runsSides", fn := fun _ => fun
  | [d1, d2] => { results := [.lit (.bool true)], args := [d1, d2] }
  | _ => none }
def runsSidesRow : OpenClaim := { program := "yteldofimjklckaa", sum := "6cb7abe46070b92e6dd35f54542dae91f7d8edff4a20fa82581e4a1c5a81de4a", func := "colophon/colophonlaw08.RunsSides", spec := "runsSides", unfollowed := true, recurses := true, apart := false }
def RunsSidesSaid : Prop := runsSidesRow.holds Try.pinned (OpenSpec.ofChange runsSidesSpec)

/-- ITS FALSE NEIGHBOUR: 'it returns false'. Refute it at one input. -/
def runsSidesWrong : ChangeSpec := { name := "runsSides", fn := fun _ => fun
  | [d1, d2] => { results := [.lit (.bool false)], args := [d1, d2] }
  | _ => none }
def RunsSidesWrongFalsely : Prop := runsSidesRow.holds Try.pinned (OpenSpec.ofChange runsSidesWrong)

/- THE SECOND FORM. 'bulk': how many values and letters a reading holds, each counted each time it is reached (what is shared counts as often as it is met; a slice's spare places count too). A statement '..UptoSaid' is the law's where the arguments, and the package variables that the reading takes, are together of bulk at most 1048576: NARROWER than '..Said'. Prove '..Said' where nothing that the law and all that it calls make is longer than what came in: it says more and counts as full. Else prove '..UptoSaid'. A law counts once. -/
mutual
def uptoBulk {H : Type} : DataW H → Nat
  | .lit (.string bytes) => bytes.length + 1
  | .lit _ => 1
  | .nil => 1
  | .ptr d => uptoBulk d + 1
  | .slice elems spare => uptoBulkAll elems + uptoBulkAll spare + 1
  | .agg parts => uptoBulkAll parts + 1
  | .iface _ d => uptoBulk d + 1
  | .map entries => uptoBulkEntries entries + 1
  | .held _ => 1
def uptoBulkAll {H : Type} : List (DataW H) → Nat
  | [] => 0
  | d :: r => uptoBulk d + uptoBulkAll r
def uptoBulkEntries {H : Type} : List (Lit × DataW H) → Nat
  | [] => 0
  | x :: r => uptoBulkEntry x + uptoBulkEntries r
def uptoBulkEntry {H : Type} : Lit × DataW H → Nat
  | (.string bytes, d) => bytes.length + uptoBulk d + 1
  | (_, d) => uptoBulk d + 1
 end
def uptoSmall : (H : Type) → List (DataW H) → Bool := fun _ ds => decide (uptoBulkAll ds ≤ 1048576)
def OpenSpec.upto (s : _root_.Go.ChangeSpec) : _root_.Go.OpenSpec := { _root_.Go.OpenSpec.ofChange s with cond := some uptoSmall }

/-- 'colophonlaw08.RunsLevels', WHERE WHAT IT READS IS OF BULK AT MOST 1048576: true; the input reads as it did. -/
def runsLevelsUptoRow : OpenClaim := { program := "yteldofimjklckaa", sum := "6cb7abe46070b92e6dd35f54542dae91f7d8edff4a20fa82581e4a1c5a81de4a", func := "colophon/colophonlaw08.RunsLevels", spec := "runsLevels", unfollowed := true, recurses := true, apart := false, narrowed := true }
def RunsLevelsUptoSaid : Prop := runsLevelsUptoRow.holds Try.pinned (OpenSpec.upto runsLevelsSpec)

/-- 'colophonlaw08.RunsSequences', WHERE WHAT IT READS IS OF BULK AT MOST 1048576: true; the input reads as it did. -/
def runsSequencesUptoRow : OpenClaim := { program := "yteldofimjklckaa", sum := "6cb7abe46070b92e6dd35f54542dae91f7d8edff4a20fa82581e4a1c5a81de4a", func := "colophon/colophonlaw08.RunsSequences", spec := "runsSequences", unfollowed := true, recurses := true, apart := false, narrowed := true }
def RunsSequencesUptoSaid : Prop := runsSequencesUptoRow.holds Try.pinned (OpenSpec.upto runsSequencesSpec)

/-- 'colophonlaw08.RunsCover', WHERE WHAT IT READS IS OF BULK AT MOST 1048576: true; the input reads as it did. -/
def runsCoverUptoRow : OpenClaim := { program := "yteldofimjklckaa", sum := "6cb7abe46070b92e6dd35f54542dae91f7d8edff4a20fa82581e4a1c5a81de4a", func := "colophon/colophonlaw08.RunsCover", spec := "runsCover", unfollowed := true, recurses := true, apart := false, narrowed := true }
def RunsCoverUptoSaid : Prop := runsCoverUptoRow.holds Try.pinned (OpenSpec.upto runsCoverSpec)

/-- 'colophonlaw08.RunsLinks', WHERE WHAT IT READS IS OF BULK AT MOST 1048576: true; the input reads as it did. -/
def runsLinksUptoRow : OpenClaim := { program := "yteldofimjklckaa", sum := "6cb7abe46070b92e6dd35f54542dae91f7d8edff4a20fa82581e4a1c5a81de4a", func := "colophon/colophonlaw08.RunsLinks", spec := "runsLinks", unfollowed := true, recurses := true, apart := false, narrowed := true }
def RunsLinksUptoSaid : Prop := runsLinksUptoRow.holds Try.pinned (OpenSpec.upto runsLinksSpec)

/-- 'colophonlaw08.RunsJoin', WHERE WHAT IT READS IS OF BULK AT MOST 1048576: true; the input reads as it did. -/
def runsJoinUptoRow : OpenClaim := { program := "yteldofimjklckaa", sum := "6cb7abe46070b92e6dd35f54542dae91f7d8edff4a20fa82581e4a1c5a81de4a", func := "colophon/colophonlaw08.RunsJoin", spec := "runsJoin", unfollowed := true, recurses := true, apart := false, narrowed := true }
def RunsJoinUptoSaid : Prop := runsJoinUptoRow.holds Try.pinned (OpenSpec.upto runsJoinSpec)

/-- 'colophonlaw08.RunsSides', WHERE WHAT IT READS IS OF BULK AT MOST 1048576: true; the input reads as it did. -/
def runsSidesUptoRow : OpenClaim := { program := "yteldofimjklckaa", sum := "6cb7abe46070b92e6dd35f54542dae91f7d8edff4a20fa82581e4a1c5a81de4a", func := "colophon/colophonlaw08.RunsSides", spec := "runsSides", unfollowed := true, recurses := true, apart := false, narrowed := true }
def RunsSidesUptoSaid : Prop := runsSidesUptoRow.holds Try.pinned (OpenSpec.upto runsSidesSpec)

end Rows
end Go.Proofs.Yteldofimjklckaa
