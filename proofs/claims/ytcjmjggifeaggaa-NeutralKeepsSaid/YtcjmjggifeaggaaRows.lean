/-
  No cell of these rows narrows 'for every input' (looked for: loops, veiled, ifaces, maps, wideKeys, modest, calm, conditions, laid).
  DERIVED. THE GIVEN ROWS OF THIS SEAT. 6 by the template 'for every input the law returns true; each argument reads behind the call as it read before'; 0 by the template 'total and deterministic' (their statements: YtcjmjggifeaggaaTotals.lean).
  GIVEN WITH THE SEED: the statements are not yours to turn. If you find one false, say at which input.
  Laid BY PROGRAM, IN A SANDBOX (cutbox-rows.mjs): the forced cells as the released guide's own fill.sh prints them over the translation 9c1e73081f05bfbd… (all of the seat's roots in one cut). By AI agents, Wed Nov 11 2026. No macro, syntax, notation, axiom, sorry.
-/
import Derived.Test.YtcjmjggifeaggaaChecked
import GoSem.Claim
import GoSem.ClaimJoined
import GoSem.ClaimMapViews
import Derived.JoinedTies
import Derived.KernelRfl
namespace Go.Proofs.Ytcjmjggifeaggaa
/- THE CELL 'sum', in the pinned program and in every row, IS THE sha256 OF THE DUMP (.gsa) THAT YtcjmjggifeaggaaProg.lean LOADS. Nothing in Lean hashes anything: it is a label: what it is worth is what the hold of that sum in a sandbox is worth. -/
noncomputable def Try.pinned : Pinned := { name := "ytcjmjggifeaggaa", sum := "9c1e73081f05bfbd8d9e1191cbac3d20112c241f0951ec67802e0a4a54d43db8", checked := Try.checked }
namespace Rows
def none {H : Type} : Left H := { results := [], args := [] }

/-- 'colophonlaw11.NeutralResolves': WHATEVER THE INPUT: true; the input reads as it did. -/
def neutralResolvesSpec : ChangeSpec := { name := "neutralResolves", fn := fun _ => fun
  | [d1, d2] => { results := [.lit (.bool true)], args := [d1, d2] }
  | _ => none }
def neutralResolvesRow : OpenClaim := { program := "ytcjmjggifeaggaa", sum := "9c1e73081f05bfbd8d9e1191cbac3d20112c241f0951ec67802e0a4a54d43db8", func := "colophon/colophonlaw11.NeutralResolves", spec := "neutralResolves", unfollowed := true, recurses := true, apart := false }
def NeutralResolvesSaid : Prop := neutralResolvesRow.holds Try.pinned (OpenSpec.ofChange neutralResolvesSpec)

/-- ITS FALSE NEIGHBOUR: 'it returns false'. Refute it at one input. -/
def neutralResolvesWrong : ChangeSpec := { name := "neutralResolves", fn := fun _ => fun
  | [d1, d2] => { results := [.lit (.bool false)], args := [d1, d2] }
  | _ => none }
def NeutralResolvesWrongFalsely : Prop := neutralResolvesRow.holds Try.pinned (OpenSpec.ofChange neutralResolvesWrong)

/-- 'colophonlaw11.NeutralLevels': WHATEVER THE INPUT: true; the input reads as it did. -/
def neutralLevelsSpec : ChangeSpec := { name := "neutralLevels", fn := fun _ => fun
  | [d1, d2] => { results := [.lit (.bool true)], args := [d1, d2] }
  | _ => none }
def neutralLevelsRow : OpenClaim := { program := "ytcjmjggifeaggaa", sum := "9c1e73081f05bfbd8d9e1191cbac3d20112c241f0951ec67802e0a4a54d43db8", func := "colophon/colophonlaw11.NeutralLevels", spec := "neutralLevels", unfollowed := true, recurses := true, apart := false }
def NeutralLevelsSaid : Prop := neutralLevelsRow.holds Try.pinned (OpenSpec.ofChange neutralLevelsSpec)

/-- ITS FALSE NEIGHBOUR: 'it returns false'. Refute it at one input. -/
def neutralLevelsWrong : ChangeSpec := { name := "neutralLevels", fn := fun _ => fun
  | [d1, d2] => { results := [.lit (.bool false)], args := [d1, d2] }
  | _ => none }
def NeutralLevelsWrongFalsely : Prop := neutralLevelsRow.holds Try.pinned (OpenSpec.ofChange neutralLevelsWrong)

/-- 'colophonlaw11.NeutralKeeps': WHATEVER THE INPUT: true; the input reads as it did. -/
def neutralKeepsSpec : ChangeSpec := { name := "neutralKeeps", fn := fun _ => fun
  | [d1, d2] => { results := [.lit (.bool true)], args := [d1, d2] }
  | _ => none }
def neutralKeepsRow : OpenClaim := { program := "ytcjmjggifeaggaa", sum := "9c1e73081f05bfbd8d9e1191cbac3d20112c241f0951ec67802e0a4a54d43db8", func := "colophon/colophonlaw11.NeutralKeeps", spec := "neutralKeeps", unfollowed := true, recurses := true, apart := false }
def NeutralKeepsSaid : Prop := neutralKeepsRow.holds Try.pinned (OpenSpec.ofChange neutralKeepsSpec)

/-- ITS FALSE NEIGHBOUR: 'it returns false'. Refute it at one input. -/
def neutralKeepsWrong : ChangeSpec := { name := "neutralKeeps", fn := fun _ => fun
  | [d1, d2] => { results := [.lit (.bool false)], args := [d1, d2] }
  | _ => none }
def NeutralKeepsWrongFalsely : Prop := neutralKeepsRow.holds Try.pinned (OpenSpec.ofChange neutralKeepsWrong)

/-- 'colophonlaw11.NeutralTurned': WHATEVER THE INPUT: true; the input reads as it did. -/
def neutralTurnedSpec : ChangeSpec := { name := "neutralTurned", fn := fun _ => fun
  | [d1, d2] => { results := [.lit (.bool true)], args := [d1, d2] }
  | _ => none }
def neutralTurnedRow : OpenClaim := { program := "ytcjmjggifeaggaa", sum := "9c1e73081f05bfbd8d9e1191cbac3d20112c241f0951ec67802e0a4a54d43db8", func := "colophon/colophonlaw11.NeutralTurned", spec := "neutralTurned", unfollowed := true, recurses := true, apart := false }
def NeutralTurnedSaid : Prop := neutralTurnedRow.holds Try.pinned (OpenSpec.ofChange neutralTurnedSpec)

/-- ITS FALSE NEIGHBOUR: 'it returns false'. Refute it at one input. -/
def neutralTurnedWrong : ChangeSpec := { name := "neutralTurned", fn := fun _ => fun
  | [d1, d2] => { results := [.lit (.bool false)], args := [d1, d2] }
  | _ => none }
def NeutralTurnedWrongFalsely : Prop := neutralTurnedRow.holds Try.pinned (OpenSpec.ofChange neutralTurnedWrong)

/-- 'colophonlaw11.NeutralBetween': WHATEVER THE INPUT: true; the input reads as it did. -/
def neutralBetweenSpec : ChangeSpec := { name := "neutralBetween", fn := fun _ => fun
  | [d1, d2, d3, d4] => { results := [.lit (.bool true)], args := [d1, d2, d3, d4] }
  | _ => none }
def neutralBetweenRow : OpenClaim := { program := "ytcjmjggifeaggaa", sum := "9c1e73081f05bfbd8d9e1191cbac3d20112c241f0951ec67802e0a4a54d43db8", func := "colophon/colophonlaw11.NeutralBetween", spec := "neutralBetween", unfollowed := true, recurses := true, apart := false }
def NeutralBetweenSaid : Prop := neutralBetweenRow.holds Try.pinned (OpenSpec.ofChange neutralBetweenSpec)

/-- ITS FALSE NEIGHBOUR: 'it returns false'. Refute it at one input. -/
def neutralBetweenWrong : ChangeSpec := { name := "neutralBetween", fn := fun _ => fun
  | [d1, d2, d3, d4] => { results := [.lit (.bool false)], args := [d1, d2, d3, d4] }
  | _ => none }
def NeutralBetweenWrongFalsely : Prop := neutralBetweenRow.holds Try.pinned (OpenSpec.ofChange neutralBetweenWrong)

/-- 'colophonlaw11.NeutralParity': WHATEVER THE INPUT: true; the input reads as it did. -/
def neutralParitySpec : ChangeSpec := { name := "neutralParity", fn := fun _ => fun
  | [d1, d2] => { results := [.lit (.bool true)], args := [d1, d2] }
  | _ => none }
def neutralParityRow : OpenClaim := { program := "ytcjmjggifeaggaa", sum := "9c1e73081f05bfbd8d9e1191cbac3d20112c241f0951ec67802e0a4a54d43db8", func := "colophon/colophonlaw11.NeutralParity", spec := "neutralParity", unfollowed := true, recurses := true, apart := false }
def NeutralParitySaid : Prop := neutralParityRow.holds Try.pinned (OpenSpec.ofChange neutralParitySpec)

/-- ITS FALSE NEIGHBOUR: 'it returns false'. Refute it at one input. -/
def neutralParityWrong : ChangeSpec := { name := "neutralParity", fn := fun _ => fun
  | [d1, d2] => { results := [.lit (.bool false)], args := [d1, d2] }
  | _ => none }
def NeutralParityWrongFalsely : Prop := neutralParityRow.holds Try.pinned (OpenSpec.ofChange neutralParityWrong)

/- THE SECOND FORM. 'bulk': how many values and letters a reading holds, each counted each time it is reached (what is shared counts as often as it is met; a slice's spare places count too). A statement '..UptoSaid' is the law's where the arguments, and the package variables that the reading takes, are together of bulk at most 1048576: NARROWER than '..Said'. Prove '..Said' where nothing that the law and all that it calls make is longer than what came in: it says more and counts as full. Else prove '..UptoSaid'. A law counts once. -/
mutual
def uptoBulk {H : Type} : DataW H → Nat
  | .lit (.string bytes) => bytes.length + 1
  | .lit _ => 1
  | .nil => 1
  | .ptr d => uptoBulk d + 1
  | .slice elems spare => uptoBulkAll elems + uptoBulkAll spare + 1
  | .agg parts => uptoBulkAll parts + 1
  | .iface _ d => uptoBulk d + 1
  | .map entries => uptoBulkEntries entries + 1
  | .held _ => 1
def uptoBulkAll {H : Type} : List (DataW H) → Nat
  | [] => 0
  | d :: r => uptoBulk d + uptoBulkAll r
def uptoBulkEntries {H : Type} : List (Lit × DataW H) → Nat
  | [] => 0
  | x :: r => uptoBulkEntry x + uptoBulkEntries r
def uptoBulkEntry {H : Type} : Lit × DataW H → Nat
  | (.string bytes, d) => bytes.length + uptoBulk d + 1
  | (_, d) => uptoBulk d + 1
 end
def uptoSmall : (H : Type) → List (DataW H) → Bool := fun _ ds => decide (uptoBulkAll ds ≤ 1048576)
def OpenSpec.upto (s : _root_.Go.ChangeSpec) : _root_.Go.OpenSpec := { _root_.Go.OpenSpec.ofChange s with cond := some uptoSmall }

/-- 'colophonlaw11.NeutralResolves', WHERE WHAT IT READS IS OF BULK AT MOST 1048576: true; the input reads as it did. -/
def neutralResolvesUptoRow : OpenClaim := { program := "ytcjmjggifeaggaa", sum := "9c1e73081f05bfbd8d9e1191cbac3d20112c241f0951ec67802e0a4a54d43db8", func := "colophon/colophonlaw11.NeutralResolves", spec := "neutralResolves", unfollowed := true, recurses := true, apart := false, narrowed := true }
def NeutralResolvesUptoSaid : Prop := neutralResolvesUptoRow.holds Try.pinned (OpenSpec.upto neutralResolvesSpec)

/-- 'colophonlaw11.NeutralLevels', WHERE WHAT IT READS IS OF BULK AT MOST 1048576: true; the input reads as it did. -/
def neutralLevelsUptoRow : OpenClaim := { program := "ytcjmjggifeaggaa", sum := "9c1e73081f05bfbd8d9e1191cbac3d20112c241f0951ec67802e0a4a54d43db8", func := "colophon/colophonlaw11.NeutralLevels", spec := "neutralLevels", unfollowed := true, recurses := true, apart := false, narrowed := true }
def NeutralLevelsUptoSaid : Prop := neutralLevelsUptoRow.holds Try.pinned (OpenSpec.upto neutralLevelsSpec)

/-- 'colophonlaw11.NeutralKeeps', WHERE WHAT IT READS IS OF BULK AT MOST 1048576: true; the input reads as it did. -/
def neutralKeepsUptoRow : OpenClaim := { program := "ytcjmjggifeaggaa", sum := "9c1e73081f05bfbd8d9e1191cbac3d20112c241f0951ec67802e0a4a54d43db8", func := "colophon/colophonlaw11.NeutralKeeps", spec := "neutralKeeps", unfollowed := true, recurses := true, apart := false, narrowed := true }
def NeutralKeepsUptoSaid : Prop := neutralKeepsUptoRow.holds Try.pinned (OpenSpec.upto neutralKeepsSpec)

/-- 'colophonlaw11.NeutralTurned', WHERE WHAT IT READS IS OF BULK AT MOST 1048576: true; the input reads as it did. -/
def neutralTurnedUptoRow : OpenClaim := { program := "ytcjmjggifeaggaa", sum := "9c1e73081f05bfbd8d9e1191cbac3d20112c241f0951ec67802e0a4a54d43db8", func := "colophon/colophonlaw11.NeutralTurned", spec := "neutralTurned", unfollowed := true, recurses := true, apart := false, narrowed := true }
def NeutralTurnedUptoSaid : Prop := neutralTurnedUptoRow.holds Try.pinned (OpenSpec.upto neutralTurnedSpec)

/-- 'colophonlaw11.NeutralBetween', WHERE WHAT IT READS IS OF BULK AT MOST 1048576: true; the input reads as it did. -/
def neutralBetweenUptoRow : OpenClaim := { program := "ytcjmjggifeaggaa", sum := "9c1e73081f05bfbd8d9e1191cbac3d20112c241f0951ec67802e0a4a54d43db8", func := "colophon/colophonlaw11.NeutralBetween", spec := "neutralBetween", unfollowed := true, recurses := true, apart := false, narrowed := true }
def NeutralBetweenUptoSaid : Prop := neutralBetweenUptoRow.holds Try.pinned (OpenSpec.upto neutralBetweenSpec)

/-- 'colophonlaw11.NeutralParity', WHERE WHAT IT READS IS OF BULK AT MOST 1048576: true; the input reads as it did. -/
def neutralParityUptoRow : OpenClaim := { program := "ytcjmjggifeaggaa", sum := "9c1e73081f05bfbd8d9e1191cbac3d20112c241f0951ec67802e0a4a54d43db8", func := "colophon/colophonlaw11.NeutralParity", spec := "neutralParity", unfollowed := true, recurses := true, apart := false, narrowed := true }
def NeutralParityUptoSaid : Prop := neutralParityUptoRow.holds Try.pinned (OpenSpec.upto neutralParitySpec)

end Rows
end Go.Proofs.Ytcjmjggifeaggaa
