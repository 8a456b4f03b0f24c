/-
  No cell of these rows narrows 'for every input' (looked for: loops, veiled, ifaces, maps, wideKeys, modest, calm, conditions, laid).
  DERIVED. THE GIVEN ROWS OF THIS SEAT. 6 by the template 'for every input the law returns true; each argument reads behind the call as it read before'; 0 by the template 'total and deterministic' (their statements: YtgjmfeijfkbceaaTotals.lean).
  GIVEN WITH THE SEED: the statements are not yours to turn. If you find one false, say at which input.
  Laid BY PROGRAM, IN A SANDBOX (cutbox-rows.mjs): the forced cells as the released guide's own fill.sh prints them over the translation af5ab0172b87e359… (all of the seat's roots in one cut). By AI agents, Wed Nov 11 2026. No macro, syntax, notation, axiom, sorry.
-/
import Derived.Test.YtgjmfeijfkbceaaChecked
import GoSem.Claim
import GoSem.ClaimJoined
import GoSem.ClaimMapViews
import Derived.JoinedTies
import Derived.KernelRfl
namespace Go.Proofs.Ytgjmfeijfkbceaa
/- THE CELL 'sum', in the pinned program and in every row, IS THE sha256 OF THE DUMP (.gsa) THAT YtgjmfeijfkbceaaProg.lean LOADS. Nothing in Lean hashes anything: it is a label: what it is worth is what the hold of that sum in a sandbox is worth. -/
noncomputable def Try.pinned : Pinned := { name := "ytgjmfeijfkbceaa", sum := "af5ab0172b87e35996f750c300cd619b51e36dd6ab67841b759d5da23d430b46", checked := Try.checked }
namespace Rows
def none {H : Type} : Left H := { results := [], args := [] }

/-- 'colophonlaw06.IsolateMatches': WHATEVER THE INPUT: true; the input reads as it did. -/
def isolateMatchesSpec : ChangeSpec := { name := "isolateMatches", fn := fun _ => fun
  | [d] => { results := [.lit (.bool true)], args := [d] }
  | _ => none }
def isolateMatchesRow : OpenClaim := { program := "ytgjmfeijfkbceaa", sum := "af5ab0172b87e35996f750c300cd619b51e36dd6ab67841b759d5da23d430b46", func := "colophon/colophonlaw06.IsolateMatches", spec := "isolateMatches", apart := false }
def IsolateMatchesSaid : Prop := isolateMatchesRow.holds Try.pinned (OpenSpec.ofChange isolateMatchesSpec)

/-- ITS FALSE NEIGHBOUR: 'it returns false'. Refute it at one input. -/
def isolateMatchesWrong : ChangeSpec := { name := "isolateMatches", fn := fun _ => fun
  | [d] => { results := [.lit (.bool false)], args := [d] }
  | _ => none }
def IsolateMatchesWrongFalsely : Prop := isolateMatchesRow.holds Try.pinned (OpenSpec.ofChange isolateMatchesWrong)

/-- 'colophonlaw06.IsolateBases': WHATEVER THE INPUT: true; the input reads as it did. -/
def isolateBasesSpec : ChangeSpec := { name := "isolateBases", fn := fun _ => fun
  | [d1, d2, d3] => { results := [.lit (.bool true)], args := [d1, d2, d3] }
  | _ => none }
def isolateBasesRow : OpenClaim := { program := "ytgjmfeijfkbceaa", sum := "af5ab0172b87e35996f750c300cd619b51e36dd6ab67841b759d5da23d430b46", func := "colophon/colophonlaw06.IsolateBases", spec := "isolateBases", apart := false }
def IsolateBasesSaid : Prop := isolateBasesRow.holds Try.pinned (OpenSpec.ofChange isolateBasesSpec)

/-- ITS FALSE NEIGHBOUR: 'it returns false'. Refute it at one input. -/
def isolateBasesWrong : ChangeSpec := { name := "isolateBases", fn := fun _ => fun
  | [d1, d2, d3] => { results := [.lit (.bool false)], args := [d1, d2, d3] }
  | _ => none }
def IsolateBasesWrongFalsely : Prop := isolateBasesRow.holds Try.pinned (OpenSpec.ofChange isolateBasesWrong)

/-- 'colophonlaw06.IsolateMutual': WHATEVER THE INPUT: true; the input reads as it did. -/
def isolateMutualSpec : ChangeSpec := { name := "isolateMutual", fn := fun _ => fun
  | [d] => { results := [.lit (.bool true)], args := [d] }
  | _ => none }
def isolateMutualRow : OpenClaim := { program := "ytgjmfeijfkbceaa", sum := "af5ab0172b87e35996f750c300cd619b51e36dd6ab67841b759d5da23d430b46", func := "colophon/colophonlaw06.IsolateMutual", spec := "isolateMutual", apart := false }
def IsolateMutualSaid : Prop := isolateMutualRow.holds Try.pinned (OpenSpec.ofChange isolateMutualSpec)

/-- ITS FALSE NEIGHBOUR: 'it returns false'. Refute it at one input. -/
def isolateMutualWrong : ChangeSpec := { name := "isolateMutual", fn := fun _ => fun
  | [d] => { results := [.lit (.bool false)], args := [d] }
  | _ => none }
def IsolateMutualWrongFalsely : Prop := isolateMutualRow.holds Try.pinned (OpenSpec.ofChange isolateMutualWrong)

/-- 'colophonlaw06.IsolateHides': WHATEVER THE INPUT: true; the input reads as it did. -/
def isolateHidesSpec : ChangeSpec := { name := "isolateHides", fn := fun _ => fun
  | [d1, d2] => { results := [.lit (.bool true)], args := [d1, d2] }
  | _ => none }
def isolateHidesRow : OpenClaim := { program := "ytgjmfeijfkbceaa", sum := "af5ab0172b87e35996f750c300cd619b51e36dd6ab67841b759d5da23d430b46", func := "colophon/colophonlaw06.IsolateHides", spec := "isolateHides", apart := false }
def IsolateHidesSaid : Prop := isolateHidesRow.holds Try.pinned (OpenSpec.ofChange isolateHidesSpec)

/-- ITS FALSE NEIGHBOUR: 'it returns false'. Refute it at one input. -/
def isolateHidesWrong : ChangeSpec := { name := "isolateHides", fn := fun _ => fun
  | [d1, d2] => { results := [.lit (.bool false)], args := [d1, d2] }
  | _ => none }
def IsolateHidesWrongFalsely : Prop := isolateHidesRow.holds Try.pinned (OpenSpec.ofChange isolateHidesWrong)

/-- 'colophonlaw06.IsolateJoins': WHATEVER THE INPUT: true; the input reads as it did. -/
def isolateJoinsSpec : ChangeSpec := { name := "isolateJoins", fn := fun _ => fun
  | [d1, d2] => { results := [.lit (.bool true)], args := [d1, d2] }
  | _ => none }
def isolateJoinsRow : OpenClaim := { program := "ytgjmfeijfkbceaa", sum := "af5ab0172b87e35996f750c300cd619b51e36dd6ab67841b759d5da23d430b46", func := "colophon/colophonlaw06.IsolateJoins", spec := "isolateJoins", apart := false }
def IsolateJoinsSaid : Prop := isolateJoinsRow.holds Try.pinned (OpenSpec.ofChange isolateJoinsSpec)

/-- ITS FALSE NEIGHBOUR: 'it returns false'. Refute it at one input. -/
def isolateJoinsWrong : ChangeSpec := { name := "isolateJoins", fn := fun _ => fun
  | [d1, d2] => { results := [.lit (.bool false)], args := [d1, d2] }
  | _ => none }
def IsolateJoinsWrongFalsely : Prop := isolateJoinsRow.holds Try.pinned (OpenSpec.ofChange isolateJoinsWrong)

/-- 'colophonlaw06.IsolateShut': WHATEVER THE INPUT: true; the input reads as it did. -/
def isolateShutSpec : ChangeSpec := { name := "isolateShut", fn := fun _ => fun
  | [d] => { results := [.lit (.bool true)], args := [d] }
  | _ => none }
def isolateShutRow : OpenClaim := { program := "ytgjmfeijfkbceaa", sum := "af5ab0172b87e35996f750c300cd619b51e36dd6ab67841b759d5da23d430b46", func := "colophon/colophonlaw06.IsolateShut", spec := "isolateShut", apart := false }
def IsolateShutSaid : Prop := isolateShutRow.holds Try.pinned (OpenSpec.ofChange isolateShutSpec)

/-- ITS FALSE NEIGHBOUR: 'it returns false'. Refute it at one input. -/
def isolateShutWrong : ChangeSpec := { name := "isolateShut", fn := fun _ => fun
  | [d] => { results := [.lit (.bool false)], args := [d] }
  | _ => none }
def IsolateShutWrongFalsely : Prop := isolateShutRow.holds Try.pinned (OpenSpec.ofChange isolateShutWrong)

/- THE SECOND FORM. 'bulk': how many values and letters a reading holds, each counted each time it is reached (what is shared counts as often as it is met; a slice's spare places count too). A statement '..UptoSaid' is the law's where the arguments, and the package variables that the reading takes, are together of bulk at most 1048576: NARROWER than '..Said'. Prove '..Said' where nothing that the law and all that it calls make is longer than what came in: it says more and counts as full. Else prove '..UptoSaid'. A law counts once. -/
mutual
def uptoBulk {H : Type} : DataW H → Nat
  | .lit (.string bytes) => bytes.length + 1
  | .lit _ => 1
  | .nil => 1
  | .ptr d => uptoBulk d + 1
  | .slice elems spare => uptoBulkAll elems + uptoBulkAll spare + 1
  | .agg parts => uptoBulkAll parts + 1
  | .iface _ d => uptoBulk d + 1
  | .map entries => uptoBulkEntries entries + 1
  | .held _ => 1
def uptoBulkAll {H : Type} : List (DataW H) → Nat
  | [] => 0
  | d :: r => uptoBulk d + uptoBulkAll r
def uptoBulkEntries {H : Type} : List (Lit × DataW H) → Nat
  | [] => 0
  | x :: r => uptoBulkEntry x + uptoBulkEntries r
def uptoBulkEntry {H : Type} : Lit × DataW H → Nat
  | (.string bytes, d) => bytes.length + uptoBulk d + 1
  | (_, d) => uptoBulk d + 1
 end
def uptoSmall : (H : Type) → List (DataW H) → Bool := fun _ ds => decide (uptoBulkAll ds ≤ 1048576)
def OpenSpec.upto (s : _root_.Go.ChangeSpec) : _root_.Go.OpenSpec := { _root_.Go.OpenSpec.ofChange s with cond := some uptoSmall }

/-- 'colophonlaw06.IsolateMatches', WHERE WHAT IT READS IS OF BULK AT MOST 1048576: true; the input reads as it did. -/
def isolateMatchesUptoRow : OpenClaim := { program := "ytgjmfeijfkbceaa", sum := "af5ab0172b87e35996f750c300cd619b51e36dd6ab67841b759d5da23d430b46", func := "colophon/colophonlaw06.IsolateMatches", spec := "isolateMatches", apart := false, narrowed := true }
def IsolateMatchesUptoSaid : Prop := isolateMatchesUptoRow.holds Try.pinned (OpenSpec.upto isolateMatchesSpec)

/-- 'colophonlaw06.IsolateBases', WHERE WHAT IT READS IS OF BULK AT MOST 1048576: true; the input reads as it did. -/
def isolateBasesUptoRow : OpenClaim := { program := "ytgjmfeijfkbceaa", sum := "af5ab0172b87e35996f750c300cd619b51e36dd6ab67841b759d5da23d430b46", func := "colophon/colophonlaw06.IsolateBases", spec := "isolateBases", apart := false, narrowed := true }
def IsolateBasesUptoSaid : Prop := isolateBasesUptoRow.holds Try.pinned (OpenSpec.upto isolateBasesSpec)

/-- 'colophonlaw06.IsolateMutual', WHERE WHAT IT READS IS OF BULK AT MOST 1048576: true; the input reads as it did. -/
def isolateMutualUptoRow : OpenClaim := { program := "ytgjmfeijfkbceaa", sum := "af5ab0172b87e35996f750c300cd619b51e36dd6ab67841b759d5da23d430b46", func := "colophon/colophonlaw06.IsolateMutual", spec := "isolateMutual", apart := false, narrowed := true }
def IsolateMutualUptoSaid : Prop := isolateMutualUptoRow.holds Try.pinned (OpenSpec.upto isolateMutualSpec)

/-- 'colophonlaw06.IsolateHides', WHERE WHAT IT READS IS OF BULK AT MOST 1048576: true; the input reads as it did. -/
def isolateHidesUptoRow : OpenClaim := { program := "ytgjmfeijfkbceaa", sum := "af5ab0172b87e35996f750c300cd619b51e36dd6ab67841b759d5da23d430b46", func := "colophon/colophonlaw06.IsolateHides", spec := "isolateHides", apart := false, narrowed := true }
def IsolateHidesUptoSaid : Prop := isolateHidesUptoRow.holds Try.pinned (OpenSpec.upto isolateHidesSpec)

/-- 'colophonlaw06.IsolateJoins', WHERE WHAT IT READS IS OF BULK AT MOST 1048576: true; the input reads as it did. -/
def isolateJoinsUptoRow : OpenClaim := { program := "ytgjmfeijfkbceaa", sum := "af5ab0172b87e35996f750c300cd619b51e36dd6ab67841b759d5da23d430b46", func := "colophon/colophonlaw06.IsolateJoins", spec := "isolateJoins", apart := false, narrowed := true }
def IsolateJoinsUptoSaid : Prop := isolateJoinsUptoRow.holds Try.pinned (OpenSpec.upto isolateJoinsSpec)

/-- 'colophonlaw06.IsolateShut', WHERE WHAT IT READS IS OF BULK AT MOST 1048576: true; the input reads as it did. -/
def isolateShutUptoRow : OpenClaim := { program := "ytgjmfeijfkbceaa", sum := "af5ab0172b87e35996f750c300cd619b51e36dd6ab67841b759d5da23d430b46", func := "colophon/colophonlaw06.IsolateShut", spec := "isolateShut", apart := false, narrowed := true }
def IsolateShutUptoSaid : Prop := isolateShutUptoRow.holds Try.pinned (OpenSpec.upto isolateShutSpec)

end Rows
end Go.Proofs.Ytgjmfeijfkbceaa
