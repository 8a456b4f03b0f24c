/-
  No cell of these rows narrows 'for every input' (looked for: loops, veiled, ifaces, maps, wideKeys, modest, calm, conditions, laid).
  DERIVED. THE GIVEN ROWS OF THIS SEAT. 6 by the template 'for every input the law returns true; each argument reads behind the call as it read before'; 0 by the template 'total and deterministic' (their statements: YthokljlalgclkaaTotals.lean).
  GIVEN WITH THE SEED: the statements are not yours to turn. If you find one false, say at which input.
  Laid BY PROGRAM, IN A SANDBOX (cutbox-rows.mjs): the forced cells as the released guide's own fill.sh prints them over the translation 1327ecad290edcfa… (all of the seat's roots in one cut). By AI agents, Wed Nov 11 2026. No macro, syntax, notation, axiom, sorry.
-/
import Derived.Test.YthokljlalgclkaaChecked
import GoSem.Claim
import GoSem.ClaimJoined
import GoSem.ClaimMapViews
import Derived.JoinedTies
import Derived.KernelRfl
namespace Go.Proofs.Ythokljlalgclkaa
/- THE CELL 'sum', in the pinned program and in every row, IS THE sha256 OF THE DUMP (.gsa) THAT YthokljlalgclkaaProg.lean LOADS. Nothing in Lean hashes anything: it is a label: what it is worth is what the hold of that sum in a sandbox is worth. -/
noncomputable def Try.pinned : Pinned := { name := "ythokljlalgclkaa", sum := "1327ecad290edcfa7fe143856c4ca48b1480108c536a5e24ce55a5712778958f", checked := Try.checked }
namespace Rows
def none {H : Type} : Left H := { results := [], args := [] }

/-- 'colophonlaw07.ExplicitResolves': WHATEVER THE INPUT: true; the input reads as it did. -/
def explicitResolvesSpec : ChangeSpec := { name := "explicitResolves", fn := fun _ => fun
  | [d1, d2] => { results := [.lit (.bool true)], args := [d1, d2] }
  | _ => none }
def explicitResolvesRow : OpenClaim := { program := "ythokljlalgclkaa", sum := "1327ecad290edcfa7fe143856c4ca48b1480108c536a5e24ce55a5712778958f", func := "colophon/colophonlaw07.ExplicitResolves", spec := "explicitResolves", apart := false }
def ExplicitResolvesSaid : Prop := explicitResolvesRow.holds Try.pinned (OpenSpec.ofChange explicitResolvesSpec)

/-- ITS FALSE NEIGHBOUR: 'it returns false'. Refute it at one input. -/
def explicitResolvesWrong : ChangeSpec := { name := "explicitResolves", fn := fun _ => fun
  | [d1, d2] => { results := [.lit (.bool false)], args := [d1, d2] }
  | _ => none }
def ExplicitResolvesWrongFalsely : Prop := explicitResolvesRow.holds Try.pinned (OpenSpec.ofChange explicitResolvesWrong)

/-- 'colophonlaw07.ExplicitPairs': WHATEVER THE INPUT: true; the input reads as it did. -/
def explicitPairsSpec : ChangeSpec := { name := "explicitPairs", fn := fun _ => fun
  | [d1, d2] => { results := [.lit (.bool true)], args := [d1, d2] }
  | _ => none }
def explicitPairsRow : OpenClaim := { program := "ythokljlalgclkaa", sum := "1327ecad290edcfa7fe143856c4ca48b1480108c536a5e24ce55a5712778958f", func := "colophon/colophonlaw07.ExplicitPairs", spec := "explicitPairs", apart := false }
def ExplicitPairsSaid : Prop := explicitPairsRow.holds Try.pinned (OpenSpec.ofChange explicitPairsSpec)

/-- ITS FALSE NEIGHBOUR: 'it returns false'. Refute it at one input. -/
def explicitPairsWrong : ChangeSpec := { name := "explicitPairs", fn := fun _ => fun
  | [d1, d2] => { results := [.lit (.bool false)], args := [d1, d2] }
  | _ => none }
def ExplicitPairsWrongFalsely : Prop := explicitPairsRow.holds Try.pinned (OpenSpec.ofChange explicitPairsWrong)

/-- 'colophonlaw07.ExplicitDeep': WHATEVER THE INPUT: true; the input reads as it did. -/
def explicitDeepSpec : ChangeSpec := { name := "explicitDeep", fn := fun _ => fun
  | [d1, d2] => { results := [.lit (.bool true)], args := [d1, d2] }
  | _ => none }
def explicitDeepRow : OpenClaim := { program := "ythokljlalgclkaa", sum := "1327ecad290edcfa7fe143856c4ca48b1480108c536a5e24ce55a5712778958f", func := "colophon/colophonlaw07.ExplicitDeep", spec := "explicitDeep", apart := false }
def ExplicitDeepSaid : Prop := explicitDeepRow.holds Try.pinned (OpenSpec.ofChange explicitDeepSpec)

/-- ITS FALSE NEIGHBOUR: 'it returns false'. Refute it at one input. -/
def explicitDeepWrong : ChangeSpec := { name := "explicitDeep", fn := fun _ => fun
  | [d1, d2] => { results := [.lit (.bool false)], args := [d1, d2] }
  | _ => none }
def ExplicitDeepWrongFalsely : Prop := explicitDeepRow.holds Try.pinned (OpenSpec.ofChange explicitDeepWrong)

/-- 'colophonlaw07.ExplicitHides': WHATEVER THE INPUT: true; the input reads as it did. -/
def explicitHidesSpec : ChangeSpec := { name := "explicitHides", fn := fun _ => fun
  | [d1, d2, d3, d4] => { results := [.lit (.bool true)], args := [d1, d2, d3, d4] }
  | _ => none }
def explicitHidesRow : OpenClaim := { program := "ythokljlalgclkaa", sum := "1327ecad290edcfa7fe143856c4ca48b1480108c536a5e24ce55a5712778958f", func := "colophon/colophonlaw07.ExplicitHides", spec := "explicitHides", apart := false }
def ExplicitHidesSaid : Prop := explicitHidesRow.holds Try.pinned (OpenSpec.ofChange explicitHidesSpec)

/-- ITS FALSE NEIGHBOUR: 'it returns false'. Refute it at one input. -/
def explicitHidesWrong : ChangeSpec := { name := "explicitHides", fn := fun _ => fun
  | [d1, d2, d3, d4] => { results := [.lit (.bool false)], args := [d1, d2, d3, d4] }
  | _ => none }
def ExplicitHidesWrongFalsely : Prop := explicitHidesRow.holds Try.pinned (OpenSpec.ofChange explicitHidesWrong)

/-- 'colophonlaw07.ExplicitRemoves': WHATEVER THE INPUT: true; the input reads as it did. -/
def explicitRemovesSpec : ChangeSpec := { name := "explicitRemoves", fn := fun _ => fun
  | [d] => { results := [.lit (.bool true)], args := [d] }
  | _ => none }
def explicitRemovesRow : OpenClaim := { program := "ythokljlalgclkaa", sum := "1327ecad290edcfa7fe143856c4ca48b1480108c536a5e24ce55a5712778958f", func := "colophon/colophonlaw07.ExplicitRemoves", spec := "explicitRemoves", apart := false }
def ExplicitRemovesSaid : Prop := explicitRemovesRow.holds Try.pinned (OpenSpec.ofChange explicitRemovesSpec)

/-- ITS FALSE NEIGHBOUR: 'it returns false'. Refute it at one input. -/
def explicitRemovesWrong : ChangeSpec := { name := "explicitRemoves", fn := fun _ => fun
  | [d] => { results := [.lit (.bool false)], args := [d] }
  | _ => none }
def ExplicitRemovesWrongFalsely : Prop := explicitRemovesRow.holds Try.pinned (OpenSpec.ofChange explicitRemovesWrong)

/-- 'colophonlaw07.ExplicitLevels': WHATEVER THE INPUT: true; the input reads as it did. -/
def explicitLevelsSpec : ChangeSpec := { name := "explicitLevels", fn := fun _ => fun
  | [d1, d2] => { results := [.lit (.bool true)], args := [d1, d2] }
  | _ => none }
def explicitLevelsRow : OpenClaim := { program := "ythokljlalgclkaa", sum := "1327ecad290edcfa7fe143856c4ca48b1480108c536a5e24ce55a5712778958f", func := "colophon/colophonlaw07.ExplicitLevels", spec := "explicitLevels", apart := false }
def ExplicitLevelsSaid : Prop := explicitLevelsRow.holds Try.pinned (OpenSpec.ofChange explicitLevelsSpec)

/-- ITS FALSE NEIGHBOUR: 'it returns false'. Refute it at one input. -/
def explicitLevelsWrong : ChangeSpec := { name := "explicitLevels", fn := fun _ => fun
  | [d1, d2] => { results := [.lit (.bool false)], args := [d1, d2] }
  | _ => none }
def ExplicitLevelsWrongFalsely : Prop := explicitLevelsRow.holds Try.pinned (OpenSpec.ofChange explicitLevelsWrong)

/- THE SECOND FORM. 'bulk': how many values and letters a reading holds, each counted each time it is reached (what is shared counts as often as it is met; a slice's spare places count too). A statement '..UptoSaid' is the law's where the arguments, and the package variables that the reading takes, are together of bulk at most 1048576: NARROWER than '..Said'. Prove '..Said' where nothing that the law and all that it calls make is longer than what came in: it says more and counts as full. Else prove '..UptoSaid'. A law counts once. -/
mutual
def uptoBulk {H : Type} : DataW H → Nat
  | .lit (.string bytes) => bytes.length + 1
  | .lit _ => 1
  | .nil => 1
  | .ptr d => uptoBulk d + 1
  | .slice elems spare => uptoBulkAll elems + uptoBulkAll spare + 1
  | .agg parts => uptoBulkAll parts + 1
  | .iface _ d => uptoBulk d + 1
  | .map entries => uptoBulkEntries entries + 1
  | .held _ => 1
def uptoBulkAll {H : Type} : List (DataW H) → Nat
  | [] => 0
  | d :: r => uptoBulk d + uptoBulkAll r
def uptoBulkEntries {H : Type} : List (Lit × DataW H) → Nat
  | [] => 0
  | x :: r => uptoBulkEntry x + uptoBulkEntries r
def uptoBulkEntry {H : Type} : Lit × DataW H → Nat
  | (.string bytes, d) => bytes.length + uptoBulk d + 1
  | (_, d) => uptoBulk d + 1
 end
def uptoSmall : (H : Type) → List (DataW H) → Bool := fun _ ds => decide (uptoBulkAll ds ≤ 1048576)
def OpenSpec.upto (s : _root_.Go.ChangeSpec) : _root_.Go.OpenSpec := { _root_.Go.OpenSpec.ofChange s with cond := some uptoSmall }

/-- 'colophonlaw07.ExplicitResolves', WHERE WHAT IT READS IS OF BULK AT MOST 1048576: true; the input reads as it did. -/
def explicitResolvesUptoRow : OpenClaim := { program := "ythokljlalgclkaa", sum := "1327ecad290edcfa7fe143856c4ca48b1480108c536a5e24ce55a5712778958f", func := "colophon/colophonlaw07.ExplicitResolves", spec := "explicitResolves", apart := false, narrowed := true }
def ExplicitResolvesUptoSaid : Prop := explicitResolvesUptoRow.holds Try.pinned (OpenSpec.upto explicitResolvesSpec)

/-- 'colophonlaw07.ExplicitPairs', WHERE WHAT IT READS IS OF BULK AT MOST 1048576: true; the input reads as it did. -/
def explicitPairsUptoRow : OpenClaim := { program := "ythokljlalgclkaa", sum := "1327ecad290edcfa7fe143856c4ca48b1480108c536a5e24ce55a5712778958f", func := "colophon/colophonlaw07.ExplicitPairs", spec := "explicitPairs", apart := false, narrowed := true }
def ExplicitPairsUptoSaid : Prop := explicitPairsUptoRow.holds Try.pinned (OpenSpec.upto explicitPairsSpec)

/-- 'colophonlaw07.ExplicitDeep', WHERE WHAT IT READS IS OF BULK AT MOST 1048576: true; the input reads as it did. -/
def explicitDeepUptoRow : OpenClaim := { program := "ythokljlalgclkaa", sum := "1327ecad290edcfa7fe143856c4ca48b1480108c536a5e24ce55a5712778958f", func := "colophon/colophonlaw07.ExplicitDeep", spec := "explicitDeep", apart := false, narrowed := true }
def ExplicitDeepUptoSaid : Prop := explicitDeepUptoRow.holds Try.pinned (OpenSpec.upto explicitDeepSpec)

/-- 'colophonlaw07.ExplicitHides', WHERE WHAT IT READS IS OF BULK AT MOST 1048576: true; the input reads as it did. -/
def explicitHidesUptoRow : OpenClaim := { program := "ythokljlalgclkaa", sum := "1327ecad290edcfa7fe143856c4ca48b1480108c536a5e24ce55a5712778958f", func := "colophon/colophonlaw07.ExplicitHides", spec := "explicitHides", apart := false, narrowed := true }
def ExplicitHidesUptoSaid : Prop := explicitHidesUptoRow.holds Try.pinned (OpenSpec.upto explicitHidesSpec)

/-- 'colophonlaw07.ExplicitRemoves', WHERE WHAT IT READS IS OF BULK AT MOST 1048576: true; the input reads as it did. -/
def explicitRemovesUptoRow : OpenClaim := { program := "ythokljlalgclkaa", sum := "1327ecad290edcfa7fe143856c4ca48b1480108c536a5e24ce55a5712778958f", func := "colophon/colophonlaw07.ExplicitRemoves", spec := "explicitRemoves", apart := false, narrowed := true }
def ExplicitRemovesUptoSaid : Prop := explicitRemovesUptoRow.holds Try.pinned (OpenSpec.upto explicitRemovesSpec)

/-- 'colophonlaw07.ExplicitLevels', WHERE WHAT IT READS IS OF BULK AT MOST 1048576: true; the input reads as it did. -/
def explicitLevelsUptoRow : OpenClaim := { program := "ythokljlalgclkaa", sum := "1327ecad290edcfa7fe143856c4ca48b1480108c536a5e24ce55a5712778958f", func := "colophon/colophonlaw07.ExplicitLevels", spec := "explicitLevels", apart := false, narrowed := true }
def ExplicitLevelsUptoSaid : Prop := explicitLevelsUptoRow.holds Try.pinned (OpenSpec.upto explicitLevelsSpec)

end Rows
end Go.Proofs.Ythokljlalgclkaa
