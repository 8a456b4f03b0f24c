/-
  NARROWER THAN 'FOR EVERY INPUT', by the rows' own cells (each row's printed sentence says how): CacheReads: laid · CacheBack: laid · CacheTurned: laid · CacheNobody: laid · CacheKeeps: laid · CachePlays: laid.
  DERIVED. THE GIVEN ROWS OF THIS SEAT. 6 by the template 'for every input the law returns true; each argument reads behind the call as it read before'; 0 by the template 'total and deterministic' (their statements: YtogapedacdnfcaaDoorTotals.lean).
  GIVEN WITH THE SEED: the statements are not yours to turn. If you find one false, say at which input.
  Laid BY PROGRAM, IN A SANDBOX (cutbox-rows.mjs): the forced cells as the released guide's own fill.sh prints them over the translation fdf0ebfc5287bdd6… (all of the seat's roots in one cut). By AI agents, Wed Nov 11 2026. No macro, syntax, notation, axiom, sorry.
-/
import Derived.Test.YtogapedacdnfcaaDoorChecked
import GoSem.Claim
import GoSem.ClaimJoined
import GoSem.ClaimMapViews
import Derived.JoinedTies
import Derived.KernelRfl
namespace Go.Proofs.YtogapedacdnfcaaDoor
/- THE CELL 'sum', in the pinned program and in every row, IS THE sha256 OF THE DUMP (.gsa) THAT YtogapedacdnfcaaDoorProg.lean LOADS. Nothing in Lean hashes anything: it is a label: what it is worth is what the hold of that sum in a sandbox is worth. -/
noncomputable def Tryd.pinned : Pinned := { name := "ytogapedacdnfcaadoor", sum := "fdf0ebfc5287bdd6314cb541ef7682be64a609b4fa3dd1f407a322dd8649876f", checked := Tryd.checked }
namespace Rows
def none {H : Type} : Left H := { results := [], args := [] }

/- WHAT THE LISTED PACKAGE-LEVEL VARIABLES READ AS WHEN THE CALL BEGINS. Each datum BY PROGRAM (the guide's laid-datum.mjs) off the statement by which the dump's own 'gosem.cut.vars' lays the variable. In a bare row this is a premise. The card (YtogapedacdnfcaaDoorCards.lean) ties it to the program's text. -/
def laid_colophon_sums_halves {H : Type} : DataW H := .agg [.lit (.int .u32 0), .lit (.int .u32 498536548), .lit (.int .u32 997073096), .lit (.int .u32 651767980), .lit (.int .u32 1994146192), .lit (.int .u32 1802195444), .lit (.int .u32 1303535960), .lit (.int .u32 1342533948), .lit (.int .u32 3988292384), .lit (.int .u32 4027552580), .lit (.int .u32 3604390888), .lit (.int .u32 3412177804), .lit (.int .u32 2607071920), .lit (.int .u32 2262029012), .lit (.int .u32 2685067896), .lit (.int .u32 3183342108)]

/-- 'colophonlaw25.CacheReads': WHATEVER THE INPUT: true; the input reads as it did. -/
def cacheReadsSpec : ChangeSpec := { name := "cacheReads", fn := fun _ => fun
  | [d1, d2] => { results := [.lit (.bool true)], args := [d1, d2] }
  | _ => none }
def cacheReadsRow : OpenClaim := { program := "ytogapedacdnfcaadoor", sum := "fdf0ebfc5287bdd6314cb541ef7682be64a609b4fa3dd1f407a322dd8649876f", func := "colophon/colophonlaw25.CacheReads", spec := "cacheReads", unfollowed := true, recurses := true, named := ["colophon/sums.halves"], apart := false, laid := [("colophon/sums.halves", laid_colophon_sums_halves)] }
def CacheReadsSaid : Prop := cacheReadsRow.holds Tryd.pinned (OpenSpec.ofChange cacheReadsSpec)

/-- ITS FALSE NEIGHBOUR: 'it returns false'. Refute it at one input. -/
def cacheReadsWrong : ChangeSpec := { name := "cacheReads", fn := fun _ => fun
  | [d1, d2] => { results := [.lit (.bool false)], args := [d1, d2] }
  | _ => none }
def CacheReadsWrongFalsely : Prop := cacheReadsRow.holds Tryd.pinned (OpenSpec.ofChange cacheReadsWrong)

/-- 'colophonlaw25.CacheBack': WHATEVER THE INPUT: true; the input reads as it did. -/
def cacheBackSpec : ChangeSpec := { name := "cacheBack", fn := fun _ => fun
  | [d1, d2] => { results := [.lit (.bool true)], args := [d1, d2] }
  | _ => none }
def cacheBackRow : OpenClaim := { program := "ytogapedacdnfcaadoor", sum := "fdf0ebfc5287bdd6314cb541ef7682be64a609b4fa3dd1f407a322dd8649876f", func := "colophon/colophonlaw25.CacheBack", spec := "cacheBack", unfollowed := true, recurses := true, named := ["colophon/sums.halves"], apart := false, laid := [("colophon/sums.halves", laid_colophon_sums_halves)] }
def CacheBackSaid : Prop := cacheBackRow.holds Tryd.pinned (OpenSpec.ofChange cacheBackSpec)

/-- ITS FALSE NEIGHBOUR: 'it returns false'. Refute it at one input. -/
def cacheBackWrong : ChangeSpec := { name := "cacheBack", fn := fun _ => fun
  | [d1, d2] => { results := [.lit (.bool false)], args := [d1, d2] }
  | _ => none }
def CacheBackWrongFalsely : Prop := cacheBackRow.holds Tryd.pinned (OpenSpec.ofChange cacheBackWrong)

/-- 'colophonlaw25.CacheTurned': WHATEVER THE INPUT: true; the input reads as it did. -/
def cacheTurnedSpec : ChangeSpec := { name := "cacheTurned", fn := fun _ => fun
  | [d1, d2, d3] => { results := [.lit (.bool true)], args := [d1, d2, d3] }
  | _ => none }
def cacheTurnedRow : OpenClaim := { program := "ytogapedacdnfcaadoor", sum := "fdf0ebfc5287bdd6314cb541ef7682be64a609b4fa3dd1f407a322dd8649876f", func := "colophon/colophonlaw25.CacheTurned", spec := "cacheTurned", unfollowed := true, recurses := true, named := ["colophon/sums.halves"], apart := false, laid := [("colophon/sums.halves", laid_colophon_sums_halves)] }
def CacheTurnedSaid : Prop := cacheTurnedRow.holds Tryd.pinned (OpenSpec.ofChange cacheTurnedSpec)

/-- ITS FALSE NEIGHBOUR: 'it returns false'. Refute it at one input. -/
def cacheTurnedWrong : ChangeSpec := { name := "cacheTurned", fn := fun _ => fun
  | [d1, d2, d3] => { results := [.lit (.bool false)], args := [d1, d2, d3] }
  | _ => none }
def CacheTurnedWrongFalsely : Prop := cacheTurnedRow.holds Tryd.pinned (OpenSpec.ofChange cacheTurnedWrong)

/-- 'colophonlaw25.CacheNobody': WHATEVER THE INPUT: true; the input reads as it did. -/
def cacheNobodySpec : ChangeSpec := { name := "cacheNobody", fn := fun _ => fun
  | [d] => { results := [.lit (.bool true)], args := [d] }
  | _ => none }
def cacheNobodyRow : OpenClaim := { program := "ytogapedacdnfcaadoor", sum := "fdf0ebfc5287bdd6314cb541ef7682be64a609b4fa3dd1f407a322dd8649876f", func := "colophon/colophonlaw25.CacheNobody", spec := "cacheNobody", unfollowed := true, recurses := true, named := ["colophon/sums.halves"], apart := false, laid := [("colophon/sums.halves", laid_colophon_sums_halves)] }
def CacheNobodySaid : Prop := cacheNobodyRow.holds Tryd.pinned (OpenSpec.ofChange cacheNobodySpec)

/-- ITS FALSE NEIGHBOUR: 'it returns false'. Refute it at one input. -/
def cacheNobodyWrong : ChangeSpec := { name := "cacheNobody", fn := fun _ => fun
  | [d] => { results := [.lit (.bool false)], args := [d] }
  | _ => none }
def CacheNobodyWrongFalsely : Prop := cacheNobodyRow.holds Tryd.pinned (OpenSpec.ofChange cacheNobodyWrong)

/-- 'colophonlaw25.CacheKeeps': WHATEVER THE INPUT: true; the input reads as it did. -/
def cacheKeepsSpec : ChangeSpec := { name := "cacheKeeps", fn := fun _ => fun
  | [d1, d2] => { results := [.lit (.bool true)], args := [d1, d2] }
  | _ => none }
def cacheKeepsRow : OpenClaim := { program := "ytogapedacdnfcaadoor", sum := "fdf0ebfc5287bdd6314cb541ef7682be64a609b4fa3dd1f407a322dd8649876f", func := "colophon/colophonlaw25.CacheKeeps", spec := "cacheKeeps", unfollowed := true, recurses := true, named := ["colophon/sums.halves"], apart := false, laid := [("colophon/sums.halves", laid_colophon_sums_halves)] }
def CacheKeepsSaid : Prop := cacheKeepsRow.holds Tryd.pinned (OpenSpec.ofChange cacheKeepsSpec)

/-- ITS FALSE NEIGHBOUR: 'it returns false'. Refute it at one input. -/
def cacheKeepsWrong : ChangeSpec := { name := "cacheKeeps", fn := fun _ => fun
  | [d1, d2] => { results := [.lit (.bool false)], args := [d1, d2] }
  | _ => none }
def CacheKeepsWrongFalsely : Prop := cacheKeepsRow.holds Tryd.pinned (OpenSpec.ofChange cacheKeepsWrong)

/-- 'colophonlaw25.CachePlays': WHATEVER THE INPUT: true; the input reads as it did. -/
def cachePlaysSpec : ChangeSpec := { name := "cachePlays", fn := fun _ => fun
  | [d1, d2, d3, d4] => { results := [.lit (.bool true)], args := [d1, d2, d3, d4] }
  | _ => none }
def cachePlaysRow : OpenClaim := { program := "ytogapedacdnfcaadoor", sum := "fdf0ebfc5287bdd6314cb541ef7682be64a609b4fa3dd1f407a322dd8649876f", func := "colophon/colophonlaw25.CachePlays", spec := "cachePlays", unfollowed := true, recurses := true, named := ["colophon/sums.halves"], apart := false, laid := [("colophon/sums.halves", laid_colophon_sums_halves)] }
def CachePlaysSaid : Prop := cachePlaysRow.holds Tryd.pinned (OpenSpec.ofChange cachePlaysSpec)

/-- ITS FALSE NEIGHBOUR: 'it returns false'. Refute it at one input. -/
def cachePlaysWrong : ChangeSpec := { name := "cachePlays", fn := fun _ => fun
  | [d1, d2, d3, d4] => { results := [.lit (.bool false)], args := [d1, d2, d3, d4] }
  | _ => none }
def CachePlaysWrongFalsely : Prop := cachePlaysRow.holds Tryd.pinned (OpenSpec.ofChange cachePlaysWrong)

/- THE SECOND FORM. 'bulk': how many values and letters a reading holds, each counted each time it is reached (what is shared counts as often as it is met; a slice's spare places count too). A statement '..UptoSaid' is the law's where the arguments, and the package variables that the reading takes, are together of bulk at most 1048576: NARROWER than '..Said'. Prove '..Said' where nothing that the law and all that it calls make is longer than what came in: it says more and counts as full. Else prove '..UptoSaid'. A law counts once. -/
mutual
def uptoBulk {H : Type} : DataW H → Nat
  | .lit (.string bytes) => bytes.length + 1
  | .lit _ => 1
  | .nil => 1
  | .ptr d => uptoBulk d + 1
  | .slice elems spare => uptoBulkAll elems + uptoBulkAll spare + 1
  | .agg parts => uptoBulkAll parts + 1
  | .iface _ d => uptoBulk d + 1
  | .map entries => uptoBulkEntries entries + 1
  | .held _ => 1
def uptoBulkAll {H : Type} : List (DataW H) → Nat
  | [] => 0
  | d :: r => uptoBulk d + uptoBulkAll r
def uptoBulkEntries {H : Type} : List (Lit × DataW H) → Nat
  | [] => 0
  | x :: r => uptoBulkEntry x + uptoBulkEntries r
def uptoBulkEntry {H : Type} : Lit × DataW H → Nat
  | (.string bytes, d) => bytes.length + uptoBulk d + 1
  | (_, d) => uptoBulk d + 1
 end
def uptoSmall : (H : Type) → List (DataW H) → Bool := fun _ ds => decide (uptoBulkAll ds ≤ 1048576)
def OpenSpec.upto (s : _root_.Go.ChangeSpec) : _root_.Go.OpenSpec := { _root_.Go.OpenSpec.ofChange s with cond := some uptoSmall }

/-- 'colophonlaw25.CacheReads', WHERE WHAT IT READS IS OF BULK AT MOST 1048576: true; the input reads as it did. -/
def cacheReadsUptoRow : OpenClaim := { program := "ytogapedacdnfcaadoor", sum := "fdf0ebfc5287bdd6314cb541ef7682be64a609b4fa3dd1f407a322dd8649876f", func := "colophon/colophonlaw25.CacheReads", spec := "cacheReads", unfollowed := true, recurses := true, named := ["colophon/sums.halves"], apart := false, laid := [("colophon/sums.halves", laid_colophon_sums_halves)], narrowed := true }
def CacheReadsUptoSaid : Prop := cacheReadsUptoRow.holds Tryd.pinned (OpenSpec.upto cacheReadsSpec)

/-- 'colophonlaw25.CacheBack', WHERE WHAT IT READS IS OF BULK AT MOST 1048576: true; the input reads as it did. -/
def cacheBackUptoRow : OpenClaim := { program := "ytogapedacdnfcaadoor", sum := "fdf0ebfc5287bdd6314cb541ef7682be64a609b4fa3dd1f407a322dd8649876f", func := "colophon/colophonlaw25.CacheBack", spec := "cacheBack", unfollowed := true, recurses := true, named := ["colophon/sums.halves"], apart := false, laid := [("colophon/sums.halves", laid_colophon_sums_halves)], narrowed := true }
def CacheBackUptoSaid : Prop := cacheBackUptoRow.holds Tryd.pinned (OpenSpec.upto cacheBackSpec)

/-- 'colophonlaw25.CacheTurned', WHERE WHAT IT READS IS OF BULK AT MOST 1048576: true; the input reads as it did. -/
def cacheTurnedUptoRow : OpenClaim := { program := "ytogapedacdnfcaadoor", sum := "fdf0ebfc5287bdd6314cb541ef7682be64a609b4fa3dd1f407a322dd8649876f", func := "colophon/colophonlaw25.CacheTurned", spec := "cacheTurned", unfollowed := true, recurses := true, named := ["colophon/sums.halves"], apart := false, laid := [("colophon/sums.halves", laid_colophon_sums_halves)], narrowed := true }
def CacheTurnedUptoSaid : Prop := cacheTurnedUptoRow.holds Tryd.pinned (OpenSpec.upto cacheTurnedSpec)

/-- 'colophonlaw25.CacheNobody', WHERE WHAT IT READS IS OF BULK AT MOST 1048576: true; the input reads as it did. -/
def cacheNobodyUptoRow : OpenClaim := { program := "ytogapedacdnfcaadoor", sum := "fdf0ebfc5287bdd6314cb541ef7682be64a609b4fa3dd1f407a322dd8649876f", func := "colophon/colophonlaw25.CacheNobody", spec := "cacheNobody", unfollowed := true, recurses := true, named := ["colophon/sums.halves"], apart := false, laid := [("colophon/sums.halves", laid_colophon_sums_halves)], narrowed := true }
def CacheNobodyUptoSaid : Prop := cacheNobodyUptoRow.holds Tryd.pinned (OpenSpec.upto cacheNobodySpec)

/-- 'colophonlaw25.CacheKeeps', WHERE WHAT IT READS IS OF BULK AT MOST 1048576: true; the input reads as it did. -/
def cacheKeepsUptoRow : OpenClaim := { program := "ytogapedacdnfcaadoor", sum := "fdf0ebfc5287bdd6314cb541ef7682be64a609b4fa3dd1f407a322dd8649876f", func := "colophon/colophonlaw25.CacheKeeps", spec := "cacheKeeps", unfollowed := true, recurses := true, named := ["colophon/sums.halves"], apart := false, laid := [("colophon/sums.halves", laid_colophon_sums_halves)], narrowed := true }
def CacheKeepsUptoSaid : Prop := cacheKeepsUptoRow.holds Tryd.pinned (OpenSpec.upto cacheKeepsSpec)

/-- 'colophonlaw25.CachePlays', WHERE WHAT IT READS IS OF BULK AT MOST 1048576: true; the input reads as it did. -/
def cachePlaysUptoRow : OpenClaim := { program := "ytogapedacdnfcaadoor", sum := "fdf0ebfc5287bdd6314cb541ef7682be64a609b4fa3dd1f407a322dd8649876f", func := "colophon/colophonlaw25.CachePlays", spec := "cachePlays", unfollowed := true, recurses := true, named := ["colophon/sums.halves"], apart := false, laid := [("colophon/sums.halves", laid_colophon_sums_halves)], narrowed := true }
def CachePlaysUptoSaid : Prop := cachePlaysUptoRow.holds Tryd.pinned (OpenSpec.upto cachePlaysSpec)

end Rows
end Go.Proofs.YtogapedacdnfcaaDoor
