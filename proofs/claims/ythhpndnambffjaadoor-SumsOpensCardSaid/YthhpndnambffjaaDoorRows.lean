/-
  NARROWER THAN 'FOR EVERY INPUT', by the rows' own cells (each row's printed sentence says how): SumsCrcs: laid · SumsOpens: laid · SumsParts: laid · SumsMixes: laid · SumsApart: laid · SumsBack: laid · SumsBursts: laid.
  DERIVED. THE GIVEN ROWS OF THIS SEAT. 7 by the template 'for every input the law returns true; each argument reads behind the call as it read before'; 0 by the template 'total and deterministic' (their statements: YthhpndnambffjaaDoorTotals.lean).
  GIVEN WITH THE SEED: the statements are not yours to turn. If you find one false, say at which input.
  Laid BY PROGRAM, IN A SANDBOX (cutbox-rows.mjs): the forced cells as the released guide's own fill.sh prints them over the translation d3451a72a42d6e95… (all of the seat's roots in one cut). By AI agents, Wed Nov 11 2026. No macro, syntax, notation, axiom, sorry.
-/
import Derived.Test.YthhpndnambffjaaDoorChecked
import GoSem.Claim
import GoSem.ClaimJoined
import GoSem.ClaimMapViews
import Derived.JoinedTies
import Derived.KernelRfl
namespace Go.Proofs.YthhpndnambffjaaDoor
/- THE CELL 'sum', in the pinned program and in every row, IS THE sha256 OF THE DUMP (.gsa) THAT YthhpndnambffjaaDoorProg.lean LOADS. Nothing in Lean hashes anything: it is a label: what it is worth is what the hold of that sum in a sandbox is worth. -/
noncomputable def Tryd.pinned : Pinned := { name := "ythhpndnambffjaadoor", sum := "d3451a72a42d6e959e96c44b1c086bfe82276116078e5925656ad57582451e94", checked := Tryd.checked }
namespace Rows
def none {H : Type} : Left H := { results := [], args := [] }

/- WHAT THE LISTED PACKAGE-LEVEL VARIABLES READ AS WHEN THE CALL BEGINS. Each datum BY PROGRAM (the guide's laid-datum.mjs) off the statement by which the dump's own 'gosem.cut.vars' lays the variable. In a bare row this is a premise. The card (YthhpndnambffjaaDoorCards.lean) ties it to the program's text. -/
def laid_colophon_sums_halves {H : Type} : DataW H := .agg [.lit (.int .u32 0), .lit (.int .u32 498536548), .lit (.int .u32 997073096), .lit (.int .u32 651767980), .lit (.int .u32 1994146192), .lit (.int .u32 1802195444), .lit (.int .u32 1303535960), .lit (.int .u32 1342533948), .lit (.int .u32 3988292384), .lit (.int .u32 4027552580), .lit (.int .u32 3604390888), .lit (.int .u32 3412177804), .lit (.int .u32 2607071920), .lit (.int .u32 2262029012), .lit (.int .u32 2685067896), .lit (.int .u32 3183342108)]

/-- 'colophonlaw02.SumsCrcs': WHATEVER THE INPUT: true; the input reads as it did. -/
def sumsCrcsSpec : ChangeSpec := { name := "sumsCrcs", fn := fun _ => fun
  | [d] => { results := [.lit (.bool true)], args := [d] }
  | _ => none }
def sumsCrcsRow : OpenClaim := { program := "ythhpndnambffjaadoor", sum := "d3451a72a42d6e959e96c44b1c086bfe82276116078e5925656ad57582451e94", func := "colophon/colophonlaw02.SumsCrcs", spec := "sumsCrcs", named := ["colophon/sums.halves"], apart := false, laid := [("colophon/sums.halves", laid_colophon_sums_halves)] }
def SumsCrcsSaid : Prop := sumsCrcsRow.holds Tryd.pinned (OpenSpec.ofChange sumsCrcsSpec)

/-- ITS FALSE NEIGHBOUR: 'it returns false'. Refute it at one input. -/
def sumsCrcsWrong : ChangeSpec := { name := "sumsCrcs", fn := fun _ => fun
  | [d] => { results := [.lit (.bool false)], args := [d] }
  | _ => none }
def SumsCrcsWrongFalsely : Prop := sumsCrcsRow.holds Tryd.pinned (OpenSpec.ofChange sumsCrcsWrong)

/-- 'colophonlaw02.SumsOpens': WHATEVER THE INPUT: true; the input reads as it did. -/
def sumsOpensSpec : ChangeSpec := { name := "sumsOpens", fn := fun _ => fun
  | [d] => { results := [.lit (.bool true)], args := [d] }
  | _ => none }
def sumsOpensRow : OpenClaim := { program := "ythhpndnambffjaadoor", sum := "d3451a72a42d6e959e96c44b1c086bfe82276116078e5925656ad57582451e94", func := "colophon/colophonlaw02.SumsOpens", spec := "sumsOpens", named := ["colophon/sums.halves"], apart := false, laid := [("colophon/sums.halves", laid_colophon_sums_halves)] }
def SumsOpensSaid : Prop := sumsOpensRow.holds Tryd.pinned (OpenSpec.ofChange sumsOpensSpec)

/-- ITS FALSE NEIGHBOUR: 'it returns false'. Refute it at one input. -/
def sumsOpensWrong : ChangeSpec := { name := "sumsOpens", fn := fun _ => fun
  | [d] => { results := [.lit (.bool false)], args := [d] }
  | _ => none }
def SumsOpensWrongFalsely : Prop := sumsOpensRow.holds Tryd.pinned (OpenSpec.ofChange sumsOpensWrong)

/-- 'colophonlaw02.SumsParts': WHATEVER THE INPUT: true; the input reads as it did. -/
def sumsPartsSpec : ChangeSpec := { name := "sumsParts", fn := fun _ => fun
  | [d1, d2] => { results := [.lit (.bool true)], args := [d1, d2] }
  | _ => none }
def sumsPartsRow : OpenClaim := { program := "ythhpndnambffjaadoor", sum := "d3451a72a42d6e959e96c44b1c086bfe82276116078e5925656ad57582451e94", func := "colophon/colophonlaw02.SumsParts", spec := "sumsParts", named := ["colophon/sums.halves"], apart := false, laid := [("colophon/sums.halves", laid_colophon_sums_halves)] }
def SumsPartsSaid : Prop := sumsPartsRow.holds Tryd.pinned (OpenSpec.ofChange sumsPartsSpec)

/-- ITS FALSE NEIGHBOUR: 'it returns false'. Refute it at one input. -/
def sumsPartsWrong : ChangeSpec := { name := "sumsParts", fn := fun _ => fun
  | [d1, d2] => { results := [.lit (.bool false)], args := [d1, d2] }
  | _ => none }
def SumsPartsWrongFalsely : Prop := sumsPartsRow.holds Tryd.pinned (OpenSpec.ofChange sumsPartsWrong)

/-- 'colophonlaw02.SumsMixes': WHATEVER THE INPUT: true; the input reads as it did. -/
def sumsMixesSpec : ChangeSpec := { name := "sumsMixes", fn := fun _ => fun
  | [d1, d2, d3] => { results := [.lit (.bool true)], args := [d1, d2, d3] }
  | _ => none }
def sumsMixesRow : OpenClaim := { program := "ythhpndnambffjaadoor", sum := "d3451a72a42d6e959e96c44b1c086bfe82276116078e5925656ad57582451e94", func := "colophon/colophonlaw02.SumsMixes", spec := "sumsMixes", named := ["colophon/sums.halves"], apart := false, laid := [("colophon/sums.halves", laid_colophon_sums_halves)] }
def SumsMixesSaid : Prop := sumsMixesRow.holds Tryd.pinned (OpenSpec.ofChange sumsMixesSpec)

/-- ITS FALSE NEIGHBOUR: 'it returns false'. Refute it at one input. -/
def sumsMixesWrong : ChangeSpec := { name := "sumsMixes", fn := fun _ => fun
  | [d1, d2, d3] => { results := [.lit (.bool false)], args := [d1, d2, d3] }
  | _ => none }
def SumsMixesWrongFalsely : Prop := sumsMixesRow.holds Tryd.pinned (OpenSpec.ofChange sumsMixesWrong)

/-- 'colophonlaw02.SumsApart': WHATEVER THE INPUT: true; the input reads as it did. -/
def sumsApartSpec : ChangeSpec := { name := "sumsApart", fn := fun _ => fun
  | [d1, d2, d3] => { results := [.lit (.bool true)], args := [d1, d2, d3] }
  | _ => none }
def sumsApartRow : OpenClaim := { program := "ythhpndnambffjaadoor", sum := "d3451a72a42d6e959e96c44b1c086bfe82276116078e5925656ad57582451e94", func := "colophon/colophonlaw02.SumsApart", spec := "sumsApart", named := ["colophon/sums.halves"], apart := false, laid := [("colophon/sums.halves", laid_colophon_sums_halves)] }
def SumsApartSaid : Prop := sumsApartRow.holds Tryd.pinned (OpenSpec.ofChange sumsApartSpec)

/-- ITS FALSE NEIGHBOUR: 'it returns false'. Refute it at one input. -/
def sumsApartWrong : ChangeSpec := { name := "sumsApart", fn := fun _ => fun
  | [d1, d2, d3] => { results := [.lit (.bool false)], args := [d1, d2, d3] }
  | _ => none }
def SumsApartWrongFalsely : Prop := sumsApartRow.holds Tryd.pinned (OpenSpec.ofChange sumsApartWrong)

/-- 'colophonlaw02.SumsBack': WHATEVER THE INPUT: true; the input reads as it did. -/
def sumsBackSpec : ChangeSpec := { name := "sumsBack", fn := fun _ => fun
  | [d] => { results := [.lit (.bool true)], args := [d] }
  | _ => none }
def sumsBackRow : OpenClaim := { program := "ythhpndnambffjaadoor", sum := "d3451a72a42d6e959e96c44b1c086bfe82276116078e5925656ad57582451e94", func := "colophon/colophonlaw02.SumsBack", spec := "sumsBack", named := ["colophon/sums.halves"], apart := false, laid := [("colophon/sums.halves", laid_colophon_sums_halves)] }
def SumsBackSaid : Prop := sumsBackRow.holds Tryd.pinned (OpenSpec.ofChange sumsBackSpec)

/-- ITS FALSE NEIGHBOUR: 'it returns false'. Refute it at one input. -/
def sumsBackWrong : ChangeSpec := { name := "sumsBack", fn := fun _ => fun
  | [d] => { results := [.lit (.bool false)], args := [d] }
  | _ => none }
def SumsBackWrongFalsely : Prop := sumsBackRow.holds Tryd.pinned (OpenSpec.ofChange sumsBackWrong)

/-- 'colophonlaw02.SumsBursts': WHATEVER THE INPUT: true; the input reads as it did. -/
def sumsBurstsSpec : ChangeSpec := { name := "sumsBursts", fn := fun _ => fun
  | [d1, d2, d3] => { results := [.lit (.bool true)], args := [d1, d2, d3] }
  | _ => none }
def sumsBurstsRow : OpenClaim := { program := "ythhpndnambffjaadoor", sum := "d3451a72a42d6e959e96c44b1c086bfe82276116078e5925656ad57582451e94", func := "colophon/colophonlaw02.SumsBursts", spec := "sumsBursts", named := ["colophon/sums.halves"], apart := false, laid := [("colophon/sums.halves", laid_colophon_sums_halves)] }
def SumsBurstsSaid : Prop := sumsBurstsRow.holds Tryd.pinned (OpenSpec.ofChange sumsBurstsSpec)

/-- ITS FALSE NEIGHBOUR: 'it returns false'. Refute it at one input. -/
def sumsBurstsWrong : ChangeSpec := { name := "sumsBursts", fn := fun _ => fun
  | [d1, d2, d3] => { results := [.lit (.bool false)], args := [d1, d2, d3] }
  | _ => none }
def SumsBurstsWrongFalsely : Prop := sumsBurstsRow.holds Tryd.pinned (OpenSpec.ofChange sumsBurstsWrong)

/- THE SECOND FORM. 'bulk': how many values and letters a reading holds, each counted each time it is reached (what is shared counts as often as it is met; a slice's spare places count too). A statement '..UptoSaid' is the law's where the arguments, and the package variables that the reading takes, are together of bulk at most 1048576: NARROWER than '..Said'. Prove '..Said' where nothing that the law and all that it calls make is longer than what came in: it says more and counts as full. Else prove '..UptoSaid'. A law counts once. -/
mutual
def uptoBulk {H : Type} : DataW H → Nat
  | .lit (.string bytes) => bytes.length + 1
  | .lit _ => 1
  | .nil => 1
  | .ptr d => uptoBulk d + 1
  | .slice elems spare => uptoBulkAll elems + uptoBulkAll spare + 1
  | .agg parts => uptoBulkAll parts + 1
  | .iface _ d => uptoBulk d + 1
  | .map entries => uptoBulkEntries entries + 1
  | .held _ => 1
def uptoBulkAll {H : Type} : List (DataW H) → Nat
  | [] => 0
  | d :: r => uptoBulk d + uptoBulkAll r
def uptoBulkEntries {H : Type} : List (Lit × DataW H) → Nat
  | [] => 0
  | x :: r => uptoBulkEntry x + uptoBulkEntries r
def uptoBulkEntry {H : Type} : Lit × DataW H → Nat
  | (.string bytes, d) => bytes.length + uptoBulk d + 1
  | (_, d) => uptoBulk d + 1
 end
def uptoSmall : (H : Type) → List (DataW H) → Bool := fun _ ds => decide (uptoBulkAll ds ≤ 1048576)
def OpenSpec.upto (s : _root_.Go.ChangeSpec) : _root_.Go.OpenSpec := { _root_.Go.OpenSpec.ofChange s with cond := some uptoSmall }

/-- 'colophonlaw02.SumsCrcs', WHERE WHAT IT READS IS OF BULK AT MOST 1048576: true; the input reads as it did. -/
def sumsCrcsUptoRow : OpenClaim := { program := "ythhpndnambffjaadoor", sum := "d3451a72a42d6e959e96c44b1c086bfe82276116078e5925656ad57582451e94", func := "colophon/colophonlaw02.SumsCrcs", spec := "sumsCrcs", named := ["colophon/sums.halves"], apart := false, laid := [("colophon/sums.halves", laid_colophon_sums_halves)], narrowed := true }
def SumsCrcsUptoSaid : Prop := sumsCrcsUptoRow.holds Tryd.pinned (OpenSpec.upto sumsCrcsSpec)

/-- 'colophonlaw02.SumsOpens', WHERE WHAT IT READS IS OF BULK AT MOST 1048576: true; the input reads as it did. -/
def sumsOpensUptoRow : OpenClaim := { program := "ythhpndnambffjaadoor", sum := "d3451a72a42d6e959e96c44b1c086bfe82276116078e5925656ad57582451e94", func := "colophon/colophonlaw02.SumsOpens", spec := "sumsOpens", named := ["colophon/sums.halves"], apart := false, laid := [("colophon/sums.halves", laid_colophon_sums_halves)], narrowed := true }
def SumsOpensUptoSaid : Prop := sumsOpensUptoRow.holds Tryd.pinned (OpenSpec.upto sumsOpensSpec)

/-- 'colophonlaw02.SumsParts', WHERE WHAT IT READS IS OF BULK AT MOST 1048576: true; the input reads as it did. -/
def sumsPartsUptoRow : OpenClaim := { program := "ythhpndnambffjaadoor", sum := "d3451a72a42d6e959e96c44b1c086bfe82276116078e5925656ad57582451e94", func := "colophon/colophonlaw02.SumsParts", spec := "sumsParts", named := ["colophon/sums.halves"], apart := false, laid := [("colophon/sums.halves", laid_colophon_sums_halves)], narrowed := true }
def SumsPartsUptoSaid : Prop := sumsPartsUptoRow.holds Tryd.pinned (OpenSpec.upto sumsPartsSpec)

/-- 'colophonlaw02.SumsMixes', WHERE WHAT IT READS IS OF BULK AT MOST 1048576: true; the input reads as it did. -/
def sumsMixesUptoRow : OpenClaim := { program := "ythhpndnambffjaadoor", sum := "d3451a72a42d6e959e96c44b1c086bfe82276116078e5925656ad57582451e94", func := "colophon/colophonlaw02.SumsMixes", spec := "sumsMixes", named := ["colophon/sums.halves"], apart := false, laid := [("colophon/sums.halves", laid_colophon_sums_halves)], narrowed := true }
def SumsMixesUptoSaid : Prop := sumsMixesUptoRow.holds Tryd.pinned (OpenSpec.upto sumsMixesSpec)

/-- 'colophonlaw02.SumsApart', WHERE WHAT IT READS IS OF BULK AT MOST 1048576: true; the input reads as it did. -/
def sumsApartUptoRow : OpenClaim := { program := "ythhpndnambffjaadoor", sum := "d3451a72a42d6e959e96c44b1c086bfe82276116078e5925656ad57582451e94", func := "colophon/colophonlaw02.SumsApart", spec := "sumsApart", named := ["colophon/sums.halves"], apart := false, laid := [("colophon/sums.halves", laid_colophon_sums_halves)], narrowed := true }
def SumsApartUptoSaid : Prop := sumsApartUptoRow.holds Tryd.pinned (OpenSpec.upto sumsApartSpec)

/-- 'colophonlaw02.SumsBack', WHERE WHAT IT READS IS OF BULK AT MOST 1048576: true; the input reads as it did. -/
def sumsBackUptoRow : OpenClaim := { program := "ythhpndnambffjaadoor", sum := "d3451a72a42d6e959e96c44b1c086bfe82276116078e5925656ad57582451e94", func := "colophon/colophonlaw02.SumsBack", spec := "sumsBack", named := ["colophon/sums.halves"], apart := false, laid := [("colophon/sums.halves", laid_colophon_sums_halves)], narrowed := true }
def SumsBackUptoSaid : Prop := sumsBackUptoRow.holds Tryd.pinned (OpenSpec.upto sumsBackSpec)

/-- 'colophonlaw02.SumsBursts', WHERE WHAT IT READS IS OF BULK AT MOST 1048576: true; the input reads as it did. -/
def sumsBurstsUptoRow : OpenClaim := { program := "ythhpndnambffjaadoor", sum := "d3451a72a42d6e959e96c44b1c086bfe82276116078e5925656ad57582451e94", func := "colophon/colophonlaw02.SumsBursts", spec := "sumsBursts", named := ["colophon/sums.halves"], apart := false, laid := [("colophon/sums.halves", laid_colophon_sums_halves)], narrowed := true }
def SumsBurstsUptoSaid : Prop := sumsBurstsUptoRow.holds Tryd.pinned (OpenSpec.upto sumsBurstsSpec)

end Rows
end Go.Proofs.YthhpndnambffjaaDoor
