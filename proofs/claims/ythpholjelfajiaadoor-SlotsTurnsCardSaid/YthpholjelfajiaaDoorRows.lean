/-
  NARROWER THAN 'FOR EVERY INPUT', by the rows' own cells (each row's printed sentence says how): SlotsNobody: laid · SlotsTurns: laid · SlotsTurned: laid · SlotsCrash: laid · SlotsPlay: laid.
  DERIVED. THE GIVEN ROWS OF THIS SEAT. 5 by the template 'for every input the law returns true; each argument reads behind the call as it read before'; 0 by the template 'total and deterministic' (their statements: YthpholjelfajiaaDoorTotals.lean).
  GIVEN WITH THE SEED: the statements are not yours to turn. If you find one false, say at which input.
  Laid BY PROGRAM, IN A SANDBOX (cutbox-rows.mjs): the forced cells as the released guide's own fill.sh prints them over the translation ab0b8116d2aa2548… (all of the seat's roots in one cut). By AI agents, Wed Nov 11 2026. No macro, syntax, notation, axiom, sorry.
-/
import Derived.Test.YthpholjelfajiaaDoorChecked
import GoSem.Claim
import GoSem.ClaimJoined
import GoSem.ClaimMapViews
import Derived.JoinedTies
import Derived.KernelRfl
namespace Go.Proofs.YthpholjelfajiaaDoor
/- THE CELL 'sum', in the pinned program and in every row, IS THE sha256 OF THE DUMP (.gsa) THAT YthpholjelfajiaaDoorProg.lean LOADS. Nothing in Lean hashes anything: it is a label: what it is worth is what the hold of that sum in a sandbox is worth. -/
noncomputable def Tryd.pinned : Pinned := { name := "ythpholjelfajiaadoor", sum := "ab0b8116d2aa254815aa550dc2dd9c29d9aa12831e84b4be93a8071c0b67e3c6", checked := Tryd.checked }
namespace Rows
def none {H : Type} : Left H := { results := [], args := [] }

/- WHAT THE LISTED PACKAGE-LEVEL VARIABLES READ AS WHEN THE CALL BEGINS. Each datum BY PROGRAM (the guide's laid-datum.mjs) off the statement by which the dump's own 'gosem.cut.vars' lays the variable. In a bare row this is a premise. The card (YthpholjelfajiaaDoorCards.lean) ties it to the program's text. -/
def laid_colophon_sums_halves {H : Type} : DataW H := .agg [.lit (.int .u32 0), .lit (.int .u32 498536548), .lit (.int .u32 997073096), .lit (.int .u32 651767980), .lit (.int .u32 1994146192), .lit (.int .u32 1802195444), .lit (.int .u32 1303535960), .lit (.int .u32 1342533948), .lit (.int .u32 3988292384), .lit (.int .u32 4027552580), .lit (.int .u32 3604390888), .lit (.int .u32 3412177804), .lit (.int .u32 2607071920), .lit (.int .u32 2262029012), .lit (.int .u32 2685067896), .lit (.int .u32 3183342108)]

/-- 'colophonlaw21.SlotsNobody': WHATEVER THE INPUT: true; the input reads as it did. -/
def slotsNobodySpec : ChangeSpec := { name := "slotsNobody", fn := fun _ => fun
  | [d] => { results := [.lit (.bool true)], args := [d] }
  | _ => none }
def slotsNobodyRow : OpenClaim := { program := "ythpholjelfajiaadoor", sum := "ab0b8116d2aa254815aa550dc2dd9c29d9aa12831e84b4be93a8071c0b67e3c6", func := "colophon/colophonlaw21.SlotsNobody", spec := "slotsNobody", unfollowed := true, recurses := true, named := ["colophon/sums.halves"], apart := false, laid := [("colophon/sums.halves", laid_colophon_sums_halves)] }
def SlotsNobodySaid : Prop := slotsNobodyRow.holds Tryd.pinned (OpenSpec.ofChange slotsNobodySpec)

/-- ITS FALSE NEIGHBOUR: 'it returns false'. Refute it at one input. -/
def slotsNobodyWrong : ChangeSpec := { name := "slotsNobody", fn := fun _ => fun
  | [d] => { results := [.lit (.bool false)], args := [d] }
  | _ => none }
def SlotsNobodyWrongFalsely : Prop := slotsNobodyRow.holds Tryd.pinned (OpenSpec.ofChange slotsNobodyWrong)

/-- 'colophonlaw21.SlotsTurns': WHATEVER THE INPUT: true; the input reads as it did. -/
def slotsTurnsSpec : ChangeSpec := { name := "slotsTurns", fn := fun _ => fun
  | [d1, d2] => { results := [.lit (.bool true)], args := [d1, d2] }
  | _ => none }
def slotsTurnsRow : OpenClaim := { program := "ythpholjelfajiaadoor", sum := "ab0b8116d2aa254815aa550dc2dd9c29d9aa12831e84b4be93a8071c0b67e3c6", func := "colophon/colophonlaw21.SlotsTurns", spec := "slotsTurns", unfollowed := true, recurses := true, named := ["colophon/sums.halves"], apart := false, laid := [("colophon/sums.halves", laid_colophon_sums_halves)] }
def SlotsTurnsSaid : Prop := slotsTurnsRow.holds Tryd.pinned (OpenSpec.ofChange slotsTurnsSpec)

/-- ITS FALSE NEIGHBOUR: 'it returns false'. Refute it at one input. -/
def slotsTurnsWrong : ChangeSpec := { name := "slotsTurns", fn := fun _ => fun
  | [d1, d2] => { results := [.lit (.bool false)], args := [d1, d2] }
  | _ => none }
def SlotsTurnsWrongFalsely : Prop := slotsTurnsRow.holds Tryd.pinned (OpenSpec.ofChange slotsTurnsWrong)

/-- 'colophonlaw21.SlotsTurned': WHATEVER THE INPUT: true; the input reads as it did. -/
def slotsTurnedSpec : ChangeSpec := { name := "slotsTurned", fn := fun _ => fun
  | [d1, d2, d3, d4] => { results := [.lit (.bool true)], args := [d1, d2, d3, d4] }
  | _ => none }
def slotsTurnedRow : OpenClaim := { program := "ythpholjelfajiaadoor", sum := "ab0b8116d2aa254815aa550dc2dd9c29d9aa12831e84b4be93a8071c0b67e3c6", func := "colophon/colophonlaw21.SlotsTurned", spec := "slotsTurned", unfollowed := true, recurses := true, named := ["colophon/sums.halves"], apart := false, laid := [("colophon/sums.halves", laid_colophon_sums_halves)] }
def SlotsTurnedSaid : Prop := slotsTurnedRow.holds Tryd.pinned (OpenSpec.ofChange slotsTurnedSpec)

/-- ITS FALSE NEIGHBOUR: 'it returns false'. Refute it at one input. -/
def slotsTurnedWrong : ChangeSpec := { name := "slotsTurned", fn := fun _ => fun
  | [d1, d2, d3, d4] => { results := [.lit (.bool false)], args := [d1, d2, d3, d4] }
  | _ => none }
def SlotsTurnedWrongFalsely : Prop := slotsTurnedRow.holds Tryd.pinned (OpenSpec.ofChange slotsTurnedWrong)

/-- 'colophonlaw21.SlotsCrash': WHATEVER THE INPUT: true; the input reads as it did. -/
def slotsCrashSpec : ChangeSpec := { name := "slotsCrash", fn := fun _ => fun
  | [d1, d2, d3, d4] => { results := [.lit (.bool true)], args := [d1, d2, d3, d4] }
  | _ => none }
def slotsCrashRow : OpenClaim := { program := "ythpholjelfajiaadoor", sum := "ab0b8116d2aa254815aa550dc2dd9c29d9aa12831e84b4be93a8071c0b67e3c6", func := "colophon/colophonlaw21.SlotsCrash", spec := "slotsCrash", unfollowed := true, recurses := true, named := ["colophon/sums.halves"], apart := false, laid := [("colophon/sums.halves", laid_colophon_sums_halves)] }
def SlotsCrashSaid : Prop := slotsCrashRow.holds Tryd.pinned (OpenSpec.ofChange slotsCrashSpec)

/-- ITS FALSE NEIGHBOUR: 'it returns false'. Refute it at one input. -/
def slotsCrashWrong : ChangeSpec := { name := "slotsCrash", fn := fun _ => fun
  | [d1, d2, d3, d4] => { results := [.lit (.bool false)], args := [d1, d2, d3, d4] }
  | _ => none }
def SlotsCrashWrongFalsely : Prop := slotsCrashRow.holds Tryd.pinned (OpenSpec.ofChange slotsCrashWrong)

/-- 'colophonlaw21.SlotsPlay': WHATEVER THE INPUT: true; the input reads as it did. -/
def slotsPlaySpec : ChangeSpec := { name := "slotsPlay", fn := fun _ => fun
  | [d1, d2, d3, d4] => { results := [.lit (.bool true)], args := [d1, d2, d3, d4] }
  | _ => none }
def slotsPlayRow : OpenClaim := { program := "ythpholjelfajiaadoor", sum := "ab0b8116d2aa254815aa550dc2dd9c29d9aa12831e84b4be93a8071c0b67e3c6", func := "colophon/colophonlaw21.SlotsPlay", spec := "slotsPlay", unfollowed := true, recurses := true, named := ["colophon/sums.halves"], apart := false, laid := [("colophon/sums.halves", laid_colophon_sums_halves)] }
def SlotsPlaySaid : Prop := slotsPlayRow.holds Tryd.pinned (OpenSpec.ofChange slotsPlaySpec)

/-- ITS FALSE NEIGHBOUR: 'it returns false'. Refute it at one input. -/
def slotsPlayWrong : ChangeSpec := { name := "slotsPlay", fn := fun _ => fun
  | [d1, d2, d3, d4] => { results := [.lit (.bool false)], args := [d1, d2, d3, d4] }
  | _ => none }
def SlotsPlayWrongFalsely : Prop := slotsPlayRow.holds Tryd.pinned (OpenSpec.ofChange slotsPlayWrong)

/- THE SECOND FORM. 'bulk': how many values and letters a reading holds, each counted each time it is reached (what is shared counts as often as it is met; a slice's spare places count too). A statement '..UptoSaid' is the law's where the arguments, and the package variables that the reading takes, are together of bulk at most 1048576: NARROWER than '..Said'. Prove '..Said' where nothing that the law and all that it calls make is longer than what came in: it says more and counts as full. Else prove '..UptoSaid'. A law counts once. -/
mutual
def uptoBulk {H : Type} : DataW H → Nat
  | .lit (.string bytes) => bytes.length + 1
  | .lit _ => 1
  | .nil => 1
  | .ptr d => uptoBulk d + 1
  | .slice elems spare => uptoBulkAll elems + uptoBulkAll spare + 1
  | .agg parts => uptoBulkAll parts + 1
  | .iface _ d => uptoBulk d + 1
  | .map entries => uptoBulkEntries entries + 1
  | .held _ => 1
def uptoBulkAll {H : Type} : List (DataW H) → Nat
  | [] => 0
  | d :: r => uptoBulk d + uptoBulkAll r
def uptoBulkEntries {H : Type} : List (Lit × DataW H) → Nat
  | [] => 0
  | x :: r => uptoBulkEntry x + uptoBulkEntries r
def uptoBulkEntry {H : Type} : Lit × DataW H → Nat
  | (.string bytes, d) => bytes.length + uptoBulk d + 1
  | (_, d) => uptoBulk d + 1
 end
def uptoSmall : (H : Type) → List (DataW H) → Bool := fun _ ds => decide (uptoBulkAll ds ≤ 1048576)
def OpenSpec.upto (s : _root_.Go.ChangeSpec) : _root_.Go.OpenSpec := { _root_.Go.OpenSpec.ofChange s with cond := some uptoSmall }

/-- 'colophonlaw21.SlotsNobody', WHERE WHAT IT READS IS OF BULK AT MOST 1048576: true; the input reads as it did. -/
def slotsNobodyUptoRow : OpenClaim := { program := "ythpholjelfajiaadoor", sum := "ab0b8116d2aa254815aa550dc2dd9c29d9aa12831e84b4be93a8071c0b67e3c6", func := "colophon/colophonlaw21.SlotsNobody", spec := "slotsNobody", unfollowed := true, recurses := true, named := ["colophon/sums.halves"], apart := false, laid := [("colophon/sums.halves", laid_colophon_sums_halves)], narrowed := true }
def SlotsNobodyUptoSaid : Prop := slotsNobodyUptoRow.holds Tryd.pinned (OpenSpec.upto slotsNobodySpec)

/-- 'colophonlaw21.SlotsTurns', WHERE WHAT IT READS IS OF BULK AT MOST 1048576: true; the input reads as it did. -/
def slotsTurnsUptoRow : OpenClaim := { program := "ythpholjelfajiaadoor", sum := "ab0b8116d2aa254815aa550dc2dd9c29d9aa12831e84b4be93a8071c0b67e3c6", func := "colophon/colophonlaw21.SlotsTurns", spec := "slotsTurns", unfollowed := true, recurses := true, named := ["colophon/sums.halves"], apart := false, laid := [("colophon/sums.halves", laid_colophon_sums_halves)], narrowed := true }
def SlotsTurnsUptoSaid : Prop := slotsTurnsUptoRow.holds Tryd.pinned (OpenSpec.upto slotsTurnsSpec)

/-- 'colophonlaw21.SlotsTurned', WHERE WHAT IT READS IS OF BULK AT MOST 1048576: true; the input reads as it did. -/
def slotsTurnedUptoRow : OpenClaim := { program := "ythpholjelfajiaadoor", sum := "ab0b8116d2aa254815aa550dc2dd9c29d9aa12831e84b4be93a8071c0b67e3c6", func := "colophon/colophonlaw21.SlotsTurned", spec := "slotsTurned", unfollowed := true, recurses := true, named := ["colophon/sums.halves"], apart := false, laid := [("colophon/sums.halves", laid_colophon_sums_halves)], narrowed := true }
def SlotsTurnedUptoSaid : Prop := slotsTurnedUptoRow.holds Tryd.pinned (OpenSpec.upto slotsTurnedSpec)

/-- 'colophonlaw21.SlotsCrash', WHERE WHAT IT READS IS OF BULK AT MOST 1048576: true; the input reads as it did. -/
def slotsCrashUptoRow : OpenClaim := { program := "ythpholjelfajiaadoor", sum := "ab0b8116d2aa254815aa550dc2dd9c29d9aa12831e84b4be93a8071c0b67e3c6", func := "colophon/colophonlaw21.SlotsCrash", spec := "slotsCrash", unfollowed := true, recurses := true, named := ["colophon/sums.halves"], apart := false, laid := [("colophon/sums.halves", laid_colophon_sums_halves)], narrowed := true }
def SlotsCrashUptoSaid : Prop := slotsCrashUptoRow.holds Tryd.pinned (OpenSpec.upto slotsCrashSpec)

/-- 'colophonlaw21.SlotsPlay', WHERE WHAT IT READS IS OF BULK AT MOST 1048576: true; the input reads as it did. -/
def slotsPlayUptoRow : OpenClaim := { program := "ythpholjelfajiaadoor", sum := "ab0b8116d2aa254815aa550dc2dd9c29d9aa12831e84b4be93a8071c0b67e3c6", func := "colophon/colophonlaw21.SlotsPlay", spec := "slotsPlay", unfollowed := true, recurses := true, named := ["colophon/sums.halves"], apart := false, laid := [("colophon/sums.halves", laid_colophon_sums_halves)], narrowed := true }
def SlotsPlayUptoSaid : Prop := slotsPlayUptoRow.holds Tryd.pinned (OpenSpec.upto slotsPlaySpec)

end Rows
end Go.Proofs.YthpholjelfajiaaDoor
