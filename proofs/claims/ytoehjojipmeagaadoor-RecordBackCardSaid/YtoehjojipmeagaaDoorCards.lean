/-
  DERIVED. GIVEN WITH THE SEED: THE CARDS: each row of YtoehjojipmeagaaDoorRows.lean that lists a variable, with what it lists TIED to the program's text (the seventh form; the later family's looks); each row that meets fmt, with fmt's text TOLD by the authors' own Lean function (tested against real Go, not proved from fmt's source: count such statements apart). THE CARD IS WHAT COUNTS. Prove the row's statement (the work); the ties are given (YtoehjojipmeagaaDoorTie.lean); close each card by the builder's one call (the guide's Derived/Test/ToyasCard.lean, 'card_holds'). Laid BY PROGRAM, IN A SANDBOX (cutbox-door.mjs). By AI agents, Wed Nov 11 2026. No macro, syntax, notation, axiom, sorry.
-/
import Derived.Test.YtoehjojipmeagaaDoorRows
import GoSem.ClaimSeven
namespace Go.Proofs.YtoehjojipmeagaaDoor
namespace Rows

/-- THE TIED CARD OF 'colophonlaw18.RecordWrites'. -/
def recordWritesCard : Claim7 := { stood := { row := recordWritesRow, standIns := [], harness := (true, "b680b1cee2a12b905e05c0532c988e24e3fe986819f0ab142e1ed529489c3200"), looks := false }, kinds := [], alts := [], laidByText := true, laidKinds := [.data], laidTests := true, laidLooks := .later }
def RecordWritesCardSaid : Prop := Claim7.holds Tryd.pinned (.plain (OpenSpec.ofChange recordWritesSpec)) recordWritesCard

/-- THE TIED CARD OF 'colophonlaw18.RecordReads'. -/
def recordReadsCard : Claim7 := { stood := { row := recordReadsRow, standIns := [], harness := (true, "b680b1cee2a12b905e05c0532c988e24e3fe986819f0ab142e1ed529489c3200"), looks := false }, kinds := [], alts := [], laidByText := true, laidKinds := [.data], laidTests := true, laidLooks := .later }
def RecordReadsCardSaid : Prop := Claim7.holds Tryd.pinned (.plain (OpenSpec.ofChange recordReadsSpec)) recordReadsCard

/-- THE TIED CARD OF 'colophonlaw18.RecordScans'. -/
def recordScansCard : Claim7 := { stood := { row := recordScansRow, standIns := [], harness := (true, "b680b1cee2a12b905e05c0532c988e24e3fe986819f0ab142e1ed529489c3200"), looks := false }, kinds := [], alts := [], laidByText := true, laidKinds := [.data], laidTests := true, laidLooks := .later }
def RecordScansCardSaid : Prop := Claim7.holds Tryd.pinned (.plain (OpenSpec.ofChange recordScansSpec)) recordScansCard

/-- THE TIED CARD OF 'colophonlaw18.RecordBack'. -/
def recordBackCard : Claim7 := { stood := { row := recordBackRow, standIns := [], harness := (true, "b680b1cee2a12b905e05c0532c988e24e3fe986819f0ab142e1ed529489c3200"), looks := false }, kinds := [], alts := [], laidByText := true, laidKinds := [.data], laidTests := true, laidLooks := .later }
def RecordBackCardSaid : Prop := Claim7.holds Tryd.pinned (.plain (OpenSpec.ofChange recordBackSpec)) recordBackCard

/-- THE TIED CARD OF 'colophonlaw18.RecordTails'. -/
def recordTailsCard : Claim7 := { stood := { row := recordTailsRow, standIns := [], harness := (true, "b680b1cee2a12b905e05c0532c988e24e3fe986819f0ab142e1ed529489c3200"), looks := false }, kinds := [], alts := [], laidByText := true, laidKinds := [.data], laidTests := true, laidLooks := .later }
def RecordTailsCardSaid : Prop := Claim7.holds Tryd.pinned (.plain (OpenSpec.ofChange recordTailsSpec)) recordTailsCard

/-- THE TIED CARD OF 'colophonlaw18.RecordCuts'. -/
def recordCutsCard : Claim7 := { stood := { row := recordCutsRow, standIns := [], harness := (true, "b680b1cee2a12b905e05c0532c988e24e3fe986819f0ab142e1ed529489c3200"), looks := false }, kinds := [], alts := [], laidByText := true, laidKinds := [.data], laidTests := true, laidLooks := .later }
def RecordCutsCardSaid : Prop := Claim7.holds Tryd.pinned (.plain (OpenSpec.ofChange recordCutsSpec)) recordCutsCard

/-- THE TIED CARD OF 'colophonlaw18.RecordTurns'. -/
def recordTurnsCard : Claim7 := { stood := { row := recordTurnsRow, standIns := [], harness := (true, "b680b1cee2a12b905e05c0532c988e24e3fe986819f0ab142e1ed529489c3200"), looks := false }, kinds := [], alts := [], laidByText := true, laidKinds := [.data], laidTests := true, laidLooks := .later }
def RecordTurnsCardSaid : Prop := Claim7.holds Tryd.pinned (.plain (OpenSpec.ofChange recordTurnsSpec)) recordTurnsCard

/-- THE TIED CARD OF 'colophonlaw18.RecordOther'. -/
def recordOtherCard : Claim7 := { stood := { row := recordOtherRow, standIns := [], harness := (true, "b680b1cee2a12b905e05c0532c988e24e3fe986819f0ab142e1ed529489c3200"), looks := false }, kinds := [], alts := [], laidByText := true, laidKinds := [.data], laidTests := true, laidLooks := .later }
def RecordOtherCardSaid : Prop := Claim7.holds Tryd.pinned (.plain (OpenSpec.ofChange recordOtherSpec)) recordOtherCard

/-- THE SECOND FORM's CARD OF 'colophonlaw18.RecordWrites'. -/
def recordWritesUptoCard : Claim7 := { stood := { row := recordWritesUptoRow, standIns := [], harness := (true, "b680b1cee2a12b905e05c0532c988e24e3fe986819f0ab142e1ed529489c3200"), looks := false }, kinds := [], alts := [], laidByText := true, laidKinds := [.data], laidTests := true, laidLooks := .later }
def RecordWritesUptoCardSaid : Prop := Claim7.holds Tryd.pinned (.plain (OpenSpec.upto recordWritesSpec)) recordWritesUptoCard

/-- THE SECOND FORM's CARD OF 'colophonlaw18.RecordReads'. -/
def recordReadsUptoCard : Claim7 := { stood := { row := recordReadsUptoRow, standIns := [], harness := (true, "b680b1cee2a12b905e05c0532c988e24e3fe986819f0ab142e1ed529489c3200"), looks := false }, kinds := [], alts := [], laidByText := true, laidKinds := [.data], laidTests := true, laidLooks := .later }
def RecordReadsUptoCardSaid : Prop := Claim7.holds Tryd.pinned (.plain (OpenSpec.upto recordReadsSpec)) recordReadsUptoCard

/-- THE SECOND FORM's CARD OF 'colophonlaw18.RecordScans'. -/
def recordScansUptoCard : Claim7 := { stood := { row := recordScansUptoRow, standIns := [], harness := (true, "b680b1cee2a12b905e05c0532c988e24e3fe986819f0ab142e1ed529489c3200"), looks := false }, kinds := [], alts := [], laidByText := true, laidKinds := [.data], laidTests := true, laidLooks := .later }
def RecordScansUptoCardSaid : Prop := Claim7.holds Tryd.pinned (.plain (OpenSpec.upto recordScansSpec)) recordScansUptoCard

/-- THE SECOND FORM's CARD OF 'colophonlaw18.RecordBack'. -/
def recordBackUptoCard : Claim7 := { stood := { row := recordBackUptoRow, standIns := [], harness := (true, "b680b1cee2a12b905e05c0532c988e24e3fe986819f0ab142e1ed529489c3200"), looks := false }, kinds := [], alts := [], laidByText := true, laidKinds := [.data], laidTests := true, laidLooks := .later }
def RecordBackUptoCardSaid : Prop := Claim7.holds Tryd.pinned (.plain (OpenSpec.upto recordBackSpec)) recordBackUptoCard

/-- THE SECOND FORM's CARD OF 'colophonlaw18.RecordTails'. -/
def recordTailsUptoCard : Claim7 := { stood := { row := recordTailsUptoRow, standIns := [], harness := (true, "b680b1cee2a12b905e05c0532c988e24e3fe986819f0ab142e1ed529489c3200"), looks := false }, kinds := [], alts := [], laidByText := true, laidKinds := [.data], laidTests := true, laidLooks := .later }
def RecordTailsUptoCardSaid : Prop := Claim7.holds Tryd.pinned (.plain (OpenSpec.upto recordTailsSpec)) recordTailsUptoCard

/-- THE SECOND FORM's CARD OF 'colophonlaw18.RecordCuts'. -/
def recordCutsUptoCard : Claim7 := { stood := { row := recordCutsUptoRow, standIns := [], harness := (true, "b680b1cee2a12b905e05c0532c988e24e3fe986819f0ab142e1ed529489c3200"), looks := false }, kinds := [], alts := [], laidByText := true, laidKinds := [.data], laidTests := true, laidLooks := .later }
def RecordCutsUptoCardSaid : Prop := Claim7.holds Tryd.pinned (.plain (OpenSpec.upto recordCutsSpec)) recordCutsUptoCard

/-- THE SECOND FORM's CARD OF 'colophonlaw18.RecordTurns'. -/
def recordTurnsUptoCard : Claim7 := { stood := { row := recordTurnsUptoRow, standIns := [], harness := (true, "b680b1cee2a12b905e05c0532c988e24e3fe986819f0ab142e1ed529489c3200"), looks := false }, kinds := [], alts := [], laidByText := true, laidKinds := [.data], laidTests := true, laidLooks := .later }
def RecordTurnsUptoCardSaid : Prop := Claim7.holds Tryd.pinned (.plain (OpenSpec.upto recordTurnsSpec)) recordTurnsUptoCard

/-- THE SECOND FORM's CARD OF 'colophonlaw18.RecordOther'. -/
def recordOtherUptoCard : Claim7 := { stood := { row := recordOtherUptoRow, standIns := [], harness := (true, "b680b1cee2a12b905e05c0532c988e24e3fe986819f0ab142e1ed529489c3200"), looks := false }, kinds := [], alts := [], laidByText := true, laidKinds := [.data], laidTests := true, laidLooks := .later }
def RecordOtherUptoCardSaid : Prop := Claim7.holds Tryd.pinned (.plain (OpenSpec.upto recordOtherSpec)) recordOtherUptoCard
end Rows
end Go.Proofs.YtoehjojipmeagaaDoor
