/-
  DERIVED. GIVEN WITH THE SEED: THE CARDS: each row of YthpholjelfajiaaDoorRows.lean that lists a variable, with what it lists TIED to the program's text (the seventh form; the later family's looks); each row that meets fmt, with fmt's text TOLD by the authors' own Lean function (tested against real Go, not proved from fmt's source: count such statements apart). THE CARD IS WHAT COUNTS. Prove the row's statement (the work); the ties are given (YthpholjelfajiaaDoorTie.lean); close each card by the builder's one call (the guide's Derived/Test/ToyasCard.lean, 'card_holds'). Laid BY PROGRAM, IN A SANDBOX (cutbox-door.mjs). By AI agents, Wed Nov 11 2026. No macro, syntax, notation, axiom, sorry.
-/
import Derived.Test.YthpholjelfajiaaDoorRows
import GoSem.ClaimSeven
namespace Go.Proofs.YthpholjelfajiaaDoor
namespace Rows

/-- THE TIED CARD OF 'colophonlaw21.SlotsNobody'. -/
def slotsNobodyCard : Claim7 := { stood := { row := slotsNobodyRow, standIns := [], harness := (true, "89c9ec5095a6ab9f5c1c281c6f4e4e353a7595774843fe4fb46f072196aee5ca"), looks := false }, kinds := [], alts := [], laidByText := true, laidKinds := [.data], laidTests := true, laidLooks := .later }
def SlotsNobodyCardSaid : Prop := Claim7.holds Tryd.pinned (.plain (OpenSpec.ofChange slotsNobodySpec)) slotsNobodyCard

/-- THE TIED CARD OF 'colophonlaw21.SlotsTurns'. -/
def slotsTurnsCard : Claim7 := { stood := { row := slotsTurnsRow, standIns := [], harness := (true, "89c9ec5095a6ab9f5c1c281c6f4e4e353a7595774843fe4fb46f072196aee5ca"), looks := false }, kinds := [], alts := [], laidByText := true, laidKinds := [.data], laidTests := true, laidLooks := .later }
def SlotsTurnsCardSaid : Prop := Claim7.holds Tryd.pinned (.plain (OpenSpec.ofChange slotsTurnsSpec)) slotsTurnsCard

/-- THE TIED CARD OF 'colophonlaw21.SlotsTurned'. -/
def slotsTurnedCard : Claim7 := { stood := { row := slotsTurnedRow, standIns := [], harness := (true, "89c9ec5095a6ab9f5c1c281c6f4e4e353a7595774843fe4fb46f072196aee5ca"), looks := false }, kinds := [], alts := [], laidByText := true, laidKinds := [.data], laidTests := true, laidLooks := .later }
def SlotsTurnedCardSaid : Prop := Claim7.holds Tryd.pinned (.plain (OpenSpec.ofChange slotsTurnedSpec)) slotsTurnedCard

/-- THE TIED CARD OF 'colophonlaw21.SlotsCrash'. -/
def slotsCrashCard : Claim7 := { stood := { row := slotsCrashRow, standIns := [], harness := (true, "89c9ec5095a6ab9f5c1c281c6f4e4e353a7595774843fe4fb46f072196aee5ca"), looks := false }, kinds := [], alts := [], laidByText := true, laidKinds := [.data], laidTests := true, laidLooks := .later }
def SlotsCrashCardSaid : Prop := Claim7.holds Tryd.pinned (.plain (OpenSpec.ofChange slotsCrashSpec)) slotsCrashCard

/-- THE TIED CARD OF 'colophonlaw21.SlotsPlay'. -/
def slotsPlayCard : Claim7 := { stood := { row := slotsPlayRow, standIns := [], harness := (true, "89c9ec5095a6ab9f5c1c281c6f4e4e353a7595774843fe4fb46f072196aee5ca"), looks := false }, kinds := [], alts := [], laidByText := true, laidKinds := [.data], laidTests := true, laidLooks := .later }
def SlotsPlayCardSaid : Prop := Claim7.holds Tryd.pinned (.plain (OpenSpec.ofChange slotsPlaySpec)) slotsPlayCard

/-- THE SECOND FORM's CARD OF 'colophonlaw21.SlotsNobody'. -/
def slotsNobodyUptoCard : Claim7 := { stood := { row := slotsNobodyUptoRow, standIns := [], harness := (true, "89c9ec5095a6ab9f5c1c281c6f4e4e353a7595774843fe4fb46f072196aee5ca"), looks := false }, kinds := [], alts := [], laidByText := true, laidKinds := [.data], laidTests := true, laidLooks := .later }
def SlotsNobodyUptoCardSaid : Prop := Claim7.holds Tryd.pinned (.plain (OpenSpec.upto slotsNobodySpec)) slotsNobodyUptoCard

/-- THE SECOND FORM's CARD OF 'colophonlaw21.SlotsTurns'. -/
def slotsTurnsUptoCard : Claim7 := { stood := { row := slotsTurnsUptoRow, standIns := [], harness := (true, "89c9ec5095a6ab9f5c1c281c6f4e4e353a7595774843fe4fb46f072196aee5ca"), looks := false }, kinds := [], alts := [], laidByText := true, laidKinds := [.data], laidTests := true, laidLooks := .later }
def SlotsTurnsUptoCardSaid : Prop := Claim7.holds Tryd.pinned (.plain (OpenSpec.upto slotsTurnsSpec)) slotsTurnsUptoCard

/-- THE SECOND FORM's CARD OF 'colophonlaw21.SlotsTurned'. -/
def slotsTurnedUptoCard : Claim7 := { stood := { row := slotsTurnedUptoRow, standIns := [], harness := (true, "89c9ec5095a6ab9f5c1c281c6f4e4e353a7595774843fe4fb46f072196aee5ca"), looks := false }, kinds := [], alts := [], laidByText := true, laidKinds := [.data], laidTests := true, laidLooks := .later }
def SlotsTurnedUptoCardSaid : Prop := Claim7.holds Tryd.pinned (.plain (OpenSpec.upto slotsTurnedSpec)) slotsTurnedUptoCard

/-- THE SECOND FORM's CARD OF 'colophonlaw21.SlotsCrash'. -/
def slotsCrashUptoCard : Claim7 := { stood := { row := slotsCrashUptoRow, standIns := [], harness := (true, "89c9ec5095a6ab9f5c1c281c6f4e4e353a7595774843fe4fb46f072196aee5ca"), looks := false }, kinds := [], alts := [], laidByText := true, laidKinds := [.data], laidTests := true, laidLooks := .later }
def SlotsCrashUptoCardSaid : Prop := Claim7.holds Tryd.pinned (.plain (OpenSpec.upto slotsCrashSpec)) slotsCrashUptoCard

/-- THE SECOND FORM's CARD OF 'colophonlaw21.SlotsPlay'. -/
def slotsPlayUptoCard : Claim7 := { stood := { row := slotsPlayUptoRow, standIns := [], harness := (true, "89c9ec5095a6ab9f5c1c281c6f4e4e353a7595774843fe4fb46f072196aee5ca"), looks := false }, kinds := [], alts := [], laidByText := true, laidKinds := [.data], laidTests := true, laidLooks := .later }
def SlotsPlayUptoCardSaid : Prop := Claim7.holds Tryd.pinned (.plain (OpenSpec.upto slotsPlaySpec)) slotsPlayUptoCard
end Rows
end Go.Proofs.YthpholjelfajiaaDoor
