/-
  DERIVED. GIVEN WITH THE SEED: THE CARDS: each row of YthhpndnambffjaaDoorRows.lean that lists a variable, with what it lists TIED to the program's text (the seventh form; the later family's looks); each row that meets fmt, with fmt's text TOLD by the authors' own Lean function (tested against real Go, not proved from fmt's source: count such statements apart). THE CARD IS WHAT COUNTS. Prove the row's statement (the work); the ties are given (YthhpndnambffjaaDoorTie.lean); close each card by the builder's one call (the guide's Derived/Test/ToyasCard.lean, 'card_holds'). Laid BY PROGRAM, IN A SANDBOX (cutbox-door.mjs). By AI agents, Wed Nov 11 2026. No macro, syntax, notation, axiom, sorry.
-/
import Derived.Test.YthhpndnambffjaaDoorRows
import GoSem.ClaimSeven
namespace Go.Proofs.YthhpndnambffjaaDoor
namespace Rows

/-- THE TIED CARD OF 'colophonlaw02.SumsCrcs'. -/
def sumsCrcsCard : Claim7 := { stood := { row := sumsCrcsRow, standIns := [], harness := (true, "4d63ad6aca01c4cdddc2a22f5ddbc379914cd0876cedb167f74b1c88712c7b3e"), looks := false }, kinds := [], alts := [], laidByText := true, laidKinds := [.data], laidTests := true, laidLooks := .later }
def SumsCrcsCardSaid : Prop := Claim7.holds Tryd.pinned (.plain (OpenSpec.ofChange sumsCrcsSpec)) sumsCrcsCard

/-- THE TIED CARD OF 'colophonlaw02.SumsOpens'. -/
def sumsOpensCard : Claim7 := { stood := { row := sumsOpensRow, standIns := [], harness := (true, "4d63ad6aca01c4cdddc2a22f5ddbc379914cd0876cedb167f74b1c88712c7b3e"), looks := false }, kinds := [], alts := [], laidByText := true, laidKinds := [.data], laidTests := true, laidLooks := .later }
def SumsOpensCardSaid : Prop := Claim7.holds Tryd.pinned (.plain (OpenSpec.ofChange sumsOpensSpec)) sumsOpensCard

/-- THE TIED CARD OF 'colophonlaw02.SumsParts'. -/
def sumsPartsCard : Claim7 := { stood := { row := sumsPartsRow, standIns := [], harness := (true, "4d63ad6aca01c4cdddc2a22f5ddbc379914cd0876cedb167f74b1c88712c7b3e"), looks := false }, kinds := [], alts := [], laidByText := true, laidKinds := [.data], laidTests := true, laidLooks := .later }
def SumsPartsCardSaid : Prop := Claim7.holds Tryd.pinned (.plain (OpenSpec.ofChange sumsPartsSpec)) sumsPartsCard

/-- THE TIED CARD OF 'colophonlaw02.SumsMixes'. -/
def sumsMixesCard : Claim7 := { stood := { row := sumsMixesRow, standIns := [], harness := (true, "4d63ad6aca01c4cdddc2a22f5ddbc379914cd0876cedb167f74b1c88712c7b3e"), looks := false }, kinds := [], alts := [], laidByText := true, laidKinds := [.data], laidTests := true, laidLooks := .later }
def SumsMixesCardSaid : Prop := Claim7.holds Tryd.pinned (.plain (OpenSpec.ofChange sumsMixesSpec)) sumsMixesCard

/-- THE TIED CARD OF 'colophonlaw02.SumsApart'. -/
def sumsApartCard : Claim7 := { stood := { row := sumsApartRow, standIns := [], harness := (true, "4d63ad6aca01c4cdddc2a22f5ddbc379914cd0876cedb167f74b1c88712c7b3e"), looks := false }, kinds := [], alts := [], laidByText := true, laidKinds := [.data], laidTests := true, laidLooks := .later }
def SumsApartCardSaid : Prop := Claim7.holds Tryd.pinned (.plain (OpenSpec.ofChange sumsApartSpec)) sumsApartCard

/-- THE TIED CARD OF 'colophonlaw02.SumsBack'. -/
def sumsBackCard : Claim7 := { stood := { row := sumsBackRow, standIns := [], harness := (true, "4d63ad6aca01c4cdddc2a22f5ddbc379914cd0876cedb167f74b1c88712c7b3e"), looks := false }, kinds := [], alts := [], laidByText := true, laidKinds := [.data], laidTests := true, laidLooks := .later }
def SumsBackCardSaid : Prop := Claim7.holds Tryd.pinned (.plain (OpenSpec.ofChange sumsBackSpec)) sumsBackCard

/-- THE TIED CARD OF 'colophonlaw02.SumsBursts'. -/
def sumsBurstsCard : Claim7 := { stood := { row := sumsBurstsRow, standIns := [], harness := (true, "4d63ad6aca01c4cdddc2a22f5ddbc379914cd0876cedb167f74b1c88712c7b3e"), looks := false }, kinds := [], alts := [], laidByText := true, laidKinds := [.data], laidTests := true, laidLooks := .later }
def SumsBurstsCardSaid : Prop := Claim7.holds Tryd.pinned (.plain (OpenSpec.ofChange sumsBurstsSpec)) sumsBurstsCard

/-- THE SECOND FORM's CARD OF 'colophonlaw02.SumsCrcs'. -/
def sumsCrcsUptoCard : Claim7 := { stood := { row := sumsCrcsUptoRow, standIns := [], harness := (true, "4d63ad6aca01c4cdddc2a22f5ddbc379914cd0876cedb167f74b1c88712c7b3e"), looks := false }, kinds := [], alts := [], laidByText := true, laidKinds := [.data], laidTests := true, laidLooks := .later }
def SumsCrcsUptoCardSaid : Prop := Claim7.holds Tryd.pinned (.plain (OpenSpec.upto sumsCrcsSpec)) sumsCrcsUptoCard

/-- THE SECOND FORM's CARD OF 'colophonlaw02.SumsOpens'. -/
def sumsOpensUptoCard : Claim7 := { stood := { row := sumsOpensUptoRow, standIns := [], harness := (true, "4d63ad6aca01c4cdddc2a22f5ddbc379914cd0876cedb167f74b1c88712c7b3e"), looks := false }, kinds := [], alts := [], laidByText := true, laidKinds := [.data], laidTests := true, laidLooks := .later }
def SumsOpensUptoCardSaid : Prop := Claim7.holds Tryd.pinned (.plain (OpenSpec.upto sumsOpensSpec)) sumsOpensUptoCard

/-- THE SECOND FORM's CARD OF 'colophonlaw02.SumsParts'. -/
def sumsPartsUptoCard : Claim7 := { stood := { row := sumsPartsUptoRow, standIns := [], harness := (true, "4d63ad6aca01c4cdddc2a22f5ddbc379914cd0876cedb167f74b1c88712c7b3e"), looks := false }, kinds := [], alts := [], laidByText := true, laidKinds := [.data], laidTests := true, laidLooks := .later }
def SumsPartsUptoCardSaid : Prop := Claim7.holds Tryd.pinned (.plain (OpenSpec.upto sumsPartsSpec)) sumsPartsUptoCard

/-- THE SECOND FORM's CARD OF 'colophonlaw02.SumsMixes'. -/
def sumsMixesUptoCard : Claim7 := { stood := { row := sumsMixesUptoRow, standIns := [], harness := (true, "4d63ad6aca01c4cdddc2a22f5ddbc379914cd0876cedb167f74b1c88712c7b3e"), looks := false }, kinds := [], alts := [], laidByText := true, laidKinds := [.data], laidTests := true, laidLooks := .later }
def SumsMixesUptoCardSaid : Prop := Claim7.holds Tryd.pinned (.plain (OpenSpec.upto sumsMixesSpec)) sumsMixesUptoCard

/-- THE SECOND FORM's CARD OF 'colophonlaw02.SumsApart'. -/
def sumsApartUptoCard : Claim7 := { stood := { row := sumsApartUptoRow, standIns := [], harness := (true, "4d63ad6aca01c4cdddc2a22f5ddbc379914cd0876cedb167f74b1c88712c7b3e"), looks := false }, kinds := [], alts := [], laidByText := true, laidKinds := [.data], laidTests := true, laidLooks := .later }
def SumsApartUptoCardSaid : Prop := Claim7.holds Tryd.pinned (.plain (OpenSpec.upto sumsApartSpec)) sumsApartUptoCard

/-- THE SECOND FORM's CARD OF 'colophonlaw02.SumsBack'. -/
def sumsBackUptoCard : Claim7 := { stood := { row := sumsBackUptoRow, standIns := [], harness := (true, "4d63ad6aca01c4cdddc2a22f5ddbc379914cd0876cedb167f74b1c88712c7b3e"), looks := false }, kinds := [], alts := [], laidByText := true, laidKinds := [.data], laidTests := true, laidLooks := .later }
def SumsBackUptoCardSaid : Prop := Claim7.holds Tryd.pinned (.plain (OpenSpec.upto sumsBackSpec)) sumsBackUptoCard

/-- THE SECOND FORM's CARD OF 'colophonlaw02.SumsBursts'. -/
def sumsBurstsUptoCard : Claim7 := { stood := { row := sumsBurstsUptoRow, standIns := [], harness := (true, "4d63ad6aca01c4cdddc2a22f5ddbc379914cd0876cedb167f74b1c88712c7b3e"), looks := false }, kinds := [], alts := [], laidByText := true, laidKinds := [.data], laidTests := true, laidLooks := .later }
def SumsBurstsUptoCardSaid : Prop := Claim7.holds Tryd.pinned (.plain (OpenSpec.upto sumsBurstsSpec)) sumsBurstsUptoCard
end Rows
end Go.Proofs.YthhpndnambffjaaDoor
