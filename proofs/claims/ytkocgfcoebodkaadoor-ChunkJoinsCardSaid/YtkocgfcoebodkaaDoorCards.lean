/-
  DERIVED. GIVEN WITH THE SEED: THE CARDS: each row of YtkocgfcoebodkaaDoorRows.lean that lists a variable, with what it lists TIED to the program's text (the seventh form; the later family's looks); each row that meets fmt, with fmt's text TOLD by the authors' own Lean function (tested against real Go, not proved from fmt's source: count such statements apart). THE CARD IS WHAT COUNTS. Prove the row's statement (the work); the ties are given (YtkocgfcoebodkaaDoorTie.lean); close each card by the builder's one call (the guide's Derived/Test/ToyasCard.lean, 'card_holds'). Laid BY PROGRAM, IN A SANDBOX (cutbox-door.mjs). By AI agents, Wed Nov 11 2026. No macro, syntax, notation, axiom, sorry.
-/
import Derived.Test.YtkocgfcoebodkaaDoorRows
import GoSem.ClaimSeven
namespace Go.Proofs.YtkocgfcoebodkaaDoor
namespace Rows

/-- THE TIED CARD OF 'colophonlaw20.ChunkCuts'. -/
def chunkCutsCard : Claim7 := { stood := { row := chunkCutsRow, standIns := [], harness := (true, "d6971c75954995527263401a96b811265b3e2c548e1053c4fd1294243d6d25a8"), looks := false }, kinds := [], alts := [], laidByText := true, laidKinds := [.data], laidTests := true, laidLooks := .later }
def ChunkCutsCardSaid : Prop := Claim7.holds Tryd.pinned (.plain (OpenSpec.ofChange chunkCutsSpec)) chunkCutsCard

/-- THE TIED CARD OF 'colophonlaw20.ChunkJoins'. -/
def chunkJoinsCard : Claim7 := { stood := { row := chunkJoinsRow, standIns := [], harness := (true, "d6971c75954995527263401a96b811265b3e2c548e1053c4fd1294243d6d25a8"), looks := false }, kinds := [], alts := [], laidByText := true, laidKinds := [.data], laidTests := true, laidLooks := .later }
def ChunkJoinsCardSaid : Prop := Claim7.holds Tryd.pinned (.plain (OpenSpec.ofChange chunkJoinsSpec)) chunkJoinsCard

/-- THE TIED CARD OF 'colophonlaw20.ChunkBack'. -/
def chunkBackCard : Claim7 := { stood := { row := chunkBackRow, standIns := [], harness := (true, "d6971c75954995527263401a96b811265b3e2c548e1053c4fd1294243d6d25a8"), looks := false }, kinds := [], alts := [], laidByText := true, laidKinds := [.data], laidTests := true, laidLooks := .later }
def ChunkBackCardSaid : Prop := Claim7.holds Tryd.pinned (.plain (OpenSpec.ofChange chunkBackSpec)) chunkBackCard

/-- THE TIED CARD OF 'colophonlaw20.ChunkTurned'. -/
def chunkTurnedCard : Claim7 := { stood := { row := chunkTurnedRow, standIns := [], harness := (true, "d6971c75954995527263401a96b811265b3e2c548e1053c4fd1294243d6d25a8"), looks := false }, kinds := [], alts := [], laidByText := true, laidKinds := [.data], laidTests := true, laidLooks := .later }
def ChunkTurnedCardSaid : Prop := Claim7.holds Tryd.pinned (.plain (OpenSpec.ofChange chunkTurnedSpec)) chunkTurnedCard

/-- THE TIED CARD OF 'colophonlaw20.ChunkOrder'. -/
def chunkOrderCard : Claim7 := { stood := { row := chunkOrderRow, standIns := [], harness := (true, "d6971c75954995527263401a96b811265b3e2c548e1053c4fd1294243d6d25a8"), looks := false }, kinds := [], alts := [], laidByText := true, laidKinds := [.data], laidTests := true, laidLooks := .later }
def ChunkOrderCardSaid : Prop := Claim7.holds Tryd.pinned (.plain (OpenSpec.ofChange chunkOrderSpec)) chunkOrderCard

/-- THE SECOND FORM's CARD OF 'colophonlaw20.ChunkCuts'. -/
def chunkCutsUptoCard : Claim7 := { stood := { row := chunkCutsUptoRow, standIns := [], harness := (true, "d6971c75954995527263401a96b811265b3e2c548e1053c4fd1294243d6d25a8"), looks := false }, kinds := [], alts := [], laidByText := true, laidKinds := [.data], laidTests := true, laidLooks := .later }
def ChunkCutsUptoCardSaid : Prop := Claim7.holds Tryd.pinned (.plain (OpenSpec.upto chunkCutsSpec)) chunkCutsUptoCard

/-- THE SECOND FORM's CARD OF 'colophonlaw20.ChunkJoins'. -/
def chunkJoinsUptoCard : Claim7 := { stood := { row := chunkJoinsUptoRow, standIns := [], harness := (true, "d6971c75954995527263401a96b811265b3e2c548e1053c4fd1294243d6d25a8"), looks := false }, kinds := [], alts := [], laidByText := true, laidKinds := [.data], laidTests := true, laidLooks := .later }
def ChunkJoinsUptoCardSaid : Prop := Claim7.holds Tryd.pinned (.plain (OpenSpec.upto chunkJoinsSpec)) chunkJoinsUptoCard

/-- THE SECOND FORM's CARD OF 'colophonlaw20.ChunkBack'. -/
def chunkBackUptoCard : Claim7 := { stood := { row := chunkBackUptoRow, standIns := [], harness := (true, "d6971c75954995527263401a96b811265b3e2c548e1053c4fd1294243d6d25a8"), looks := false }, kinds := [], alts := [], laidByText := true, laidKinds := [.data], laidTests := true, laidLooks := .later }
def ChunkBackUptoCardSaid : Prop := Claim7.holds Tryd.pinned (.plain (OpenSpec.upto chunkBackSpec)) chunkBackUptoCard

/-- THE SECOND FORM's CARD OF 'colophonlaw20.ChunkTurned'. -/
def chunkTurnedUptoCard : Claim7 := { stood := { row := chunkTurnedUptoRow, standIns := [], harness := (true, "d6971c75954995527263401a96b811265b3e2c548e1053c4fd1294243d6d25a8"), looks := false }, kinds := [], alts := [], laidByText := true, laidKinds := [.data], laidTests := true, laidLooks := .later }
def ChunkTurnedUptoCardSaid : Prop := Claim7.holds Tryd.pinned (.plain (OpenSpec.upto chunkTurnedSpec)) chunkTurnedUptoCard

/-- THE SECOND FORM's CARD OF 'colophonlaw20.ChunkOrder'. -/
def chunkOrderUptoCard : Claim7 := { stood := { row := chunkOrderUptoRow, standIns := [], harness := (true, "d6971c75954995527263401a96b811265b3e2c548e1053c4fd1294243d6d25a8"), looks := false }, kinds := [], alts := [], laidByText := true, laidKinds := [.data], laidTests := true, laidLooks := .later }
def ChunkOrderUptoCardSaid : Prop := Claim7.holds Tryd.pinned (.plain (OpenSpec.upto chunkOrderSpec)) chunkOrderUptoCard
end Rows
end Go.Proofs.YtkocgfcoebodkaaDoor
