/-
  DERIVED. GIVEN WITH THE SEED: THE CARDS: each row of YtogapedacdnfcaaDoorRows.lean that lists a variable, with what it lists TIED to the program's text (the seventh form; the later family's looks); each row that meets fmt, with fmt's text TOLD by the authors' own Lean function (tested against real Go, not proved from fmt's source: count such statements apart). THE CARD IS WHAT COUNTS. Prove the row's statement (the work); the ties are given (YtogapedacdnfcaaDoorTie.lean); close each card by the builder's one call (the guide's Derived/Test/ToyasCard.lean, 'card_holds'). Laid BY PROGRAM, IN A SANDBOX (cutbox-door.mjs). By AI agents, Wed Nov 11 2026. No macro, syntax, notation, axiom, sorry.
-/
import Derived.Test.YtogapedacdnfcaaDoorRows
import GoSem.ClaimSeven
namespace Go.Proofs.YtogapedacdnfcaaDoor
namespace Rows

/-- THE TIED CARD OF 'colophonlaw25.CacheReads'. -/
def cacheReadsCard : Claim7 := { stood := { row := cacheReadsRow, standIns := [], harness := (true, "38c165b5118fcf0644f501f254f239062c82dd33a2bbfab6bc088527d00262ae"), looks := false }, kinds := [], alts := [], laidByText := true, laidKinds := [.data], laidTests := true, laidLooks := .later }
def CacheReadsCardSaid : Prop := Claim7.holds Tryd.pinned (.plain (OpenSpec.ofChange cacheReadsSpec)) cacheReadsCard

/-- THE TIED CARD OF 'colophonlaw25.CacheBack'. -/
def cacheBackCard : Claim7 := { stood := { row := cacheBackRow, standIns := [], harness := (true, "38c165b5118fcf0644f501f254f239062c82dd33a2bbfab6bc088527d00262ae"), looks := false }, kinds := [], alts := [], laidByText := true, laidKinds := [.data], laidTests := true, laidLooks := .later }
def CacheBackCardSaid : Prop := Claim7.holds Tryd.pinned (.plain (OpenSpec.ofChange cacheBackSpec)) cacheBackCard

/-- THE TIED CARD OF 'colophonlaw25.CacheTurned'. -/
def cacheTurnedCard : Claim7 := { stood := { row := cacheTurnedRow, standIns := [], harness := (true, "38c165b5118fcf0644f501f254f239062c82dd33a2bbfab6bc088527d00262ae"), looks := false }, kinds := [], alts := [], laidByText := true, laidKinds := [.data], laidTests := true, laidLooks := .later }
def CacheTurnedCardSaid : Prop := Claim7.holds Tryd.pinned (.plain (OpenSpec.ofChange cacheTurnedSpec)) cacheTurnedCard

/-- THE TIED CARD OF 'colophonlaw25.CacheNobody'. -/
def cacheNobodyCard : Claim7 := { stood := { row := cacheNobodyRow, standIns := [], harness := (true, "38c165b5118fcf0644f501f254f239062c82dd33a2bbfab6bc088527d00262ae"), looks := false }, kinds := [], alts := [], laidByText := true, laidKinds := [.data], laidTests := true, laidLooks := .later }
def CacheNobodyCardSaid : Prop := Claim7.holds Tryd.pinned (.plain (OpenSpec.ofChange cacheNobodySpec)) cacheNobodyCard

/-- THE TIED CARD OF 'colophonlaw25.CacheKeeps'. -/
def cacheKeepsCard : Claim7 := { stood := { row := cacheKeepsRow, standIns := [], harness := (true, "38c165b5118fcf0644f501f254f239062c82dd33a2bbfab6bc088527d00262ae"), looks := false }, kinds := [], alts := [], laidByText := true, laidKinds := [.data], laidTests := true, laidLooks := .later }
def CacheKeepsCardSaid : Prop := Claim7.holds Tryd.pinned (.plain (OpenSpec.ofChange cacheKeepsSpec)) cacheKeepsCard

/-- THE TIED CARD OF 'colophonlaw25.CachePlays'. -/
def cachePlaysCard : Claim7 := { stood := { row := cachePlaysRow, standIns := [], harness := (true, "38c165b5118fcf0644f501f254f239062c82dd33a2bbfab6bc088527d00262ae"), looks := false }, kinds := [], alts := [], laidByText := true, laidKinds := [.data], laidTests := true, laidLooks := .later }
def CachePlaysCardSaid : Prop := Claim7.holds Tryd.pinned (.plain (OpenSpec.ofChange cachePlaysSpec)) cachePlaysCard

/-- THE SECOND FORM's CARD OF 'colophonlaw25.CacheReads'. -/
def cacheReadsUptoCard : Claim7 := { stood := { row := cacheReadsUptoRow, standIns := [], harness := (true, "38c165b5118fcf0644f501f254f239062c82dd33a2bbfab6bc088527d00262ae"), looks := false }, kinds := [], alts := [], laidByText := true, laidKinds := [.data], laidTests := true, laidLooks := .later }
def CacheReadsUptoCardSaid : Prop := Claim7.holds Tryd.pinned (.plain (OpenSpec.upto cacheReadsSpec)) cacheReadsUptoCard

/-- THE SECOND FORM's CARD OF 'colophonlaw25.CacheBack'. -/
def cacheBackUptoCard : Claim7 := { stood := { row := cacheBackUptoRow, standIns := [], harness := (true, "38c165b5118fcf0644f501f254f239062c82dd33a2bbfab6bc088527d00262ae"), looks := false }, kinds := [], alts := [], laidByText := true, laidKinds := [.data], laidTests := true, laidLooks := .later }
def CacheBackUptoCardSaid : Prop := Claim7.holds Tryd.pinned (.plain (OpenSpec.upto cacheBackSpec)) cacheBackUptoCard

/-- THE SECOND FORM's CARD OF 'colophonlaw25.CacheTurned'. -/
def cacheTurnedUptoCard : Claim7 := { stood := { row := cacheTurnedUptoRow, standIns := [], harness := (true, "38c165b5118fcf0644f501f254f239062c82dd33a2bbfab6bc088527d00262ae"), looks := false }, kinds := [], alts := [], laidByText := true, laidKinds := [.data], laidTests := true, laidLooks := .later }
def CacheTurnedUptoCardSaid : Prop := Claim7.holds Tryd.pinned (.plain (OpenSpec.upto cacheTurnedSpec)) cacheTurnedUptoCard

/-- THE SECOND FORM's CARD OF 'colophonlaw25.CacheNobody'. -/
def cacheNobodyUptoCard : Claim7 := { stood := { row := cacheNobodyUptoRow, standIns := [], harness := (true, "38c165b5118fcf0644f501f254f239062c82dd33a2bbfab6bc088527d00262ae"), looks := false }, kinds := [], alts := [], laidByText := true, laidKinds := [.data], laidTests := true, laidLooks := .later }
def CacheNobodyUptoCardSaid : Prop := Claim7.holds Tryd.pinned (.plain (OpenSpec.upto cacheNobodySpec)) cacheNobodyUptoCard

/-- THE SECOND FORM's CARD OF 'colophonlaw25.CacheKeeps'. -/
def cacheKeepsUptoCard : Claim7 := { stood := { row := cacheKeepsUptoRow, standIns := [], harness := (true, "38c165b5118fcf0644f501f254f239062c82dd33a2bbfab6bc088527d00262ae"), looks := false }, kinds := [], alts := [], laidByText := true, laidKinds := [.data], laidTests := true, laidLooks := .later }
def CacheKeepsUptoCardSaid : Prop := Claim7.holds Tryd.pinned (.plain (OpenSpec.upto cacheKeepsSpec)) cacheKeepsUptoCard

/-- THE SECOND FORM's CARD OF 'colophonlaw25.CachePlays'. -/
def cachePlaysUptoCard : Claim7 := { stood := { row := cachePlaysUptoRow, standIns := [], harness := (true, "38c165b5118fcf0644f501f254f239062c82dd33a2bbfab6bc088527d00262ae"), looks := false }, kinds := [], alts := [], laidByText := true, laidKinds := [.data], laidTests := true, laidLooks := .later }
def CachePlaysUptoCardSaid : Prop := Claim7.holds Tryd.pinned (.plain (OpenSpec.upto cachePlaysSpec)) cachePlaysUptoCard
end Rows
end Go.Proofs.YtogapedacdnfcaaDoor
