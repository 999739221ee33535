/-
  DERIVED. GIVEN WITH THE SEED: THE CARDS: each row of YthknocapablpaaaGreatDoorRows.lean that lists a variable, with what it lists TIED to the program's text (the seventh form; the later family's looks); each row that meets fmt, with fmt's text TOLD by the authors' own Lean function (tested against real Go, not proved from fmt's source: count such statements apart). THE CARD IS WHAT COUNTS. Prove the row's statement (the work); the ties are given (YthknocapablpaaaGreatDoorTie.lean); close each card by the builder's one call (the guide's Derived/Test/ToyasCard.lean, 'card_holds'). Laid BY PROGRAM, IN A SANDBOX (cutbox-door.mjs). By AI agents, Wed Nov 11 2026. No macro, syntax, notation, axiom, sorry.
-/
import Derived.Test.YthknocapablpaaaGreatDoorRows
import GoSem.ClaimSeven
namespace Go.Proofs.YthknocapablpaaaGreatDoor
namespace Rows

/-- THE TIED CARD OF 'spoorlaw22.IngestTakes'. -/
def ingestTakesCard : Claim7 := { stood := { row := ingestTakesRow, standIns := [], harness := (true, "fdd6bbffa305d0172d2f058a125c3769c53e1363b7fc295f0d10e146c7cc93a4"), looks := true }, kinds := [], alts := [], laidByText := true, laidKinds := [.data, .data, .data, .sentinel, .sentinel], laidTests := true, laidLooks := .later }
def IngestTakesCardSaid : Prop := Claim7.holds Tryz.pinned (.plain (OpenSpec.ofChange ingestTakesSpec)) ingestTakesCard

/-- THE TIED CARD OF 'spoorlaw22.IngestAgain'. -/
def ingestAgainCard : Claim7 := { stood := { row := ingestAgainRow, standIns := [], harness := (true, "fdd6bbffa305d0172d2f058a125c3769c53e1363b7fc295f0d10e146c7cc93a4"), looks := true }, kinds := [], alts := [], laidByText := true, laidKinds := [.data, .data, .data, .sentinel, .sentinel], laidTests := true, laidLooks := .later }
def IngestAgainCardSaid : Prop := Claim7.holds Tryz.pinned (.plain (OpenSpec.ofChange ingestAgainSpec)) ingestAgainCard

/-- THE TIED CARD OF 'spoorlaw22.IngestFull'. -/
def ingestFullCard : Claim7 := { stood := { row := ingestFullRow, standIns := [], harness := (true, "fdd6bbffa305d0172d2f058a125c3769c53e1363b7fc295f0d10e146c7cc93a4"), looks := true }, kinds := [], alts := [], laidByText := true, laidKinds := [.data, .data, .data, .sentinel, .sentinel], laidTests := true, laidLooks := .later }
def IngestFullCardSaid : Prop := Claim7.holds Tryz.pinned (.plain (OpenSpec.ofChange ingestFullSpec)) ingestFullCard

/-- THE TIED CARD OF 'spoorlaw23.DepotTells'. -/
def depotTellsCard : Claim7 := { stood := { row := depotTellsRow, standIns := [], harness := (true, "fdd6bbffa305d0172d2f058a125c3769c53e1363b7fc295f0d10e146c7cc93a4"), looks := true }, kinds := [], alts := [], laidByText := true, laidKinds := [.data, .data, .data, .sentinel, .sentinel], laidTests := true, laidLooks := .later }
def DepotTellsCardSaid : Prop := Claim7.holds Tryz.pinned (.plain (OpenSpec.ofChange depotTellsSpec)) depotTellsCard

/-- THE TIED CARD OF 'spoorlaw23.DepotIndex'. -/
def depotIndexCard : Claim7 := { stood := { row := depotIndexRow, standIns := [], harness := (true, "fdd6bbffa305d0172d2f058a125c3769c53e1363b7fc295f0d10e146c7cc93a4"), looks := true }, kinds := [], alts := [], laidByText := true, laidKinds := [.data, .data, .data, .sentinel, .sentinel], laidTests := true, laidLooks := .later }
def DepotIndexCardSaid : Prop := Claim7.holds Tryz.pinned (.plain (OpenSpec.ofChange depotIndexSpec)) depotIndexCard

/-- THE TIED CARD OF 'spoorlaw27.ModelStore'. -/
def modelStoreCard : Claim7 := { stood := { row := modelStoreRow, standIns := [], harness := (true, "fdd6bbffa305d0172d2f058a125c3769c53e1363b7fc295f0d10e146c7cc93a4"), looks := true }, kinds := [], alts := [], laidByText := true, laidKinds := [.data, .data, .data, .sentinel, .sentinel], laidTests := true, laidLooks := .later }
def ModelStoreCardSaid : Prop := Claim7.holds Tryz.pinned (.plain (OpenSpec.ofChange modelStoreSpec)) modelStoreCard

/-- THE SECOND FORM's CARD OF 'spoorlaw22.IngestTakes'. -/
def ingestTakesUptoCard : Claim7 := { stood := { row := ingestTakesUptoRow, standIns := [], harness := (true, "fdd6bbffa305d0172d2f058a125c3769c53e1363b7fc295f0d10e146c7cc93a4"), looks := true }, kinds := [], alts := [], laidByText := true, laidKinds := [.data, .data, .data, .sentinel, .sentinel], laidTests := true, laidLooks := .later }
def IngestTakesUptoCardSaid : Prop := Claim7.holds Tryz.pinned (.plain (OpenSpec.upto ingestTakesSpec)) ingestTakesUptoCard

/-- THE SECOND FORM's CARD OF 'spoorlaw22.IngestAgain'. -/
def ingestAgainUptoCard : Claim7 := { stood := { row := ingestAgainUptoRow, standIns := [], harness := (true, "fdd6bbffa305d0172d2f058a125c3769c53e1363b7fc295f0d10e146c7cc93a4"), looks := true }, kinds := [], alts := [], laidByText := true, laidKinds := [.data, .data, .data, .sentinel, .sentinel], laidTests := true, laidLooks := .later }
def IngestAgainUptoCardSaid : Prop := Claim7.holds Tryz.pinned (.plain (OpenSpec.upto ingestAgainSpec)) ingestAgainUptoCard

/-- THE SECOND FORM's CARD OF 'spoorlaw22.IngestFull'. -/
def ingestFullUptoCard : Claim7 := { stood := { row := ingestFullUptoRow, standIns := [], harness := (true, "fdd6bbffa305d0172d2f058a125c3769c53e1363b7fc295f0d10e146c7cc93a4"), looks := true }, kinds := [], alts := [], laidByText := true, laidKinds := [.data, .data, .data, .sentinel, .sentinel], laidTests := true, laidLooks := .later }
def IngestFullUptoCardSaid : Prop := Claim7.holds Tryz.pinned (.plain (OpenSpec.upto ingestFullSpec)) ingestFullUptoCard

/-- THE SECOND FORM's CARD OF 'spoorlaw23.DepotTells'. -/
def depotTellsUptoCard : Claim7 := { stood := { row := depotTellsUptoRow, standIns := [], harness := (true, "fdd6bbffa305d0172d2f058a125c3769c53e1363b7fc295f0d10e146c7cc93a4"), looks := true }, kinds := [], alts := [], laidByText := true, laidKinds := [.data, .data, .data, .sentinel, .sentinel], laidTests := true, laidLooks := .later }
def DepotTellsUptoCardSaid : Prop := Claim7.holds Tryz.pinned (.plain (OpenSpec.upto depotTellsSpec)) depotTellsUptoCard

/-- THE SECOND FORM's CARD OF 'spoorlaw23.DepotIndex'. -/
def depotIndexUptoCard : Claim7 := { stood := { row := depotIndexUptoRow, standIns := [], harness := (true, "fdd6bbffa305d0172d2f058a125c3769c53e1363b7fc295f0d10e146c7cc93a4"), looks := true }, kinds := [], alts := [], laidByText := true, laidKinds := [.data, .data, .data, .sentinel, .sentinel], laidTests := true, laidLooks := .later }
def DepotIndexUptoCardSaid : Prop := Claim7.holds Tryz.pinned (.plain (OpenSpec.upto depotIndexSpec)) depotIndexUptoCard

/-- THE SECOND FORM's CARD OF 'spoorlaw27.ModelStore'. -/
def modelStoreUptoCard : Claim7 := { stood := { row := modelStoreUptoRow, standIns := [], harness := (true, "fdd6bbffa305d0172d2f058a125c3769c53e1363b7fc295f0d10e146c7cc93a4"), looks := true }, kinds := [], alts := [], laidByText := true, laidKinds := [.data, .data, .data, .sentinel, .sentinel], laidTests := true, laidLooks := .later }
def ModelStoreUptoCardSaid : Prop := Claim7.holds Tryz.pinned (.plain (OpenSpec.upto modelStoreSpec)) modelStoreUptoCard
end Rows
end Go.Proofs.YthknocapablpaaaGreatDoor
