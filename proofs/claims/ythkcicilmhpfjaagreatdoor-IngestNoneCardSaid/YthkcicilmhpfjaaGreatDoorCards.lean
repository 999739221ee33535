/-
  DERIVED. GIVEN WITH THE SEED: THE CARDS: each row of YthkcicilmhpfjaaGreatDoorRows.lean that lists a variable, with what it lists TIED to the program's text (the seventh form; the later family's looks); each row that meets fmt, with fmt's text TOLD by the authors' own Lean function (tested against real Go, not proved from fmt's source: count such statements apart). THE CARD IS WHAT COUNTS. Prove the row's statement (the work); the ties are given (YthkcicilmhpfjaaGreatDoorTie.lean); close each card by the builder's one call (the guide's Derived/Test/ToyasCard.lean, 'card_holds'). Laid BY PROGRAM, IN A SANDBOX (cutbox-door.mjs). By AI agents, Wed Nov 11 2026. No macro, syntax, notation, axiom, sorry.
-/
import Derived.Test.YthkcicilmhpfjaaGreatDoorRows
import GoSem.ClaimSeven
namespace Go.Proofs.YthkcicilmhpfjaaGreatDoor
namespace Rows

/-- THE TIED CARD OF 'spoorlaw22.IngestNone'. -/
def ingestNoneCard : Claim7 := { stood := { row := ingestNoneRow, standIns := [], harness := (true, "82a342d61e0261bcac207b7540f1ef182a8c259ff1bf32c8e01018a0ce4e384e"), looks := true }, kinds := [], alts := [], laidByText := true, laidKinds := [.sentinel, .sentinel, .data, .data, .data], laidTests := true, laidLooks := .later }
def IngestNoneCardSaid : Prop := Claim7.holds Tryz.pinned (.plain (OpenSpec.ofChange ingestNoneSpec)) ingestNoneCard

/-- THE TIED CARD OF 'spoorlaw20.StoreNone'. -/
def storeNoneCard : Claim7 := { stood := { row := storeNoneRow, standIns := [], harness := (true, "82a342d61e0261bcac207b7540f1ef182a8c259ff1bf32c8e01018a0ce4e384e"), looks := true }, kinds := [], alts := [], laidByText := true, laidKinds := [.sentinel, .sentinel, .data, .data, .data], laidTests := true, laidLooks := .later }
def StoreNoneCardSaid : Prop := Claim7.holds Tryz.pinned (.plain (OpenSpec.ofChange storeNoneSpec)) storeNoneCard

/-- THE TIED CARD OF 'spoorlaw23.DepotNone'. -/
def depotNoneCard : Claim7 := { stood := { row := depotNoneRow, standIns := [], harness := (true, "82a342d61e0261bcac207b7540f1ef182a8c259ff1bf32c8e01018a0ce4e384e"), looks := true }, kinds := [], alts := [], laidByText := true, laidKinds := [.sentinel, .sentinel, .data, .data, .data], laidTests := true, laidLooks := .later }
def DepotNoneCardSaid : Prop := Claim7.holds Tryz.pinned (.plain (OpenSpec.ofChange depotNoneSpec)) depotNoneCard

/-- THE TIED CARD OF 'spoorlaw26.RepoNone'. -/
def repoNoneCard : Claim7 := { stood := { row := repoNoneRow, standIns := [], harness := (true, "82a342d61e0261bcac207b7540f1ef182a8c259ff1bf32c8e01018a0ce4e384e"), looks := true }, kinds := [], alts := [], laidByText := true, laidKinds := [.sentinel, .sentinel, .data, .data, .data], laidTests := true, laidLooks := .later }
def RepoNoneCardSaid : Prop := Claim7.holds Tryz.pinned (.plain (OpenSpec.ofChange repoNoneSpec)) repoNoneCard

/-- THE TIED CARD OF 'spoorlaw28.FarmNone'. -/
def farmNoneCard : Claim7 := { stood := { row := farmNoneRow, standIns := [], harness := (true, "82a342d61e0261bcac207b7540f1ef182a8c259ff1bf32c8e01018a0ce4e384e"), looks := true }, kinds := [], alts := [], laidByText := true, laidKinds := [.sentinel, .sentinel, .data, .data, .data], laidTests := true, laidLooks := .later }
def FarmNoneCardSaid : Prop := Claim7.holds Tryz.pinned (.plain (OpenSpec.ofChange farmNoneSpec)) farmNoneCard

/-- THE TIED CARD OF 'spoorlaw30.FairNone'. -/
def fairNoneCard : Claim7 := { stood := { row := fairNoneRow, standIns := [], harness := (true, "82a342d61e0261bcac207b7540f1ef182a8c259ff1bf32c8e01018a0ce4e384e"), looks := true }, kinds := [], alts := [], laidByText := true, laidKinds := [.data, .data, .data, .sentinel, .sentinel], laidTests := true, laidLooks := .later }
def FairNoneCardSaid : Prop := Claim7.holds Tryz.pinned (.plain (OpenSpec.ofChange fairNoneSpec)) fairNoneCard

/-- THE SECOND FORM's CARD OF 'spoorlaw22.IngestNone'. -/
def ingestNoneUptoCard : Claim7 := { stood := { row := ingestNoneUptoRow, standIns := [], harness := (true, "82a342d61e0261bcac207b7540f1ef182a8c259ff1bf32c8e01018a0ce4e384e"), looks := true }, kinds := [], alts := [], laidByText := true, laidKinds := [.sentinel, .sentinel, .data, .data, .data], laidTests := true, laidLooks := .later }
def IngestNoneUptoCardSaid : Prop := Claim7.holds Tryz.pinned (.plain (OpenSpec.upto ingestNoneSpec)) ingestNoneUptoCard

/-- THE SECOND FORM's CARD OF 'spoorlaw20.StoreNone'. -/
def storeNoneUptoCard : Claim7 := { stood := { row := storeNoneUptoRow, standIns := [], harness := (true, "82a342d61e0261bcac207b7540f1ef182a8c259ff1bf32c8e01018a0ce4e384e"), looks := true }, kinds := [], alts := [], laidByText := true, laidKinds := [.sentinel, .sentinel, .data, .data, .data], laidTests := true, laidLooks := .later }
def StoreNoneUptoCardSaid : Prop := Claim7.holds Tryz.pinned (.plain (OpenSpec.upto storeNoneSpec)) storeNoneUptoCard

/-- THE SECOND FORM's CARD OF 'spoorlaw23.DepotNone'. -/
def depotNoneUptoCard : Claim7 := { stood := { row := depotNoneUptoRow, standIns := [], harness := (true, "82a342d61e0261bcac207b7540f1ef182a8c259ff1bf32c8e01018a0ce4e384e"), looks := true }, kinds := [], alts := [], laidByText := true, laidKinds := [.sentinel, .sentinel, .data, .data, .data], laidTests := true, laidLooks := .later }
def DepotNoneUptoCardSaid : Prop := Claim7.holds Tryz.pinned (.plain (OpenSpec.upto depotNoneSpec)) depotNoneUptoCard

/-- THE SECOND FORM's CARD OF 'spoorlaw26.RepoNone'. -/
def repoNoneUptoCard : Claim7 := { stood := { row := repoNoneUptoRow, standIns := [], harness := (true, "82a342d61e0261bcac207b7540f1ef182a8c259ff1bf32c8e01018a0ce4e384e"), looks := true }, kinds := [], alts := [], laidByText := true, laidKinds := [.sentinel, .sentinel, .data, .data, .data], laidTests := true, laidLooks := .later }
def RepoNoneUptoCardSaid : Prop := Claim7.holds Tryz.pinned (.plain (OpenSpec.upto repoNoneSpec)) repoNoneUptoCard

/-- THE SECOND FORM's CARD OF 'spoorlaw28.FarmNone'. -/
def farmNoneUptoCard : Claim7 := { stood := { row := farmNoneUptoRow, standIns := [], harness := (true, "82a342d61e0261bcac207b7540f1ef182a8c259ff1bf32c8e01018a0ce4e384e"), looks := true }, kinds := [], alts := [], laidByText := true, laidKinds := [.sentinel, .sentinel, .data, .data, .data], laidTests := true, laidLooks := .later }
def FarmNoneUptoCardSaid : Prop := Claim7.holds Tryz.pinned (.plain (OpenSpec.upto farmNoneSpec)) farmNoneUptoCard

/-- THE SECOND FORM's CARD OF 'spoorlaw30.FairNone'. -/
def fairNoneUptoCard : Claim7 := { stood := { row := fairNoneUptoRow, standIns := [], harness := (true, "82a342d61e0261bcac207b7540f1ef182a8c259ff1bf32c8e01018a0ce4e384e"), looks := true }, kinds := [], alts := [], laidByText := true, laidKinds := [.data, .data, .data, .sentinel, .sentinel], laidTests := true, laidLooks := .later }
def FairNoneUptoCardSaid : Prop := Claim7.holds Tryz.pinned (.plain (OpenSpec.upto fairNoneSpec)) fairNoneUptoCard
end Rows
end Go.Proofs.YthkcicilmhpfjaaGreatDoor
