/-
  DERIVED. GIVEN WITH THE SEED: THE CARDS: each row of YtelhdbkkigehgaaGreatDoorRows.lean that lists a variable, with what it lists TIED to the program's text (the seventh form; the later family's looks); each row that meets fmt, with fmt's text TOLD by the authors' own Lean function (tested against real Go, not proved from fmt's source: count such statements apart). THE CARD IS WHAT COUNTS. Prove the row's statement (the work); the ties are given (YtelhdbkkigehgaaGreatDoorTie.lean); close each card by the builder's one call (the guide's Derived/Test/ToyasCard.lean, 'card_holds'). Laid BY PROGRAM, IN A SANDBOX (cutbox-door.mjs). By AI agents, Wed Nov 11 2026. No macro, syntax, notation, axiom, sorry.
-/
import Derived.Test.YtelhdbkkigehgaaGreatDoorRows
import GoSem.ClaimSeven
namespace Go.Proofs.YtelhdbkkigehgaaGreatDoor
namespace Rows

/-- THE TIED CARD OF 'spoorlaw31.DeskNone'. -/
def deskNoneCard : Claim7 := { stood := { row := deskNoneRow, standIns := [], harness := (true, "edf7c550eef2f05c43a688050949a83cca10d8aae455fcfd5502baf95b6f1e19"), looks := true }, kinds := [], alts := [], laidByText := true, laidKinds := [.pinned, .data, .sentinel, .sentinel, .data, .data, .data], laidTests := true, laidLooks := .later }
def DeskNoneCardSaid : Prop := Claim7.holds Tryz.pinned (.plain (OpenSpec.ofChange deskNoneSpec)) deskNoneCard

/-- THE TIED CARD OF 'spoorlaw31.DeskStep'. -/
def deskStepCard : Claim7 := { stood := { row := deskStepRow, standIns := [], harness := (true, "edf7c550eef2f05c43a688050949a83cca10d8aae455fcfd5502baf95b6f1e19"), looks := true }, kinds := [], alts := [], laidByText := true, laidKinds := [.pinned, .data, .sentinel, .sentinel, .data, .data, .data], laidTests := true, laidLooks := .later }
def DeskStepCardSaid : Prop := Claim7.holds Tryz.pinned (.plain (OpenSpec.ofChange deskStepSpec)) deskStepCard

/-- THE SECOND FORM's CARD OF 'spoorlaw31.DeskNone'. -/
def deskNoneUptoCard : Claim7 := { stood := { row := deskNoneUptoRow, standIns := [], harness := (true, "edf7c550eef2f05c43a688050949a83cca10d8aae455fcfd5502baf95b6f1e19"), looks := true }, kinds := [], alts := [], laidByText := true, laidKinds := [.pinned, .data, .sentinel, .sentinel, .data, .data, .data], laidTests := true, laidLooks := .later }
def DeskNoneUptoCardSaid : Prop := Claim7.holds Tryz.pinned (.plain (OpenSpec.upto deskNoneSpec)) deskNoneUptoCard

/-- THE SECOND FORM's CARD OF 'spoorlaw31.DeskStep'. -/
def deskStepUptoCard : Claim7 := { stood := { row := deskStepUptoRow, standIns := [], harness := (true, "edf7c550eef2f05c43a688050949a83cca10d8aae455fcfd5502baf95b6f1e19"), looks := true }, kinds := [], alts := [], laidByText := true, laidKinds := [.pinned, .data, .sentinel, .sentinel, .data, .data, .data], laidTests := true, laidLooks := .later }
def DeskStepUptoCardSaid : Prop := Claim7.holds Tryz.pinned (.plain (OpenSpec.upto deskStepSpec)) deskStepUptoCard
end Rows
end Go.Proofs.YtelhdbkkigehgaaGreatDoor
