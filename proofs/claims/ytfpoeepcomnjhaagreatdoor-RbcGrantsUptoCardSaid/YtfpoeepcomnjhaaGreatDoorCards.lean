/-
  DERIVED. GIVEN WITH THE SEED: THE CARDS: each row of YtfpoeepcomnjhaaGreatDoorRows.lean that lists a variable, with what it lists TIED to the program's text (the seventh form; the later family's looks); each row that meets fmt, with fmt's text TOLD by the authors' own Lean function (tested against real Go, not proved from fmt's source: count such statements apart). THE CARD IS WHAT COUNTS. Prove the row's statement (the work); the ties are given (YtfpoeepcomnjhaaGreatDoorTie.lean); close each card by the builder's one call (the guide's Derived/Test/ToyasCard.lean, 'card_holds'). Laid BY PROGRAM, IN A SANDBOX (cutbox-door.mjs). By AI agents, Wed Nov 11 2026. No macro, syntax, notation, axiom, sorry.
-/
import Derived.Test.YtfpoeepcomnjhaaGreatDoorRows
import GoSem.ClaimSeven
namespace Go.Proofs.YtfpoeepcomnjhaaGreatDoor
namespace Rows

/-- THE TIED CARD OF 'signallinglaw47.RbcNews'. -/
def rbcNewsCard : Claim7 := { stood := { row := rbcNewsRow, standIns := [], harness := (true, "f03df78f8492b6514ea8ba099bbaccc863b269d6bf43967701e147faf47fbd75"), looks := true }, kinds := [], alts := [], laidByText := true, laidKinds := [.data, .data], laidTests := true, laidLooks := .later }
def RbcNewsCardSaid : Prop := Claim7.holds Tryz.pinned (.plain (OpenSpec.ofChange rbcNewsSpec)) rbcNewsCard

/-- THE TIED CARD OF 'signallinglaw47.RbcGrants'. -/
def rbcGrantsCard : Claim7 := { stood := { row := rbcGrantsRow, standIns := [], harness := (true, "f03df78f8492b6514ea8ba099bbaccc863b269d6bf43967701e147faf47fbd75"), looks := true }, kinds := [], alts := [], laidByText := true, laidKinds := [.data, .data], laidTests := true, laidLooks := .later }
def RbcGrantsCardSaid : Prop := Claim7.holds Tryz.pinned (.plain (OpenSpec.ofChange rbcGrantsSpec)) rbcGrantsCard

/-- THE TIED CARD OF 'signallinglaw47.RbcStops'. -/
def rbcStopsCard : Claim7 := { stood := { row := rbcStopsRow, standIns := [], harness := (true, "f03df78f8492b6514ea8ba099bbaccc863b269d6bf43967701e147faf47fbd75"), looks := true }, kinds := [], alts := [], laidByText := true, laidKinds := [.data, .data], laidTests := true, laidLooks := .later }
def RbcStopsCardSaid : Prop := Claim7.holds Tryz.pinned (.plain (OpenSpec.ofChange rbcStopsSpec)) rbcStopsCard

/-- THE TIED CARD OF 'signallinglaw47.RbcExclusive'. -/
def rbcExclusiveCard : Claim7 := { stood := { row := rbcExclusiveRow, standIns := [], harness := (true, "f03df78f8492b6514ea8ba099bbaccc863b269d6bf43967701e147faf47fbd75"), looks := true }, kinds := [], alts := [], laidByText := true, laidKinds := [.data, .data], laidTests := true, laidLooks := .later }
def RbcExclusiveCardSaid : Prop := Claim7.holds Tryz.pinned (.plain (OpenSpec.ofChange rbcExclusiveSpec)) rbcExclusiveCard

/-- THE TIED CARD OF 'signallinglaw47.RbcReceives'. -/
def rbcReceivesCard : Claim7 := { stood := { row := rbcReceivesRow, standIns := [], harness := (true, "f03df78f8492b6514ea8ba099bbaccc863b269d6bf43967701e147faf47fbd75"), looks := true }, kinds := [], alts := [], laidByText := true, laidKinds := [.data, .data], laidTests := true, laidLooks := .later }
def RbcReceivesCardSaid : Prop := Claim7.holds Tryz.pinned (.plain (OpenSpec.ofChange rbcReceivesSpec)) rbcReceivesCard

/-- THE SECOND FORM's CARD OF 'signallinglaw47.RbcNews'. -/
def rbcNewsUptoCard : Claim7 := { stood := { row := rbcNewsUptoRow, standIns := [], harness := (true, "f03df78f8492b6514ea8ba099bbaccc863b269d6bf43967701e147faf47fbd75"), looks := true }, kinds := [], alts := [], laidByText := true, laidKinds := [.data, .data], laidTests := true, laidLooks := .later }
def RbcNewsUptoCardSaid : Prop := Claim7.holds Tryz.pinned (.plain (OpenSpec.upto rbcNewsSpec)) rbcNewsUptoCard

/-- THE SECOND FORM's CARD OF 'signallinglaw47.RbcGrants'. -/
def rbcGrantsUptoCard : Claim7 := { stood := { row := rbcGrantsUptoRow, standIns := [], harness := (true, "f03df78f8492b6514ea8ba099bbaccc863b269d6bf43967701e147faf47fbd75"), looks := true }, kinds := [], alts := [], laidByText := true, laidKinds := [.data, .data], laidTests := true, laidLooks := .later }
def RbcGrantsUptoCardSaid : Prop := Claim7.holds Tryz.pinned (.plain (OpenSpec.upto rbcGrantsSpec)) rbcGrantsUptoCard

/-- THE SECOND FORM's CARD OF 'signallinglaw47.RbcStops'. -/
def rbcStopsUptoCard : Claim7 := { stood := { row := rbcStopsUptoRow, standIns := [], harness := (true, "f03df78f8492b6514ea8ba099bbaccc863b269d6bf43967701e147faf47fbd75"), looks := true }, kinds := [], alts := [], laidByText := true, laidKinds := [.data, .data], laidTests := true, laidLooks := .later }
def RbcStopsUptoCardSaid : Prop := Claim7.holds Tryz.pinned (.plain (OpenSpec.upto rbcStopsSpec)) rbcStopsUptoCard

/-- THE SECOND FORM's CARD OF 'signallinglaw47.RbcExclusive'. -/
def rbcExclusiveUptoCard : Claim7 := { stood := { row := rbcExclusiveUptoRow, standIns := [], harness := (true, "f03df78f8492b6514ea8ba099bbaccc863b269d6bf43967701e147faf47fbd75"), looks := true }, kinds := [], alts := [], laidByText := true, laidKinds := [.data, .data], laidTests := true, laidLooks := .later }
def RbcExclusiveUptoCardSaid : Prop := Claim7.holds Tryz.pinned (.plain (OpenSpec.upto rbcExclusiveSpec)) rbcExclusiveUptoCard

/-- THE SECOND FORM's CARD OF 'signallinglaw47.RbcReceives'. -/
def rbcReceivesUptoCard : Claim7 := { stood := { row := rbcReceivesUptoRow, standIns := [], harness := (true, "f03df78f8492b6514ea8ba099bbaccc863b269d6bf43967701e147faf47fbd75"), looks := true }, kinds := [], alts := [], laidByText := true, laidKinds := [.data, .data], laidTests := true, laidLooks := .later }
def RbcReceivesUptoCardSaid : Prop := Claim7.holds Tryz.pinned (.plain (OpenSpec.upto rbcReceivesSpec)) rbcReceivesUptoCard
end Rows
end Go.Proofs.YtfpoeepcomnjhaaGreatDoor
