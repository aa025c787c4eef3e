/-
  DERIVED. GIVEN WITH THE SEED: THE CARDS: each row of YtpiejhjhalnaaaaDoorRows.lean that lists a variable, with what it lists TIED to the program's text (the seventh form; the later family's looks); each row that meets fmt, with fmt's text TOLD by the authors' own Lean function (tested against real Go, not proved from fmt's source: count such statements apart). THE CARD IS WHAT COUNTS. Prove the row's statement (the work); the ties are given (YtpiejhjhalnaaaaDoorTie.lean); close each card by the builder's one call (the guide's Derived/Test/ToyasCard.lean, 'card_holds'). Laid BY PROGRAM, IN A SANDBOX (cutbox-door.mjs). By AI agents, Wed Nov 11 2026. No macro, syntax, notation, axiom, sorry.
-/
import Derived.Test.YtpiejhjhalnaaaaDoorRows
import GoSem.ClaimSeven
namespace Go.Proofs.YtpiejhjhalnaaaaDoor
namespace Rows

/-- THE TIED CARD OF 'signallinglaw14.FlankSearches'. -/
def flankSearchesCard : Claim7 := { stood := { row := flankSearchesRow, standIns := [], harness := (true, "ba4c7960ecedf40af784fcdbb4f01c7a66d65a78d596c287747ea41eb0b57808"), looks := false }, kinds := [], alts := [], laidByText := true, laidKinds := [.data, .data], laidTests := true, laidLooks := .later }
def FlankSearchesCardSaid : Prop := Claim7.holds Tryd.pinned (.plain (OpenSpec.ofChange flankSearchesSpec)) flankSearchesCard

/-- THE TIED CARD OF 'signallinglaw14.FlankStops'. -/
def flankStopsCard : Claim7 := { stood := { row := flankStopsRow, standIns := [], harness := (true, "ba4c7960ecedf40af784fcdbb4f01c7a66d65a78d596c287747ea41eb0b57808"), looks := false }, kinds := [], alts := [], laidByText := true, laidKinds := [.data, .data], laidTests := true, laidLooks := .later }
def FlankStopsCardSaid : Prop := Claim7.holds Tryd.pinned (.plain (OpenSpec.ofChange flankStopsSpec)) flankStopsCard

/-- THE TIED CARD OF 'signallinglaw14.FlankLists'. -/
def flankListsCard : Claim7 := { stood := { row := flankListsRow, standIns := [], harness := (true, "ba4c7960ecedf40af784fcdbb4f01c7a66d65a78d596c287747ea41eb0b57808"), looks := false }, kinds := [], alts := [], laidByText := true, laidKinds := [.data, .data], laidTests := true, laidLooks := .later }
def FlankListsCardSaid : Prop := Claim7.holds Tryd.pinned (.plain (OpenSpec.ofChange flankListsSpec)) flankListsCard

/-- THE TIED CARD OF 'signallinglaw14.FlankAgrees'. -/
def flankAgreesCard : Claim7 := { stood := { row := flankAgreesRow, standIns := [], harness := (true, "ba4c7960ecedf40af784fcdbb4f01c7a66d65a78d596c287747ea41eb0b57808"), looks := false }, kinds := [], alts := [], laidByText := true, laidKinds := [.data, .data], laidTests := true, laidLooks := .later }
def FlankAgreesCardSaid : Prop := Claim7.holds Tryd.pinned (.plain (OpenSpec.ofChange flankAgreesSpec)) flankAgreesCard

/-- THE SECOND FORM's CARD OF 'signallinglaw14.FlankSearches'. -/
def flankSearchesUptoCard : Claim7 := { stood := { row := flankSearchesUptoRow, standIns := [], harness := (true, "ba4c7960ecedf40af784fcdbb4f01c7a66d65a78d596c287747ea41eb0b57808"), looks := false }, kinds := [], alts := [], laidByText := true, laidKinds := [.data, .data], laidTests := true, laidLooks := .later }
def FlankSearchesUptoCardSaid : Prop := Claim7.holds Tryd.pinned (.plain (OpenSpec.upto flankSearchesSpec)) flankSearchesUptoCard

/-- THE SECOND FORM's CARD OF 'signallinglaw14.FlankStops'. -/
def flankStopsUptoCard : Claim7 := { stood := { row := flankStopsUptoRow, standIns := [], harness := (true, "ba4c7960ecedf40af784fcdbb4f01c7a66d65a78d596c287747ea41eb0b57808"), looks := false }, kinds := [], alts := [], laidByText := true, laidKinds := [.data, .data], laidTests := true, laidLooks := .later }
def FlankStopsUptoCardSaid : Prop := Claim7.holds Tryd.pinned (.plain (OpenSpec.upto flankStopsSpec)) flankStopsUptoCard

/-- THE SECOND FORM's CARD OF 'signallinglaw14.FlankLists'. -/
def flankListsUptoCard : Claim7 := { stood := { row := flankListsUptoRow, standIns := [], harness := (true, "ba4c7960ecedf40af784fcdbb4f01c7a66d65a78d596c287747ea41eb0b57808"), looks := false }, kinds := [], alts := [], laidByText := true, laidKinds := [.data, .data], laidTests := true, laidLooks := .later }
def FlankListsUptoCardSaid : Prop := Claim7.holds Tryd.pinned (.plain (OpenSpec.upto flankListsSpec)) flankListsUptoCard

/-- THE SECOND FORM's CARD OF 'signallinglaw14.FlankAgrees'. -/
def flankAgreesUptoCard : Claim7 := { stood := { row := flankAgreesUptoRow, standIns := [], harness := (true, "ba4c7960ecedf40af784fcdbb4f01c7a66d65a78d596c287747ea41eb0b57808"), looks := false }, kinds := [], alts := [], laidByText := true, laidKinds := [.data, .data], laidTests := true, laidLooks := .later }
def FlankAgreesUptoCardSaid : Prop := Claim7.holds Tryd.pinned (.plain (OpenSpec.upto flankAgreesSpec)) flankAgreesUptoCard
end Rows
end Go.Proofs.YtpiejhjhalnaaaaDoor
