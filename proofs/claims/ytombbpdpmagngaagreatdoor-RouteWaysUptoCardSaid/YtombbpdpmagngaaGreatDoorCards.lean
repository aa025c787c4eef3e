/-
  DERIVED. GIVEN WITH THE SEED: THE CARDS: each row of YtombbpdpmagngaaGreatDoorRows.lean that lists a variable, with what it lists TIED to the program's text (the seventh form; the later family's looks); each row that meets fmt, with fmt's text TOLD by the authors' own Lean function (tested against real Go, not proved from fmt's source: count such statements apart). THE CARD IS WHAT COUNTS. Prove the row's statement (the work); the ties are given (YtombbpdpmagngaaGreatDoorTie.lean); close each card by the builder's one call (the guide's Derived/Test/ToyasCard.lean, 'card_holds'). Laid BY PROGRAM, IN A SANDBOX (cutbox-door.mjs). By AI agents, Wed Nov 11 2026. No macro, syntax, notation, axiom, sorry.
-/
import Derived.Test.YtombbpdpmagngaaGreatDoorRows
import GoSem.ClaimSeven
namespace Go.Proofs.YtombbpdpmagngaaGreatDoor
namespace Rows

/-- THE TIED CARD OF 'signallinglaw12.RouteFrom'. -/
def routeFromCard : Claim7 := { stood := { row := routeFromRow, standIns := [], harness := (true, "e62d8fb82e0465230866f3ec40eb274d6fcae1b1904ffd03ac2cb0a8577f959d"), looks := false }, kinds := [], alts := [], laidByText := true, laidKinds := [.data, .data, .data, .data, .data], laidTests := true, laidLooks := .later }
def RouteFromCardSaid : Prop := Claim7.holds Tryz.pinned (.plain (OpenSpec.ofChange routeFromSpec)) routeFromCard

/-- THE TIED CARD OF 'signallinglaw12.RouteAll'. -/
def routeAllCard : Claim7 := { stood := { row := routeAllRow, standIns := [], harness := (true, "e62d8fb82e0465230866f3ec40eb274d6fcae1b1904ffd03ac2cb0a8577f959d"), looks := false }, kinds := [], alts := [], laidByText := true, laidKinds := [.data, .data, .data, .data, .data], laidTests := true, laidLooks := .later }
def RouteAllCardSaid : Prop := Claim7.holds Tryz.pinned (.plain (OpenSpec.ofChange routeAllSpec)) routeAllCard

/-- THE TIED CARD OF 'signallinglaw12.RouteNames'. -/
def routeNamesCard : Claim7 := { stood := { row := routeNamesRow, standIns := [], harness := (true, "e62d8fb82e0465230866f3ec40eb274d6fcae1b1904ffd03ac2cb0a8577f959d"), looks := false }, kinds := [], alts := [], laidByText := true, laidKinds := [.data, .data, .data, .data, .data], laidTests := true, laidLooks := .later }
def RouteNamesCardSaid : Prop := Claim7.holds Tryz.pinned (.plain (OpenSpec.ofChange routeNamesSpec)) routeNamesCard

/-- THE TIED CARD OF 'signallinglaw12.RouteFields'. -/
def routeFieldsCard : Claim7 := { stood := { row := routeFieldsRow, standIns := [], harness := (true, "e62d8fb82e0465230866f3ec40eb274d6fcae1b1904ffd03ac2cb0a8577f959d"), looks := false }, kinds := [], alts := [], laidByText := true, laidKinds := [.data, .data, .data, .data, .data], laidTests := true, laidLooks := .later }
def RouteFieldsCardSaid : Prop := Claim7.holds Tryz.pinned (.plain (OpenSpec.ofChange routeFieldsSpec)) routeFieldsCard

/-- THE TIED CARD OF 'signallinglaw12.RouteWays'. -/
def routeWaysCard : Claim7 := { stood := { row := routeWaysRow, standIns := [], harness := (true, "e62d8fb82e0465230866f3ec40eb274d6fcae1b1904ffd03ac2cb0a8577f959d"), looks := false }, kinds := [], alts := [], laidByText := true, laidKinds := [.data, .data, .data, .data, .data], laidTests := true, laidLooks := .later }
def RouteWaysCardSaid : Prop := Claim7.holds Tryz.pinned (.plain (OpenSpec.ofChange routeWaysSpec)) routeWaysCard

/-- THE SECOND FORM's CARD OF 'signallinglaw12.RouteFrom'. -/
def routeFromUptoCard : Claim7 := { stood := { row := routeFromUptoRow, standIns := [], harness := (true, "e62d8fb82e0465230866f3ec40eb274d6fcae1b1904ffd03ac2cb0a8577f959d"), looks := false }, kinds := [], alts := [], laidByText := true, laidKinds := [.data, .data, .data, .data, .data], laidTests := true, laidLooks := .later }
def RouteFromUptoCardSaid : Prop := Claim7.holds Tryz.pinned (.plain (OpenSpec.upto routeFromSpec)) routeFromUptoCard

/-- THE SECOND FORM's CARD OF 'signallinglaw12.RouteAll'. -/
def routeAllUptoCard : Claim7 := { stood := { row := routeAllUptoRow, standIns := [], harness := (true, "e62d8fb82e0465230866f3ec40eb274d6fcae1b1904ffd03ac2cb0a8577f959d"), looks := false }, kinds := [], alts := [], laidByText := true, laidKinds := [.data, .data, .data, .data, .data], laidTests := true, laidLooks := .later }
def RouteAllUptoCardSaid : Prop := Claim7.holds Tryz.pinned (.plain (OpenSpec.upto routeAllSpec)) routeAllUptoCard

/-- THE SECOND FORM's CARD OF 'signallinglaw12.RouteNames'. -/
def routeNamesUptoCard : Claim7 := { stood := { row := routeNamesUptoRow, standIns := [], harness := (true, "e62d8fb82e0465230866f3ec40eb274d6fcae1b1904ffd03ac2cb0a8577f959d"), looks := false }, kinds := [], alts := [], laidByText := true, laidKinds := [.data, .data, .data, .data, .data], laidTests := true, laidLooks := .later }
def RouteNamesUptoCardSaid : Prop := Claim7.holds Tryz.pinned (.plain (OpenSpec.upto routeNamesSpec)) routeNamesUptoCard

/-- THE SECOND FORM's CARD OF 'signallinglaw12.RouteFields'. -/
def routeFieldsUptoCard : Claim7 := { stood := { row := routeFieldsUptoRow, standIns := [], harness := (true, "e62d8fb82e0465230866f3ec40eb274d6fcae1b1904ffd03ac2cb0a8577f959d"), looks := false }, kinds := [], alts := [], laidByText := true, laidKinds := [.data, .data, .data, .data, .data], laidTests := true, laidLooks := .later }
def RouteFieldsUptoCardSaid : Prop := Claim7.holds Tryz.pinned (.plain (OpenSpec.upto routeFieldsSpec)) routeFieldsUptoCard

/-- THE SECOND FORM's CARD OF 'signallinglaw12.RouteWays'. -/
def routeWaysUptoCard : Claim7 := { stood := { row := routeWaysUptoRow, standIns := [], harness := (true, "e62d8fb82e0465230866f3ec40eb274d6fcae1b1904ffd03ac2cb0a8577f959d"), looks := false }, kinds := [], alts := [], laidByText := true, laidKinds := [.data, .data, .data, .data, .data], laidTests := true, laidLooks := .later }
def RouteWaysUptoCardSaid : Prop := Claim7.holds Tryz.pinned (.plain (OpenSpec.upto routeWaysSpec)) routeWaysUptoCard
end Rows
end Go.Proofs.YtombbpdpmagngaaGreatDoor
