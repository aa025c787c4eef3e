/-
  DERIVED. GIVEN WITH THE SEED: THE CARDS: each row of YtjfdmlckdgholaaDoorRows.lean that lists a variable, with what it lists TIED to the program's text (the seventh form; the later family's looks); each row that meets fmt, with fmt's text TOLD by the authors' own Lean function (tested against real Go, not proved from fmt's source: count such statements apart). THE CARD IS WHAT COUNTS. Prove the row's statement (the work); the ties are given (YtjfdmlckdgholaaDoorTie.lean); close each card by the builder's one call (the guide's Derived/Test/ToyasCard.lean, 'card_holds'). Laid BY PROGRAM, IN A SANDBOX (cutbox-door.mjs). By AI agents, Wed Nov 11 2026. No macro, syntax, notation, axiom, sorry.
-/
import Derived.Test.YtjfdmlckdgholaaDoorRows
import GoSem.ClaimSeven
namespace Go.Proofs.YtjfdmlckdgholaaDoor
namespace Rows

/-- THE TIED CARD OF 'signallinglaw06.RailSides'. -/
def railSidesCard : Claim7 := { stood := { row := railSidesRow, standIns := [], harness := (true, "06166d36be2db6352600bbb74a7f85cc401e2e5a60e803756880c0cd2cd3d5ca"), looks := false }, kinds := [], alts := [], laidByText := true, laidKinds := [.data, .data], laidTests := true, laidLooks := .later }
def RailSidesCardSaid : Prop := Claim7.holds Tryd.pinned (.plain (OpenSpec.ofChange railSidesSpec)) railSidesCard

/-- THE TIED CARD OF 'signallinglaw06.RailPassages'. -/
def railPassagesCard : Claim7 := { stood := { row := railPassagesRow, standIns := [], harness := (true, "06166d36be2db6352600bbb74a7f85cc401e2e5a60e803756880c0cd2cd3d5ca"), looks := false }, kinds := [], alts := [], laidByText := true, laidKinds := [.data, .data], laidTests := true, laidLooks := .later }
def RailPassagesCardSaid : Prop := Claim7.holds Tryd.pinned (.plain (OpenSpec.ofChange railPassagesSpec)) railPassagesCard

/-- THE TIED CARD OF 'signallinglaw06.RailSymmetric'. -/
def railSymmetricCard : Claim7 := { stood := { row := railSymmetricRow, standIns := [], harness := (true, "06166d36be2db6352600bbb74a7f85cc401e2e5a60e803756880c0cd2cd3d5ca"), looks := false }, kinds := [], alts := [], laidByText := true, laidKinds := [.data, .data], laidTests := true, laidLooks := .later }
def RailSymmetricCardSaid : Prop := Claim7.holds Tryd.pinned (.plain (OpenSpec.ofChange railSymmetricSpec)) railSymmetricCard

/-- THE TIED CARD OF 'signallinglaw06.RailPositions'. -/
def railPositionsCard : Claim7 := { stood := { row := railPositionsRow, standIns := [], harness := (true, "06166d36be2db6352600bbb74a7f85cc401e2e5a60e803756880c0cd2cd3d5ca"), looks := false }, kinds := [], alts := [], laidByText := true, laidKinds := [.data, .data], laidTests := true, laidLooks := .later }
def RailPositionsCardSaid : Prop := Claim7.holds Tryd.pinned (.plain (OpenSpec.ofChange railPositionsSpec)) railPositionsCard

/-- THE TIED CARD OF 'signallinglaw06.RailLegs'. -/
def railLegsCard : Claim7 := { stood := { row := railLegsRow, standIns := [], harness := (true, "06166d36be2db6352600bbb74a7f85cc401e2e5a60e803756880c0cd2cd3d5ca"), looks := false }, kinds := [], alts := [], laidByText := true, laidKinds := [.data, .data], laidTests := true, laidLooks := .later }
def RailLegsCardSaid : Prop := Claim7.holds Tryd.pinned (.plain (OpenSpec.ofChange railLegsSpec)) railLegsCard

/-- THE TIED CARD OF 'signallinglaw09.WalkSteps'. -/
def walkStepsCard : Claim7 := { stood := { row := walkStepsRow, standIns := [], harness := (true, "06166d36be2db6352600bbb74a7f85cc401e2e5a60e803756880c0cd2cd3d5ca"), looks := false }, kinds := [], alts := [], laidByText := true, laidKinds := [.data], laidTests := true, laidLooks := .later }
def WalkStepsCardSaid : Prop := Claim7.holds Tryd.pinned (.plain (OpenSpec.ofChange walkStepsSpec)) walkStepsCard

/-- THE TIED CARD OF 'signallinglaw09.WalkParts'. -/
def walkPartsCard : Claim7 := { stood := { row := walkPartsRow, standIns := [], harness := (true, "06166d36be2db6352600bbb74a7f85cc401e2e5a60e803756880c0cd2cd3d5ca"), looks := false }, kinds := [], alts := [], laidByText := true, laidKinds := [.data], laidTests := true, laidLooks := .later }
def WalkPartsCardSaid : Prop := Claim7.holds Tryd.pinned (.plain (OpenSpec.ofChange walkPartsSpec)) walkPartsCard

/-- THE TIED CARD OF 'signallinglaw09.WalkGoesOn'. -/
def walkGoesOnCard : Claim7 := { stood := { row := walkGoesOnRow, standIns := [], harness := (true, "06166d36be2db6352600bbb74a7f85cc401e2e5a60e803756880c0cd2cd3d5ca"), looks := false }, kinds := [], alts := [], laidByText := true, laidKinds := [.data], laidTests := true, laidLooks := .later }
def WalkGoesOnCardSaid : Prop := Claim7.holds Tryd.pinned (.plain (OpenSpec.ofChange walkGoesOnSpec)) walkGoesOnCard

/-- THE TIED CARD OF 'signallinglaw07.LayoutChecks'. -/
def layoutChecksCard : Claim7 := { stood := { row := layoutChecksRow, standIns := [], harness := (true, "06166d36be2db6352600bbb74a7f85cc401e2e5a60e803756880c0cd2cd3d5ca"), looks := false }, kinds := [], alts := [], laidByText := true, laidKinds := [.data], laidTests := true, laidLooks := .later }
def LayoutChecksCardSaid : Prop := Claim7.holds Tryd.pinned (.plain (OpenSpec.ofChange layoutChecksSpec)) layoutChecksCard

/-- THE TIED CARD OF 'signallinglaw07.LayoutJoins'. -/
def layoutJoinsCard : Claim7 := { stood := { row := layoutJoinsRow, standIns := [], harness := (true, "06166d36be2db6352600bbb74a7f85cc401e2e5a60e803756880c0cd2cd3d5ca"), looks := false }, kinds := [], alts := [], laidByText := true, laidKinds := [.data], laidTests := true, laidLooks := .later }
def LayoutJoinsCardSaid : Prop := Claim7.holds Tryd.pinned (.plain (OpenSpec.ofChange layoutJoinsSpec)) layoutJoinsCard

/-- THE TIED CARD OF 'signallinglaw07.LayoutRemoves'. -/
def layoutRemovesCard : Claim7 := { stood := { row := layoutRemovesRow, standIns := [], harness := (true, "06166d36be2db6352600bbb74a7f85cc401e2e5a60e803756880c0cd2cd3d5ca"), looks := false }, kinds := [], alts := [], laidByText := true, laidKinds := [.data], laidTests := true, laidLooks := .later }
def LayoutRemovesCardSaid : Prop := Claim7.holds Tryd.pinned (.plain (OpenSpec.ofChange layoutRemovesSpec)) layoutRemovesCard

/-- THE TIED CARD OF 'signallinglaw07.LayoutParts'. -/
def layoutPartsCard : Claim7 := { stood := { row := layoutPartsRow, standIns := [], harness := (true, "06166d36be2db6352600bbb74a7f85cc401e2e5a60e803756880c0cd2cd3d5ca"), looks := false }, kinds := [], alts := [], laidByText := true, laidKinds := [.data], laidTests := true, laidLooks := .later }
def LayoutPartsCardSaid : Prop := Claim7.holds Tryd.pinned (.plain (OpenSpec.ofChange layoutPartsSpec)) layoutPartsCard

/-- THE SECOND FORM's CARD OF 'signallinglaw06.RailSides'. -/
def railSidesUptoCard : Claim7 := { stood := { row := railSidesUptoRow, standIns := [], harness := (true, "06166d36be2db6352600bbb74a7f85cc401e2e5a60e803756880c0cd2cd3d5ca"), looks := false }, kinds := [], alts := [], laidByText := true, laidKinds := [.data, .data], laidTests := true, laidLooks := .later }
def RailSidesUptoCardSaid : Prop := Claim7.holds Tryd.pinned (.plain (OpenSpec.upto railSidesSpec)) railSidesUptoCard

/-- THE SECOND FORM's CARD OF 'signallinglaw06.RailPassages'. -/
def railPassagesUptoCard : Claim7 := { stood := { row := railPassagesUptoRow, standIns := [], harness := (true, "06166d36be2db6352600bbb74a7f85cc401e2e5a60e803756880c0cd2cd3d5ca"), looks := false }, kinds := [], alts := [], laidByText := true, laidKinds := [.data, .data], laidTests := true, laidLooks := .later }
def RailPassagesUptoCardSaid : Prop := Claim7.holds Tryd.pinned (.plain (OpenSpec.upto railPassagesSpec)) railPassagesUptoCard

/-- THE SECOND FORM's CARD OF 'signallinglaw06.RailSymmetric'. -/
def railSymmetricUptoCard : Claim7 := { stood := { row := railSymmetricUptoRow, standIns := [], harness := (true, "06166d36be2db6352600bbb74a7f85cc401e2e5a60e803756880c0cd2cd3d5ca"), looks := false }, kinds := [], alts := [], laidByText := true, laidKinds := [.data, .data], laidTests := true, laidLooks := .later }
def RailSymmetricUptoCardSaid : Prop := Claim7.holds Tryd.pinned (.plain (OpenSpec.upto railSymmetricSpec)) railSymmetricUptoCard

/-- THE SECOND FORM's CARD OF 'signallinglaw06.RailPositions'. -/
def railPositionsUptoCard : Claim7 := { stood := { row := railPositionsUptoRow, standIns := [], harness := (true, "06166d36be2db6352600bbb74a7f85cc401e2e5a60e803756880c0cd2cd3d5ca"), looks := false }, kinds := [], alts := [], laidByText := true, laidKinds := [.data, .data], laidTests := true, laidLooks := .later }
def RailPositionsUptoCardSaid : Prop := Claim7.holds Tryd.pinned (.plain (OpenSpec.upto railPositionsSpec)) railPositionsUptoCard

/-- THE SECOND FORM's CARD OF 'signallinglaw06.RailLegs'. -/
def railLegsUptoCard : Claim7 := { stood := { row := railLegsUptoRow, standIns := [], harness := (true, "06166d36be2db6352600bbb74a7f85cc401e2e5a60e803756880c0cd2cd3d5ca"), looks := false }, kinds := [], alts := [], laidByText := true, laidKinds := [.data, .data], laidTests := true, laidLooks := .later }
def RailLegsUptoCardSaid : Prop := Claim7.holds Tryd.pinned (.plain (OpenSpec.upto railLegsSpec)) railLegsUptoCard

/-- THE SECOND FORM's CARD OF 'signallinglaw09.WalkSteps'. -/
def walkStepsUptoCard : Claim7 := { stood := { row := walkStepsUptoRow, standIns := [], harness := (true, "06166d36be2db6352600bbb74a7f85cc401e2e5a60e803756880c0cd2cd3d5ca"), looks := false }, kinds := [], alts := [], laidByText := true, laidKinds := [.data], laidTests := true, laidLooks := .later }
def WalkStepsUptoCardSaid : Prop := Claim7.holds Tryd.pinned (.plain (OpenSpec.upto walkStepsSpec)) walkStepsUptoCard

/-- THE SECOND FORM's CARD OF 'signallinglaw09.WalkParts'. -/
def walkPartsUptoCard : Claim7 := { stood := { row := walkPartsUptoRow, standIns := [], harness := (true, "06166d36be2db6352600bbb74a7f85cc401e2e5a60e803756880c0cd2cd3d5ca"), looks := false }, kinds := [], alts := [], laidByText := true, laidKinds := [.data], laidTests := true, laidLooks := .later }
def WalkPartsUptoCardSaid : Prop := Claim7.holds Tryd.pinned (.plain (OpenSpec.upto walkPartsSpec)) walkPartsUptoCard

/-- THE SECOND FORM's CARD OF 'signallinglaw09.WalkGoesOn'. -/
def walkGoesOnUptoCard : Claim7 := { stood := { row := walkGoesOnUptoRow, standIns := [], harness := (true, "06166d36be2db6352600bbb74a7f85cc401e2e5a60e803756880c0cd2cd3d5ca"), looks := false }, kinds := [], alts := [], laidByText := true, laidKinds := [.data], laidTests := true, laidLooks := .later }
def WalkGoesOnUptoCardSaid : Prop := Claim7.holds Tryd.pinned (.plain (OpenSpec.upto walkGoesOnSpec)) walkGoesOnUptoCard

/-- THE SECOND FORM's CARD OF 'signallinglaw07.LayoutChecks'. -/
def layoutChecksUptoCard : Claim7 := { stood := { row := layoutChecksUptoRow, standIns := [], harness := (true, "06166d36be2db6352600bbb74a7f85cc401e2e5a60e803756880c0cd2cd3d5ca"), looks := false }, kinds := [], alts := [], laidByText := true, laidKinds := [.data], laidTests := true, laidLooks := .later }
def LayoutChecksUptoCardSaid : Prop := Claim7.holds Tryd.pinned (.plain (OpenSpec.upto layoutChecksSpec)) layoutChecksUptoCard

/-- THE SECOND FORM's CARD OF 'signallinglaw07.LayoutJoins'. -/
def layoutJoinsUptoCard : Claim7 := { stood := { row := layoutJoinsUptoRow, standIns := [], harness := (true, "06166d36be2db6352600bbb74a7f85cc401e2e5a60e803756880c0cd2cd3d5ca"), looks := false }, kinds := [], alts := [], laidByText := true, laidKinds := [.data], laidTests := true, laidLooks := .later }
def LayoutJoinsUptoCardSaid : Prop := Claim7.holds Tryd.pinned (.plain (OpenSpec.upto layoutJoinsSpec)) layoutJoinsUptoCard

/-- THE SECOND FORM's CARD OF 'signallinglaw07.LayoutRemoves'. -/
def layoutRemovesUptoCard : Claim7 := { stood := { row := layoutRemovesUptoRow, standIns := [], harness := (true, "06166d36be2db6352600bbb74a7f85cc401e2e5a60e803756880c0cd2cd3d5ca"), looks := false }, kinds := [], alts := [], laidByText := true, laidKinds := [.data], laidTests := true, laidLooks := .later }
def LayoutRemovesUptoCardSaid : Prop := Claim7.holds Tryd.pinned (.plain (OpenSpec.upto layoutRemovesSpec)) layoutRemovesUptoCard

/-- THE SECOND FORM's CARD OF 'signallinglaw07.LayoutParts'. -/
def layoutPartsUptoCard : Claim7 := { stood := { row := layoutPartsUptoRow, standIns := [], harness := (true, "06166d36be2db6352600bbb74a7f85cc401e2e5a60e803756880c0cd2cd3d5ca"), looks := false }, kinds := [], alts := [], laidByText := true, laidKinds := [.data], laidTests := true, laidLooks := .later }
def LayoutPartsUptoCardSaid : Prop := Claim7.holds Tryd.pinned (.plain (OpenSpec.upto layoutPartsSpec)) layoutPartsUptoCard
end Rows
end Go.Proofs.YtjfdmlckdgholaaDoor
