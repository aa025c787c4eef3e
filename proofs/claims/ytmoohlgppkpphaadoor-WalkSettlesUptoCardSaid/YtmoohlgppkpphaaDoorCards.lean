/-
  DERIVED. GIVEN WITH THE SEED: THE CARDS: each row of YtmoohlgppkpphaaDoorRows.lean that lists a variable, with what it lists TIED to the program's text (the seventh form; the later family's looks); each row that meets fmt, with fmt's text TOLD by the authors' own Lean function (tested against real Go, not proved from fmt's source: count such statements apart). THE CARD IS WHAT COUNTS. Prove the row's statement (the work); the ties are given (YtmoohlgppkpphaaDoorTie.lean); close each card by the builder's one call (the guide's Derived/Test/ToyasCard.lean, 'card_holds'). Laid BY PROGRAM, IN A SANDBOX (cutbox-door.mjs). By AI agents, Wed Nov 11 2026. No macro, syntax, notation, axiom, sorry.
-/
import Derived.Test.YtmoohlgppkpphaaDoorRows
import GoSem.ClaimSeven
namespace Go.Proofs.YtmoohlgppkpphaaDoor
namespace Rows

/-- THE TIED CARD OF 'signallinglaw32.LinkingOf'. -/
def linkingOfCard : Claim7 := { stood := { row := linkingOfRow, standIns := [], harness := (true, "9adb8a9c062993afe6c73f01cb07afd7218ec01077f0524bd8d82e17712b390f"), looks := false }, kinds := [], alts := [], laidByText := true, laidKinds := [.data], laidTests := true, laidLooks := .later }
def LinkingOfCardSaid : Prop := Claim7.holds Tryd.pinned (.plain (OpenSpec.ofChange linkingOfSpec)) linkingOfCard

/-- THE TIED CARD OF 'signallinglaw32.LinkingValid'. -/
def linkingValidCard : Claim7 := { stood := { row := linkingValidRow, standIns := [], harness := (true, "9adb8a9c062993afe6c73f01cb07afd7218ec01077f0524bd8d82e17712b390f"), looks := false }, kinds := [], alts := [], laidByText := true, laidKinds := [.data], laidTests := true, laidLooks := .later }
def LinkingValidCardSaid : Prop := Claim7.holds Tryd.pinned (.plain (OpenSpec.ofChange linkingValidSpec)) linkingValidCard

/-- THE TIED CARD OF 'signallinglaw32.LinkingOverdue'. -/
def linkingOverdueCard : Claim7 := { stood := { row := linkingOverdueRow, standIns := [], harness := (true, "9adb8a9c062993afe6c73f01cb07afd7218ec01077f0524bd8d82e17712b390f"), looks := false }, kinds := [], alts := [], laidByText := true, laidKinds := [.data], laidTests := true, laidLooks := .later }
def LinkingOverdueCardSaid : Prop := Claim7.holds Tryd.pinned (.plain (OpenSpec.ofChange linkingOverdueSpec)) linkingOverdueCard

/-- THE TIED CARD OF 'signallinglaw32.LinkingOrder'. -/
def linkingOrderCard : Claim7 := { stood := { row := linkingOrderRow, standIns := [], harness := (true, "9adb8a9c062993afe6c73f01cb07afd7218ec01077f0524bd8d82e17712b390f"), looks := false }, kinds := [], alts := [], laidByText := true, laidKinds := [.data], laidTests := true, laidLooks := .later }
def LinkingOrderCardSaid : Prop := Claim7.holds Tryd.pinned (.plain (OpenSpec.ofChange linkingOrderSpec)) linkingOrderCard

/-- THE TIED CARD OF 'signallinglaw32.LinkingReverse'. -/
def linkingReverseCard : Claim7 := { stood := { row := linkingReverseRow, standIns := [], harness := (true, "9adb8a9c062993afe6c73f01cb07afd7218ec01077f0524bd8d82e17712b390f"), looks := false }, kinds := [], alts := [], laidByText := true, laidKinds := [.data], laidTests := true, laidLooks := .later }
def LinkingReverseCardSaid : Prop := Claim7.holds Tryd.pinned (.plain (OpenSpec.ofChange linkingReverseSpec)) linkingReverseCard

/-- THE TIED CARD OF 'signallinglaw09.WalkMeasures'. -/
def walkMeasuresCard : Claim7 := { stood := { row := walkMeasuresRow, standIns := [], harness := (true, "9adb8a9c062993afe6c73f01cb07afd7218ec01077f0524bd8d82e17712b390f"), looks := false }, kinds := [], alts := [], laidByText := true, laidKinds := [.data], laidTests := true, laidLooks := .later }
def WalkMeasuresCardSaid : Prop := Claim7.holds Tryd.pinned (.plain (OpenSpec.ofChange walkMeasuresSpec)) walkMeasuresCard

/-- THE TIED CARD OF 'signallinglaw09.WalkReverses'. -/
def walkReversesCard : Claim7 := { stood := { row := walkReversesRow, standIns := [], harness := (true, "9adb8a9c062993afe6c73f01cb07afd7218ec01077f0524bd8d82e17712b390f"), looks := false }, kinds := [], alts := [], laidByText := true, laidKinds := [.data], laidTests := true, laidLooks := .later }
def WalkReversesCardSaid : Prop := Claim7.holds Tryd.pinned (.plain (OpenSpec.ofChange walkReversesSpec)) walkReversesCard

/-- THE TIED CARD OF 'signallinglaw09.WalkSettles'. -/
def walkSettlesCard : Claim7 := { stood := { row := walkSettlesRow, standIns := [], harness := (true, "9adb8a9c062993afe6c73f01cb07afd7218ec01077f0524bd8d82e17712b390f"), looks := false }, kinds := [], alts := [], laidByText := true, laidKinds := [.data], laidTests := true, laidLooks := .later }
def WalkSettlesCardSaid : Prop := Claim7.holds Tryd.pinned (.plain (OpenSpec.ofChange walkSettlesSpec)) walkSettlesCard

/-- THE SECOND FORM's CARD OF 'signallinglaw32.LinkingOf'. -/
def linkingOfUptoCard : Claim7 := { stood := { row := linkingOfUptoRow, standIns := [], harness := (true, "9adb8a9c062993afe6c73f01cb07afd7218ec01077f0524bd8d82e17712b390f"), looks := false }, kinds := [], alts := [], laidByText := true, laidKinds := [.data], laidTests := true, laidLooks := .later }
def LinkingOfUptoCardSaid : Prop := Claim7.holds Tryd.pinned (.plain (OpenSpec.upto linkingOfSpec)) linkingOfUptoCard

/-- THE SECOND FORM's CARD OF 'signallinglaw32.LinkingValid'. -/
def linkingValidUptoCard : Claim7 := { stood := { row := linkingValidUptoRow, standIns := [], harness := (true, "9adb8a9c062993afe6c73f01cb07afd7218ec01077f0524bd8d82e17712b390f"), looks := false }, kinds := [], alts := [], laidByText := true, laidKinds := [.data], laidTests := true, laidLooks := .later }
def LinkingValidUptoCardSaid : Prop := Claim7.holds Tryd.pinned (.plain (OpenSpec.upto linkingValidSpec)) linkingValidUptoCard

/-- THE SECOND FORM's CARD OF 'signallinglaw32.LinkingOverdue'. -/
def linkingOverdueUptoCard : Claim7 := { stood := { row := linkingOverdueUptoRow, standIns := [], harness := (true, "9adb8a9c062993afe6c73f01cb07afd7218ec01077f0524bd8d82e17712b390f"), looks := false }, kinds := [], alts := [], laidByText := true, laidKinds := [.data], laidTests := true, laidLooks := .later }
def LinkingOverdueUptoCardSaid : Prop := Claim7.holds Tryd.pinned (.plain (OpenSpec.upto linkingOverdueSpec)) linkingOverdueUptoCard

/-- THE SECOND FORM's CARD OF 'signallinglaw32.LinkingOrder'. -/
def linkingOrderUptoCard : Claim7 := { stood := { row := linkingOrderUptoRow, standIns := [], harness := (true, "9adb8a9c062993afe6c73f01cb07afd7218ec01077f0524bd8d82e17712b390f"), looks := false }, kinds := [], alts := [], laidByText := true, laidKinds := [.data], laidTests := true, laidLooks := .later }
def LinkingOrderUptoCardSaid : Prop := Claim7.holds Tryd.pinned (.plain (OpenSpec.upto linkingOrderSpec)) linkingOrderUptoCard

/-- THE SECOND FORM's CARD OF 'signallinglaw32.LinkingReverse'. -/
def linkingReverseUptoCard : Claim7 := { stood := { row := linkingReverseUptoRow, standIns := [], harness := (true, "9adb8a9c062993afe6c73f01cb07afd7218ec01077f0524bd8d82e17712b390f"), looks := false }, kinds := [], alts := [], laidByText := true, laidKinds := [.data], laidTests := true, laidLooks := .later }
def LinkingReverseUptoCardSaid : Prop := Claim7.holds Tryd.pinned (.plain (OpenSpec.upto linkingReverseSpec)) linkingReverseUptoCard

/-- THE SECOND FORM's CARD OF 'signallinglaw09.WalkMeasures'. -/
def walkMeasuresUptoCard : Claim7 := { stood := { row := walkMeasuresUptoRow, standIns := [], harness := (true, "9adb8a9c062993afe6c73f01cb07afd7218ec01077f0524bd8d82e17712b390f"), looks := false }, kinds := [], alts := [], laidByText := true, laidKinds := [.data], laidTests := true, laidLooks := .later }
def WalkMeasuresUptoCardSaid : Prop := Claim7.holds Tryd.pinned (.plain (OpenSpec.upto walkMeasuresSpec)) walkMeasuresUptoCard

/-- THE SECOND FORM's CARD OF 'signallinglaw09.WalkReverses'. -/
def walkReversesUptoCard : Claim7 := { stood := { row := walkReversesUptoRow, standIns := [], harness := (true, "9adb8a9c062993afe6c73f01cb07afd7218ec01077f0524bd8d82e17712b390f"), looks := false }, kinds := [], alts := [], laidByText := true, laidKinds := [.data], laidTests := true, laidLooks := .later }
def WalkReversesUptoCardSaid : Prop := Claim7.holds Tryd.pinned (.plain (OpenSpec.upto walkReversesSpec)) walkReversesUptoCard

/-- THE SECOND FORM's CARD OF 'signallinglaw09.WalkSettles'. -/
def walkSettlesUptoCard : Claim7 := { stood := { row := walkSettlesUptoRow, standIns := [], harness := (true, "9adb8a9c062993afe6c73f01cb07afd7218ec01077f0524bd8d82e17712b390f"), looks := false }, kinds := [], alts := [], laidByText := true, laidKinds := [.data], laidTests := true, laidLooks := .later }
def WalkSettlesUptoCardSaid : Prop := Claim7.holds Tryd.pinned (.plain (OpenSpec.upto walkSettlesSpec)) walkSettlesUptoCard
end Rows
end Go.Proofs.YtmoohlgppkpphaaDoor
