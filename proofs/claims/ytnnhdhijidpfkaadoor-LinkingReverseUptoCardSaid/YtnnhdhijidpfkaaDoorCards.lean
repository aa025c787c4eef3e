/-
  DERIVED. GIVEN WITH THE SEED: THE CARDS: each row of YtnnhdhijidpfkaaDoorRows.lean that lists a variable, with what it lists TIED to the program's text (the seventh form; the later family's looks); each row that meets fmt, with fmt's text TOLD by the authors' own Lean function (tested against real Go, not proved from fmt's source: count such statements apart). THE CARD IS WHAT COUNTS. Prove the row's statement (the work); the ties are given (YtnnhdhijidpfkaaDoorTie.lean); close each card by the builder's one call (the guide's Derived/Test/ToyasCard.lean, 'card_holds'). Laid BY PROGRAM, IN A SANDBOX (cutbox-door.mjs). By AI agents, Wed Nov 11 2026. No macro, syntax, notation, axiom, sorry.
-/
import Derived.Test.YtnnhdhijidpfkaaDoorRows
import GoSem.ClaimSeven
namespace Go.Proofs.YtnnhdhijidpfkaaDoor
namespace Rows

/-- THE TIED CARD OF 'signallinglaw32.LinkingOf'. -/
def linkingOfCard : Claim7 := { stood := { row := linkingOfRow, standIns := [], harness := (true, "6b685872f6539791d9225ade56dcc705d5837d6b5a7f76f34371451d6fc2f11c"), looks := false }, kinds := [], alts := [], laidByText := true, laidKinds := [.data], laidTests := true, laidLooks := .later }
def LinkingOfCardSaid : Prop := Claim7.holds Tryd.pinned (.plain (OpenSpec.ofChange linkingOfSpec)) linkingOfCard

/-- THE TIED CARD OF 'signallinglaw32.LinkingValid'. -/
def linkingValidCard : Claim7 := { stood := { row := linkingValidRow, standIns := [], harness := (true, "6b685872f6539791d9225ade56dcc705d5837d6b5a7f76f34371451d6fc2f11c"), looks := false }, kinds := [], alts := [], laidByText := true, laidKinds := [.data], laidTests := true, laidLooks := .later }
def LinkingValidCardSaid : Prop := Claim7.holds Tryd.pinned (.plain (OpenSpec.ofChange linkingValidSpec)) linkingValidCard

/-- THE TIED CARD OF 'signallinglaw32.LinkingOverdue'. -/
def linkingOverdueCard : Claim7 := { stood := { row := linkingOverdueRow, standIns := [], harness := (true, "6b685872f6539791d9225ade56dcc705d5837d6b5a7f76f34371451d6fc2f11c"), looks := false }, kinds := [], alts := [], laidByText := true, laidKinds := [.data], laidTests := true, laidLooks := .later }
def LinkingOverdueCardSaid : Prop := Claim7.holds Tryd.pinned (.plain (OpenSpec.ofChange linkingOverdueSpec)) linkingOverdueCard

/-- THE TIED CARD OF 'signallinglaw32.LinkingOrder'. -/
def linkingOrderCard : Claim7 := { stood := { row := linkingOrderRow, standIns := [], harness := (true, "6b685872f6539791d9225ade56dcc705d5837d6b5a7f76f34371451d6fc2f11c"), looks := false }, kinds := [], alts := [], laidByText := true, laidKinds := [.data], laidTests := true, laidLooks := .later }
def LinkingOrderCardSaid : Prop := Claim7.holds Tryd.pinned (.plain (OpenSpec.ofChange linkingOrderSpec)) linkingOrderCard

/-- THE TIED CARD OF 'signallinglaw32.LinkingReverse'. -/
def linkingReverseCard : Claim7 := { stood := { row := linkingReverseRow, standIns := [], harness := (true, "6b685872f6539791d9225ade56dcc705d5837d6b5a7f76f34371451d6fc2f11c"), looks := false }, kinds := [], alts := [], laidByText := true, laidKinds := [.data], laidTests := true, laidLooks := .later }
def LinkingReverseCardSaid : Prop := Claim7.holds Tryd.pinned (.plain (OpenSpec.ofChange linkingReverseSpec)) linkingReverseCard

/-- THE SECOND FORM's CARD OF 'signallinglaw32.LinkingOf'. -/
def linkingOfUptoCard : Claim7 := { stood := { row := linkingOfUptoRow, standIns := [], harness := (true, "6b685872f6539791d9225ade56dcc705d5837d6b5a7f76f34371451d6fc2f11c"), looks := false }, kinds := [], alts := [], laidByText := true, laidKinds := [.data], laidTests := true, laidLooks := .later }
def LinkingOfUptoCardSaid : Prop := Claim7.holds Tryd.pinned (.plain (OpenSpec.upto linkingOfSpec)) linkingOfUptoCard

/-- THE SECOND FORM's CARD OF 'signallinglaw32.LinkingValid'. -/
def linkingValidUptoCard : Claim7 := { stood := { row := linkingValidUptoRow, standIns := [], harness := (true, "6b685872f6539791d9225ade56dcc705d5837d6b5a7f76f34371451d6fc2f11c"), looks := false }, kinds := [], alts := [], laidByText := true, laidKinds := [.data], laidTests := true, laidLooks := .later }
def LinkingValidUptoCardSaid : Prop := Claim7.holds Tryd.pinned (.plain (OpenSpec.upto linkingValidSpec)) linkingValidUptoCard

/-- THE SECOND FORM's CARD OF 'signallinglaw32.LinkingOverdue'. -/
def linkingOverdueUptoCard : Claim7 := { stood := { row := linkingOverdueUptoRow, standIns := [], harness := (true, "6b685872f6539791d9225ade56dcc705d5837d6b5a7f76f34371451d6fc2f11c"), looks := false }, kinds := [], alts := [], laidByText := true, laidKinds := [.data], laidTests := true, laidLooks := .later }
def LinkingOverdueUptoCardSaid : Prop := Claim7.holds Tryd.pinned (.plain (OpenSpec.upto linkingOverdueSpec)) linkingOverdueUptoCard

/-- THE SECOND FORM's CARD OF 'signallinglaw32.LinkingOrder'. -/
def linkingOrderUptoCard : Claim7 := { stood := { row := linkingOrderUptoRow, standIns := [], harness := (true, "6b685872f6539791d9225ade56dcc705d5837d6b5a7f76f34371451d6fc2f11c"), looks := false }, kinds := [], alts := [], laidByText := true, laidKinds := [.data], laidTests := true, laidLooks := .later }
def LinkingOrderUptoCardSaid : Prop := Claim7.holds Tryd.pinned (.plain (OpenSpec.upto linkingOrderSpec)) linkingOrderUptoCard

/-- THE SECOND FORM's CARD OF 'signallinglaw32.LinkingReverse'. -/
def linkingReverseUptoCard : Claim7 := { stood := { row := linkingReverseUptoRow, standIns := [], harness := (true, "6b685872f6539791d9225ade56dcc705d5837d6b5a7f76f34371451d6fc2f11c"), looks := false }, kinds := [], alts := [], laidByText := true, laidKinds := [.data], laidTests := true, laidLooks := .later }
def LinkingReverseUptoCardSaid : Prop := Claim7.holds Tryd.pinned (.plain (OpenSpec.upto linkingReverseSpec)) linkingReverseUptoCard
end Rows
end Go.Proofs.YtnnhdhijidpfkaaDoor
