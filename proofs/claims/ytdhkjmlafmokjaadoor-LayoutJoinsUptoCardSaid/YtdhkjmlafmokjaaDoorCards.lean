/-
  DERIVED. GIVEN WITH THE SEED: THE CARDS: each row of YtdhkjmlafmokjaaDoorRows.lean that lists a variable, with what it lists TIED to the program's text (the seventh form; the later family's looks); each row that meets fmt, with fmt's text TOLD by the authors' own Lean function (tested against real Go, not proved from fmt's source: count such statements apart). THE CARD IS WHAT COUNTS. Prove the row's statement (the work); the ties are given (YtdhkjmlafmokjaaDoorTie.lean); close each card by the builder's one call (the guide's Derived/Test/ToyasCard.lean, 'card_holds'). Laid BY PROGRAM, IN A SANDBOX (cutbox-door.mjs). By AI agents, Wed Nov 11 2026. No macro, syntax, notation, axiom, sorry.
-/
import Derived.Test.YtdhkjmlafmokjaaDoorRows
import GoSem.ClaimSeven
namespace Go.Proofs.YtdhkjmlafmokjaaDoor
namespace Rows

/-- THE TIED CARD OF 'signallinglaw07.LayoutChecks'. -/
def layoutChecksCard : Claim7 := { stood := { row := layoutChecksRow, standIns := [], harness := (true, "706700476f015ad82fd12fd1f5f8670292d56d8318951c4720b4e5ccf4e859a6"), looks := false }, kinds := [], alts := [], laidByText := true, laidKinds := [.data], laidTests := true, laidLooks := .later }
def LayoutChecksCardSaid : Prop := Claim7.holds Tryd.pinned (.plain (OpenSpec.ofChange layoutChecksSpec)) layoutChecksCard

/-- THE TIED CARD OF 'signallinglaw07.LayoutJoins'. -/
def layoutJoinsCard : Claim7 := { stood := { row := layoutJoinsRow, standIns := [], harness := (true, "706700476f015ad82fd12fd1f5f8670292d56d8318951c4720b4e5ccf4e859a6"), looks := false }, kinds := [], alts := [], laidByText := true, laidKinds := [.data], laidTests := true, laidLooks := .later }
def LayoutJoinsCardSaid : Prop := Claim7.holds Tryd.pinned (.plain (OpenSpec.ofChange layoutJoinsSpec)) layoutJoinsCard

/-- THE TIED CARD OF 'signallinglaw07.LayoutRemoves'. -/
def layoutRemovesCard : Claim7 := { stood := { row := layoutRemovesRow, standIns := [], harness := (true, "706700476f015ad82fd12fd1f5f8670292d56d8318951c4720b4e5ccf4e859a6"), looks := false }, kinds := [], alts := [], laidByText := true, laidKinds := [.data], laidTests := true, laidLooks := .later }
def LayoutRemovesCardSaid : Prop := Claim7.holds Tryd.pinned (.plain (OpenSpec.ofChange layoutRemovesSpec)) layoutRemovesCard

/-- THE TIED CARD OF 'signallinglaw07.LayoutParts'. -/
def layoutPartsCard : Claim7 := { stood := { row := layoutPartsRow, standIns := [], harness := (true, "706700476f015ad82fd12fd1f5f8670292d56d8318951c4720b4e5ccf4e859a6"), looks := false }, kinds := [], alts := [], laidByText := true, laidKinds := [.data], laidTests := true, laidLooks := .later }
def LayoutPartsCardSaid : Prop := Claim7.holds Tryd.pinned (.plain (OpenSpec.ofChange layoutPartsSpec)) layoutPartsCard

/-- THE TIED CARD OF 'signallinglaw11.BodyChecks'. -/
def bodyChecksCard : Claim7 := { stood := { row := bodyChecksRow, standIns := [], harness := (true, "706700476f015ad82fd12fd1f5f8670292d56d8318951c4720b4e5ccf4e859a6"), looks := false }, kinds := [], alts := [], laidByText := true, laidKinds := [.data], laidTests := true, laidLooks := .later }
def BodyChecksCardSaid : Prop := Claim7.holds Tryd.pinned (.plain (OpenSpec.ofChange bodyChecksSpec)) bodyChecksCard

/-- THE TIED CARD OF 'signallinglaw11.BodyReads'. -/
def bodyReadsCard : Claim7 := { stood := { row := bodyReadsRow, standIns := [], harness := (true, "706700476f015ad82fd12fd1f5f8670292d56d8318951c4720b4e5ccf4e859a6"), looks := false }, kinds := [], alts := [], laidByText := true, laidKinds := [.data], laidTests := true, laidLooks := .later }
def BodyReadsCardSaid : Prop := Claim7.holds Tryd.pinned (.plain (OpenSpec.ofChange bodyReadsSpec)) bodyReadsCard

/-- THE TIED CARD OF 'signallinglaw11.BodyMoves'. -/
def bodyMovesCard : Claim7 := { stood := { row := bodyMovesRow, standIns := [], harness := (true, "706700476f015ad82fd12fd1f5f8670292d56d8318951c4720b4e5ccf4e859a6"), looks := false }, kinds := [], alts := [], laidByText := true, laidKinds := [.data], laidTests := true, laidLooks := .later }
def BodyMovesCardSaid : Prop := Claim7.holds Tryd.pinned (.plain (OpenSpec.ofChange bodyMovesSpec)) bodyMovesCard

/-- THE TIED CARD OF 'signallinglaw11.BodyCovers'. -/
def bodyCoversCard : Claim7 := { stood := { row := bodyCoversRow, standIns := [], harness := (true, "706700476f015ad82fd12fd1f5f8670292d56d8318951c4720b4e5ccf4e859a6"), looks := false }, kinds := [], alts := [], laidByText := true, laidKinds := [.data], laidTests := true, laidLooks := .later }
def BodyCoversCardSaid : Prop := Claim7.holds Tryd.pinned (.plain (OpenSpec.ofChange bodyCoversSpec)) bodyCoversCard

/-- THE TIED CARD OF 'signallinglaw11.BodyTwice'. -/
def bodyTwiceCard : Claim7 := { stood := { row := bodyTwiceRow, standIns := [], harness := (true, "706700476f015ad82fd12fd1f5f8670292d56d8318951c4720b4e5ccf4e859a6"), looks := false }, kinds := [], alts := [], laidByText := true, laidKinds := [.data], laidTests := true, laidLooks := .later }
def BodyTwiceCardSaid : Prop := Claim7.holds Tryd.pinned (.plain (OpenSpec.ofChange bodyTwiceSpec)) bodyTwiceCard

/-- THE SECOND FORM's CARD OF 'signallinglaw07.LayoutChecks'. -/
def layoutChecksUptoCard : Claim7 := { stood := { row := layoutChecksUptoRow, standIns := [], harness := (true, "706700476f015ad82fd12fd1f5f8670292d56d8318951c4720b4e5ccf4e859a6"), looks := false }, kinds := [], alts := [], laidByText := true, laidKinds := [.data], laidTests := true, laidLooks := .later }
def LayoutChecksUptoCardSaid : Prop := Claim7.holds Tryd.pinned (.plain (OpenSpec.upto layoutChecksSpec)) layoutChecksUptoCard

/-- THE SECOND FORM's CARD OF 'signallinglaw07.LayoutJoins'. -/
def layoutJoinsUptoCard : Claim7 := { stood := { row := layoutJoinsUptoRow, standIns := [], harness := (true, "706700476f015ad82fd12fd1f5f8670292d56d8318951c4720b4e5ccf4e859a6"), looks := false }, kinds := [], alts := [], laidByText := true, laidKinds := [.data], laidTests := true, laidLooks := .later }
def LayoutJoinsUptoCardSaid : Prop := Claim7.holds Tryd.pinned (.plain (OpenSpec.upto layoutJoinsSpec)) layoutJoinsUptoCard

/-- THE SECOND FORM's CARD OF 'signallinglaw07.LayoutRemoves'. -/
def layoutRemovesUptoCard : Claim7 := { stood := { row := layoutRemovesUptoRow, standIns := [], harness := (true, "706700476f015ad82fd12fd1f5f8670292d56d8318951c4720b4e5ccf4e859a6"), looks := false }, kinds := [], alts := [], laidByText := true, laidKinds := [.data], laidTests := true, laidLooks := .later }
def LayoutRemovesUptoCardSaid : Prop := Claim7.holds Tryd.pinned (.plain (OpenSpec.upto layoutRemovesSpec)) layoutRemovesUptoCard

/-- THE SECOND FORM's CARD OF 'signallinglaw07.LayoutParts'. -/
def layoutPartsUptoCard : Claim7 := { stood := { row := layoutPartsUptoRow, standIns := [], harness := (true, "706700476f015ad82fd12fd1f5f8670292d56d8318951c4720b4e5ccf4e859a6"), looks := false }, kinds := [], alts := [], laidByText := true, laidKinds := [.data], laidTests := true, laidLooks := .later }
def LayoutPartsUptoCardSaid : Prop := Claim7.holds Tryd.pinned (.plain (OpenSpec.upto layoutPartsSpec)) layoutPartsUptoCard

/-- THE SECOND FORM's CARD OF 'signallinglaw11.BodyChecks'. -/
def bodyChecksUptoCard : Claim7 := { stood := { row := bodyChecksUptoRow, standIns := [], harness := (true, "706700476f015ad82fd12fd1f5f8670292d56d8318951c4720b4e5ccf4e859a6"), looks := false }, kinds := [], alts := [], laidByText := true, laidKinds := [.data], laidTests := true, laidLooks := .later }
def BodyChecksUptoCardSaid : Prop := Claim7.holds Tryd.pinned (.plain (OpenSpec.upto bodyChecksSpec)) bodyChecksUptoCard

/-- THE SECOND FORM's CARD OF 'signallinglaw11.BodyReads'. -/
def bodyReadsUptoCard : Claim7 := { stood := { row := bodyReadsUptoRow, standIns := [], harness := (true, "706700476f015ad82fd12fd1f5f8670292d56d8318951c4720b4e5ccf4e859a6"), looks := false }, kinds := [], alts := [], laidByText := true, laidKinds := [.data], laidTests := true, laidLooks := .later }
def BodyReadsUptoCardSaid : Prop := Claim7.holds Tryd.pinned (.plain (OpenSpec.upto bodyReadsSpec)) bodyReadsUptoCard

/-- THE SECOND FORM's CARD OF 'signallinglaw11.BodyMoves'. -/
def bodyMovesUptoCard : Claim7 := { stood := { row := bodyMovesUptoRow, standIns := [], harness := (true, "706700476f015ad82fd12fd1f5f8670292d56d8318951c4720b4e5ccf4e859a6"), looks := false }, kinds := [], alts := [], laidByText := true, laidKinds := [.data], laidTests := true, laidLooks := .later }
def BodyMovesUptoCardSaid : Prop := Claim7.holds Tryd.pinned (.plain (OpenSpec.upto bodyMovesSpec)) bodyMovesUptoCard

/-- THE SECOND FORM's CARD OF 'signallinglaw11.BodyCovers'. -/
def bodyCoversUptoCard : Claim7 := { stood := { row := bodyCoversUptoRow, standIns := [], harness := (true, "706700476f015ad82fd12fd1f5f8670292d56d8318951c4720b4e5ccf4e859a6"), looks := false }, kinds := [], alts := [], laidByText := true, laidKinds := [.data], laidTests := true, laidLooks := .later }
def BodyCoversUptoCardSaid : Prop := Claim7.holds Tryd.pinned (.plain (OpenSpec.upto bodyCoversSpec)) bodyCoversUptoCard

/-- THE SECOND FORM's CARD OF 'signallinglaw11.BodyTwice'. -/
def bodyTwiceUptoCard : Claim7 := { stood := { row := bodyTwiceUptoRow, standIns := [], harness := (true, "706700476f015ad82fd12fd1f5f8670292d56d8318951c4720b4e5ccf4e859a6"), looks := false }, kinds := [], alts := [], laidByText := true, laidKinds := [.data], laidTests := true, laidLooks := .later }
def BodyTwiceUptoCardSaid : Prop := Claim7.holds Tryd.pinned (.plain (OpenSpec.upto bodyTwiceSpec)) bodyTwiceUptoCard
end Rows
end Go.Proofs.YtdhkjmlafmokjaaDoor
