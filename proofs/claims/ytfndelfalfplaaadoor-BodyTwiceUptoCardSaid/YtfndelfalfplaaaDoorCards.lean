/-
  DERIVED. GIVEN WITH THE SEED: THE CARDS: each row of YtfndelfalfplaaaDoorRows.lean that lists a variable, with what it lists TIED to the program's text (the seventh form; the later family's looks); each row that meets fmt, with fmt's text TOLD by the authors' own Lean function (tested against real Go, not proved from fmt's source: count such statements apart). THE CARD IS WHAT COUNTS. Prove the row's statement (the work); the ties are given (YtfndelfalfplaaaDoorTie.lean); close each card by the builder's one call (the guide's Derived/Test/ToyasCard.lean, 'card_holds'). Laid BY PROGRAM, IN A SANDBOX (cutbox-door.mjs). By AI agents, Wed Nov 11 2026. No macro, syntax, notation, axiom, sorry.
-/
import Derived.Test.YtfndelfalfplaaaDoorRows
import GoSem.ClaimSeven
namespace Go.Proofs.YtfndelfalfplaaaDoor
namespace Rows

/-- THE TIED CARD OF 'signallinglaw11.BodyChecks'. -/
def bodyChecksCard : Claim7 := { stood := { row := bodyChecksRow, standIns := [], harness := (true, "8d5a41ea137b4b2b7dc684da51f03d86ce0c95a2ec359e362ed52eb0ae0fb53b"), looks := false }, kinds := [], alts := [], laidByText := true, laidKinds := [.data], laidTests := true, laidLooks := .later }
def BodyChecksCardSaid : Prop := Claim7.holds Tryd.pinned (.plain (OpenSpec.ofChange bodyChecksSpec)) bodyChecksCard

/-- THE TIED CARD OF 'signallinglaw11.BodyReads'. -/
def bodyReadsCard : Claim7 := { stood := { row := bodyReadsRow, standIns := [], harness := (true, "8d5a41ea137b4b2b7dc684da51f03d86ce0c95a2ec359e362ed52eb0ae0fb53b"), looks := false }, kinds := [], alts := [], laidByText := true, laidKinds := [.data], laidTests := true, laidLooks := .later }
def BodyReadsCardSaid : Prop := Claim7.holds Tryd.pinned (.plain (OpenSpec.ofChange bodyReadsSpec)) bodyReadsCard

/-- THE TIED CARD OF 'signallinglaw11.BodyMoves'. -/
def bodyMovesCard : Claim7 := { stood := { row := bodyMovesRow, standIns := [], harness := (true, "8d5a41ea137b4b2b7dc684da51f03d86ce0c95a2ec359e362ed52eb0ae0fb53b"), looks := false }, kinds := [], alts := [], laidByText := true, laidKinds := [.data], laidTests := true, laidLooks := .later }
def BodyMovesCardSaid : Prop := Claim7.holds Tryd.pinned (.plain (OpenSpec.ofChange bodyMovesSpec)) bodyMovesCard

/-- THE TIED CARD OF 'signallinglaw11.BodyCovers'. -/
def bodyCoversCard : Claim7 := { stood := { row := bodyCoversRow, standIns := [], harness := (true, "8d5a41ea137b4b2b7dc684da51f03d86ce0c95a2ec359e362ed52eb0ae0fb53b"), looks := false }, kinds := [], alts := [], laidByText := true, laidKinds := [.data], laidTests := true, laidLooks := .later }
def BodyCoversCardSaid : Prop := Claim7.holds Tryd.pinned (.plain (OpenSpec.ofChange bodyCoversSpec)) bodyCoversCard

/-- THE TIED CARD OF 'signallinglaw11.BodyTwice'. -/
def bodyTwiceCard : Claim7 := { stood := { row := bodyTwiceRow, standIns := [], harness := (true, "8d5a41ea137b4b2b7dc684da51f03d86ce0c95a2ec359e362ed52eb0ae0fb53b"), looks := false }, kinds := [], alts := [], laidByText := true, laidKinds := [.data], laidTests := true, laidLooks := .later }
def BodyTwiceCardSaid : Prop := Claim7.holds Tryd.pinned (.plain (OpenSpec.ofChange bodyTwiceSpec)) bodyTwiceCard

/-- THE SECOND FORM's CARD OF 'signallinglaw11.BodyChecks'. -/
def bodyChecksUptoCard : Claim7 := { stood := { row := bodyChecksUptoRow, standIns := [], harness := (true, "8d5a41ea137b4b2b7dc684da51f03d86ce0c95a2ec359e362ed52eb0ae0fb53b"), looks := false }, kinds := [], alts := [], laidByText := true, laidKinds := [.data], laidTests := true, laidLooks := .later }
def BodyChecksUptoCardSaid : Prop := Claim7.holds Tryd.pinned (.plain (OpenSpec.upto bodyChecksSpec)) bodyChecksUptoCard

/-- THE SECOND FORM's CARD OF 'signallinglaw11.BodyReads'. -/
def bodyReadsUptoCard : Claim7 := { stood := { row := bodyReadsUptoRow, standIns := [], harness := (true, "8d5a41ea137b4b2b7dc684da51f03d86ce0c95a2ec359e362ed52eb0ae0fb53b"), looks := false }, kinds := [], alts := [], laidByText := true, laidKinds := [.data], laidTests := true, laidLooks := .later }
def BodyReadsUptoCardSaid : Prop := Claim7.holds Tryd.pinned (.plain (OpenSpec.upto bodyReadsSpec)) bodyReadsUptoCard

/-- THE SECOND FORM's CARD OF 'signallinglaw11.BodyMoves'. -/
def bodyMovesUptoCard : Claim7 := { stood := { row := bodyMovesUptoRow, standIns := [], harness := (true, "8d5a41ea137b4b2b7dc684da51f03d86ce0c95a2ec359e362ed52eb0ae0fb53b"), looks := false }, kinds := [], alts := [], laidByText := true, laidKinds := [.data], laidTests := true, laidLooks := .later }
def BodyMovesUptoCardSaid : Prop := Claim7.holds Tryd.pinned (.plain (OpenSpec.upto bodyMovesSpec)) bodyMovesUptoCard

/-- THE SECOND FORM's CARD OF 'signallinglaw11.BodyCovers'. -/
def bodyCoversUptoCard : Claim7 := { stood := { row := bodyCoversUptoRow, standIns := [], harness := (true, "8d5a41ea137b4b2b7dc684da51f03d86ce0c95a2ec359e362ed52eb0ae0fb53b"), looks := false }, kinds := [], alts := [], laidByText := true, laidKinds := [.data], laidTests := true, laidLooks := .later }
def BodyCoversUptoCardSaid : Prop := Claim7.holds Tryd.pinned (.plain (OpenSpec.upto bodyCoversSpec)) bodyCoversUptoCard

/-- THE SECOND FORM's CARD OF 'signallinglaw11.BodyTwice'. -/
def bodyTwiceUptoCard : Claim7 := { stood := { row := bodyTwiceUptoRow, standIns := [], harness := (true, "8d5a41ea137b4b2b7dc684da51f03d86ce0c95a2ec359e362ed52eb0ae0fb53b"), looks := false }, kinds := [], alts := [], laidByText := true, laidKinds := [.data], laidTests := true, laidLooks := .later }
def BodyTwiceUptoCardSaid : Prop := Claim7.holds Tryd.pinned (.plain (OpenSpec.upto bodyTwiceSpec)) bodyTwiceUptoCard
end Rows
end Go.Proofs.YtfndelfalfplaaaDoor
