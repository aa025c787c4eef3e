/-
  DERIVED. GIVEN WITH THE SEED: THE CARDS: each row of YtdnbdimfianapaaDoorRows.lean that lists a variable, with what it lists TIED to the program's text (the seventh form; the later family's looks); each row that meets fmt, with fmt's text TOLD by the authors' own Lean function (tested against real Go, not proved from fmt's source: count such statements apart). THE CARD IS WHAT COUNTS. Prove the row's statement (the work); the ties are given (YtdnbdimfianapaaDoorTie.lean); close each card by the builder's one call (the guide's Derived/Test/ToyasCard.lean, 'card_holds'). Laid BY PROGRAM, IN A SANDBOX (cutbox-door.mjs). By AI agents, Wed Nov 11 2026. No macro, syntax, notation, axiom, sorry.
-/
import Derived.Test.YtdnbdimfianapaaDoorRows
import GoSem.ClaimSeven
namespace Go.Proofs.YtdnbdimfianapaaDoor
namespace Rows

/-- THE TIED CARD OF 'signallinglaw45.AuthorityCompares'. -/
def authorityComparesCard : Claim7 := { stood := { row := authorityComparesRow, standIns := [], harness := (true, "74037c2b5ec1c6d2f61bdc75390905e812d5a25715b406b1f1ad1ad641e2dda6"), looks := false }, kinds := [], alts := [], laidByText := true, laidKinds := [.data], laidTests := true, laidLooks := .later }
def AuthorityComparesCardSaid : Prop := Claim7.holds Tryd.pinned (.plain (OpenSpec.ofChange authorityComparesSpec)) authorityComparesCard

/-- THE TIED CARD OF 'signallinglaw45.AuthorityPart'. -/
def authorityPartCard : Claim7 := { stood := { row := authorityPartRow, standIns := [], harness := (true, "74037c2b5ec1c6d2f61bdc75390905e812d5a25715b406b1f1ad1ad641e2dda6"), looks := false }, kinds := [], alts := [], laidByText := true, laidKinds := [.data], laidTests := true, laidLooks := .later }
def AuthorityPartCardSaid : Prop := Claim7.holds Tryd.pinned (.plain (OpenSpec.ofChange authorityPartSpec)) authorityPartCard

/-- THE SECOND FORM's CARD OF 'signallinglaw45.AuthorityCompares'. -/
def authorityComparesUptoCard : Claim7 := { stood := { row := authorityComparesUptoRow, standIns := [], harness := (true, "74037c2b5ec1c6d2f61bdc75390905e812d5a25715b406b1f1ad1ad641e2dda6"), looks := false }, kinds := [], alts := [], laidByText := true, laidKinds := [.data], laidTests := true, laidLooks := .later }
def AuthorityComparesUptoCardSaid : Prop := Claim7.holds Tryd.pinned (.plain (OpenSpec.upto authorityComparesSpec)) authorityComparesUptoCard

/-- THE SECOND FORM's CARD OF 'signallinglaw45.AuthorityPart'. -/
def authorityPartUptoCard : Claim7 := { stood := { row := authorityPartUptoRow, standIns := [], harness := (true, "74037c2b5ec1c6d2f61bdc75390905e812d5a25715b406b1f1ad1ad641e2dda6"), looks := false }, kinds := [], alts := [], laidByText := true, laidKinds := [.data], laidTests := true, laidLooks := .later }
def AuthorityPartUptoCardSaid : Prop := Claim7.holds Tryd.pinned (.plain (OpenSpec.upto authorityPartSpec)) authorityPartUptoCard
end Rows
end Go.Proofs.YtdnbdimfianapaaDoor
