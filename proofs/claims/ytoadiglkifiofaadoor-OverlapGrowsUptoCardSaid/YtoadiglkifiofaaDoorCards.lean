/-
  DERIVED. GIVEN WITH THE SEED: THE CARDS: each row of YtoadiglkifiofaaDoorRows.lean that lists a variable, with what it lists TIED to the program's text (the seventh form; the later family's looks); each row that meets fmt, with fmt's text TOLD by the authors' own Lean function (tested against real Go, not proved from fmt's source: count such statements apart). THE CARD IS WHAT COUNTS. Prove the row's statement (the work); the ties are given (YtoadiglkifiofaaDoorTie.lean); close each card by the builder's one call (the guide's Derived/Test/ToyasCard.lean, 'card_holds'). Laid BY PROGRAM, IN A SANDBOX (cutbox-door.mjs). By AI agents, Wed Nov 11 2026. No macro, syntax, notation, axiom, sorry.
-/
import Derived.Test.YtoadiglkifiofaaDoorRows
import GoSem.ClaimSeven
namespace Go.Proofs.YtoadiglkifiofaaDoor
namespace Rows

/-- THE TIED CARD OF 'signallinglaw13.OverlapApart'. -/
def overlapApartCard : Claim7 := { stood := { row := overlapApartRow, standIns := [], harness := (true, "7df35f3745490cde5d4f2ee8550320111a747cd3f0e74c495758ea3db974a566"), looks := false }, kinds := [], alts := [], laidByText := true, laidKinds := [.data], laidTests := true, laidLooks := .later }
def OverlapApartCardSaid : Prop := Claim7.holds Tryd.pinned (.plain (OpenSpec.ofChange overlapApartSpec)) overlapApartCard

/-- THE TIED CARD OF 'signallinglaw13.OverlapGrows'. -/
def overlapGrowsCard : Claim7 := { stood := { row := overlapGrowsRow, standIns := [], harness := (true, "7df35f3745490cde5d4f2ee8550320111a747cd3f0e74c495758ea3db974a566"), looks := false }, kinds := [], alts := [], laidByText := true, laidKinds := [.data], laidTests := true, laidLooks := .later }
def OverlapGrowsCardSaid : Prop := Claim7.holds Tryd.pinned (.plain (OpenSpec.ofChange overlapGrowsSpec)) overlapGrowsCard

/-- THE SECOND FORM's CARD OF 'signallinglaw13.OverlapApart'. -/
def overlapApartUptoCard : Claim7 := { stood := { row := overlapApartUptoRow, standIns := [], harness := (true, "7df35f3745490cde5d4f2ee8550320111a747cd3f0e74c495758ea3db974a566"), looks := false }, kinds := [], alts := [], laidByText := true, laidKinds := [.data], laidTests := true, laidLooks := .later }
def OverlapApartUptoCardSaid : Prop := Claim7.holds Tryd.pinned (.plain (OpenSpec.upto overlapApartSpec)) overlapApartUptoCard

/-- THE SECOND FORM's CARD OF 'signallinglaw13.OverlapGrows'. -/
def overlapGrowsUptoCard : Claim7 := { stood := { row := overlapGrowsUptoRow, standIns := [], harness := (true, "7df35f3745490cde5d4f2ee8550320111a747cd3f0e74c495758ea3db974a566"), looks := false }, kinds := [], alts := [], laidByText := true, laidKinds := [.data], laidTests := true, laidLooks := .later }
def OverlapGrowsUptoCardSaid : Prop := Claim7.holds Tryd.pinned (.plain (OpenSpec.upto overlapGrowsSpec)) overlapGrowsUptoCard
end Rows
end Go.Proofs.YtoadiglkifiofaaDoor
