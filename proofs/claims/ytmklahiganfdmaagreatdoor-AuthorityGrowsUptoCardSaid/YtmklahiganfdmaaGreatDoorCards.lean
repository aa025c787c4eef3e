/-
  DERIVED. GIVEN WITH THE SEED: THE CARDS: each row of YtmklahiganfdmaaGreatDoorRows.lean that lists a variable, with what it lists TIED to the program's text (the seventh form; the later family's looks); each row that meets fmt, with fmt's text TOLD by the authors' own Lean function (tested against real Go, not proved from fmt's source: count such statements apart). THE CARD IS WHAT COUNTS. Prove the row's statement (the work); the ties are given (YtmklahiganfdmaaGreatDoorTie.lean); close each card by the builder's one call (the guide's Derived/Test/ToyasCard.lean, 'card_holds'). Laid BY PROGRAM, IN A SANDBOX (cutbox-door.mjs). By AI agents, Wed Nov 11 2026. No macro, syntax, notation, axiom, sorry.
-/
import Derived.Test.YtmklahiganfdmaaGreatDoorRows
import GoSem.ClaimSeven
namespace Go.Proofs.YtmklahiganfdmaaGreatDoor
namespace Rows

/-- THE TIED CARD OF 'signallinglaw45.AuthorityGrows'. -/
def authorityGrowsCard : Claim7 := { stood := { row := authorityGrowsRow, standIns := [], harness := (true, "733b6104e8822509ef22c60a74e79a31c6b34b18e8c537e3516185f02b0a53b0"), looks := true }, kinds := [], alts := [], laidByText := true, laidKinds := [.data], laidTests := true, laidLooks := .later }
def AuthorityGrowsCardSaid : Prop := Claim7.holds Tryz.pinned (.plain (OpenSpec.ofChange authorityGrowsSpec)) authorityGrowsCard

/-- THE SECOND FORM's CARD OF 'signallinglaw45.AuthorityGrows'. -/
def authorityGrowsUptoCard : Claim7 := { stood := { row := authorityGrowsUptoRow, standIns := [], harness := (true, "733b6104e8822509ef22c60a74e79a31c6b34b18e8c537e3516185f02b0a53b0"), looks := true }, kinds := [], alts := [], laidByText := true, laidKinds := [.data], laidTests := true, laidLooks := .later }
def AuthorityGrowsUptoCardSaid : Prop := Claim7.holds Tryz.pinned (.plain (OpenSpec.upto authorityGrowsSpec)) authorityGrowsUptoCard
end Rows
end Go.Proofs.YtmklahiganfdmaaGreatDoor
