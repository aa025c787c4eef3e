/-
  DERIVED. GIVEN WITH THE SEED: THE CARDS: each row of YtcobolgkboknbaaDoorRows.lean that lists a variable, with what it lists TIED to the program's text (the seventh form; the later family's looks); each row that meets fmt, with fmt's text TOLD by the authors' own Lean function (tested against real Go, not proved from fmt's source: count such statements apart). THE CARD IS WHAT COUNTS. Prove the row's statement (the work); the ties are given (YtcobolgkboknbaaDoorTie.lean); close each card by the builder's one call (the guide's Derived/Test/ToyasCard.lean, 'card_holds'). Laid BY PROGRAM, IN A SANDBOX (cutbox-door.mjs). By AI agents, Wed Nov 11 2026. No macro, syntax, notation, axiom, sorry.
-/
import Derived.Test.YtcobolgkboknbaaDoorRows
import GoSem.ClaimSeven
namespace Go.Proofs.YtcobolgkboknbaaDoor
namespace Rows

/-- THE TIED CARD OF 'signallinglaw45.AuthorityBuilds'. -/
def authorityBuildsCard : Claim7 := { stood := { row := authorityBuildsRow, standIns := [], harness := (true, "da6788526a21ed34816bc3500644d7de39c85e43ac0f1536346710b23bbc6932"), looks := false }, kinds := [], alts := [], laidByText := true, laidKinds := [.data], laidTests := true, laidLooks := .later }
def AuthorityBuildsCardSaid : Prop := Claim7.holds Tryd.pinned (.plain (OpenSpec.ofChange authorityBuildsSpec)) authorityBuildsCard

/-- THE TIED CARD OF 'signallinglaw45.AuthorityCovers'. -/
def authorityCoversCard : Claim7 := { stood := { row := authorityCoversRow, standIns := [], harness := (true, "da6788526a21ed34816bc3500644d7de39c85e43ac0f1536346710b23bbc6932"), looks := false }, kinds := [], alts := [], laidByText := true, laidKinds := [.data], laidTests := true, laidLooks := .later }
def AuthorityCoversCardSaid : Prop := Claim7.holds Tryd.pinned (.plain (OpenSpec.ofChange authorityCoversSpec)) authorityCoversCard

/-- THE TIED CARD OF 'signallinglaw45.AuthorityRestricts'. -/
def authorityRestrictsCard : Claim7 := { stood := { row := authorityRestrictsRow, standIns := [], harness := (true, "da6788526a21ed34816bc3500644d7de39c85e43ac0f1536346710b23bbc6932"), looks := false }, kinds := [], alts := [], laidByText := true, laidKinds := [.data], laidTests := true, laidLooks := .later }
def AuthorityRestrictsCardSaid : Prop := Claim7.holds Tryd.pinned (.plain (OpenSpec.ofChange authorityRestrictsSpec)) authorityRestrictsCard

/-- THE SECOND FORM's CARD OF 'signallinglaw45.AuthorityBuilds'. -/
def authorityBuildsUptoCard : Claim7 := { stood := { row := authorityBuildsUptoRow, standIns := [], harness := (true, "da6788526a21ed34816bc3500644d7de39c85e43ac0f1536346710b23bbc6932"), looks := false }, kinds := [], alts := [], laidByText := true, laidKinds := [.data], laidTests := true, laidLooks := .later }
def AuthorityBuildsUptoCardSaid : Prop := Claim7.holds Tryd.pinned (.plain (OpenSpec.upto authorityBuildsSpec)) authorityBuildsUptoCard

/-- THE SECOND FORM's CARD OF 'signallinglaw45.AuthorityCovers'. -/
def authorityCoversUptoCard : Claim7 := { stood := { row := authorityCoversUptoRow, standIns := [], harness := (true, "da6788526a21ed34816bc3500644d7de39c85e43ac0f1536346710b23bbc6932"), looks := false }, kinds := [], alts := [], laidByText := true, laidKinds := [.data], laidTests := true, laidLooks := .later }
def AuthorityCoversUptoCardSaid : Prop := Claim7.holds Tryd.pinned (.plain (OpenSpec.upto authorityCoversSpec)) authorityCoversUptoCard

/-- THE SECOND FORM's CARD OF 'signallinglaw45.AuthorityRestricts'. -/
def authorityRestrictsUptoCard : Claim7 := { stood := { row := authorityRestrictsUptoRow, standIns := [], harness := (true, "da6788526a21ed34816bc3500644d7de39c85e43ac0f1536346710b23bbc6932"), looks := false }, kinds := [], alts := [], laidByText := true, laidKinds := [.data], laidTests := true, laidLooks := .later }
def AuthorityRestrictsUptoCardSaid : Prop := Claim7.holds Tryd.pinned (.plain (OpenSpec.upto authorityRestrictsSpec)) authorityRestrictsUptoCard
end Rows
end Go.Proofs.YtcobolgkboknbaaDoor
