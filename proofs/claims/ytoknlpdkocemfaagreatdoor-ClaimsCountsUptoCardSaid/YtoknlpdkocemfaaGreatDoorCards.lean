/-
  DERIVED. GIVEN WITH THE SEED: THE CARDS: each row of YtoknlpdkocemfaaGreatDoorRows.lean that lists a variable, with what it lists TIED to the program's text (the seventh form; the later family's looks); each row that meets fmt, with fmt's text TOLD by the authors' own Lean function (tested against real Go, not proved from fmt's source: count such statements apart). THE CARD IS WHAT COUNTS. Prove the row's statement (the work); the ties are given (YtoknlpdkocemfaaGreatDoorTie.lean); close each card by the builder's one call (the guide's Derived/Test/ToyasCard.lean, 'card_holds'). Laid BY PROGRAM, IN A SANDBOX (cutbox-door.mjs). By AI agents, Wed Nov 11 2026. No macro, syntax, notation, axiom, sorry.
-/
import Derived.Test.YtoknlpdkocemfaaGreatDoorRows
import GoSem.ClaimSeven
namespace Go.Proofs.YtoknlpdkocemfaaGreatDoor
namespace Rows

/-- THE TIED CARD OF 'signallinglaw40.ClaimsBegins'. -/
def claimsBeginsCard : Claim7 := { stood := { row := claimsBeginsRow, standIns := [], harness := (true, "7eef84644eac530852720027c801251dc8a11dd3003a36b2518cb657a1369de7"), looks := true }, kinds := [], alts := [], laidByText := true, laidKinds := [.data, .data], laidTests := true, laidLooks := .later }
def ClaimsBeginsCardSaid : Prop := Claim7.holds Tryz.pinned (.plain (OpenSpec.ofChange claimsBeginsSpec)) claimsBeginsCard

/-- THE TIED CARD OF 'signallinglaw40.ClaimsCounts'. -/
def claimsCountsCard : Claim7 := { stood := { row := claimsCountsRow, standIns := [], harness := (true, "7eef84644eac530852720027c801251dc8a11dd3003a36b2518cb657a1369de7"), looks := true }, kinds := [], alts := [], laidByText := true, laidKinds := [.data, .data], laidTests := true, laidLooks := .later }
def ClaimsCountsCardSaid : Prop := Claim7.holds Tryz.pinned (.plain (OpenSpec.ofChange claimsCountsSpec)) claimsCountsCard

/-- THE SECOND FORM's CARD OF 'signallinglaw40.ClaimsBegins'. -/
def claimsBeginsUptoCard : Claim7 := { stood := { row := claimsBeginsUptoRow, standIns := [], harness := (true, "7eef84644eac530852720027c801251dc8a11dd3003a36b2518cb657a1369de7"), looks := true }, kinds := [], alts := [], laidByText := true, laidKinds := [.data, .data], laidTests := true, laidLooks := .later }
def ClaimsBeginsUptoCardSaid : Prop := Claim7.holds Tryz.pinned (.plain (OpenSpec.upto claimsBeginsSpec)) claimsBeginsUptoCard

/-- THE SECOND FORM's CARD OF 'signallinglaw40.ClaimsCounts'. -/
def claimsCountsUptoCard : Claim7 := { stood := { row := claimsCountsUptoRow, standIns := [], harness := (true, "7eef84644eac530852720027c801251dc8a11dd3003a36b2518cb657a1369de7"), looks := true }, kinds := [], alts := [], laidByText := true, laidKinds := [.data, .data], laidTests := true, laidLooks := .later }
def ClaimsCountsUptoCardSaid : Prop := Claim7.holds Tryz.pinned (.plain (OpenSpec.upto claimsCountsSpec)) claimsCountsUptoCard
end Rows
end Go.Proofs.YtoknlpdkocemfaaGreatDoor
