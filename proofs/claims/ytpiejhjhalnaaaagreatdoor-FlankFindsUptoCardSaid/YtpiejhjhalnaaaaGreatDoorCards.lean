/-
  DERIVED. GIVEN WITH THE SEED: THE CARDS: each row of YtpiejhjhalnaaaaGreatDoorRows.lean that lists a variable, with what it lists TIED to the program's text (the seventh form; the later family's looks); each row that meets fmt, with fmt's text TOLD by the authors' own Lean function (tested against real Go, not proved from fmt's source: count such statements apart). THE CARD IS WHAT COUNTS. Prove the row's statement (the work); the ties are given (YtpiejhjhalnaaaaGreatDoorTie.lean); close each card by the builder's one call (the guide's Derived/Test/ToyasCard.lean, 'card_holds'). Laid BY PROGRAM, IN A SANDBOX (cutbox-door.mjs). By AI agents, Wed Nov 11 2026. No macro, syntax, notation, axiom, sorry.
-/
import Derived.Test.YtpiejhjhalnaaaaGreatDoorRows
import GoSem.ClaimSeven
namespace Go.Proofs.YtpiejhjhalnaaaaGreatDoor
namespace Rows

/-- THE TIED CARD OF 'signallinglaw14.FlankFinds'. -/
def flankFindsCard : Claim7 := { stood := { row := flankFindsRow, standIns := [], harness := (true, "c1de5bbf305d458dc5ccfdabd6efc536c88bea7b7a58a4dcf52b793e12bfcf14"), looks := false }, kinds := [], alts := [], laidByText := true, laidKinds := [.data, .data], laidTests := true, laidLooks := .later }
def FlankFindsCardSaid : Prop := Claim7.holds Tryz.pinned (.plain (OpenSpec.ofChange flankFindsSpec)) flankFindsCard

/-- THE SECOND FORM's CARD OF 'signallinglaw14.FlankFinds'. -/
def flankFindsUptoCard : Claim7 := { stood := { row := flankFindsUptoRow, standIns := [], harness := (true, "c1de5bbf305d458dc5ccfdabd6efc536c88bea7b7a58a4dcf52b793e12bfcf14"), looks := false }, kinds := [], alts := [], laidByText := true, laidKinds := [.data, .data], laidTests := true, laidLooks := .later }
def FlankFindsUptoCardSaid : Prop := Claim7.holds Tryz.pinned (.plain (OpenSpec.upto flankFindsSpec)) flankFindsUptoCard
end Rows
end Go.Proofs.YtpiejhjhalnaaaaGreatDoor
