/-
  DERIVED. GIVEN WITH THE SEED: THE CARDS: each row of YtombbpdpmagngaaDoorRows.lean that lists a variable, with what it lists TIED to the program's text (the seventh form; the later family's looks); each row that meets fmt, with fmt's text TOLD by the authors' own Lean function (tested against real Go, not proved from fmt's source: count such statements apart). THE CARD IS WHAT COUNTS. Prove the row's statement (the work); the ties are given (YtombbpdpmagngaaDoorTie.lean); close each card by the builder's one call (the guide's Derived/Test/ToyasCard.lean, 'card_holds'). Laid BY PROGRAM, IN A SANDBOX (cutbox-door.mjs). By AI agents, Wed Nov 11 2026. No macro, syntax, notation, axiom, sorry.
-/
import Derived.Test.YtombbpdpmagngaaDoorRows
import GoSem.ClaimSeven
namespace Go.Proofs.YtombbpdpmagngaaDoor
namespace Rows

/-- THE TIED CARD OF 'signallinglaw12.RouteSame'. -/
def routeSameCard : Claim7 := { stood := { row := routeSameRow, standIns := [], harness := (true, "0b1dd0cc6b88ea2d645d7817e3ce31a778078acf7e8a5ad0f0aae91ecb0fbdac"), looks := false }, kinds := [], alts := [], laidByText := true, laidKinds := [.data, .data, .data, .data, .data], laidTests := true, laidLooks := .later }
def RouteSameCardSaid : Prop := Claim7.holds Tryd.pinned (.plain (OpenSpec.ofChange routeSameSpec)) routeSameCard

/-- THE SECOND FORM's CARD OF 'signallinglaw12.RouteSame'. -/
def routeSameUptoCard : Claim7 := { stood := { row := routeSameUptoRow, standIns := [], harness := (true, "0b1dd0cc6b88ea2d645d7817e3ce31a778078acf7e8a5ad0f0aae91ecb0fbdac"), looks := false }, kinds := [], alts := [], laidByText := true, laidKinds := [.data, .data, .data, .data, .data], laidTests := true, laidLooks := .later }
def RouteSameUptoCardSaid : Prop := Claim7.holds Tryd.pinned (.plain (OpenSpec.upto routeSameSpec)) routeSameUptoCard
end Rows
end Go.Proofs.YtombbpdpmagngaaDoor
