/-
  DERIVED. GIVEN WITH THE SEED: THE CARDS: each row of YtihobdahbcmplaaDoorRows.lean that lists a variable, with what it lists TIED to the program's text (the seventh form; the later family's looks); each row that meets fmt, with fmt's text TOLD by the authors' own Lean function (tested against real Go, not proved from fmt's source: count such statements apart). THE CARD IS WHAT COUNTS. Prove the row's statement (the work); the ties are given (YtihobdahbcmplaaDoorTie.lean); close each card by the builder's one call (the guide's Derived/Test/ToyasCard.lean, 'card_holds'). Laid BY PROGRAM, IN A SANDBOX (cutbox-door.mjs). By AI agents, Wed Nov 11 2026. No macro, syntax, notation, axiom, sorry.
-/
import Derived.Test.YtihobdahbcmplaaDoorRows
import GoSem.ClaimSeven
namespace Go.Proofs.YtihobdahbcmplaaDoor
namespace Rows

/-- THE TIED CARD OF 'signallinglaw09.WalkSteps'. -/
def walkStepsCard : Claim7 := { stood := { row := walkStepsRow, standIns := [], harness := (true, "ed264b9c3003009609759afea5e0123883a82b5db0a2a6f802335201fe300f5b"), looks := false }, kinds := [], alts := [], laidByText := true, laidKinds := [.data], laidTests := true, laidLooks := .later }
def WalkStepsCardSaid : Prop := Claim7.holds Tryd.pinned (.plain (OpenSpec.ofChange walkStepsSpec)) walkStepsCard

/-- THE TIED CARD OF 'signallinglaw09.WalkParts'. -/
def walkPartsCard : Claim7 := { stood := { row := walkPartsRow, standIns := [], harness := (true, "ed264b9c3003009609759afea5e0123883a82b5db0a2a6f802335201fe300f5b"), looks := false }, kinds := [], alts := [], laidByText := true, laidKinds := [.data], laidTests := true, laidLooks := .later }
def WalkPartsCardSaid : Prop := Claim7.holds Tryd.pinned (.plain (OpenSpec.ofChange walkPartsSpec)) walkPartsCard

/-- THE TIED CARD OF 'signallinglaw09.WalkGoesOn'. -/
def walkGoesOnCard : Claim7 := { stood := { row := walkGoesOnRow, standIns := [], harness := (true, "ed264b9c3003009609759afea5e0123883a82b5db0a2a6f802335201fe300f5b"), looks := false }, kinds := [], alts := [], laidByText := true, laidKinds := [.data], laidTests := true, laidLooks := .later }
def WalkGoesOnCardSaid : Prop := Claim7.holds Tryd.pinned (.plain (OpenSpec.ofChange walkGoesOnSpec)) walkGoesOnCard

/-- THE SECOND FORM's CARD OF 'signallinglaw09.WalkSteps'. -/
def walkStepsUptoCard : Claim7 := { stood := { row := walkStepsUptoRow, standIns := [], harness := (true, "ed264b9c3003009609759afea5e0123883a82b5db0a2a6f802335201fe300f5b"), looks := false }, kinds := [], alts := [], laidByText := true, laidKinds := [.data], laidTests := true, laidLooks := .later }
def WalkStepsUptoCardSaid : Prop := Claim7.holds Tryd.pinned (.plain (OpenSpec.upto walkStepsSpec)) walkStepsUptoCard

/-- THE SECOND FORM's CARD OF 'signallinglaw09.WalkParts'. -/
def walkPartsUptoCard : Claim7 := { stood := { row := walkPartsUptoRow, standIns := [], harness := (true, "ed264b9c3003009609759afea5e0123883a82b5db0a2a6f802335201fe300f5b"), looks := false }, kinds := [], alts := [], laidByText := true, laidKinds := [.data], laidTests := true, laidLooks := .later }
def WalkPartsUptoCardSaid : Prop := Claim7.holds Tryd.pinned (.plain (OpenSpec.upto walkPartsSpec)) walkPartsUptoCard

/-- THE SECOND FORM's CARD OF 'signallinglaw09.WalkGoesOn'. -/
def walkGoesOnUptoCard : Claim7 := { stood := { row := walkGoesOnUptoRow, standIns := [], harness := (true, "ed264b9c3003009609759afea5e0123883a82b5db0a2a6f802335201fe300f5b"), looks := false }, kinds := [], alts := [], laidByText := true, laidKinds := [.data], laidTests := true, laidLooks := .later }
def WalkGoesOnUptoCardSaid : Prop := Claim7.holds Tryd.pinned (.plain (OpenSpec.upto walkGoesOnSpec)) walkGoesOnUptoCard
end Rows
end Go.Proofs.YtihobdahbcmplaaDoor
