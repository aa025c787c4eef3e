/-
  DERIVED. GIVEN WITH THE SEED: THE CARDS: each row of YtmbcgmlgbcookaaDoorRows.lean that lists a variable, with what it lists TIED to the program's text (the seventh form; the later family's looks); each row that meets fmt, with fmt's text TOLD by the authors' own Lean function (tested against real Go, not proved from fmt's source: count such statements apart). THE CARD IS WHAT COUNTS. Prove the row's statement (the work); the ties are given (YtmbcgmlgbcookaaDoorTie.lean); close each card by the builder's one call (the guide's Derived/Test/ToyasCard.lean, 'card_holds'). Laid BY PROGRAM, IN A SANDBOX (cutbox-door.mjs). By AI agents, Wed Nov 11 2026. No macro, syntax, notation, axiom, sorry.
-/
import Derived.Test.YtmbcgmlgbcookaaDoorRows
import GoSem.ClaimSeven
namespace Go.Proofs.YtmbcgmlgbcookaaDoor
namespace Rows

/-- THE TIED CARD OF 'signallinglaw18.ExprValues'. -/
def exprValuesCard : Claim7 := { stood := { row := exprValuesRow, standIns := [], harness := (true, "44ed3bd16dd35a76ecaf7722a7de413b7fe9ac5d5e1f025d86ba3fb0238906f6"), looks := true }, kinds := [], alts := [], laidByText := true, laidKinds := [.data, .data, .data], laidTests := true, laidLooks := .later }
def ExprValuesCardSaid : Prop := Claim7.holds Tryd.pinned (.plain (OpenSpec.ofChange exprValuesSpec)) exprValuesCard

/-- THE TIED CARD OF 'signallinglaw18.ExprRewrites'. -/
def exprRewritesCard : Claim7 := { stood := { row := exprRewritesRow, standIns := [], harness := (true, "44ed3bd16dd35a76ecaf7722a7de413b7fe9ac5d5e1f025d86ba3fb0238906f6"), looks := true }, kinds := [], alts := [], laidByText := true, laidKinds := [.data, .data, .data], laidTests := true, laidLooks := .later }
def ExprRewritesCardSaid : Prop := Claim7.holds Tryd.pinned (.plain (OpenSpec.ofChange exprRewritesSpec)) exprRewritesCard

/-- THE TIED CARD OF 'signallinglaw18.ExprSimplifies'. -/
def exprSimplifiesCard : Claim7 := { stood := { row := exprSimplifiesRow, standIns := [], harness := (true, "44ed3bd16dd35a76ecaf7722a7de413b7fe9ac5d5e1f025d86ba3fb0238906f6"), looks := true }, kinds := [], alts := [], laidByText := true, laidKinds := [.data, .data, .data], laidTests := true, laidLooks := .later }
def ExprSimplifiesCardSaid : Prop := Claim7.holds Tryd.pinned (.plain (OpenSpec.ofChange exprSimplifiesSpec)) exprSimplifiesCard

/-- THE TIED CARD OF 'signallinglaw18.ExprSimple'. -/
def exprSimpleCard : Claim7 := { stood := { row := exprSimpleRow, standIns := [], harness := (true, "44ed3bd16dd35a76ecaf7722a7de413b7fe9ac5d5e1f025d86ba3fb0238906f6"), looks := true }, kinds := [], alts := [], laidByText := true, laidKinds := [.data, .data, .data], laidTests := true, laidLooks := .later }
def ExprSimpleCardSaid : Prop := Claim7.holds Tryd.pinned (.plain (OpenSpec.ofChange exprSimpleSpec)) exprSimpleCard

/-- THE TIED CARD OF 'signallinglaw18.ExprReplaces'. -/
def exprReplacesCard : Claim7 := { stood := { row := exprReplacesRow, standIns := [], harness := (true, "44ed3bd16dd35a76ecaf7722a7de413b7fe9ac5d5e1f025d86ba3fb0238906f6"), looks := true }, kinds := [], alts := [], laidByText := true, laidKinds := [.data, .data, .data], laidTests := true, laidLooks := .later }
def ExprReplacesCardSaid : Prop := Claim7.holds Tryd.pinned (.plain (OpenSpec.ofChange exprReplacesSpec)) exprReplacesCard

/-- THE TIED CARD OF 'signallinglaw18.ExprForms'. -/
def exprFormsCard : Claim7 := { stood := { row := exprFormsRow, standIns := [], harness := (true, "44ed3bd16dd35a76ecaf7722a7de413b7fe9ac5d5e1f025d86ba3fb0238906f6"), looks := true }, kinds := [], alts := [], laidByText := true, laidKinds := [.data, .data, .data], laidTests := true, laidLooks := .later }
def ExprFormsCardSaid : Prop := Claim7.holds Tryd.pinned (.plain (OpenSpec.ofChange exprFormsSpec)) exprFormsCard

/-- THE SECOND FORM's CARD OF 'signallinglaw18.ExprValues'. -/
def exprValuesUptoCard : Claim7 := { stood := { row := exprValuesUptoRow, standIns := [], harness := (true, "44ed3bd16dd35a76ecaf7722a7de413b7fe9ac5d5e1f025d86ba3fb0238906f6"), looks := true }, kinds := [], alts := [], laidByText := true, laidKinds := [.data, .data, .data], laidTests := true, laidLooks := .later }
def ExprValuesUptoCardSaid : Prop := Claim7.holds Tryd.pinned (.plain (OpenSpec.upto exprValuesSpec)) exprValuesUptoCard

/-- THE SECOND FORM's CARD OF 'signallinglaw18.ExprRewrites'. -/
def exprRewritesUptoCard : Claim7 := { stood := { row := exprRewritesUptoRow, standIns := [], harness := (true, "44ed3bd16dd35a76ecaf7722a7de413b7fe9ac5d5e1f025d86ba3fb0238906f6"), looks := true }, kinds := [], alts := [], laidByText := true, laidKinds := [.data, .data, .data], laidTests := true, laidLooks := .later }
def ExprRewritesUptoCardSaid : Prop := Claim7.holds Tryd.pinned (.plain (OpenSpec.upto exprRewritesSpec)) exprRewritesUptoCard

/-- THE SECOND FORM's CARD OF 'signallinglaw18.ExprSimplifies'. -/
def exprSimplifiesUptoCard : Claim7 := { stood := { row := exprSimplifiesUptoRow, standIns := [], harness := (true, "44ed3bd16dd35a76ecaf7722a7de413b7fe9ac5d5e1f025d86ba3fb0238906f6"), looks := true }, kinds := [], alts := [], laidByText := true, laidKinds := [.data, .data, .data], laidTests := true, laidLooks := .later }
def ExprSimplifiesUptoCardSaid : Prop := Claim7.holds Tryd.pinned (.plain (OpenSpec.upto exprSimplifiesSpec)) exprSimplifiesUptoCard

/-- THE SECOND FORM's CARD OF 'signallinglaw18.ExprSimple'. -/
def exprSimpleUptoCard : Claim7 := { stood := { row := exprSimpleUptoRow, standIns := [], harness := (true, "44ed3bd16dd35a76ecaf7722a7de413b7fe9ac5d5e1f025d86ba3fb0238906f6"), looks := true }, kinds := [], alts := [], laidByText := true, laidKinds := [.data, .data, .data], laidTests := true, laidLooks := .later }
def ExprSimpleUptoCardSaid : Prop := Claim7.holds Tryd.pinned (.plain (OpenSpec.upto exprSimpleSpec)) exprSimpleUptoCard

/-- THE SECOND FORM's CARD OF 'signallinglaw18.ExprReplaces'. -/
def exprReplacesUptoCard : Claim7 := { stood := { row := exprReplacesUptoRow, standIns := [], harness := (true, "44ed3bd16dd35a76ecaf7722a7de413b7fe9ac5d5e1f025d86ba3fb0238906f6"), looks := true }, kinds := [], alts := [], laidByText := true, laidKinds := [.data, .data, .data], laidTests := true, laidLooks := .later }
def ExprReplacesUptoCardSaid : Prop := Claim7.holds Tryd.pinned (.plain (OpenSpec.upto exprReplacesSpec)) exprReplacesUptoCard

/-- THE SECOND FORM's CARD OF 'signallinglaw18.ExprForms'. -/
def exprFormsUptoCard : Claim7 := { stood := { row := exprFormsUptoRow, standIns := [], harness := (true, "44ed3bd16dd35a76ecaf7722a7de413b7fe9ac5d5e1f025d86ba3fb0238906f6"), looks := true }, kinds := [], alts := [], laidByText := true, laidKinds := [.data, .data, .data], laidTests := true, laidLooks := .later }
def ExprFormsUptoCardSaid : Prop := Claim7.holds Tryd.pinned (.plain (OpenSpec.upto exprFormsSpec)) exprFormsUptoCard
end Rows
end Go.Proofs.YtmbcgmlgbcookaaDoor
