/-
  DERIVED. GIVEN WITH THE SEED: THE CARDS: each row of YtaoagcnjefialaaDoorRows.lean that lists a variable, with what it lists TIED to the program's text (the seventh form; the later family's looks); each row that meets fmt, with fmt's text TOLD by the authors' own Lean function (tested against real Go, not proved from fmt's source: count such statements apart). THE CARD IS WHAT COUNTS. Prove the row's statement (the work); the ties are given (YtaoagcnjefialaaDoorTie.lean); close each card by the builder's one call (the guide's Derived/Test/ToyasCard.lean, 'card_holds'). Laid BY PROGRAM, IN A SANDBOX (cutbox-door.mjs). By AI agents, Wed Nov 11 2026. No macro, syntax, notation, axiom, sorry.
-/
import Derived.Test.YtaoagcnjefialaaDoorRows
import GoSem.ClaimSeven
namespace Go.Proofs.YtaoagcnjefialaaDoor
namespace Rows

/-- THE TIED CARD OF 'signallinglaw13.OverlapFinds'. -/
def overlapFindsCard : Claim7 := { stood := { row := overlapFindsRow, standIns := [], harness := (true, "aa7a0c125ca116cfe4d088779c995c6ebe71de8a8d4f81c0cc3373d7a895b348"), looks := false }, kinds := [], alts := [], laidByText := true, laidKinds := [.data], laidTests := true, laidLooks := .later }
def OverlapFindsCardSaid : Prop := Claim7.holds Tryd.pinned (.plain (OpenSpec.ofChange overlapFindsSpec)) overlapFindsCard

/-- THE TIED CARD OF 'signallinglaw13.OverlapMeasures'. -/
def overlapMeasuresCard : Claim7 := { stood := { row := overlapMeasuresRow, standIns := [], harness := (true, "aa7a0c125ca116cfe4d088779c995c6ebe71de8a8d4f81c0cc3373d7a895b348"), looks := false }, kinds := [], alts := [], laidByText := true, laidKinds := [.data], laidTests := true, laidLooks := .later }
def OverlapMeasuresCardSaid : Prop := Claim7.holds Tryd.pinned (.plain (OpenSpec.ofChange overlapMeasuresSpec)) overlapMeasuresCard

/-- THE TIED CARD OF 'signallinglaw13.OverlapApart'. -/
def overlapApartCard : Claim7 := { stood := { row := overlapApartRow, standIns := [], harness := (true, "aa7a0c125ca116cfe4d088779c995c6ebe71de8a8d4f81c0cc3373d7a895b348"), looks := false }, kinds := [], alts := [], laidByText := true, laidKinds := [.data], laidTests := true, laidLooks := .later }
def OverlapApartCardSaid : Prop := Claim7.holds Tryd.pinned (.plain (OpenSpec.ofChange overlapApartSpec)) overlapApartCard

/-- THE TIED CARD OF 'signallinglaw13.OverlapKeeps'. -/
def overlapKeepsCard : Claim7 := { stood := { row := overlapKeepsRow, standIns := [], harness := (true, "aa7a0c125ca116cfe4d088779c995c6ebe71de8a8d4f81c0cc3373d7a895b348"), looks := false }, kinds := [], alts := [], laidByText := true, laidKinds := [.data], laidTests := true, laidLooks := .later }
def OverlapKeepsCardSaid : Prop := Claim7.holds Tryd.pinned (.plain (OpenSpec.ofChange overlapKeepsSpec)) overlapKeepsCard

/-- THE TIED CARD OF 'signallinglaw13.OverlapGrows'. -/
def overlapGrowsCard : Claim7 := { stood := { row := overlapGrowsRow, standIns := [], harness := (true, "aa7a0c125ca116cfe4d088779c995c6ebe71de8a8d4f81c0cc3373d7a895b348"), looks := false }, kinds := [], alts := [], laidByText := true, laidKinds := [.data], laidTests := true, laidLooks := .later }
def OverlapGrowsCardSaid : Prop := Claim7.holds Tryd.pinned (.plain (OpenSpec.ofChange overlapGrowsSpec)) overlapGrowsCard

/-- THE SECOND FORM's CARD OF 'signallinglaw13.OverlapFinds'. -/
def overlapFindsUptoCard : Claim7 := { stood := { row := overlapFindsUptoRow, standIns := [], harness := (true, "aa7a0c125ca116cfe4d088779c995c6ebe71de8a8d4f81c0cc3373d7a895b348"), looks := false }, kinds := [], alts := [], laidByText := true, laidKinds := [.data], laidTests := true, laidLooks := .later }
def OverlapFindsUptoCardSaid : Prop := Claim7.holds Tryd.pinned (.plain (OpenSpec.upto overlapFindsSpec)) overlapFindsUptoCard

/-- THE SECOND FORM's CARD OF 'signallinglaw13.OverlapMeasures'. -/
def overlapMeasuresUptoCard : Claim7 := { stood := { row := overlapMeasuresUptoRow, standIns := [], harness := (true, "aa7a0c125ca116cfe4d088779c995c6ebe71de8a8d4f81c0cc3373d7a895b348"), looks := false }, kinds := [], alts := [], laidByText := true, laidKinds := [.data], laidTests := true, laidLooks := .later }
def OverlapMeasuresUptoCardSaid : Prop := Claim7.holds Tryd.pinned (.plain (OpenSpec.upto overlapMeasuresSpec)) overlapMeasuresUptoCard

/-- THE SECOND FORM's CARD OF 'signallinglaw13.OverlapApart'. -/
def overlapApartUptoCard : Claim7 := { stood := { row := overlapApartUptoRow, standIns := [], harness := (true, "aa7a0c125ca116cfe4d088779c995c6ebe71de8a8d4f81c0cc3373d7a895b348"), looks := false }, kinds := [], alts := [], laidByText := true, laidKinds := [.data], laidTests := true, laidLooks := .later }
def OverlapApartUptoCardSaid : Prop := Claim7.holds Tryd.pinned (.plain (OpenSpec.upto overlapApartSpec)) overlapApartUptoCard

/-- THE SECOND FORM's CARD OF 'signallinglaw13.OverlapKeeps'. -/
def overlapKeepsUptoCard : Claim7 := { stood := { row := overlapKeepsUptoRow, standIns := [], harness := (true, "aa7a0c125ca116cfe4d088779c995c6ebe71de8a8d4f81c0cc3373d7a895b348"), looks := false }, kinds := [], alts := [], laidByText := true, laidKinds := [.data], laidTests := true, laidLooks := .later }
def OverlapKeepsUptoCardSaid : Prop := Claim7.holds Tryd.pinned (.plain (OpenSpec.upto overlapKeepsSpec)) overlapKeepsUptoCard

/-- THE SECOND FORM's CARD OF 'signallinglaw13.OverlapGrows'. -/
def overlapGrowsUptoCard : Claim7 := { stood := { row := overlapGrowsUptoRow, standIns := [], harness := (true, "aa7a0c125ca116cfe4d088779c995c6ebe71de8a8d4f81c0cc3373d7a895b348"), looks := false }, kinds := [], alts := [], laidByText := true, laidKinds := [.data], laidTests := true, laidLooks := .later }
def OverlapGrowsUptoCardSaid : Prop := Claim7.holds Tryd.pinned (.plain (OpenSpec.upto overlapGrowsSpec)) overlapGrowsUptoCard
end Rows
end Go.Proofs.YtaoagcnjefialaaDoor
