/-
  NARROWER THAN 'FOR EVERY INPUT', by the rows' own cells (each row's printed sentence says how): OverlapFinds: laid · OverlapMeasures: laid · OverlapApart: laid · OverlapKeeps: laid · OverlapGrows: laid.
  DERIVED. THE GIVEN ROWS OF THIS SEAT. 5 by the template 'for every input the law returns true; each argument reads behind the call as it read before'; 0 by the template 'total and deterministic' (their statements: YtaoagcnjefialaaDoorTotals.lean).
  GIVEN WITH THE SEED: the statements are not yours to turn. If you find one false, say at which input.
  Laid BY PROGRAM, IN A SANDBOX (cutbox-rows.mjs): the forced cells as the released guide's own fill.sh prints them over the translation 8a08bef46d076c4b… (all of the seat's roots in one cut). By AI agents, Wed Nov 11 2026. No macro, syntax, notation, axiom, sorry.
-/
import Derived.Test.YtaoagcnjefialaaDoorChecked
import GoSem.Claim
import GoSem.ClaimJoined
import GoSem.ClaimMapViews
import Derived.JoinedTies
import Derived.KernelRfl
namespace Go.Proofs.YtaoagcnjefialaaDoor
/- THE CELL 'sum', in the pinned program and in every row, IS THE sha256 OF THE DUMP (.gsa) THAT YtaoagcnjefialaaDoorProg.lean LOADS. Nothing in Lean hashes anything: it is a label: what it is worth is what the hold of that sum in a sandbox is worth. -/
noncomputable def Tryd.pinned : Pinned := { name := "ytaoagcnjefialaadoor", sum := "8a08bef46d076c4b13885a22696352a1c6610cf79fd007c1947077fdf75c67dc", checked := Tryd.checked }
namespace Rows
def none {H : Type} : Left H := { results := [], args := [] }

/- WHAT THE LISTED PACKAGE-LEVEL VARIABLES READ AS WHEN THE CALL BEGINS. Each datum BY PROGRAM (the guide's laid-datum.mjs) off the statement by which the dump's own 'gosem.cut.vars' lays the variable. In a bare row this is a premise. The card (YtaoagcnjefialaaDoorCards.lean) ties it to the program's text. -/
def laid_signalling_rail_passages {H : Type} : DataW H := .agg [.agg [.lit (.int .i64 1), .lit (.int .i64 0), .lit (.int .i64 1), .lit (.int .i64 0)], .agg [.lit (.int .i64 1), .lit (.int .i64 1), .lit (.int .i64 0), .lit (.int .i64 0)], .agg [.lit (.int .i64 2), .lit (.int .i64 0), .lit (.int .i64 1), .lit (.int .i64 1)], .agg [.lit (.int .i64 2), .lit (.int .i64 0), .lit (.int .i64 2), .lit (.int .i64 2)], .agg [.lit (.int .i64 2), .lit (.int .i64 1), .lit (.int .i64 0), .lit (.int .i64 1)], .agg [.lit (.int .i64 2), .lit (.int .i64 2), .lit (.int .i64 0), .lit (.int .i64 2)], .agg [.lit (.int .i64 3), .lit (.int .i64 0), .lit (.int .i64 1), .lit (.int .i64 0)], .agg [.lit (.int .i64 3), .lit (.int .i64 1), .lit (.int .i64 0), .lit (.int .i64 0)], .agg [.lit (.int .i64 3), .lit (.int .i64 2), .lit (.int .i64 3), .lit (.int .i64 0)], .agg [.lit (.int .i64 3), .lit (.int .i64 3), .lit (.int .i64 2), .lit (.int .i64 0)]]

/-- 'signallinglaw13.OverlapFinds': WHATEVER THE INPUT: true; the input reads as it did. -/
def overlapFindsSpec : ChangeSpec := { name := "overlapFinds", fn := fun _ => fun
  | [d1, d2] => { results := [.lit (.bool true)], args := [d1, d2] }
  | _ => none }
def overlapFindsRow : OpenClaim := { program := "ytaoagcnjefialaadoor", sum := "8a08bef46d076c4b13885a22696352a1c6610cf79fd007c1947077fdf75c67dc", func := "signalling/signallinglaw13.OverlapFinds", spec := "overlapFinds", unfollowed := true, recurses := true, named := ["signalling/rail.passages"], apart := false, laid := [("signalling/rail.passages", laid_signalling_rail_passages)] }
def OverlapFindsSaid : Prop := overlapFindsRow.holds Tryd.pinned (OpenSpec.ofChange overlapFindsSpec)

/-- ITS FALSE NEIGHBOUR: 'it returns false'. Refute it at one input. -/
def overlapFindsWrong : ChangeSpec := { name := "overlapFinds", fn := fun _ => fun
  | [d1, d2] => { results := [.lit (.bool false)], args := [d1, d2] }
  | _ => none }
def OverlapFindsWrongFalsely : Prop := overlapFindsRow.holds Tryd.pinned (OpenSpec.ofChange overlapFindsWrong)

/-- 'signallinglaw13.OverlapMeasures': WHATEVER THE INPUT: true; the input reads as it did. -/
def overlapMeasuresSpec : ChangeSpec := { name := "overlapMeasures", fn := fun _ => fun
  | [d1, d2] => { results := [.lit (.bool true)], args := [d1, d2] }
  | _ => none }
def overlapMeasuresRow : OpenClaim := { program := "ytaoagcnjefialaadoor", sum := "8a08bef46d076c4b13885a22696352a1c6610cf79fd007c1947077fdf75c67dc", func := "signalling/signallinglaw13.OverlapMeasures", spec := "overlapMeasures", unfollowed := true, recurses := true, named := ["signalling/rail.passages"], apart := false, laid := [("signalling/rail.passages", laid_signalling_rail_passages)] }
def OverlapMeasuresSaid : Prop := overlapMeasuresRow.holds Tryd.pinned (OpenSpec.ofChange overlapMeasuresSpec)

/-- ITS FALSE NEIGHBOUR: 'it returns false'. Refute it at one input. -/
def overlapMeasuresWrong : ChangeSpec := { name := "overlapMeasures", fn := fun _ => fun
  | [d1, d2] => { results := [.lit (.bool false)], args := [d1, d2] }
  | _ => none }
def OverlapMeasuresWrongFalsely : Prop := overlapMeasuresRow.holds Tryd.pinned (OpenSpec.ofChange overlapMeasuresWrong)

/-- 'signallinglaw13.OverlapApart': WHATEVER THE INPUT: true; the input reads as it did. -/
def overlapApartSpec : ChangeSpec := { name := "overlapApart", fn := fun _ => fun
  | [d] => { results := [.lit (.bool true)], args := [d] }
  | _ => none }
def overlapApartRow : OpenClaim := { program := "ytaoagcnjefialaadoor", sum := "8a08bef46d076c4b13885a22696352a1c6610cf79fd007c1947077fdf75c67dc", func := "signalling/signallinglaw13.OverlapApart", spec := "overlapApart", unfollowed := true, recurses := true, named := ["signalling/rail.passages"], apart := false, laid := [("signalling/rail.passages", laid_signalling_rail_passages)] }
def OverlapApartSaid : Prop := overlapApartRow.holds Tryd.pinned (OpenSpec.ofChange overlapApartSpec)

/-- ITS FALSE NEIGHBOUR: 'it returns false'. Refute it at one input. -/
def overlapApartWrong : ChangeSpec := { name := "overlapApart", fn := fun _ => fun
  | [d] => { results := [.lit (.bool false)], args := [d] }
  | _ => none }
def OverlapApartWrongFalsely : Prop := overlapApartRow.holds Tryd.pinned (OpenSpec.ofChange overlapApartWrong)

/-- 'signallinglaw13.OverlapKeeps': WHATEVER THE INPUT: true; the input reads as it did. -/
def overlapKeepsSpec : ChangeSpec := { name := "overlapKeeps", fn := fun _ => fun
  | [d1, d2] => { results := [.lit (.bool true)], args := [d1, d2] }
  | _ => none }
def overlapKeepsRow : OpenClaim := { program := "ytaoagcnjefialaadoor", sum := "8a08bef46d076c4b13885a22696352a1c6610cf79fd007c1947077fdf75c67dc", func := "signalling/signallinglaw13.OverlapKeeps", spec := "overlapKeeps", unfollowed := true, recurses := true, named := ["signalling/rail.passages"], apart := false, laid := [("signalling/rail.passages", laid_signalling_rail_passages)] }
def OverlapKeepsSaid : Prop := overlapKeepsRow.holds Tryd.pinned (OpenSpec.ofChange overlapKeepsSpec)

/-- ITS FALSE NEIGHBOUR: 'it returns false'. Refute it at one input. -/
def overlapKeepsWrong : ChangeSpec := { name := "overlapKeeps", fn := fun _ => fun
  | [d1, d2] => { results := [.lit (.bool false)], args := [d1, d2] }
  | _ => none }
def OverlapKeepsWrongFalsely : Prop := overlapKeepsRow.holds Tryd.pinned (OpenSpec.ofChange overlapKeepsWrong)

/-- 'signallinglaw13.OverlapGrows': WHATEVER THE INPUT: true; the input reads as it did. -/
def overlapGrowsSpec : ChangeSpec := { name := "overlapGrows", fn := fun _ => fun
  | [d1, d2, d3] => { results := [.lit (.bool true)], args := [d1, d2, d3] }
  | _ => none }
def overlapGrowsRow : OpenClaim := { program := "ytaoagcnjefialaadoor", sum := "8a08bef46d076c4b13885a22696352a1c6610cf79fd007c1947077fdf75c67dc", func := "signalling/signallinglaw13.OverlapGrows", spec := "overlapGrows", unfollowed := true, recurses := true, named := ["signalling/rail.passages"], apart := false, laid := [("signalling/rail.passages", laid_signalling_rail_passages)] }
def OverlapGrowsSaid : Prop := overlapGrowsRow.holds Tryd.pinned (OpenSpec.ofChange overlapGrowsSpec)

/-- ITS FALSE NEIGHBOUR: 'it returns false'. Refute it at one input. -/
def overlapGrowsWrong : ChangeSpec := { name := "overlapGrows", fn := fun _ => fun
  | [d1, d2, d3] => { results := [.lit (.bool false)], args := [d1, d2, d3] }
  | _ => none }
def OverlapGrowsWrongFalsely : Prop := overlapGrowsRow.holds Tryd.pinned (OpenSpec.ofChange overlapGrowsWrong)

/- THE SECOND FORM. 'bulk': how many values and letters a reading holds, each counted each time it is reached (what is shared counts as often as it is met; a slice's spare places count too). A statement '..UptoSaid' is the law's where the arguments, and the package variables that the reading takes, are together of bulk at most 1048576: NARROWER than '..Said'. Prove '..Said' where nothing that the law and all that it calls make is longer than what came in: it says more and counts as full. Else prove '..UptoSaid'. A law counts once. -/
mutual
def uptoBulk {H : Type} : DataW H → Nat
  | .lit (.string bytes) => bytes.length + 1
  | .lit _ => 1
  | .nil => 1
  | .ptr d => uptoBulk d + 1
  | .slice elems spare => uptoBulkAll elems + uptoBulkAll spare + 1
  | .agg parts => uptoBulkAll parts + 1
  | .iface _ d => uptoBulk d + 1
  | .map entries => uptoBulkEntries entries + 1
  | .held _ => 1
def uptoBulkAll {H : Type} : List (DataW H) → Nat
  | [] => 0
  | d :: r => uptoBulk d + uptoBulkAll r
def uptoBulkEntries {H : Type} : List (Lit × DataW H) → Nat
  | [] => 0
  | x :: r => uptoBulkEntry x + uptoBulkEntries r
def uptoBulkEntry {H : Type} : Lit × DataW H → Nat
  | (.string bytes, d) => bytes.length + uptoBulk d + 1
  | (_, d) => uptoBulk d + 1
 end
def uptoSmall : (H : Type) → List (DataW H) → Bool := fun _ ds => decide (uptoBulkAll ds ≤ 1048576)
def OpenSpec.upto (s : _root_.Go.ChangeSpec) : _root_.Go.OpenSpec := { _root_.Go.OpenSpec.ofChange s with cond := some uptoSmall }

/-- 'signallinglaw13.OverlapFinds', WHERE WHAT IT READS IS OF BULK AT MOST 1048576: true; the input reads as it did. -/
def overlapFindsUptoRow : OpenClaim := { program := "ytaoagcnjefialaadoor", sum := "8a08bef46d076c4b13885a22696352a1c6610cf79fd007c1947077fdf75c67dc", func := "signalling/signallinglaw13.OverlapFinds", spec := "overlapFinds", unfollowed := true, recurses := true, named := ["signalling/rail.passages"], apart := false, laid := [("signalling/rail.passages", laid_signalling_rail_passages)], narrowed := true }
def OverlapFindsUptoSaid : Prop := overlapFindsUptoRow.holds Tryd.pinned (OpenSpec.upto overlapFindsSpec)

/-- 'signallinglaw13.OverlapMeasures', WHERE WHAT IT READS IS OF BULK AT MOST 1048576: true; the input reads as it did. -/
def overlapMeasuresUptoRow : OpenClaim := { program := "ytaoagcnjefialaadoor", sum := "8a08bef46d076c4b13885a22696352a1c6610cf79fd007c1947077fdf75c67dc", func := "signalling/signallinglaw13.OverlapMeasures", spec := "overlapMeasures", unfollowed := true, recurses := true, named := ["signalling/rail.passages"], apart := false, laid := [("signalling/rail.passages", laid_signalling_rail_passages)], narrowed := true }
def OverlapMeasuresUptoSaid : Prop := overlapMeasuresUptoRow.holds Tryd.pinned (OpenSpec.upto overlapMeasuresSpec)

/-- 'signallinglaw13.OverlapApart', WHERE WHAT IT READS IS OF BULK AT MOST 1048576: true; the input reads as it did. -/
def overlapApartUptoRow : OpenClaim := { program := "ytaoagcnjefialaadoor", sum := "8a08bef46d076c4b13885a22696352a1c6610cf79fd007c1947077fdf75c67dc", func := "signalling/signallinglaw13.OverlapApart", spec := "overlapApart", unfollowed := true, recurses := true, named := ["signalling/rail.passages"], apart := false, laid := [("signalling/rail.passages", laid_signalling_rail_passages)], narrowed := true }
def OverlapApartUptoSaid : Prop := overlapApartUptoRow.holds Tryd.pinned (OpenSpec.upto overlapApartSpec)

/-- 'signallinglaw13.OverlapKeeps', WHERE WHAT IT READS IS OF BULK AT MOST 1048576: true; the input reads as it did. -/
def overlapKeepsUptoRow : OpenClaim := { program := "ytaoagcnjefialaadoor", sum := "8a08bef46d076c4b13885a22696352a1c6610cf79fd007c1947077fdf75c67dc", func := "signalling/signallinglaw13.OverlapKeeps", spec := "overlapKeeps", unfollowed := true, recurses := true, named := ["signalling/rail.passages"], apart := false, laid := [("signalling/rail.passages", laid_signalling_rail_passages)], narrowed := true }
def OverlapKeepsUptoSaid : Prop := overlapKeepsUptoRow.holds Tryd.pinned (OpenSpec.upto overlapKeepsSpec)

/-- 'signallinglaw13.OverlapGrows', WHERE WHAT IT READS IS OF BULK AT MOST 1048576: true; the input reads as it did. -/
def overlapGrowsUptoRow : OpenClaim := { program := "ytaoagcnjefialaadoor", sum := "8a08bef46d076c4b13885a22696352a1c6610cf79fd007c1947077fdf75c67dc", func := "signalling/signallinglaw13.OverlapGrows", spec := "overlapGrows", unfollowed := true, recurses := true, named := ["signalling/rail.passages"], apart := false, laid := [("signalling/rail.passages", laid_signalling_rail_passages)], narrowed := true }
def OverlapGrowsUptoSaid : Prop := overlapGrowsUptoRow.holds Tryd.pinned (OpenSpec.upto overlapGrowsSpec)

end Rows
end Go.Proofs.YtaoagcnjefialaaDoor
