/-
  NARROWER THAN 'FOR EVERY INPUT', by the rows' own cells (each row's printed sentence says how): RbcNews: laid · RbcGrants: laid · RbcStops: laid · RbcExclusive: laid · RbcReceives: laid.
  DERIVED. THE GIVEN ROWS OF THIS SEAT. 5 by the template 'for every input the law returns true; each argument reads behind the call as it read before'; 0 by the template 'total and deterministic' (their statements: YtfpoeepcomnjhaaGreatDoorTotals.lean).
  GIVEN WITH THE SEED: the statements are not yours to turn. If you find one false, say at which input.
  Laid BY PROGRAM, IN A SANDBOX (cutbox-rows.mjs): the forced cells as the released guide's own fill.sh prints them over the translation b31b4f00fa3e4464… (all of the seat's roots in one cut). By AI agents, Wed Nov 11 2026. No macro, syntax, notation, axiom, sorry.
-/
import Derived.Test.YtfpoeepcomnjhaaGreatDoorChecked
import GoSem.Claim
import GoSem.ClaimJoined
import GoSem.ClaimMapViews
import Derived.JoinedTies
import Derived.KernelRfl
namespace Go.Proofs.YtfpoeepcomnjhaaGreatDoor
/- THE CELL 'sum', in the pinned program and in every row, IS THE sha256 OF THE DUMP (.gsa) THAT YtfpoeepcomnjhaaGreatDoorProg.lean LOADS. Nothing in Lean hashes anything: it is a label: what it is worth is what the hold of that sum in a sandbox is worth. -/
noncomputable def Tryz.pinned : Pinned := { name := "ytfpoeepcomnjhaagreatdoor", sum := "b31b4f00fa3e446486fe8a5e3df8996dcbab8c21d1d1c526899beb21c05c62e9", checked := Tryz.checked }
namespace Rows
def none {H : Type} : Left H := { results := [], args := [] }

/- WHAT THE LISTED PACKAGE-LEVEL VARIABLES READ AS WHEN THE CALL BEGINS. Each datum BY PROGRAM (the guide's laid-datum.mjs) off the statement by which the dump's own 'gosem.cut.vars' lays the variable. In a bare row this is a premise. The card (YtfpoeepcomnjhaaGreatDoorCards.lean) ties it to the program's text. -/
def laid_signalling_rail_sides {H : Type} : DataW H := .agg [.lit (.int .i64 0), .lit (.int .i64 2), .lit (.int .i64 3), .lit (.int .i64 4)]
def laid_signalling_rail_passages {H : Type} : DataW H := .agg [.agg [.lit (.int .i64 1), .lit (.int .i64 0), .lit (.int .i64 1), .lit (.int .i64 0)], .agg [.lit (.int .i64 1), .lit (.int .i64 1), .lit (.int .i64 0), .lit (.int .i64 0)], .agg [.lit (.int .i64 2), .lit (.int .i64 0), .lit (.int .i64 1), .lit (.int .i64 1)], .agg [.lit (.int .i64 2), .lit (.int .i64 0), .lit (.int .i64 2), .lit (.int .i64 2)], .agg [.lit (.int .i64 2), .lit (.int .i64 1), .lit (.int .i64 0), .lit (.int .i64 1)], .agg [.lit (.int .i64 2), .lit (.int .i64 2), .lit (.int .i64 0), .lit (.int .i64 2)], .agg [.lit (.int .i64 3), .lit (.int .i64 0), .lit (.int .i64 1), .lit (.int .i64 0)], .agg [.lit (.int .i64 3), .lit (.int .i64 1), .lit (.int .i64 0), .lit (.int .i64 0)], .agg [.lit (.int .i64 3), .lit (.int .i64 2), .lit (.int .i64 3), .lit (.int .i64 0)], .agg [.lit (.int .i64 3), .lit (.int .i64 3), .lit (.int .i64 2), .lit (.int .i64 0)]]

/-- 'signallinglaw47.RbcNews': WHATEVER THE INPUT: true; the input reads as it did. -/
def rbcNewsSpec : ChangeSpec := { name := "rbcNews", fn := fun _ => fun
  | [d1, d2, d3] => { results := [.lit (.bool true)], args := [d1, d2, d3] }
  | _ => none }
def rbcNewsRow : OpenClaim := { program := "ytfpoeepcomnjhaagreatdoor", sum := "b31b4f00fa3e446486fe8a5e3df8996dcbab8c21d1d1c526899beb21c05c62e9", func := "signalling/signallinglaw47.RbcNews", spec := "rbcNews", unfollowed := true, recurses := true, named := ["signalling/rail.sides", "signalling/rail.passages"], plainKeys := false, apart := false, laid := [("signalling/rail.sides", laid_signalling_rail_sides), ("signalling/rail.passages", laid_signalling_rail_passages)] }
def RbcNewsSaid : Prop := rbcNewsRow.holds Tryz.pinned (OpenSpec.ofChange rbcNewsSpec)

/-- ITS FALSE NEIGHBOUR: 'it returns false'. Refute it at one input. -/
def rbcNewsWrong : ChangeSpec := { name := "rbcNews", fn := fun _ => fun
  | [d1, d2, d3] => { results := [.lit (.bool false)], args := [d1, d2, d3] }
  | _ => none }
def RbcNewsWrongFalsely : Prop := rbcNewsRow.holds Tryz.pinned (OpenSpec.ofChange rbcNewsWrong)

/-- 'signallinglaw47.RbcGrants': WHATEVER THE INPUT: true; the input reads as it did. -/
def rbcGrantsSpec : ChangeSpec := { name := "rbcGrants", fn := fun _ => fun
  | [d1, d2] => { results := [.lit (.bool true)], args := [d1, d2] }
  | _ => none }
def rbcGrantsRow : OpenClaim := { program := "ytfpoeepcomnjhaagreatdoor", sum := "b31b4f00fa3e446486fe8a5e3df8996dcbab8c21d1d1c526899beb21c05c62e9", func := "signalling/signallinglaw47.RbcGrants", spec := "rbcGrants", unfollowed := true, recurses := true, named := ["signalling/rail.sides", "signalling/rail.passages"], plainKeys := false, apart := false, laid := [("signalling/rail.sides", laid_signalling_rail_sides), ("signalling/rail.passages", laid_signalling_rail_passages)] }
def RbcGrantsSaid : Prop := rbcGrantsRow.holds Tryz.pinned (OpenSpec.ofChange rbcGrantsSpec)

/-- ITS FALSE NEIGHBOUR: 'it returns false'. Refute it at one input. -/
def rbcGrantsWrong : ChangeSpec := { name := "rbcGrants", fn := fun _ => fun
  | [d1, d2] => { results := [.lit (.bool false)], args := [d1, d2] }
  | _ => none }
def RbcGrantsWrongFalsely : Prop := rbcGrantsRow.holds Tryz.pinned (OpenSpec.ofChange rbcGrantsWrong)

/-- 'signallinglaw47.RbcStops': WHATEVER THE INPUT: true; the input reads as it did. -/
def rbcStopsSpec : ChangeSpec := { name := "rbcStops", fn := fun _ => fun
  | [d1, d2, d3, d4] => { results := [.lit (.bool true)], args := [d1, d2, d3, d4] }
  | _ => none }
def rbcStopsRow : OpenClaim := { program := "ytfpoeepcomnjhaagreatdoor", sum := "b31b4f00fa3e446486fe8a5e3df8996dcbab8c21d1d1c526899beb21c05c62e9", func := "signalling/signallinglaw47.RbcStops", spec := "rbcStops", unfollowed := true, recurses := true, named := ["signalling/rail.sides", "signalling/rail.passages"], plainKeys := false, apart := false, laid := [("signalling/rail.sides", laid_signalling_rail_sides), ("signalling/rail.passages", laid_signalling_rail_passages)] }
def RbcStopsSaid : Prop := rbcStopsRow.holds Tryz.pinned (OpenSpec.ofChange rbcStopsSpec)

/-- ITS FALSE NEIGHBOUR: 'it returns false'. Refute it at one input. -/
def rbcStopsWrong : ChangeSpec := { name := "rbcStops", fn := fun _ => fun
  | [d1, d2, d3, d4] => { results := [.lit (.bool false)], args := [d1, d2, d3, d4] }
  | _ => none }
def RbcStopsWrongFalsely : Prop := rbcStopsRow.holds Tryz.pinned (OpenSpec.ofChange rbcStopsWrong)

/-- 'signallinglaw47.RbcExclusive': WHATEVER THE INPUT: true; the input reads as it did. -/
def rbcExclusiveSpec : ChangeSpec := { name := "rbcExclusive", fn := fun _ => fun
  | [d1, d2] => { results := [.lit (.bool true)], args := [d1, d2] }
  | _ => none }
def rbcExclusiveRow : OpenClaim := { program := "ytfpoeepcomnjhaagreatdoor", sum := "b31b4f00fa3e446486fe8a5e3df8996dcbab8c21d1d1c526899beb21c05c62e9", func := "signalling/signallinglaw47.RbcExclusive", spec := "rbcExclusive", unfollowed := true, recurses := true, named := ["signalling/rail.sides", "signalling/rail.passages"], plainKeys := false, apart := false, laid := [("signalling/rail.sides", laid_signalling_rail_sides), ("signalling/rail.passages", laid_signalling_rail_passages)] }
def RbcExclusiveSaid : Prop := rbcExclusiveRow.holds Tryz.pinned (OpenSpec.ofChange rbcExclusiveSpec)

/-- ITS FALSE NEIGHBOUR: 'it returns false'. Refute it at one input. -/
def rbcExclusiveWrong : ChangeSpec := { name := "rbcExclusive", fn := fun _ => fun
  | [d1, d2] => { results := [.lit (.bool false)], args := [d1, d2] }
  | _ => none }
def RbcExclusiveWrongFalsely : Prop := rbcExclusiveRow.holds Tryz.pinned (OpenSpec.ofChange rbcExclusiveWrong)

/-- 'signallinglaw47.RbcReceives': WHATEVER THE INPUT: true; the input reads as it did. -/
def rbcReceivesSpec : ChangeSpec := { name := "rbcReceives", fn := fun _ => fun
  | [d1, d2, d3] => { results := [.lit (.bool true)], args := [d1, d2, d3] }
  | _ => none }
def rbcReceivesRow : OpenClaim := { program := "ytfpoeepcomnjhaagreatdoor", sum := "b31b4f00fa3e446486fe8a5e3df8996dcbab8c21d1d1c526899beb21c05c62e9", func := "signalling/signallinglaw47.RbcReceives", spec := "rbcReceives", unfollowed := true, recurses := true, named := ["signalling/rail.sides", "signalling/rail.passages"], plainKeys := false, apart := false, laid := [("signalling/rail.sides", laid_signalling_rail_sides), ("signalling/rail.passages", laid_signalling_rail_passages)] }
def RbcReceivesSaid : Prop := rbcReceivesRow.holds Tryz.pinned (OpenSpec.ofChange rbcReceivesSpec)

/-- ITS FALSE NEIGHBOUR: 'it returns false'. Refute it at one input. -/
def rbcReceivesWrong : ChangeSpec := { name := "rbcReceives", fn := fun _ => fun
  | [d1, d2, d3] => { results := [.lit (.bool false)], args := [d1, d2, d3] }
  | _ => none }
def RbcReceivesWrongFalsely : Prop := rbcReceivesRow.holds Tryz.pinned (OpenSpec.ofChange rbcReceivesWrong)

/- THE SECOND FORM. 'bulk': how many values and letters a reading holds, each counted each time it is reached (what is shared counts as often as it is met; a slice's spare places count too). A statement '..UptoSaid' is the law's where the arguments, and the package variables that the reading takes, are together of bulk at most 1048576: NARROWER than '..Said'. Prove '..Said' where nothing that the law and all that it calls make is longer than what came in: it says more and counts as full. Else prove '..UptoSaid'. A law counts once. -/
mutual
def uptoBulk {H : Type} : DataW H → Nat
  | .lit (.string bytes) => bytes.length + 1
  | .lit _ => 1
  | .nil => 1
  | .ptr d => uptoBulk d + 1
  | .slice elems spare => uptoBulkAll elems + uptoBulkAll spare + 1
  | .agg parts => uptoBulkAll parts + 1
  | .iface _ d => uptoBulk d + 1
  | .map entries => uptoBulkEntries entries + 1
  | .held _ => 1
def uptoBulkAll {H : Type} : List (DataW H) → Nat
  | [] => 0
  | d :: r => uptoBulk d + uptoBulkAll r
def uptoBulkEntries {H : Type} : List (Lit × DataW H) → Nat
  | [] => 0
  | x :: r => uptoBulkEntry x + uptoBulkEntries r
def uptoBulkEntry {H : Type} : Lit × DataW H → Nat
  | (.string bytes, d) => bytes.length + uptoBulk d + 1
  | (_, d) => uptoBulk d + 1
 end
def uptoSmall : (H : Type) → List (DataW H) → Bool := fun _ ds => decide (uptoBulkAll ds ≤ 1048576)
def OpenSpec.upto (s : _root_.Go.ChangeSpec) : _root_.Go.OpenSpec := { _root_.Go.OpenSpec.ofChange s with cond := some uptoSmall }

/-- 'signallinglaw47.RbcNews', WHERE WHAT IT READS IS OF BULK AT MOST 1048576: true; the input reads as it did. -/
def rbcNewsUptoRow : OpenClaim := { program := "ytfpoeepcomnjhaagreatdoor", sum := "b31b4f00fa3e446486fe8a5e3df8996dcbab8c21d1d1c526899beb21c05c62e9", func := "signalling/signallinglaw47.RbcNews", spec := "rbcNews", unfollowed := true, recurses := true, named := ["signalling/rail.sides", "signalling/rail.passages"], plainKeys := false, apart := false, laid := [("signalling/rail.sides", laid_signalling_rail_sides), ("signalling/rail.passages", laid_signalling_rail_passages)], narrowed := true }
def RbcNewsUptoSaid : Prop := rbcNewsUptoRow.holds Tryz.pinned (OpenSpec.upto rbcNewsSpec)

/-- 'signallinglaw47.RbcGrants', WHERE WHAT IT READS IS OF BULK AT MOST 1048576: true; the input reads as it did. -/
def rbcGrantsUptoRow : OpenClaim := { program := "ytfpoeepcomnjhaagreatdoor", sum := "b31b4f00fa3e446486fe8a5e3df8996dcbab8c21d1d1c526899beb21c05c62e9", func := "signalling/signallinglaw47.RbcGrants", spec := "rbcGrants", unfollowed := true, recurses := true, named := ["signalling/rail.sides", "signalling/rail.passages"], plainKeys := false, apart := false, laid := [("signalling/rail.sides", laid_signalling_rail_sides), ("signalling/rail.passages", laid_signalling_rail_passages)], narrowed := true }
def RbcGrantsUptoSaid : Prop := rbcGrantsUptoRow.holds Tryz.pinned (OpenSpec.upto rbcGrantsSpec)

/-- 'signallinglaw47.RbcStops', WHERE WHAT IT READS IS OF BULK AT MOST 1048576: true; the input reads as it did. -/
def rbcStopsUptoRow : OpenClaim := { program := "ytfpoeepcomnjhaagreatdoor", sum := "b31b4f00fa3e446486fe8a5e3df8996dcbab8c21d1d1c526899beb21c05c62e9", func := "signalling/signallinglaw47.RbcStops", spec := "rbcStops", unfollowed := true, recurses := true, named := ["signalling/rail.sides", "signalling/rail.passages"], plainKeys := false, apart := false, laid := [("signalling/rail.sides", laid_signalling_rail_sides), ("signalling/rail.passages", laid_signalling_rail_passages)], narrowed := true }
def RbcStopsUptoSaid : Prop := rbcStopsUptoRow.holds Tryz.pinned (OpenSpec.upto rbcStopsSpec)

/-- 'signallinglaw47.RbcExclusive', WHERE WHAT IT READS IS OF BULK AT MOST 1048576: true; the input reads as it did. -/
def rbcExclusiveUptoRow : OpenClaim := { program := "ytfpoeepcomnjhaagreatdoor", sum := "b31b4f00fa3e446486fe8a5e3df8996dcbab8c21d1d1c526899beb21c05c62e9", func := "signalling/signallinglaw47.RbcExclusive", spec := "rbcExclusive", unfollowed := true, recurses := true, named := ["signalling/rail.sides", "signalling/rail.passages"], plainKeys := false, apart := false, laid := [("signalling/rail.sides", laid_signalling_rail_sides), ("signalling/rail.passages", laid_signalling_rail_passages)], narrowed := true }
def RbcExclusiveUptoSaid : Prop := rbcExclusiveUptoRow.holds Tryz.pinned (OpenSpec.upto rbcExclusiveSpec)

/-- 'signallinglaw47.RbcReceives', WHERE WHAT IT READS IS OF BULK AT MOST 1048576: true; the input reads as it did. -/
def rbcReceivesUptoRow : OpenClaim := { program := "ytfpoeepcomnjhaagreatdoor", sum := "b31b4f00fa3e446486fe8a5e3df8996dcbab8c21d1d1c526899beb21c05c62e9", func := "signalling/signallinglaw47.RbcReceives", spec := "rbcReceives", unfollowed := true, recurses := true, named := ["signalling/rail.sides", "signalling/rail.passages"], plainKeys := false, apart := false, laid := [("signalling/rail.sides", laid_signalling_rail_sides), ("signalling/rail.passages", laid_signalling_rail_passages)], narrowed := true }
def RbcReceivesUptoSaid : Prop := rbcReceivesUptoRow.holds Tryz.pinned (OpenSpec.upto rbcReceivesSpec)

end Rows
end Go.Proofs.YtfpoeepcomnjhaaGreatDoor
