/-
  NARROWER THAN 'FOR EVERY INPUT', by the rows' own cells (each row's printed sentence says how): FlankSearches: laid · FlankStops: laid · FlankLists: laid · FlankAgrees: laid.
  DERIVED. THE GIVEN ROWS OF THIS SEAT. 4 by the template 'for every input the law returns true; each argument reads behind the call as it read before'; 0 by the template 'total and deterministic' (their statements: YtpiejhjhalnaaaaDoorTotals.lean).
  GIVEN WITH THE SEED: the statements are not yours to turn. If you find one false, say at which input.
  Laid BY PROGRAM, IN A SANDBOX (cutbox-rows.mjs): the forced cells as the released guide's own fill.sh prints them over the translation d879f9d316fac0c6… (all of the seat's roots in one cut). By AI agents, Wed Nov 11 2026. No macro, syntax, notation, axiom, sorry.
-/
import Derived.Test.YtpiejhjhalnaaaaDoorChecked
import GoSem.Claim
import GoSem.ClaimJoined
import GoSem.ClaimMapViews
import Derived.JoinedTies
import Derived.KernelRfl
namespace Go.Proofs.YtpiejhjhalnaaaaDoor
/- THE CELL 'sum', in the pinned program and in every row, IS THE sha256 OF THE DUMP (.gsa) THAT YtpiejhjhalnaaaaDoorProg.lean LOADS. Nothing in Lean hashes anything: it is a label: what it is worth is what the hold of that sum in a sandbox is worth. -/
noncomputable def Tryd.pinned : Pinned := { name := "ytpiejhjhalnaaaadoor", sum := "d879f9d316fac0c6fbfda3eaf146ae09c3a2374fceb4b5d3014f6da972c74509", checked := Tryd.checked }
namespace Rows
def none {H : Type} : Left H := { results := [], args := [] }

/- WHAT THE LISTED PACKAGE-LEVEL VARIABLES READ AS WHEN THE CALL BEGINS. Each datum BY PROGRAM (the guide's laid-datum.mjs) off the statement by which the dump's own 'gosem.cut.vars' lays the variable. In a bare row this is a premise. The card (YtpiejhjhalnaaaaDoorCards.lean) ties it to the program's text. -/
def laid_signalling_rail_sides {H : Type} : DataW H := .agg [.lit (.int .i64 0), .lit (.int .i64 2), .lit (.int .i64 3), .lit (.int .i64 4)]
def laid_signalling_rail_passages {H : Type} : DataW H := .agg [.agg [.lit (.int .i64 1), .lit (.int .i64 0), .lit (.int .i64 1), .lit (.int .i64 0)], .agg [.lit (.int .i64 1), .lit (.int .i64 1), .lit (.int .i64 0), .lit (.int .i64 0)], .agg [.lit (.int .i64 2), .lit (.int .i64 0), .lit (.int .i64 1), .lit (.int .i64 1)], .agg [.lit (.int .i64 2), .lit (.int .i64 0), .lit (.int .i64 2), .lit (.int .i64 2)], .agg [.lit (.int .i64 2), .lit (.int .i64 1), .lit (.int .i64 0), .lit (.int .i64 1)], .agg [.lit (.int .i64 2), .lit (.int .i64 2), .lit (.int .i64 0), .lit (.int .i64 2)], .agg [.lit (.int .i64 3), .lit (.int .i64 0), .lit (.int .i64 1), .lit (.int .i64 0)], .agg [.lit (.int .i64 3), .lit (.int .i64 1), .lit (.int .i64 0), .lit (.int .i64 0)], .agg [.lit (.int .i64 3), .lit (.int .i64 2), .lit (.int .i64 3), .lit (.int .i64 0)], .agg [.lit (.int .i64 3), .lit (.int .i64 3), .lit (.int .i64 2), .lit (.int .i64 0)]]

/-- 'signallinglaw14.FlankSearches': WHATEVER THE INPUT: true; the input reads as it did. -/
def flankSearchesSpec : ChangeSpec := { name := "flankSearches", fn := fun _ => fun
  | [d1, d2, d3] => { results := [.lit (.bool true)], args := [d1, d2, d3] }
  | _ => none }
def flankSearchesRow : OpenClaim := { program := "ytpiejhjhalnaaaadoor", sum := "d879f9d316fac0c6fbfda3eaf146ae09c3a2374fceb4b5d3014f6da972c74509", func := "signalling/signallinglaw14.FlankSearches", spec := "flankSearches", unfollowed := true, recurses := true, named := ["signalling/rail.passages", "signalling/rail.sides"], apart := false, laid := [("signalling/rail.sides", laid_signalling_rail_sides), ("signalling/rail.passages", laid_signalling_rail_passages)] }
def FlankSearchesSaid : Prop := flankSearchesRow.holds Tryd.pinned (OpenSpec.ofChange flankSearchesSpec)

/-- ITS FALSE NEIGHBOUR: 'it returns false'. Refute it at one input. -/
def flankSearchesWrong : ChangeSpec := { name := "flankSearches", fn := fun _ => fun
  | [d1, d2, d3] => { results := [.lit (.bool false)], args := [d1, d2, d3] }
  | _ => none }
def FlankSearchesWrongFalsely : Prop := flankSearchesRow.holds Tryd.pinned (OpenSpec.ofChange flankSearchesWrong)

/-- 'signallinglaw14.FlankStops': WHATEVER THE INPUT: true; the input reads as it did. -/
def flankStopsSpec : ChangeSpec := { name := "flankStops", fn := fun _ => fun
  | [d1, d2, d3] => { results := [.lit (.bool true)], args := [d1, d2, d3] }
  | _ => none }
def flankStopsRow : OpenClaim := { program := "ytpiejhjhalnaaaadoor", sum := "d879f9d316fac0c6fbfda3eaf146ae09c3a2374fceb4b5d3014f6da972c74509", func := "signalling/signallinglaw14.FlankStops", spec := "flankStops", unfollowed := true, recurses := true, named := ["signalling/rail.passages", "signalling/rail.sides"], apart := false, laid := [("signalling/rail.sides", laid_signalling_rail_sides), ("signalling/rail.passages", laid_signalling_rail_passages)] }
def FlankStopsSaid : Prop := flankStopsRow.holds Tryd.pinned (OpenSpec.ofChange flankStopsSpec)

/-- ITS FALSE NEIGHBOUR: 'it returns false'. Refute it at one input. -/
def flankStopsWrong : ChangeSpec := { name := "flankStops", fn := fun _ => fun
  | [d1, d2, d3] => { results := [.lit (.bool false)], args := [d1, d2, d3] }
  | _ => none }
def FlankStopsWrongFalsely : Prop := flankStopsRow.holds Tryd.pinned (OpenSpec.ofChange flankStopsWrong)

/-- 'signallinglaw14.FlankLists': WHATEVER THE INPUT: true; the input reads as it did. -/
def flankListsSpec : ChangeSpec := { name := "flankLists", fn := fun _ => fun
  | [d1, d2] => { results := [.lit (.bool true)], args := [d1, d2] }
  | _ => none }
def flankListsRow : OpenClaim := { program := "ytpiejhjhalnaaaadoor", sum := "d879f9d316fac0c6fbfda3eaf146ae09c3a2374fceb4b5d3014f6da972c74509", func := "signalling/signallinglaw14.FlankLists", spec := "flankLists", unfollowed := true, recurses := true, named := ["signalling/rail.passages", "signalling/rail.sides"], apart := false, laid := [("signalling/rail.sides", laid_signalling_rail_sides), ("signalling/rail.passages", laid_signalling_rail_passages)] }
def FlankListsSaid : Prop := flankListsRow.holds Tryd.pinned (OpenSpec.ofChange flankListsSpec)

/-- ITS FALSE NEIGHBOUR: 'it returns false'. Refute it at one input. -/
def flankListsWrong : ChangeSpec := { name := "flankLists", fn := fun _ => fun
  | [d1, d2] => { results := [.lit (.bool false)], args := [d1, d2] }
  | _ => none }
def FlankListsWrongFalsely : Prop := flankListsRow.holds Tryd.pinned (OpenSpec.ofChange flankListsWrong)

/-- 'signallinglaw14.FlankAgrees': WHATEVER THE INPUT: true; the input reads as it did. -/
def flankAgreesSpec : ChangeSpec := { name := "flankAgrees", fn := fun _ => fun
  | [d1, d2] => { results := [.lit (.bool true)], args := [d1, d2] }
  | _ => none }
def flankAgreesRow : OpenClaim := { program := "ytpiejhjhalnaaaadoor", sum := "d879f9d316fac0c6fbfda3eaf146ae09c3a2374fceb4b5d3014f6da972c74509", func := "signalling/signallinglaw14.FlankAgrees", spec := "flankAgrees", unfollowed := true, recurses := true, named := ["signalling/rail.passages", "signalling/rail.sides"], apart := false, laid := [("signalling/rail.sides", laid_signalling_rail_sides), ("signalling/rail.passages", laid_signalling_rail_passages)] }
def FlankAgreesSaid : Prop := flankAgreesRow.holds Tryd.pinned (OpenSpec.ofChange flankAgreesSpec)

/-- ITS FALSE NEIGHBOUR: 'it returns false'. Refute it at one input. -/
def flankAgreesWrong : ChangeSpec := { name := "flankAgrees", fn := fun _ => fun
  | [d1, d2] => { results := [.lit (.bool false)], args := [d1, d2] }
  | _ => none }
def FlankAgreesWrongFalsely : Prop := flankAgreesRow.holds Tryd.pinned (OpenSpec.ofChange flankAgreesWrong)

/- THE SECOND FORM. 'bulk': how many values and letters a reading holds, each counted each time it is reached (what is shared counts as often as it is met; a slice's spare places count too). A statement '..UptoSaid' is the law's where the arguments, and the package variables that the reading takes, are together of bulk at most 1048576: NARROWER than '..Said'. Prove '..Said' where nothing that the law and all that it calls make is longer than what came in: it says more and counts as full. Else prove '..UptoSaid'. A law counts once. -/
mutual
def uptoBulk {H : Type} : DataW H → Nat
  | .lit (.string bytes) => bytes.length + 1
  | .lit _ => 1
  | .nil => 1
  | .ptr d => uptoBulk d + 1
  | .slice elems spare => uptoBulkAll elems + uptoBulkAll spare + 1
  | .agg parts => uptoBulkAll parts + 1
  | .iface _ d => uptoBulk d + 1
  | .map entries => uptoBulkEntries entries + 1
  | .held _ => 1
def uptoBulkAll {H : Type} : List (DataW H) → Nat
  | [] => 0
  | d :: r => uptoBulk d + uptoBulkAll r
def uptoBulkEntries {H : Type} : List (Lit × DataW H) → Nat
  | [] => 0
  | x :: r => uptoBulkEntry x + uptoBulkEntries r
def uptoBulkEntry {H : Type} : Lit × DataW H → Nat
  | (.string bytes, d) => bytes.length + uptoBulk d + 1
  | (_, d) => uptoBulk d + 1
 end
def uptoSmall : (H : Type) → List (DataW H) → Bool := fun _ ds => decide (uptoBulkAll ds ≤ 1048576)
def OpenSpec.upto (s : _root_.Go.ChangeSpec) : _root_.Go.OpenSpec := { _root_.Go.OpenSpec.ofChange s with cond := some uptoSmall }

/-- 'signallinglaw14.FlankSearches', WHERE WHAT IT READS IS OF BULK AT MOST 1048576: true; the input reads as it did. -/
def flankSearchesUptoRow : OpenClaim := { program := "ytpiejhjhalnaaaadoor", sum := "d879f9d316fac0c6fbfda3eaf146ae09c3a2374fceb4b5d3014f6da972c74509", func := "signalling/signallinglaw14.FlankSearches", spec := "flankSearches", unfollowed := true, recurses := true, named := ["signalling/rail.passages", "signalling/rail.sides"], apart := false, laid := [("signalling/rail.sides", laid_signalling_rail_sides), ("signalling/rail.passages", laid_signalling_rail_passages)], narrowed := true }
def FlankSearchesUptoSaid : Prop := flankSearchesUptoRow.holds Tryd.pinned (OpenSpec.upto flankSearchesSpec)

/-- 'signallinglaw14.FlankStops', WHERE WHAT IT READS IS OF BULK AT MOST 1048576: true; the input reads as it did. -/
def flankStopsUptoRow : OpenClaim := { program := "ytpiejhjhalnaaaadoor", sum := "d879f9d316fac0c6fbfda3eaf146ae09c3a2374fceb4b5d3014f6da972c74509", func := "signalling/signallinglaw14.FlankStops", spec := "flankStops", unfollowed := true, recurses := true, named := ["signalling/rail.passages", "signalling/rail.sides"], apart := false, laid := [("signalling/rail.sides", laid_signalling_rail_sides), ("signalling/rail.passages", laid_signalling_rail_passages)], narrowed := true }
def FlankStopsUptoSaid : Prop := flankStopsUptoRow.holds Tryd.pinned (OpenSpec.upto flankStopsSpec)

/-- 'signallinglaw14.FlankLists', WHERE WHAT IT READS IS OF BULK AT MOST 1048576: true; the input reads as it did. -/
def flankListsUptoRow : OpenClaim := { program := "ytpiejhjhalnaaaadoor", sum := "d879f9d316fac0c6fbfda3eaf146ae09c3a2374fceb4b5d3014f6da972c74509", func := "signalling/signallinglaw14.FlankLists", spec := "flankLists", unfollowed := true, recurses := true, named := ["signalling/rail.passages", "signalling/rail.sides"], apart := false, laid := [("signalling/rail.sides", laid_signalling_rail_sides), ("signalling/rail.passages", laid_signalling_rail_passages)], narrowed := true }
def FlankListsUptoSaid : Prop := flankListsUptoRow.holds Tryd.pinned (OpenSpec.upto flankListsSpec)

/-- 'signallinglaw14.FlankAgrees', WHERE WHAT IT READS IS OF BULK AT MOST 1048576: true; the input reads as it did. -/
def flankAgreesUptoRow : OpenClaim := { program := "ytpiejhjhalnaaaadoor", sum := "d879f9d316fac0c6fbfda3eaf146ae09c3a2374fceb4b5d3014f6da972c74509", func := "signalling/signallinglaw14.FlankAgrees", spec := "flankAgrees", unfollowed := true, recurses := true, named := ["signalling/rail.passages", "signalling/rail.sides"], apart := false, laid := [("signalling/rail.sides", laid_signalling_rail_sides), ("signalling/rail.passages", laid_signalling_rail_passages)], narrowed := true }
def FlankAgreesUptoSaid : Prop := flankAgreesUptoRow.holds Tryd.pinned (OpenSpec.upto flankAgreesSpec)

end Rows
end Go.Proofs.YtpiejhjhalnaaaaDoor
