/-
  NARROWER THAN 'FOR EVERY INPUT', by the rows' own cells (each row's printed sentence says how): ClaimsBegins: laid · ClaimsCounts: laid.
  DERIVED. THE GIVEN ROWS OF THIS SEAT. 2 by the template 'for every input the law returns true; each argument reads behind the call as it read before'; 0 by the template 'total and deterministic' (their statements: YtoknlpdkocemfaaGreatDoorTotals.lean).
  GIVEN WITH THE SEED: the statements are not yours to turn. If you find one false, say at which input.
  Laid BY PROGRAM, IN A SANDBOX (cutbox-rows.mjs): the forced cells as the released guide's own fill.sh prints them over the translation d784c02df8810f62… (all of the seat's roots in one cut). By AI agents, Wed Nov 11 2026. No macro, syntax, notation, axiom, sorry.
-/
import Derived.Test.YtoknlpdkocemfaaGreatDoorChecked
import GoSem.Claim
import GoSem.ClaimJoined
import GoSem.ClaimMapViews
import Derived.JoinedTies
import Derived.KernelRfl
namespace Go.Proofs.YtoknlpdkocemfaaGreatDoor
/- THE CELL 'sum', in the pinned program and in every row, IS THE sha256 OF THE DUMP (.gsa) THAT YtoknlpdkocemfaaGreatDoorProg.lean LOADS. Nothing in Lean hashes anything: it is a label: what it is worth is what the hold of that sum in a sandbox is worth. -/
noncomputable def Tryz.pinned : Pinned := { name := "ytoknlpdkocemfaagreatdoor", sum := "d784c02df8810f621d1105a15decdb81faebd7e89c6f68357df8b2a270104851", checked := Tryz.checked }
namespace Rows
def none {H : Type} : Left H := { results := [], args := [] }

/- WHAT THE LISTED PACKAGE-LEVEL VARIABLES READ AS WHEN THE CALL BEGINS. Each datum BY PROGRAM (the guide's laid-datum.mjs) off the statement by which the dump's own 'gosem.cut.vars' lays the variable. In a bare row this is a premise. The card (YtoknlpdkocemfaaGreatDoorCards.lean) ties it to the program's text. -/
def laid_signalling_rail_sides {H : Type} : DataW H := .agg [.lit (.int .i64 0), .lit (.int .i64 2), .lit (.int .i64 3), .lit (.int .i64 4)]
def laid_signalling_rail_passages {H : Type} : DataW H := .agg [.agg [.lit (.int .i64 1), .lit (.int .i64 0), .lit (.int .i64 1), .lit (.int .i64 0)], .agg [.lit (.int .i64 1), .lit (.int .i64 1), .lit (.int .i64 0), .lit (.int .i64 0)], .agg [.lit (.int .i64 2), .lit (.int .i64 0), .lit (.int .i64 1), .lit (.int .i64 1)], .agg [.lit (.int .i64 2), .lit (.int .i64 0), .lit (.int .i64 2), .lit (.int .i64 2)], .agg [.lit (.int .i64 2), .lit (.int .i64 1), .lit (.int .i64 0), .lit (.int .i64 1)], .agg [.lit (.int .i64 2), .lit (.int .i64 2), .lit (.int .i64 0), .lit (.int .i64 2)], .agg [.lit (.int .i64 3), .lit (.int .i64 0), .lit (.int .i64 1), .lit (.int .i64 0)], .agg [.lit (.int .i64 3), .lit (.int .i64 1), .lit (.int .i64 0), .lit (.int .i64 0)], .agg [.lit (.int .i64 3), .lit (.int .i64 2), .lit (.int .i64 3), .lit (.int .i64 0)], .agg [.lit (.int .i64 3), .lit (.int .i64 3), .lit (.int .i64 2), .lit (.int .i64 0)]]

/-- 'signallinglaw40.ClaimsBegins': WHATEVER THE INPUT: true; the input reads as it did. -/
def claimsBeginsSpec : ChangeSpec := { name := "claimsBegins", fn := fun _ => fun
  | [d1, d2, d3] => { results := [.lit (.bool true)], args := [d1, d2, d3] }
  | _ => none }
def claimsBeginsRow : OpenClaim := { program := "ytoknlpdkocemfaagreatdoor", sum := "d784c02df8810f621d1105a15decdb81faebd7e89c6f68357df8b2a270104851", func := "signalling/signallinglaw40.ClaimsBegins", spec := "claimsBegins", unfollowed := true, recurses := true, named := ["signalling/rail.sides", "signalling/rail.passages"], plainKeys := false, apart := false, laid := [("signalling/rail.sides", laid_signalling_rail_sides), ("signalling/rail.passages", laid_signalling_rail_passages)] }
def ClaimsBeginsSaid : Prop := claimsBeginsRow.holds Tryz.pinned (OpenSpec.ofChange claimsBeginsSpec)

/-- ITS FALSE NEIGHBOUR: 'it returns false'. Refute it at one input. -/
def claimsBeginsWrong : ChangeSpec := { name := "claimsBegins", fn := fun _ => fun
  | [d1, d2, d3] => { results := [.lit (.bool false)], args := [d1, d2, d3] }
  | _ => none }
def ClaimsBeginsWrongFalsely : Prop := claimsBeginsRow.holds Tryz.pinned (OpenSpec.ofChange claimsBeginsWrong)

/-- 'signallinglaw40.ClaimsCounts': WHATEVER THE INPUT: true; the input reads as it did. -/
def claimsCountsSpec : ChangeSpec := { name := "claimsCounts", fn := fun _ => fun
  | [d1, d2] => { results := [.lit (.bool true)], args := [d1, d2] }
  | _ => none }
def claimsCountsRow : OpenClaim := { program := "ytoknlpdkocemfaagreatdoor", sum := "d784c02df8810f621d1105a15decdb81faebd7e89c6f68357df8b2a270104851", func := "signalling/signallinglaw40.ClaimsCounts", spec := "claimsCounts", unfollowed := true, recurses := true, named := ["signalling/rail.sides", "signalling/rail.passages"], plainKeys := false, apart := false, laid := [("signalling/rail.sides", laid_signalling_rail_sides), ("signalling/rail.passages", laid_signalling_rail_passages)] }
def ClaimsCountsSaid : Prop := claimsCountsRow.holds Tryz.pinned (OpenSpec.ofChange claimsCountsSpec)

/-- ITS FALSE NEIGHBOUR: 'it returns false'. Refute it at one input. -/
def claimsCountsWrong : ChangeSpec := { name := "claimsCounts", fn := fun _ => fun
  | [d1, d2] => { results := [.lit (.bool false)], args := [d1, d2] }
  | _ => none }
def ClaimsCountsWrongFalsely : Prop := claimsCountsRow.holds Tryz.pinned (OpenSpec.ofChange claimsCountsWrong)

/- THE SECOND FORM. 'bulk': how many values and letters a reading holds, each counted each time it is reached (what is shared counts as often as it is met; a slice's spare places count too). A statement '..UptoSaid' is the law's where the arguments, and the package variables that the reading takes, are together of bulk at most 1048576: NARROWER than '..Said'. Prove '..Said' where nothing that the law and all that it calls make is longer than what came in: it says more and counts as full. Else prove '..UptoSaid'. A law counts once. -/
mutual
def uptoBulk {H : Type} : DataW H → Nat
  | .lit (.string bytes) => bytes.length + 1
  | .lit _ => 1
  | .nil => 1
  | .ptr d => uptoBulk d + 1
  | .slice elems spare => uptoBulkAll elems + uptoBulkAll spare + 1
  | .agg parts => uptoBulkAll parts + 1
  | .iface _ d => uptoBulk d + 1
  | .map entries => uptoBulkEntries entries + 1
  | .held _ => 1
def uptoBulkAll {H : Type} : List (DataW H) → Nat
  | [] => 0
  | d :: r => uptoBulk d + uptoBulkAll r
def uptoBulkEntries {H : Type} : List (Lit × DataW H) → Nat
  | [] => 0
  | x :: r => uptoBulkEntry x + uptoBulkEntries r
def uptoBulkEntry {H : Type} : Lit × DataW H → Nat
  | (.string bytes, d) => bytes.length + uptoBulk d + 1
  | (_, d) => uptoBulk d + 1
 end
def uptoSmall : (H : Type) → List (DataW H) → Bool := fun _ ds => decide (uptoBulkAll ds ≤ 1048576)
def OpenSpec.upto (s : _root_.Go.ChangeSpec) : _root_.Go.OpenSpec := { _root_.Go.OpenSpec.ofChange s with cond := some uptoSmall }

/-- 'signallinglaw40.ClaimsBegins', WHERE WHAT IT READS IS OF BULK AT MOST 1048576: true; the input reads as it did. -/
def claimsBeginsUptoRow : OpenClaim := { program := "ytoknlpdkocemfaagreatdoor", sum := "d784c02df8810f621d1105a15decdb81faebd7e89c6f68357df8b2a270104851", func := "signalling/signallinglaw40.ClaimsBegins", spec := "claimsBegins", unfollowed := true, recurses := true, named := ["signalling/rail.sides", "signalling/rail.passages"], plainKeys := false, apart := false, laid := [("signalling/rail.sides", laid_signalling_rail_sides), ("signalling/rail.passages", laid_signalling_rail_passages)], narrowed := true }
def ClaimsBeginsUptoSaid : Prop := claimsBeginsUptoRow.holds Tryz.pinned (OpenSpec.upto claimsBeginsSpec)

/-- 'signallinglaw40.ClaimsCounts', WHERE WHAT IT READS IS OF BULK AT MOST 1048576: true; the input reads as it did. -/
def claimsCountsUptoRow : OpenClaim := { program := "ytoknlpdkocemfaagreatdoor", sum := "d784c02df8810f621d1105a15decdb81faebd7e89c6f68357df8b2a270104851", func := "signalling/signallinglaw40.ClaimsCounts", spec := "claimsCounts", unfollowed := true, recurses := true, named := ["signalling/rail.sides", "signalling/rail.passages"], plainKeys := false, apart := false, laid := [("signalling/rail.sides", laid_signalling_rail_sides), ("signalling/rail.passages", laid_signalling_rail_passages)], narrowed := true }
def ClaimsCountsUptoSaid : Prop := claimsCountsUptoRow.holds Tryz.pinned (OpenSpec.upto claimsCountsSpec)

end Rows
end Go.Proofs.YtoknlpdkocemfaaGreatDoor
