/-
  NARROWER THAN 'FOR EVERY INPUT', by the rows' own cells (each row's printed sentence says how): BodyChecks: laid · BodyReads: laid · BodyMoves: laid · BodyCovers: laid · BodyTwice: laid.
  DERIVED. THE GIVEN ROWS OF THIS SEAT. 5 by the template 'for every input the law returns true; each argument reads behind the call as it read before'; 0 by the template 'total and deterministic' (their statements: YtfndelfalfplaaaDoorTotals.lean).
  GIVEN WITH THE SEED: the statements are not yours to turn. If you find one false, say at which input.
  Laid BY PROGRAM, IN A SANDBOX (cutbox-rows.mjs): the forced cells as the released guide's own fill.sh prints them over the translation a4b521df93d436ab… (all of the seat's roots in one cut). By AI agents, Wed Nov 11 2026. No macro, syntax, notation, axiom, sorry.
-/
import Derived.Test.YtfndelfalfplaaaDoorChecked
import GoSem.Claim
import GoSem.ClaimJoined
import GoSem.ClaimMapViews
import Derived.JoinedTies
import Derived.KernelRfl
namespace Go.Proofs.YtfndelfalfplaaaDoor
/- THE CELL 'sum', in the pinned program and in every row, IS THE sha256 OF THE DUMP (.gsa) THAT YtfndelfalfplaaaDoorProg.lean LOADS. Nothing in Lean hashes anything: it is a label: what it is worth is what the hold of that sum in a sandbox is worth. -/
noncomputable def Tryd.pinned : Pinned := { name := "ytfndelfalfplaaadoor", sum := "a4b521df93d436ab2f8664c37402bc9018a910e8d998a42ecb4cf8e8f321e6e0", checked := Tryd.checked }
namespace Rows
def none {H : Type} : Left H := { results := [], args := [] }

/- WHAT THE LISTED PACKAGE-LEVEL VARIABLES READ AS WHEN THE CALL BEGINS. Each datum BY PROGRAM (the guide's laid-datum.mjs) off the statement by which the dump's own 'gosem.cut.vars' lays the variable. In a bare row this is a premise. The card (YtfndelfalfplaaaDoorCards.lean) ties it to the program's text. -/
def laid_signalling_rail_passages {H : Type} : DataW H := .agg [.agg [.lit (.int .i64 1), .lit (.int .i64 0), .lit (.int .i64 1), .lit (.int .i64 0)], .agg [.lit (.int .i64 1), .lit (.int .i64 1), .lit (.int .i64 0), .lit (.int .i64 0)], .agg [.lit (.int .i64 2), .lit (.int .i64 0), .lit (.int .i64 1), .lit (.int .i64 1)], .agg [.lit (.int .i64 2), .lit (.int .i64 0), .lit (.int .i64 2), .lit (.int .i64 2)], .agg [.lit (.int .i64 2), .lit (.int .i64 1), .lit (.int .i64 0), .lit (.int .i64 1)], .agg [.lit (.int .i64 2), .lit (.int .i64 2), .lit (.int .i64 0), .lit (.int .i64 2)], .agg [.lit (.int .i64 3), .lit (.int .i64 0), .lit (.int .i64 1), .lit (.int .i64 0)], .agg [.lit (.int .i64 3), .lit (.int .i64 1), .lit (.int .i64 0), .lit (.int .i64 0)], .agg [.lit (.int .i64 3), .lit (.int .i64 2), .lit (.int .i64 3), .lit (.int .i64 0)], .agg [.lit (.int .i64 3), .lit (.int .i64 3), .lit (.int .i64 2), .lit (.int .i64 0)]]

/-- 'signallinglaw11.BodyChecks': WHATEVER THE INPUT: true; the input reads as it did. -/
def bodyChecksSpec : ChangeSpec := { name := "bodyChecks", fn := fun _ => fun
  | [d1, d2] => { results := [.lit (.bool true)], args := [d1, d2] }
  | _ => none }
def bodyChecksRow : OpenClaim := { program := "ytfndelfalfplaaadoor", sum := "a4b521df93d436ab2f8664c37402bc9018a910e8d998a42ecb4cf8e8f321e6e0", func := "signalling/signallinglaw11.BodyChecks", spec := "bodyChecks", unfollowed := true, recurses := true, named := ["signalling/rail.passages"], apart := false, laid := [("signalling/rail.passages", laid_signalling_rail_passages)] }
def BodyChecksSaid : Prop := bodyChecksRow.holds Tryd.pinned (OpenSpec.ofChange bodyChecksSpec)

/-- ITS FALSE NEIGHBOUR: 'it returns false'. Refute it at one input. -/
def bodyChecksWrong : ChangeSpec := { name := "bodyChecks", fn := fun _ => fun
  | [d1, d2] => { results := [.lit (.bool false)], args := [d1, d2] }
  | _ => none }
def BodyChecksWrongFalsely : Prop := bodyChecksRow.holds Tryd.pinned (OpenSpec.ofChange bodyChecksWrong)

/-- 'signallinglaw11.BodyReads': WHATEVER THE INPUT: true; the input reads as it did. -/
def bodyReadsSpec : ChangeSpec := { name := "bodyReads", fn := fun _ => fun
  | [d1, d2, d3] => { results := [.lit (.bool true)], args := [d1, d2, d3] }
  | _ => none }
def bodyReadsRow : OpenClaim := { program := "ytfndelfalfplaaadoor", sum := "a4b521df93d436ab2f8664c37402bc9018a910e8d998a42ecb4cf8e8f321e6e0", func := "signalling/signallinglaw11.BodyReads", spec := "bodyReads", unfollowed := true, recurses := true, named := ["signalling/rail.passages"], apart := false, laid := [("signalling/rail.passages", laid_signalling_rail_passages)] }
def BodyReadsSaid : Prop := bodyReadsRow.holds Tryd.pinned (OpenSpec.ofChange bodyReadsSpec)

/-- ITS FALSE NEIGHBOUR: 'it returns false'. Refute it at one input. -/
def bodyReadsWrong : ChangeSpec := { name := "bodyReads", fn := fun _ => fun
  | [d1, d2, d3] => { results := [.lit (.bool false)], args := [d1, d2, d3] }
  | _ => none }
def BodyReadsWrongFalsely : Prop := bodyReadsRow.holds Tryd.pinned (OpenSpec.ofChange bodyReadsWrong)

/-- 'signallinglaw11.BodyMoves': WHATEVER THE INPUT: true; the input reads as it did. -/
def bodyMovesSpec : ChangeSpec := { name := "bodyMoves", fn := fun _ => fun
  | [d1, d2, d3, d4] => { results := [.lit (.bool true)], args := [d1, d2, d3, d4] }
  | _ => none }
def bodyMovesRow : OpenClaim := { program := "ytfndelfalfplaaadoor", sum := "a4b521df93d436ab2f8664c37402bc9018a910e8d998a42ecb4cf8e8f321e6e0", func := "signalling/signallinglaw11.BodyMoves", spec := "bodyMoves", unfollowed := true, recurses := true, named := ["signalling/rail.passages"], apart := false, laid := [("signalling/rail.passages", laid_signalling_rail_passages)] }
def BodyMovesSaid : Prop := bodyMovesRow.holds Tryd.pinned (OpenSpec.ofChange bodyMovesSpec)

/-- ITS FALSE NEIGHBOUR: 'it returns false'. Refute it at one input. -/
def bodyMovesWrong : ChangeSpec := { name := "bodyMoves", fn := fun _ => fun
  | [d1, d2, d3, d4] => { results := [.lit (.bool false)], args := [d1, d2, d3, d4] }
  | _ => none }
def BodyMovesWrongFalsely : Prop := bodyMovesRow.holds Tryd.pinned (OpenSpec.ofChange bodyMovesWrong)

/-- 'signallinglaw11.BodyCovers': WHATEVER THE INPUT: true; the input reads as it did. -/
def bodyCoversSpec : ChangeSpec := { name := "bodyCovers", fn := fun _ => fun
  | [d1, d2, d3, d4] => { results := [.lit (.bool true)], args := [d1, d2, d3, d4] }
  | _ => none }
def bodyCoversRow : OpenClaim := { program := "ytfndelfalfplaaadoor", sum := "a4b521df93d436ab2f8664c37402bc9018a910e8d998a42ecb4cf8e8f321e6e0", func := "signalling/signallinglaw11.BodyCovers", spec := "bodyCovers", unfollowed := true, recurses := true, named := ["signalling/rail.passages"], apart := false, laid := [("signalling/rail.passages", laid_signalling_rail_passages)] }
def BodyCoversSaid : Prop := bodyCoversRow.holds Tryd.pinned (OpenSpec.ofChange bodyCoversSpec)

/-- ITS FALSE NEIGHBOUR: 'it returns false'. Refute it at one input. -/
def bodyCoversWrong : ChangeSpec := { name := "bodyCovers", fn := fun _ => fun
  | [d1, d2, d3, d4] => { results := [.lit (.bool false)], args := [d1, d2, d3, d4] }
  | _ => none }
def BodyCoversWrongFalsely : Prop := bodyCoversRow.holds Tryd.pinned (OpenSpec.ofChange bodyCoversWrong)

/-- 'signallinglaw11.BodyTwice': WHATEVER THE INPUT: true; the input reads as it did. -/
def bodyTwiceSpec : ChangeSpec := { name := "bodyTwice", fn := fun _ => fun
  | [d1, d2, d3, d4, d5] => { results := [.lit (.bool true)], args := [d1, d2, d3, d4, d5] }
  | _ => none }
def bodyTwiceRow : OpenClaim := { program := "ytfndelfalfplaaadoor", sum := "a4b521df93d436ab2f8664c37402bc9018a910e8d998a42ecb4cf8e8f321e6e0", func := "signalling/signallinglaw11.BodyTwice", spec := "bodyTwice", unfollowed := true, recurses := true, named := ["signalling/rail.passages"], apart := false, laid := [("signalling/rail.passages", laid_signalling_rail_passages)] }
def BodyTwiceSaid : Prop := bodyTwiceRow.holds Tryd.pinned (OpenSpec.ofChange bodyTwiceSpec)

/-- ITS FALSE NEIGHBOUR: 'it returns false'. Refute it at one input. -/
def bodyTwiceWrong : ChangeSpec := { name := "bodyTwice", fn := fun _ => fun
  | [d1, d2, d3, d4, d5] => { results := [.lit (.bool false)], args := [d1, d2, d3, d4, d5] }
  | _ => none }
def BodyTwiceWrongFalsely : Prop := bodyTwiceRow.holds Tryd.pinned (OpenSpec.ofChange bodyTwiceWrong)

/- THE SECOND FORM. 'bulk': how many values and letters a reading holds, each counted each time it is reached (what is shared counts as often as it is met; a slice's spare places count too). A statement '..UptoSaid' is the law's where the arguments, and the package variables that the reading takes, are together of bulk at most 1048576: NARROWER than '..Said'. Prove '..Said' where nothing that the law and all that it calls make is longer than what came in: it says more and counts as full. Else prove '..UptoSaid'. A law counts once. -/
mutual
def uptoBulk {H : Type} : DataW H → Nat
  | .lit (.string bytes) => bytes.length + 1
  | .lit _ => 1
  | .nil => 1
  | .ptr d => uptoBulk d + 1
  | .slice elems spare => uptoBulkAll elems + uptoBulkAll spare + 1
  | .agg parts => uptoBulkAll parts + 1
  | .iface _ d => uptoBulk d + 1
  | .map entries => uptoBulkEntries entries + 1
  | .held _ => 1
def uptoBulkAll {H : Type} : List (DataW H) → Nat
  | [] => 0
  | d :: r => uptoBulk d + uptoBulkAll r
def uptoBulkEntries {H : Type} : List (Lit × DataW H) → Nat
  | [] => 0
  | x :: r => uptoBulkEntry x + uptoBulkEntries r
def uptoBulkEntry {H : Type} : Lit × DataW H → Nat
  | (.string bytes, d) => bytes.length + uptoBulk d + 1
  | (_, d) => uptoBulk d + 1
 end
def uptoSmall : (H : Type) → List (DataW H) → Bool := fun _ ds => decide (uptoBulkAll ds ≤ 1048576)
def OpenSpec.upto (s : _root_.Go.ChangeSpec) : _root_.Go.OpenSpec := { _root_.Go.OpenSpec.ofChange s with cond := some uptoSmall }

/-- 'signallinglaw11.BodyChecks', WHERE WHAT IT READS IS OF BULK AT MOST 1048576: true; the input reads as it did. -/
def bodyChecksUptoRow : OpenClaim := { program := "ytfndelfalfplaaadoor", sum := "a4b521df93d436ab2f8664c37402bc9018a910e8d998a42ecb4cf8e8f321e6e0", func := "signalling/signallinglaw11.BodyChecks", spec := "bodyChecks", unfollowed := true, recurses := true, named := ["signalling/rail.passages"], apart := false, laid := [("signalling/rail.passages", laid_signalling_rail_passages)], narrowed := true }
def BodyChecksUptoSaid : Prop := bodyChecksUptoRow.holds Tryd.pinned (OpenSpec.upto bodyChecksSpec)

/-- 'signallinglaw11.BodyReads', WHERE WHAT IT READS IS OF BULK AT MOST 1048576: true; the input reads as it did. -/
def bodyReadsUptoRow : OpenClaim := { program := "ytfndelfalfplaaadoor", sum := "a4b521df93d436ab2f8664c37402bc9018a910e8d998a42ecb4cf8e8f321e6e0", func := "signalling/signallinglaw11.BodyReads", spec := "bodyReads", unfollowed := true, recurses := true, named := ["signalling/rail.passages"], apart := false, laid := [("signalling/rail.passages", laid_signalling_rail_passages)], narrowed := true }
def BodyReadsUptoSaid : Prop := bodyReadsUptoRow.holds Tryd.pinned (OpenSpec.upto bodyReadsSpec)

/-- 'signallinglaw11.BodyMoves', WHERE WHAT IT READS IS OF BULK AT MOST 1048576: true; the input reads as it did. -/
def bodyMovesUptoRow : OpenClaim := { program := "ytfndelfalfplaaadoor", sum := "a4b521df93d436ab2f8664c37402bc9018a910e8d998a42ecb4cf8e8f321e6e0", func := "signalling/signallinglaw11.BodyMoves", spec := "bodyMoves", unfollowed := true, recurses := true, named := ["signalling/rail.passages"], apart := false, laid := [("signalling/rail.passages", laid_signalling_rail_passages)], narrowed := true }
def BodyMovesUptoSaid : Prop := bodyMovesUptoRow.holds Tryd.pinned (OpenSpec.upto bodyMovesSpec)

/-- 'signallinglaw11.BodyCovers', WHERE WHAT IT READS IS OF BULK AT MOST 1048576: true; the input reads as it did. -/
def bodyCoversUptoRow : OpenClaim := { program := "ytfndelfalfplaaadoor", sum := "a4b521df93d436ab2f8664c37402bc9018a910e8d998a42ecb4cf8e8f321e6e0", func := "signalling/signallinglaw11.BodyCovers", spec := "bodyCovers", unfollowed := true, recurses := true, named := ["signalling/rail.passages"], apart := false, laid := [("signalling/rail.passages", laid_signalling_rail_passages)], narrowed := true }
def BodyCoversUptoSaid : Prop := bodyCoversUptoRow.holds Tryd.pinned (OpenSpec.upto bodyCoversSpec)

/-- 'signallinglaw11.BodyTwice', WHERE WHAT IT READS IS OF BULK AT MOST 1048576: true; the input reads as it did. -/
def bodyTwiceUptoRow : OpenClaim := { program := "ytfndelfalfplaaadoor", sum := "a4b521df93d436ab2f8664c37402bc9018a910e8d998a42ecb4cf8e8f321e6e0", func := "signalling/signallinglaw11.BodyTwice", spec := "bodyTwice", unfollowed := true, recurses := true, named := ["signalling/rail.passages"], apart := false, laid := [("signalling/rail.passages", laid_signalling_rail_passages)], narrowed := true }
def BodyTwiceUptoSaid : Prop := bodyTwiceUptoRow.holds Tryd.pinned (OpenSpec.upto bodyTwiceSpec)

end Rows
end Go.Proofs.YtfndelfalfplaaaDoor
