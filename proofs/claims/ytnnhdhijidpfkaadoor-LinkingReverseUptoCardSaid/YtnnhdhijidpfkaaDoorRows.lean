/-
  NARROWER THAN 'FOR EVERY INPUT', by the rows' own cells (each row's printed sentence says how): LinkingOf: laid · LinkingValid: laid · LinkingOverdue: laid · LinkingOrder: laid · LinkingReverse: laid.
  DERIVED. THE GIVEN ROWS OF THIS SEAT. 5 by the template 'for every input the law returns true; each argument reads behind the call as it read before'; 0 by the template 'total and deterministic' (their statements: YtnnhdhijidpfkaaDoorTotals.lean).
  GIVEN WITH THE SEED: the statements are not yours to turn. If you find one false, say at which input.
  Laid BY PROGRAM, IN A SANDBOX (cutbox-rows.mjs): the forced cells as the released guide's own fill.sh prints them over the translation 06d88f9c02a04333… (all of the seat's roots in one cut). By AI agents, Wed Nov 11 2026. No macro, syntax, notation, axiom, sorry.
-/
import Derived.Test.YtnnhdhijidpfkaaDoorChecked
import GoSem.Claim
import GoSem.ClaimJoined
import GoSem.ClaimMapViews
import Derived.JoinedTies
import Derived.KernelRfl
namespace Go.Proofs.YtnnhdhijidpfkaaDoor
/- THE CELL 'sum', in the pinned program and in every row, IS THE sha256 OF THE DUMP (.gsa) THAT YtnnhdhijidpfkaaDoorProg.lean LOADS. Nothing in Lean hashes anything: it is a label: what it is worth is what the hold of that sum in a sandbox is worth. -/
noncomputable def Tryd.pinned : Pinned := { name := "ytnnhdhijidpfkaadoor", sum := "06d88f9c02a04333d279e65937e7652c8bb25161c849adf5360e42f7f3f2c794", checked := Tryd.checked }
namespace Rows
def none {H : Type} : Left H := { results := [], args := [] }

/- WHAT THE LISTED PACKAGE-LEVEL VARIABLES READ AS WHEN THE CALL BEGINS. Each datum BY PROGRAM (the guide's laid-datum.mjs) off the statement by which the dump's own 'gosem.cut.vars' lays the variable. In a bare row this is a premise. The card (YtnnhdhijidpfkaaDoorCards.lean) ties it to the program's text. -/
def laid_signalling_rail_passages {H : Type} : DataW H := .agg [.agg [.lit (.int .i64 1), .lit (.int .i64 0), .lit (.int .i64 1), .lit (.int .i64 0)], .agg [.lit (.int .i64 1), .lit (.int .i64 1), .lit (.int .i64 0), .lit (.int .i64 0)], .agg [.lit (.int .i64 2), .lit (.int .i64 0), .lit (.int .i64 1), .lit (.int .i64 1)], .agg [.lit (.int .i64 2), .lit (.int .i64 0), .lit (.int .i64 2), .lit (.int .i64 2)], .agg [.lit (.int .i64 2), .lit (.int .i64 1), .lit (.int .i64 0), .lit (.int .i64 1)], .agg [.lit (.int .i64 2), .lit (.int .i64 2), .lit (.int .i64 0), .lit (.int .i64 2)], .agg [.lit (.int .i64 3), .lit (.int .i64 0), .lit (.int .i64 1), .lit (.int .i64 0)], .agg [.lit (.int .i64 3), .lit (.int .i64 1), .lit (.int .i64 0), .lit (.int .i64 0)], .agg [.lit (.int .i64 3), .lit (.int .i64 2), .lit (.int .i64 3), .lit (.int .i64 0)], .agg [.lit (.int .i64 3), .lit (.int .i64 3), .lit (.int .i64 2), .lit (.int .i64 0)]]

/-- 'signallinglaw32.LinkingOf': WHATEVER THE INPUT: true; the input reads as it did. -/
def linkingOfSpec : ChangeSpec := { name := "linkingOf", fn := fun _ => fun
  | [d1, d2, d3, d4] => { results := [.lit (.bool true)], args := [d1, d2, d3, d4] }
  | _ => none }
def linkingOfRow : OpenClaim := { program := "ytnnhdhijidpfkaadoor", sum := "06d88f9c02a04333d279e65937e7652c8bb25161c849adf5360e42f7f3f2c794", func := "signalling/signallinglaw32.LinkingOf", spec := "linkingOf", unfollowed := true, recurses := true, named := ["signalling/rail.passages"], apart := false, laid := [("signalling/rail.passages", laid_signalling_rail_passages)] }
def LinkingOfSaid : Prop := linkingOfRow.holds Tryd.pinned (OpenSpec.ofChange linkingOfSpec)

/-- ITS FALSE NEIGHBOUR: 'it returns false'. Refute it at one input. -/
def linkingOfWrong : ChangeSpec := { name := "linkingOf", fn := fun _ => fun
  | [d1, d2, d3, d4] => { results := [.lit (.bool false)], args := [d1, d2, d3, d4] }
  | _ => none }
def LinkingOfWrongFalsely : Prop := linkingOfRow.holds Tryd.pinned (OpenSpec.ofChange linkingOfWrong)

/-- 'signallinglaw32.LinkingValid': WHATEVER THE INPUT: true; the input reads as it did. -/
def linkingValidSpec : ChangeSpec := { name := "linkingValid", fn := fun _ => fun
  | [d] => { results := [.lit (.bool true)], args := [d] }
  | _ => none }
def linkingValidRow : OpenClaim := { program := "ytnnhdhijidpfkaadoor", sum := "06d88f9c02a04333d279e65937e7652c8bb25161c849adf5360e42f7f3f2c794", func := "signalling/signallinglaw32.LinkingValid", spec := "linkingValid", unfollowed := true, recurses := true, named := ["signalling/rail.passages"], apart := false, laid := [("signalling/rail.passages", laid_signalling_rail_passages)] }
def LinkingValidSaid : Prop := linkingValidRow.holds Tryd.pinned (OpenSpec.ofChange linkingValidSpec)

/-- ITS FALSE NEIGHBOUR: 'it returns false'. Refute it at one input. -/
def linkingValidWrong : ChangeSpec := { name := "linkingValid", fn := fun _ => fun
  | [d] => { results := [.lit (.bool false)], args := [d] }
  | _ => none }
def LinkingValidWrongFalsely : Prop := linkingValidRow.holds Tryd.pinned (OpenSpec.ofChange linkingValidWrong)

/-- 'signallinglaw32.LinkingOverdue': WHATEVER THE INPUT: true; the input reads as it did. -/
def linkingOverdueSpec : ChangeSpec := { name := "linkingOverdue", fn := fun _ => fun
  | [d1, d2, d3] => { results := [.lit (.bool true)], args := [d1, d2, d3] }
  | _ => none }
def linkingOverdueRow : OpenClaim := { program := "ytnnhdhijidpfkaadoor", sum := "06d88f9c02a04333d279e65937e7652c8bb25161c849adf5360e42f7f3f2c794", func := "signalling/signallinglaw32.LinkingOverdue", spec := "linkingOverdue", unfollowed := true, recurses := true, named := ["signalling/rail.passages"], apart := false, laid := [("signalling/rail.passages", laid_signalling_rail_passages)] }
def LinkingOverdueSaid : Prop := linkingOverdueRow.holds Tryd.pinned (OpenSpec.ofChange linkingOverdueSpec)

/-- ITS FALSE NEIGHBOUR: 'it returns false'. Refute it at one input. -/
def linkingOverdueWrong : ChangeSpec := { name := "linkingOverdue", fn := fun _ => fun
  | [d1, d2, d3] => { results := [.lit (.bool false)], args := [d1, d2, d3] }
  | _ => none }
def LinkingOverdueWrongFalsely : Prop := linkingOverdueRow.holds Tryd.pinned (OpenSpec.ofChange linkingOverdueWrong)

/-- 'signallinglaw32.LinkingOrder': WHATEVER THE INPUT: true; the input reads as it did. -/
def linkingOrderSpec : ChangeSpec := { name := "linkingOrder", fn := fun _ => fun
  | [d1, d2, d3, d4] => { results := [.lit (.bool true)], args := [d1, d2, d3, d4] }
  | _ => none }
def linkingOrderRow : OpenClaim := { program := "ytnnhdhijidpfkaadoor", sum := "06d88f9c02a04333d279e65937e7652c8bb25161c849adf5360e42f7f3f2c794", func := "signalling/signallinglaw32.LinkingOrder", spec := "linkingOrder", unfollowed := true, recurses := true, named := ["signalling/rail.passages"], apart := false, laid := [("signalling/rail.passages", laid_signalling_rail_passages)] }
def LinkingOrderSaid : Prop := linkingOrderRow.holds Tryd.pinned (OpenSpec.ofChange linkingOrderSpec)

/-- ITS FALSE NEIGHBOUR: 'it returns false'. Refute it at one input. -/
def linkingOrderWrong : ChangeSpec := { name := "linkingOrder", fn := fun _ => fun
  | [d1, d2, d3, d4] => { results := [.lit (.bool false)], args := [d1, d2, d3, d4] }
  | _ => none }
def LinkingOrderWrongFalsely : Prop := linkingOrderRow.holds Tryd.pinned (OpenSpec.ofChange linkingOrderWrong)

/-- 'signallinglaw32.LinkingReverse': WHATEVER THE INPUT: true; the input reads as it did. -/
def linkingReverseSpec : ChangeSpec := { name := "linkingReverse", fn := fun _ => fun
  | [d1, d2] => { results := [.lit (.bool true)], args := [d1, d2] }
  | _ => none }
def linkingReverseRow : OpenClaim := { program := "ytnnhdhijidpfkaadoor", sum := "06d88f9c02a04333d279e65937e7652c8bb25161c849adf5360e42f7f3f2c794", func := "signalling/signallinglaw32.LinkingReverse", spec := "linkingReverse", unfollowed := true, recurses := true, named := ["signalling/rail.passages"], apart := false, laid := [("signalling/rail.passages", laid_signalling_rail_passages)] }
def LinkingReverseSaid : Prop := linkingReverseRow.holds Tryd.pinned (OpenSpec.ofChange linkingReverseSpec)

/-- ITS FALSE NEIGHBOUR: 'it returns false'. Refute it at one input. -/
def linkingReverseWrong : ChangeSpec := { name := "linkingReverse", fn := fun _ => fun
  | [d1, d2] => { results := [.lit (.bool false)], args := [d1, d2] }
  | _ => none }
def LinkingReverseWrongFalsely : Prop := linkingReverseRow.holds Tryd.pinned (OpenSpec.ofChange linkingReverseWrong)

/- THE SECOND FORM. 'bulk': how many values and letters a reading holds, each counted each time it is reached (what is shared counts as often as it is met; a slice's spare places count too). A statement '..UptoSaid' is the law's where the arguments, and the package variables that the reading takes, are together of bulk at most 1048576: NARROWER than '..Said'. Prove '..Said' where nothing that the law and all that it calls make is longer than what came in: it says more and counts as full. Else prove '..UptoSaid'. A law counts once. -/
mutual
def uptoBulk {H : Type} : DataW H → Nat
  | .lit (.string bytes) => bytes.length + 1
  | .lit _ => 1
  | .nil => 1
  | .ptr d => uptoBulk d + 1
  | .slice elems spare => uptoBulkAll elems + uptoBulkAll spare + 1
  | .agg parts => uptoBulkAll parts + 1
  | .iface _ d => uptoBulk d + 1
  | .map entries => uptoBulkEntries entries + 1
  | .held _ => 1
def uptoBulkAll {H : Type} : List (DataW H) → Nat
  | [] => 0
  | d :: r => uptoBulk d + uptoBulkAll r
def uptoBulkEntries {H : Type} : List (Lit × DataW H) → Nat
  | [] => 0
  | x :: r => uptoBulkEntry x + uptoBulkEntries r
def uptoBulkEntry {H : Type} : Lit × DataW H → Nat
  | (.string bytes, d) => bytes.length + uptoBulk d + 1
  | (_, d) => uptoBulk d + 1
 end
def uptoSmall : (H : Type) → List (DataW H) → Bool := fun _ ds => decide (uptoBulkAll ds ≤ 1048576)
def OpenSpec.upto (s : _root_.Go.ChangeSpec) : _root_.Go.OpenSpec := { _root_.Go.OpenSpec.ofChange s with cond := some uptoSmall }

/-- 'signallinglaw32.LinkingOf', WHERE WHAT IT READS IS OF BULK AT MOST 1048576: true; the input reads as it did. -/
def linkingOfUptoRow : OpenClaim := { program := "ytnnhdhijidpfkaadoor", sum := "06d88f9c02a04333d279e65937e7652c8bb25161c849adf5360e42f7f3f2c794", func := "signalling/signallinglaw32.LinkingOf", spec := "linkingOf", unfollowed := true, recurses := true, named := ["signalling/rail.passages"], apart := false, laid := [("signalling/rail.passages", laid_signalling_rail_passages)], narrowed := true }
def LinkingOfUptoSaid : Prop := linkingOfUptoRow.holds Tryd.pinned (OpenSpec.upto linkingOfSpec)

/-- 'signallinglaw32.LinkingValid', WHERE WHAT IT READS IS OF BULK AT MOST 1048576: true; the input reads as it did. -/
def linkingValidUptoRow : OpenClaim := { program := "ytnnhdhijidpfkaadoor", sum := "06d88f9c02a04333d279e65937e7652c8bb25161c849adf5360e42f7f3f2c794", func := "signalling/signallinglaw32.LinkingValid", spec := "linkingValid", unfollowed := true, recurses := true, named := ["signalling/rail.passages"], apart := false, laid := [("signalling/rail.passages", laid_signalling_rail_passages)], narrowed := true }
def LinkingValidUptoSaid : Prop := linkingValidUptoRow.holds Tryd.pinned (OpenSpec.upto linkingValidSpec)

/-- 'signallinglaw32.LinkingOverdue', WHERE WHAT IT READS IS OF BULK AT MOST 1048576: true; the input reads as it did. -/
def linkingOverdueUptoRow : OpenClaim := { program := "ytnnhdhijidpfkaadoor", sum := "06d88f9c02a04333d279e65937e7652c8bb25161c849adf5360e42f7f3f2c794", func := "signalling/signallinglaw32.LinkingOverdue", spec := "linkingOverdue", unfollowed := true, recurses := true, named := ["signalling/rail.passages"], apart := false, laid := [("signalling/rail.passages", laid_signalling_rail_passages)], narrowed := true }
def LinkingOverdueUptoSaid : Prop := linkingOverdueUptoRow.holds Tryd.pinned (OpenSpec.upto linkingOverdueSpec)

/-- 'signallinglaw32.LinkingOrder', WHERE WHAT IT READS IS OF BULK AT MOST 1048576: true; the input reads as it did. -/
def linkingOrderUptoRow : OpenClaim := { program := "ytnnhdhijidpfkaadoor", sum := "06d88f9c02a04333d279e65937e7652c8bb25161c849adf5360e42f7f3f2c794", func := "signalling/signallinglaw32.LinkingOrder", spec := "linkingOrder", unfollowed := true, recurses := true, named := ["signalling/rail.passages"], apart := false, laid := [("signalling/rail.passages", laid_signalling_rail_passages)], narrowed := true }
def LinkingOrderUptoSaid : Prop := linkingOrderUptoRow.holds Tryd.pinned (OpenSpec.upto linkingOrderSpec)

/-- 'signallinglaw32.LinkingReverse', WHERE WHAT IT READS IS OF BULK AT MOST 1048576: true; the input reads as it did. -/
def linkingReverseUptoRow : OpenClaim := { program := "ytnnhdhijidpfkaadoor", sum := "06d88f9c02a04333d279e65937e7652c8bb25161c849adf5360e42f7f3f2c794", func := "signalling/signallinglaw32.LinkingReverse", spec := "linkingReverse", unfollowed := true, recurses := true, named := ["signalling/rail.passages"], apart := false, laid := [("signalling/rail.passages", laid_signalling_rail_passages)], narrowed := true }
def LinkingReverseUptoSaid : Prop := linkingReverseUptoRow.holds Tryd.pinned (OpenSpec.upto linkingReverseSpec)

end Rows
end Go.Proofs.YtnnhdhijidpfkaaDoor
