/-
  NARROWER THAN 'FOR EVERY INPUT', by the rows' own cells (each row's printed sentence says how): AuthorityBuilds: laid · AuthorityCovers: laid · AuthorityRestricts: laid.
  DERIVED. THE GIVEN ROWS OF THIS SEAT. 3 by the template 'for every input the law returns true; each argument reads behind the call as it read before'; 0 by the template 'total and deterministic' (their statements: YtcobolgkboknbaaDoorTotals.lean).
  GIVEN WITH THE SEED: the statements are not yours to turn. If you find one false, say at which input.
  Laid BY PROGRAM, IN A SANDBOX (cutbox-rows.mjs): the forced cells as the released guide's own fill.sh prints them over the translation e6082f9d43c06b1e… (all of the seat's roots in one cut). By AI agents, Wed Nov 11 2026. No macro, syntax, notation, axiom, sorry.
-/
import Derived.Test.YtcobolgkboknbaaDoorChecked
import GoSem.Claim
import GoSem.ClaimJoined
import GoSem.ClaimMapViews
import Derived.JoinedTies
import Derived.KernelRfl
namespace Go.Proofs.YtcobolgkboknbaaDoor
/- THE CELL 'sum', in the pinned program and in every row, IS THE sha256 OF THE DUMP (.gsa) THAT YtcobolgkboknbaaDoorProg.lean LOADS. Nothing in Lean hashes anything: it is a label: what it is worth is what the hold of that sum in a sandbox is worth. -/
noncomputable def Tryd.pinned : Pinned := { name := "ytcobolgkboknbaadoor", sum := "e6082f9d43c06b1e38c3fd002cdab81c21af0f060931842909f73620a167d16b", checked := Tryd.checked }
namespace Rows
def none {H : Type} : Left H := { results := [], args := [] }

/- WHAT THE LISTED PACKAGE-LEVEL VARIABLES READ AS WHEN THE CALL BEGINS. Each datum BY PROGRAM (the guide's laid-datum.mjs) off the statement by which the dump's own 'gosem.cut.vars' lays the variable. In a bare row this is a premise. The card (YtcobolgkboknbaaDoorCards.lean) ties it to the program's text. -/
def laid_signalling_rail_passages {H : Type} : DataW H := .agg [.agg [.lit (.int .i64 1), .lit (.int .i64 0), .lit (.int .i64 1), .lit (.int .i64 0)], .agg [.lit (.int .i64 1), .lit (.int .i64 1), .lit (.int .i64 0), .lit (.int .i64 0)], .agg [.lit (.int .i64 2), .lit (.int .i64 0), .lit (.int .i64 1), .lit (.int .i64 1)], .agg [.lit (.int .i64 2), .lit (.int .i64 0), .lit (.int .i64 2), .lit (.int .i64 2)], .agg [.lit (.int .i64 2), .lit (.int .i64 1), .lit (.int .i64 0), .lit (.int .i64 1)], .agg [.lit (.int .i64 2), .lit (.int .i64 2), .lit (.int .i64 0), .lit (.int .i64 2)], .agg [.lit (.int .i64 3), .lit (.int .i64 0), .lit (.int .i64 1), .lit (.int .i64 0)], .agg [.lit (.int .i64 3), .lit (.int .i64 1), .lit (.int .i64 0), .lit (.int .i64 0)], .agg [.lit (.int .i64 3), .lit (.int .i64 2), .lit (.int .i64 3), .lit (.int .i64 0)], .agg [.lit (.int .i64 3), .lit (.int .i64 3), .lit (.int .i64 2), .lit (.int .i64 0)]]

/-- 'signallinglaw45.AuthorityBuilds': WHATEVER THE INPUT: true; the input reads as it did. -/
def authorityBuildsSpec : ChangeSpec := { name := "authorityBuilds", fn := fun _ => fun
  | [d1, d2, d3, d4] => { results := [.lit (.bool true)], args := [d1, d2, d3, d4] }
  | _ => none }
def authorityBuildsRow : OpenClaim := { program := "ytcobolgkboknbaadoor", sum := "e6082f9d43c06b1e38c3fd002cdab81c21af0f060931842909f73620a167d16b", func := "signalling/signallinglaw45.AuthorityBuilds", spec := "authorityBuilds", unfollowed := true, recurses := true, named := ["signalling/rail.passages"], apart := false, laid := [("signalling/rail.passages", laid_signalling_rail_passages)] }
def AuthorityBuildsSaid : Prop := authorityBuildsRow.holds Tryd.pinned (OpenSpec.ofChange authorityBuildsSpec)

/-- ITS FALSE NEIGHBOUR: 'it returns false'. Refute it at one input. -/
def authorityBuildsWrong : ChangeSpec := { name := "authorityBuilds", fn := fun _ => fun
  | [d1, d2, d3, d4] => { results := [.lit (.bool false)], args := [d1, d2, d3, d4] }
  | _ => none }
def AuthorityBuildsWrongFalsely : Prop := authorityBuildsRow.holds Tryd.pinned (OpenSpec.ofChange authorityBuildsWrong)

/-- 'signallinglaw45.AuthorityCovers': WHATEVER THE INPUT: true; the input reads as it did. -/
def authorityCoversSpec : ChangeSpec := { name := "authorityCovers", fn := fun _ => fun
  | [d1, d2, d3, d4] => { results := [.lit (.bool true)], args := [d1, d2, d3, d4] }
  | _ => none }
def authorityCoversRow : OpenClaim := { program := "ytcobolgkboknbaadoor", sum := "e6082f9d43c06b1e38c3fd002cdab81c21af0f060931842909f73620a167d16b", func := "signalling/signallinglaw45.AuthorityCovers", spec := "authorityCovers", unfollowed := true, recurses := true, named := ["signalling/rail.passages"], apart := false, laid := [("signalling/rail.passages", laid_signalling_rail_passages)] }
def AuthorityCoversSaid : Prop := authorityCoversRow.holds Tryd.pinned (OpenSpec.ofChange authorityCoversSpec)

/-- ITS FALSE NEIGHBOUR: 'it returns false'. Refute it at one input. -/
def authorityCoversWrong : ChangeSpec := { name := "authorityCovers", fn := fun _ => fun
  | [d1, d2, d3, d4] => { results := [.lit (.bool false)], args := [d1, d2, d3, d4] }
  | _ => none }
def AuthorityCoversWrongFalsely : Prop := authorityCoversRow.holds Tryd.pinned (OpenSpec.ofChange authorityCoversWrong)

/-- 'signallinglaw45.AuthorityRestricts': WHATEVER THE INPUT: true; the input reads as it did. -/
def authorityRestrictsSpec : ChangeSpec := { name := "authorityRestricts", fn := fun _ => fun
  | [d1, d2, d3, d4, d5] => { results := [.lit (.bool true)], args := [d1, d2, d3, d4, d5] }
  | _ => none }
def authorityRestrictsRow : OpenClaim := { program := "ytcobolgkboknbaadoor", sum := "e6082f9d43c06b1e38c3fd002cdab81c21af0f060931842909f73620a167d16b", func := "signalling/signallinglaw45.AuthorityRestricts", spec := "authorityRestricts", unfollowed := true, recurses := true, named := ["signalling/rail.passages"], apart := false, laid := [("signalling/rail.passages", laid_signalling_rail_passages)] }
def AuthorityRestrictsSaid : Prop := authorityRestrictsRow.holds Tryd.pinned (OpenSpec.ofChange authorityRestrictsSpec)

/-- ITS FALSE NEIGHBOUR: 'it returns false'. Refute it at one input. -/
def authorityRestrictsWrong : ChangeSpec := { name := "authorityRestricts", fn := fun _ => fun
  | [d1, d2, d3, d4, d5] => { results := [.lit (.bool false)], args := [d1, d2, d3, d4, d5] }
  | _ => none }
def AuthorityRestrictsWrongFalsely : Prop := authorityRestrictsRow.holds Tryd.pinned (OpenSpec.ofChange authorityRestrictsWrong)

/- THE SECOND FORM. 'bulk': how many values and letters a reading holds, each counted each time it is reached (what is shared counts as often as it is met; a slice's spare places count too). A statement '..UptoSaid' is the law's where the arguments, and the package variables that the reading takes, are together of bulk at most 1048576: NARROWER than '..Said'. Prove '..Said' where nothing that the law and all that it calls make is longer than what came in: it says more and counts as full. Else prove '..UptoSaid'. A law counts once. -/
mutual
def uptoBulk {H : Type} : DataW H → Nat
  | .lit (.string bytes) => bytes.length + 1
  | .lit _ => 1
  | .nil => 1
  | .ptr d => uptoBulk d + 1
  | .slice elems spare => uptoBulkAll elems + uptoBulkAll spare + 1
  | .agg parts => uptoBulkAll parts + 1
  | .iface _ d => uptoBulk d + 1
  | .map entries => uptoBulkEntries entries + 1
  | .held _ => 1
def uptoBulkAll {H : Type} : List (DataW H) → Nat
  | [] => 0
  | d :: r => uptoBulk d + uptoBulkAll r
def uptoBulkEntries {H : Type} : List (Lit × DataW H) → Nat
  | [] => 0
  | x :: r => uptoBulkEntry x + uptoBulkEntries r
def uptoBulkEntry {H : Type} : Lit × DataW H → Nat
  | (.string bytes, d) => bytes.length + uptoBulk d + 1
  | (_, d) => uptoBulk d + 1
 end
def uptoSmall : (H : Type) → List (DataW H) → Bool := fun _ ds => decide (uptoBulkAll ds ≤ 1048576)
def OpenSpec.upto (s : _root_.Go.ChangeSpec) : _root_.Go.OpenSpec := { _root_.Go.OpenSpec.ofChange s with cond := some uptoSmall }

/-- 'signallinglaw45.AuthorityBuilds', WHERE WHAT IT READS IS OF BULK AT MOST 1048576: true; the input reads as it did. -/
def authorityBuildsUptoRow : OpenClaim := { program := "ytcobolgkboknbaadoor", sum := "e6082f9d43c06b1e38c3fd002cdab81c21af0f060931842909f73620a167d16b", func := "signalling/signallinglaw45.AuthorityBuilds", spec := "authorityBuilds", unfollowed := true, recurses := true, named := ["signalling/rail.passages"], apart := false, laid := [("signalling/rail.passages", laid_signalling_rail_passages)], narrowed := true }
def AuthorityBuildsUptoSaid : Prop := authorityBuildsUptoRow.holds Tryd.pinned (OpenSpec.upto authorityBuildsSpec)

/-- 'signallinglaw45.AuthorityCovers', WHERE WHAT IT READS IS OF BULK AT MOST 1048576: true; the input reads as it did. -/
def authorityCoversUptoRow : OpenClaim := { program := "ytcobolgkboknbaadoor", sum := "e6082f9d43c06b1e38c3fd002cdab81c21af0f060931842909f73620a167d16b", func := "signalling/signallinglaw45.AuthorityCovers", spec := "authorityCovers", unfollowed := true, recurses := true, named := ["signalling/rail.passages"], apart := false, laid := [("signalling/rail.passages", laid_signalling_rail_passages)], narrowed := true }
def AuthorityCoversUptoSaid : Prop := authorityCoversUptoRow.holds Tryd.pinned (OpenSpec.upto authorityCoversSpec)

/-- 'signallinglaw45.AuthorityRestricts', WHERE WHAT IT READS IS OF BULK AT MOST 1048576: true; the input reads as it did. -/
def authorityRestrictsUptoRow : OpenClaim := { program := "ytcobolgkboknbaadoor", sum := "e6082f9d43c06b1e38c3fd002cdab81c21af0f060931842909f73620a167d16b", func := "signalling/signallinglaw45.AuthorityRestricts", spec := "authorityRestricts", unfollowed := true, recurses := true, named := ["signalling/rail.passages"], apart := false, laid := [("signalling/rail.passages", laid_signalling_rail_passages)], narrowed := true }
def AuthorityRestrictsUptoSaid : Prop := authorityRestrictsUptoRow.holds Tryd.pinned (OpenSpec.upto authorityRestrictsSpec)

end Rows
end Go.Proofs.YtcobolgkboknbaaDoor
