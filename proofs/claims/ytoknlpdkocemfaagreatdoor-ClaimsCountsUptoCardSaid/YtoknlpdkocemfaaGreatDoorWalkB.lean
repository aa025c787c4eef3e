/-
  PLAIN, WALK B: joined ends, branches, possible steps, lengths, and ways.
-/
import Derived.Test.YtoknlpdkocemfaaGreatDoorWalkA
namespace PM
open Go Go.RowKit

structure Sm (l : T_api_Layout) : Prop where
  sec : l.Sections.length ≤ 1048576
  el : l.Elements.length ≤ 1048576
  jo : l.Joints.length ≤ 1048576
  sg : l.Signals.length ≤ 1048576
  ba : l.Balises.length ≤ 1048576
  nm : l.Name.size ≤ 1048576
  secn : ∀ x ∈ l.Sections, x.size ≤ 1048576
  eln : ∀ x ∈ l.Elements, x.Name.size ≤ 1048576
  sgn : ∀ x ∈ l.Signals, x.Name.size ≤ 1048576
theorem eqEnd_iff (x y : T_api_End) : eq_T_api_End x y = true ↔ x = y := by
  cases x; cases y; simp [eq_T_api_End]
def joinS (l : T_api_Layout) (e : T_api_End) : T_api_End × Bool :=
  match l.Joints.find? fun j => eq_T_api_End j.A e || eq_T_api_End j.B e with
  | some j => (bif eq_T_api_End j.A e then j.B else j.A, true)
  | none => (⟨0, 0⟩, false)
def hasEl (l : T_api_Layout) (i : Int) : Bool := decide (0 ≤ i) && decide (i < ((l.Elements.length : Nat) : Int))
def posS (l : T_api_Layout) (s : T_api_Step) : Int × Bool :=
  bif hasEl l s.El then match l.Elements[s.El.toNat]? with
    | some x => needS x.Kind s.In s.Out
    | none => (0, false)
  else (0, false)
end PM
