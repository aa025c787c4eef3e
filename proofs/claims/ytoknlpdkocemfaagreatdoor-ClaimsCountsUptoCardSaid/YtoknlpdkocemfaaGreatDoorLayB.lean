/-
  PLAIN, LAYOUT B: the conditions of a layout, and what the program's tests come to.
-/
import Derived.Test.YtoknlpdkocemfaaGreatDoorLayA
import Derived.Test.YtoknlpdkocemfaaGreatDoorPlA
namespace PM
open Go Go.RowKit

def CountsP (l : T_api_Layout) : Prop := 1 ≤ l.Elements.length ∧ l.Elements.length ≤ 32 ∧ 1 ≤ l.Sections.length ∧ l.Sections.length ≤ 24 ∧ l.Signals.length ≤ 20 ∧ l.Balises.length ≤ 24
def NamesP (l : T_api_Layout) : Prop := NameP l.Name ∧ (∀ s ∈ l.Sections, NameP s) ∧ (∀ s ∈ l.Elements.map (·.Name), NameP s) ∧ (∀ s ∈ l.Signals.map (·.Name), NameP s)
def DistP (l : T_api_Layout) : Prop := l.Sections.Nodup ∧ (l.Elements.map (·.Name)).Nodup ∧ (l.Signals.map (·.Name)).Nodup
def RightP (l : T_api_Layout) (x : T_api_Element) : Prop :=
  (1 ≤ x.Kind ∧ x.Kind ≤ 3) ∧ (500 ≤ x.Length ∧ x.Length ≤ 1000000) ∧ (-50 ≤ x.Grade ∧ x.Grade ≤ 50) ∧ (100 ≤ x.Speed ∧ x.Speed ≤ 10000) ∧ (0 ≤ x.Section ∧ x.Section < (l.Sections.length : Nat)) ∧
    (x.Kind = 2 → 100 ≤ x.Slow ∧ x.Slow ≤ x.Speed) ∧ (x.Kind ≠ 2 → x.Slow = 0)
def UsedP (l : T_api_Layout) : Prop := ∀ s, s < l.Sections.length → ∃ x ∈ l.Elements, x.Section = (s : Nat)
def ElemP (l : T_api_Layout) : Prop := (∀ x ∈ l.Elements, RightP l x) ∧ UsedP l
def JointP (l : T_api_Layout) : Prop := ∀ j ∈ l.Joints, exS l j.A = true ∧ exS l j.B = true ∧ j.A ≠ j.B
def SigP (l : T_api_Layout) : Prop := ∀ s ∈ l.Signals, exS l s.At = true ∧ 0 ≤ s.Overlap ∧ s.Overlap ≤ 1000000
def secE (l : T_api_Layout) (i : Int) : Int := bif hasEl l i then ((l.Elements[i.toNat]?).map (·.Section)).getD (-1) else -1
def SafeP (l : T_api_Layout) : Prop := ∀ s ∈ l.Signals, (joinS l s.At).2 = true ∧ secE l (joinS l s.At).1.El ≠ secE l s.At.El
def elLen (l : T_api_Layout) (i : Int) : Int := ((l.Elements[i.toNat]?).map (·.Length)).getD 0
def BalP (l : T_api_Layout) : Prop := ∀ b ∈ l.Balises, 1 ≤ b.Id ∧ b.Id ≤ 1073741824 ∧ hasEl l b.El = true ∧ 0 ≤ b.Offset ∧ b.Offset ≤ elLen l b.El
end PM
