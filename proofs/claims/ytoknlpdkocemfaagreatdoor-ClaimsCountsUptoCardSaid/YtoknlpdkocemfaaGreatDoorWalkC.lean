/-
  PLAIN, WALK C: lengths and ways.
-/
import Derived.Test.YtoknlpdkocemfaaGreatDoorWalkB
namespace PM
open Go Go.RowKit

def lenOf (l : T_api_Layout) (s : T_api_Step) : Int := bif hasEl l s.El then ((l.Elements[s.El.toNat]?).map (·.Length)).getD 0 else 0
def sumL (l : T_api_Layout) : List T_api_Step → Int
  | [] => 0
  | s :: r => lenOf l s + sumL l r
def goodAt (l : T_api_Layout) (way : List T_api_Step) (i : Nat) : Prop :=
  ∃ s, way[i]? = some s ∧ (posS l s).2 = true ∧ (∀ k t, k < i → way[k]? = some t → t.El ≠ s.El) ∧ (∀ p, 0 < i → way[i - 1]? = some p → joinS l ⟨p.El, p.Out⟩ = (⟨s.El, s.In⟩, true))
def ValidP (l : T_api_Layout) (way : List T_api_Step) : Prop := 1 ≤ way.length ∧ way.length ≤ 64 ∧ ∀ i, i < way.length → goodAt l way i
end PM
