/-
  PLAIN, WALK C: lengths and ways.
-/
import Derived.Test.YtpiejhjhalnaaaaDoorWalkB
namespace PM
open Go Go.RowKit

/-! ### Ways -/
def goodAt (l : T_api_Layout) (way : List T_api_Step) (i : Nat) : Prop :=
  ∃ s, way[i]? = some s ∧ (posS l s).2 = true ∧ (∀ k t, k < i → way[k]? = some t → t.El ≠ s.El) ∧ (∀ p, 0 < i → way[i - 1]? = some p → joinS l ⟨p.El, p.Out⟩ = (⟨s.El, s.In⟩, true))
def ValidP (l : T_api_Layout) (way : List T_api_Step) : Prop := 1 ≤ way.length ∧ way.length ≤ 64 ∧ ∀ i, i < way.length → goodAt l way i
end PM
