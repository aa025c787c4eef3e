/-
  PLAIN, WALK J: settings.
-/
import Derived.Test.YtoknlpdkocemfaaGreatDoorWalkI
namespace PM
open Go Go.RowKit

theorem eqSetting_iff (x y : T_api_Setting) : eq_T_api_Setting x y = true ↔ x = y := by
  cases x; cases y; simp [eq_T_api_Setting]
instance : DecidableEq T_api_Setting := fun x y => decidable_of_iff _ (eqSetting_iff x y)
theorem pos_has {l : T_api_Layout} {s : T_api_Step} (h : (posS l s).2 = true) : hasEl l s.El = true := by
  cases hE : hasEl l s.El with
  | true => rfl
  | false => unfold posS at h; rw [hE] at h; cases h
end PM
