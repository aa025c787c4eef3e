/-
  PLAIN, WALK J: settings.
-/
import Derived.Test.YtoknlpdkocemfaaGreatDoorWalkI
namespace PM
open Go Go.RowKit

theorem eqSetting_iff (x y : T_api_Setting) : eq_T_api_Setting x y = true ↔ x = y := by
  cases x; cases y; simp [eq_T_api_Setting]
instance : DecidableEq T_api_Setting := fun x y => decidable_of_iff _ (eqSetting_iff x y)
end PM
