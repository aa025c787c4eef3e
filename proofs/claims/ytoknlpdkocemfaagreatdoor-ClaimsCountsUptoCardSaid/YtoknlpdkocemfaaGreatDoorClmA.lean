/-
  PLAIN, CLAIMS A: trains; Begin; the statement ClaimsBegins.
-/
import Derived.Test.YtoknlpdkocemfaaGreatDoorBodyD
namespace PM
open Go Go.RowKit

theorem law40_alive_eq : d_law40_alive = some true := by kernel_rfl
theorem cond_opt {α : Type} {b : Bool} {x y : α} : (bif b then some x else some y) = some (bif b then x else y) := by cases b <;> rfl
end PM
