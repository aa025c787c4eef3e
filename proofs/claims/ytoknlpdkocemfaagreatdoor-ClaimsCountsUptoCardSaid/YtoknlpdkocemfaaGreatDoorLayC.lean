/-
  PLAIN, LAYOUT C: elements, joints, signals, balises: the program's check returns the first error.
-/
import Derived.Test.YtoknlpdkocemfaaGreatDoorLayB
namespace PM
open Go Go.RowKit

instance (priority := 1) endDec : DecidableEq T_api_End := fun x y => decidable_of_iff _ (eqEnd_iff x y)

end PM
