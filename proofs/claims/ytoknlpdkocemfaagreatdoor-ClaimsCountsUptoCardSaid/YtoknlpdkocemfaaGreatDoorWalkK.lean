/-
  PLAIN, WALK K: the laws of chapter 9 about measures, reverses and settings.
-/
import Derived.Test.YtoknlpdkocemfaaGreatDoorWalkJ
import Derived.Test.YtoknlpdkocemfaaGreatDoorWalkE
namespace PM
open Go Go.RowKit

end PM
