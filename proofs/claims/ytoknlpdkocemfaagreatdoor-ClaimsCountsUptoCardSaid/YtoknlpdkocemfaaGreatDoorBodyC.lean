/-
  PLAIN, BODY C: what movements keep.
-/
import Derived.Test.YtoknlpdkocemfaaGreatDoorBodyB
import Derived.Test.YtoknlpdkocemfaaGreatDoorWalkG
namespace PM
open Go Go.RowKit

end PM
