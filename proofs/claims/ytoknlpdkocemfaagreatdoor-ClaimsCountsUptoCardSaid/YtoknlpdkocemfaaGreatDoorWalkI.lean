/-
  PLAIN, WALK I: the reference's ways, lengths and sections; both sections.
-/
import Derived.Test.YtoknlpdkocemfaaGreatDoorWalkH
namespace PM
open Go Go.RowKit

end PM
