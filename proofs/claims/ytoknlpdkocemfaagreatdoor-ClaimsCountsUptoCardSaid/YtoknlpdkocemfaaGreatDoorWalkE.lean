/-
  PLAIN, WALK E: the chapter's examples.
-/
import Derived.Test.YtoknlpdkocemfaaGreatDoorWalkD
namespace PM
open Go Go.RowKit

end PM
