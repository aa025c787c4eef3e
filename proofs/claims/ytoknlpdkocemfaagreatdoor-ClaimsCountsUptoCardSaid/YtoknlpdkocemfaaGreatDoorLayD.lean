/-
  PLAIN, LAYOUT D: the reference's check returns the first error.
-/
import Derived.Test.YtoknlpdkocemfaaGreatDoorLayC
namespace PM
open Go Go.RowKit

end PM
