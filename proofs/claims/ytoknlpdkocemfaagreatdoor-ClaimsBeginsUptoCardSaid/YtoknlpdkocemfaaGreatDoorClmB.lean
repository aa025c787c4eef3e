/-
  PLAIN, CLAIMS B: which routes are claimed and passed; the statement ClaimsCounts.
-/
import Derived.Test.YtoknlpdkocemfaaGreatDoorClmA
namespace PM
open Go Go.RowKit

end PM
