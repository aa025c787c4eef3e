/-
  PLAIN, WALK C: lengths and ways.
-/
import Derived.Test.YtdhkjmlafmokjaaDoorWalkB
namespace PM
open Go Go.RowKit

/-! ### Ways -/
end PM
