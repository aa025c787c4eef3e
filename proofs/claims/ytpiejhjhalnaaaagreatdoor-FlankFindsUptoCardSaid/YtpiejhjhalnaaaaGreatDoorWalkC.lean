/-
  PLAIN, WALK C: lengths and ways.
-/
import Derived.Test.YtpiejhjhalnaaaaGreatDoorWalkB
namespace PM
open Go Go.RowKit

/-! ### Ways -/
end PM
