/-
  PLAIN, WALK I: the reference's ways, lengths and sections; both sections.
-/
import Derived.Test.YtpiejhjhalnaaaaGreatDoorWalkH
namespace PM
open Go Go.RowKit

/-! ### Sections -/
end PM
