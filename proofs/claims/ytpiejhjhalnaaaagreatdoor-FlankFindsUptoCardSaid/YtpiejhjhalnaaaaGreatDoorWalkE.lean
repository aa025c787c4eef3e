/-
  PLAIN, WALK E: the chapter's examples.
-/
import Derived.Test.YtpiejhjhalnaaaaGreatDoorWalkD
namespace PM
open Go Go.RowKit

end PM
