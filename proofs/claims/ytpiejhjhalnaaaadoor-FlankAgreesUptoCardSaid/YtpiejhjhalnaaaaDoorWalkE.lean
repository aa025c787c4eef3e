/-
  PLAIN, WALK E: the chapter's examples.
-/
import Derived.Test.YtpiejhjhalnaaaaDoorWalkD
namespace PM
open Go Go.RowKit

end PM
