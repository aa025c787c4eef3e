/-
  PLAIN, WALK E: the chapter's examples.
-/
import Derived.Test.YtcobolgkboknbaaDoorWalkD
namespace PM
open Go Go.RowKit

end PM
