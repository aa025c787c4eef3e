/-
  PLAIN, WALK J: settings.
-/
import Derived.Test.YtcobolgkboknbaaDoorWalkI
namespace PM
open Go Go.RowKit

end PM
