/-
  PLAIN, WALK J: settings.
-/
import Derived.Test.YtnnhdhijidpfkaaDoorWalkI
namespace PM
open Go Go.RowKit

end PM
