/-
  PLAIN, WALK E: the chapter's examples.
-/
import Derived.Test.YtfndelfalfplaaaDoorWalkD
namespace PM
open Go Go.RowKit

end PM
