/-
  PLAIN, WALK E: the chapter's examples.
-/
import Derived.Test.YtnnhdhijidpfkaaDoorWalkD
namespace PM
open Go Go.RowKit

end PM
