/-
  PLAIN, WALK E: the chapter's examples.
-/
import Derived.Test.YtoadiglkifiofaaDoorWalkD
namespace PM
open Go Go.RowKit

end PM
