/-
  PLAIN, WALK K: the laws of chapter 9 about measures, reverses and settings.
-/
import Derived.Test.YtoadiglkifiofaaDoorWalkJ
import Derived.Test.YtoadiglkifiofaaDoorWalkE
namespace PM
open Go Go.RowKit

theorem secS_mem (l : T_api_Layout) (way : List T_api_Step) (x : Int) : x ∈ secS l way ↔ ∃ s ∈ way, secOf l s = some x := by
  rw [secS, uniqI_mem, List.mem_filterMap]
end PM
