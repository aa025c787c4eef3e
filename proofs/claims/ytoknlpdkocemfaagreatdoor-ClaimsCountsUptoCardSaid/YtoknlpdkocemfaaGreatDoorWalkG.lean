/-
  THE PLAIN LAWS OF CHAPTER 9: WalkSteps, WalkParts, WalkGoesOn.
-/
import Derived.Test.YtoknlpdkocemfaaGreatDoorWalkE
namespace PM
open Go Go.RowKit

end PM
