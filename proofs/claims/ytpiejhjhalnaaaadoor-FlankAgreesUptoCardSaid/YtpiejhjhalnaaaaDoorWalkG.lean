/-
  THE PLAIN LAWS OF CHAPTER 9: WalkSteps, WalkParts, WalkGoesOn.
-/
import Derived.Test.YtpiejhjhalnaaaaDoorWalkE
namespace PM
open Go Go.RowKit

end PM
