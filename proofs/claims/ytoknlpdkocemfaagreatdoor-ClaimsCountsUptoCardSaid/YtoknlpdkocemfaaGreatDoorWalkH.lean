/-
  PLAIN, WALK H: reverses, sections, lists without repetitions, settings.
-/
import Derived.Test.YtoknlpdkocemfaaGreatDoorWalkD
namespace PM
open Go Go.RowKit
section
variable {α : Type} [DecidableEq α]
end
end PM
