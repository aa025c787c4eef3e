/-
  PLAIN, WALK D: the reference's check of a layout comes to a value; if it is 0, the ends of all joints exist.
-/
import Derived.Test.YtoknlpdkocemfaaGreatDoorWalkC
namespace PM
open Go Go.RowKit

def exS (l : T_api_Layout) (e : T_api_End) : Bool :=
  hasEl l e.El && decide (0 ≤ e.Side) && (match l.Elements[e.El.toNat]? with | some x => decide (e.Side < sidesS x.Kind) | none => false)
def endsOf (L : List T_api_Joint) : List T_api_End := L.flatMap fun j => [j.A, j.B]
end PM
