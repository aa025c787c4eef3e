/-
  PLAIN, WALK A: what the plain functions of the chapters 6, 7 and 9 come to.
-/
import Derived.Test.YtoknlpdkocemfaaGreatDoorPlA
import Derived.Test.YtoknlpdkocemfaaGreatDoorDen
namespace PM
open Go Go.RowKit

def needS (a0 a1 a2 : Int) : Int × Bool :=
  match tab_rail_passages.find? (fun x => decide (x.kind_ = a0) && decide (x.in_ = a1) && decide (x.out_ = a2)) with
  | some x => (x.need_, true)
  | none => (0, false)
def sidesS (a0 : Int) : Int := if a0 = 1 then 2 else if a0 = 2 then 3 else if a0 = 3 then 4 else 0

set_option maxRecDepth 10000
end PM
