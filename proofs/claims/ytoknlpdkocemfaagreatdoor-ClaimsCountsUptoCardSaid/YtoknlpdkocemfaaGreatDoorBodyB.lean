/-
  PLAIN, BODY B: what a body and a movement are.
-/
import Derived.Test.YtoknlpdkocemfaaGreatDoorLayE
import Derived.Test.YtoknlpdkocemfaaGreatDoorWalkK
namespace PM
open Go Go.RowKit

def lastLen (l : T_api_Layout) (way : List T_api_Step) : Int := match way.getLast? with | some s => lenOf l s | none => 0
def strS (l : T_api_Layout) (way : List T_api_Step) (h : Int) : Int := sumL l way.dropLast + h
def firstLen (l : T_api_Layout) (way : List T_api_Step) : Int := match way with | s :: _ => lenOf l s | [] => 0
section
variable {l : T_api_Layout} {len : Int}
end
structure MvR where
  way : List T_api_Step
  head : Int
  left : Int
  ended : Bool
structure OkB (l : T_api_Layout) (b : T_api_Body) : Prop where
  valid : ValidP l b.Steps
  len : 1 ≤ b.Length ∧ b.Length ≤ 1000000
  head : 1 ≤ b.Head ∧ b.Head ≤ lastLen l b.Steps
  str : b.Length ≤ strS l b.Steps b.Head
  fst : 1 < b.Steps.length → strS l b.Steps b.Head - firstLen l b.Steps < b.Length
end PM
