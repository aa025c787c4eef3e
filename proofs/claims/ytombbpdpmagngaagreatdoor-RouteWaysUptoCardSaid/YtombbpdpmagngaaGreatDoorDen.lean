/-
  The plain functions, all of them.
-/
import Derived.Test.YtombbpdpmagngaaGreatDoorDen4
