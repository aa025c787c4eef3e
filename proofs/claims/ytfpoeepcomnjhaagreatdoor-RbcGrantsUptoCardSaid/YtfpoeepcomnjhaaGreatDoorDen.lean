/-
  The plain functions, all of them.
-/
import Derived.Test.YtfpoeepcomnjhaaGreatDoorDen11
