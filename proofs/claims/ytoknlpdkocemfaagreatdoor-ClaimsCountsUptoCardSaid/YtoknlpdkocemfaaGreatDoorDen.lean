/-
  The plain functions, all of them.
-/
import Derived.Test.YtoknlpdkocemfaaGreatDoorDen4
