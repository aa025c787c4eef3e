/-
  The plain functions, all of them.
-/
import Derived.Test.YtmklahiganfdmaaGreatDoorDen5
