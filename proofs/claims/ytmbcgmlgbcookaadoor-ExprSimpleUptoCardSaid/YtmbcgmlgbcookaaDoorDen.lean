/-
  The plain functions, all of them.
-/
import Derived.Test.YtmbcgmlgbcookaaDoorDen2
