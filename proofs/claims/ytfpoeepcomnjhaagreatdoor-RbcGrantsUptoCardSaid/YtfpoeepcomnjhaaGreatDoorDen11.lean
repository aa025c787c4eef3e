/-
 Plain functions for the program's functions, and the proofs that the program does them. Printed by den.py.
-/
import Derived.Test.YtfpoeepcomnjhaaGreatDoorDen10
namespace PM
noncomputable section
open Go Go.RowKit Go.Proofs
attribute [local irreducible] Jy pwp
end
end PM
