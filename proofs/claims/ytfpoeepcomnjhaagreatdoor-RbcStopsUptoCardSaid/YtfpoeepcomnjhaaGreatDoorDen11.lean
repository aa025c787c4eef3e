/-
 Plain functions for the program's functions, and the proofs that the program does them. Printed by den.py.
-/
import Derived.Test.YtfpoeepcomnjhaaGreatDoorDen10
namespace PM
open Go Go.RowKit Go.Proofs
attribute [local irreducible] Kp pwp
/-! signallingref40.Report -/
/-! signallingref47.Receive -/
/-! signallinglaw47.RbcReceives -/
end PM
