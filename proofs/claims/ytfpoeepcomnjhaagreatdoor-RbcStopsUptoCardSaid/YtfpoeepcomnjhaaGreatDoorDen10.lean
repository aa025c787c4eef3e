/-
 Plain functions for the program's functions, and the proofs that the program does them. Printed by den.py.
-/
import Derived.Test.YtfpoeepcomnjhaaGreatDoorDen9
namespace PM
open Go Go.RowKit Go.Proofs
attribute [local irreducible] Kp pwp
/-! message.Valid -/
/-! rbc.Receive$1 -/
/-! slices.IndexFunc[[]api.Train,api.Train] -/
/-! session.recent -/
/-! session.Take -/
/-! claims.until -/
/-! integrity.Rear -/
/-! integrity.Beyond -/
/-! claims.Report -/
/-! rbc.Receive -/
/-! signallingref37.in -/
/-! signallingref37.granted -/
/-! signallingref37.reported -/
/-! signallingref37.Valid -/
/-! signallingref38.within -/
/-! signallingref38.Take -/
/-! signallingref36.Rear -/
/-! signallingref36.Beyond -/
end PM
