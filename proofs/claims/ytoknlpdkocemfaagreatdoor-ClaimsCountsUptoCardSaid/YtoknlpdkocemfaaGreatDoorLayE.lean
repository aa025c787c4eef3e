/-
  PLAIN, LAYOUT E: what a valid layout is; the statements LayoutChecks and LayoutJoins.
-/
import Derived.Test.YtoknlpdkocemfaaGreatDoorLayD
namespace PM
open Go Go.RowKit

structure OkL (l : T_api_Layout) : Prop where
  counts : CountsP l
  names : NamesP l
  dist : DistP l
  elem : ElemP l
  joint : JointP l
  ends : (endsOf l.Joints).Nodup
  sig : SigP l
  sigd : (l.Signals.map (·.At)).Nodup
  safe : SafeP l
  bal : BalP l
  bald : (l.Balises.map (·.Id)).Nodup
end PM
