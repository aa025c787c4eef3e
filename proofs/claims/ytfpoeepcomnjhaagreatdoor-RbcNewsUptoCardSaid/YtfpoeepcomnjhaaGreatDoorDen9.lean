/-
 Plain functions for the program's functions, and the proofs that the program does them. Printed by den.py.
-/
import Derived.Test.YtfpoeepcomnjhaaGreatDoorDen8
namespace PM
noncomputable section
open Go Go.RowKit Go.Proofs
attribute [local irreducible] Kl pwp
def Rt (a0:Jz) (a1:Int):Int→Option (Int⊕(Unit⊕Int)):=fun x2 =>
 bif decide (x2<((a0.Tracks.length:Nat):Int)) then (
  (ixO a0.Tracks x2).bind fun x4 =>
  bif decide (x4.Id=a1) then (
   some (.inr (.inr x2))
  ) else (
   some (.inl (w64 (x2+1)))
  )
 ) else (
  some (.inr (.inl ()))
 )
def Jap (a0:Jz) (a1:Int):Option Int :=
 onInl (α:=Unit) (β:=Int) (Ki (Rt a0 a1) 0) fun _ =>
 some (-1)
end
end PM
