/-
 Plain functions for the program's functions, and the proofs that the program does them. Printed by den.py.
-/
import Derived.Test.YtfpoeepcomnjhaaGreatDoorDen7
namespace PM
noncomputable section
open Go Go.RowKit Go.Proofs
attribute [local irreducible] Jv pwp
def Lz (a0:Jp):Int->Option (Int⊕(Unit⊕Bool)):=fun x7 =>
 bif decide (x7<((a0.Trains.length:Nat):Int)) then (
  (ixO a0.Trains x7).bind fun x10 =>
  (Fi x10).bind fun r11 =>
  bif (!(decide (r11=0))) then (
   some (.inr (.inr false))
  ) else (
   some (.inl (w64 (x7+1)))
  )
 ) else (
  some (.inr (.inl ()))
 )
def Iy (a0:Jp):Option Bool :=
 (Zs a0.Layout).bind fun r1 =>
 (It a0).bind fun r2 =>
 ((bif ((!r2)||(!(decide (r1.2=0)))) then some true else (
  (Ow r1.1 a0.Table).bind fun r4 =>
  some (!r4)
 )):Option Bool).bind fun b3 =>
 bif b3 then (
  some false
 ) else (
  onInl (Js (Lz a0) 0) fun _ =>
  (Re a0 a0.Center).bind fun r12 =>
  some r12
 )
instance Kbd (a0:Jp):Ct Tryz.prog GlS (Iy a0) 13 [Enc.pv a0] Enc.pv:=⟨fun r h=>by
 unfold Iy at h;refine zC Tryz.func13 Tryz.ntmps13 ?_;refine w1 a0.Trains (.e (.p 2 (.e (.p 1 (.o 2 3 18 0 (.b 1 6 25 (.g 0 .z (.p 3 .z)) (.e (.c (.e .z) (.l 2 (.e .s)))))))))) ?_;intro _ _ _ h;refine yN 44 0 [29] (fun x7=>⟨[(1,.ref 1 0),(28,I6 ((a0.Trains.length:Nat):Int)),(29,I6 x7)],[(1,.cells (cellsOf a0))],[],[]⟩) h ?_ ?_
 ·intro x7 _ h;unfold Lz at h;exact w1 n0 (.e (.c (.e (.i 3 (.p 1 (.e (.c (.e .z) (.e .z)))))) .z)) t0
 intro _ s' h hs;exact w1 n0 (.p 3 (.e .z)) t0⟩
def Hn (a0:Jn):Option Bool :=
 some (decide (((a0.Tracks.length:Nat):Int)=((a0.Sessions.length:Nat):Int)))
instance Jv3 (a0:Jn):Ct Tryz.prog GlS (Hn a0) 23 [Enc.pv a0] Enc.pv:=⟨fun r h=>by
 unfold Hn at h;refine zC Tryz.func23 Tryz.ntmps23 ?_;refine w1 a0.Tracks (.e (.l 2 .s)) ?_;intro h;refine yl 2 a0.Sessions ?_;exact w1 n0 (.e .z) t0⟩
end
end PM
