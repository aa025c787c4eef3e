/-
 Plain functions for the program's functions, and the proofs that the program does them. Printed by den.py.
-/
import Derived.Test.YtfpoeepcomnjhaaGreatDoorDen7
namespace PM
noncomputable section
open Go Go.RowKit Go.Proofs
attribute [local irreducible] Ju pwp
def Ll(a0:Jv):Int->Option (Int⊕(Unit⊕Bool)):=fun x7=>
 bif decide (x7<((a0.Trains.length:Nat):Int)) then (
  (ixO a0.Trains x7).bind fun x10=>
  (Ew x10).bind fun r11=>
  bif (!(decide (r11=0))) then (
   some (.inr (.inr false))
  ) else (
   some (.inl (w64 (x7+1)))
  )
 ) else (
  some (.inr (.inl ()))
 )
def Ig(a0:Jv):Option Bool :=
 (Zo a0.Layout).bind fun r1=>
 (Ih a0).bind fun r2=>
 ((bif ((!r2)||(!(decide (r1.2=0)))) then some true else (
  (Oi r1.1 a0.Table).bind fun r4=>
  some (!r4)
 ))).bind fun b3=>
 bif b3 then (
  some false
 ) else (
  onInl (Jq (Ll a0) 0) fun _=>
  (Rl a0 a0.Center).bind fun r12=>
  some r12
 )
instance (a0:Jv):Cp (Ig a0) 13 [Enc.pv a0] Enc.pv:=⟨fun r h=>by
 unfold Ig at h;refine zG Tryz.f13 ?_;refine w1 a0.Trains (ep 2 (ep 1 (.o 2 3 18 0 (.b 1 6 25 (.g 0 .z (.p 3 .z)) (ec z1 (.l 2 s1)))))) ?_;intro _ _ _ h;refine uN 44 0 [29] (fun s x7=>⟨(29,I6 x7)::gt s [1,28],gh s [1],[],[]⟩) h ?_ ?_
 ·intro x7 _ h;unfold Ll at h;exact w1 n0 (ec (ei 3 (.p 1 (ec z1 z1))) .z) t0
 intro _ s' h hs;exact w1 n0 (.p 3 z1) t0⟩
def Ye(a0:Jj):Option Bool :=
 some (decide (((a0.Tracks.length:Nat):Int)=((a0.Sessions.length:Nat):Int)))
instance (a0:Jj):Cp (Ye a0) 23 [Enc.pv a0] Enc.pv:=⟨fun r h=>by
 unfold Ye at h;refine zG Tryz.f23 ?_;refine w1 a0.Tracks (el 2 .s) ?_;intro h;refine yl 2 a0.Sessions ?_;exact w1 n0 z1 t0⟩
def Oy(a0:Jj)(a1:Int)(a2:Jd)(a3:Jk):Option Jj :=
 (Qd ([]:(List Jd)) a0.Tracks).bind fun x1=>
 (Qd ([]:(List Jk)) a0.Sessions).bind fun x2=>
 (Vz 0 (((x1:(List Jd)).map cellsOf).length) a1).bind fun j3=>
 (Uy x1 (((x1:(List Jd)).map cellsOf).length) j3).bind fun x4=>
 (Vz 0 (((x2:(List Jk)).map cellsOf).length) a1).bind fun j5=>
 (Uy x2 (((x2:(List Jk)).map cellsOf).length) j5).bind fun x6=>
 some (Jj.mk (x1.set j3 a2) (x2.set j5 a3))
instance (a0:Jj)(a1:Int)(a2:Jd)(a3:Jk):Cp (Oy a0 a1 a2 a3) 47 [Enc.pv a0,Enc.pv a1,Enc.pv a2,Enc.pv a3] Enc.pv:=⟨fun r h=>by
 unfold Oy at h;refine zG Tryz.f47 ?_;refine w1 n0 X1 ?_;intro x1 h1 h;refine zR 3 (Jlc (tk:=14) (x:=.lst .full 14 192 []) h1 (.inr ⟨_,_,rfl⟩) kr kr (w1 n0 X1 ?_));intro x2 h2 h;refine zR 3 (Jlc (tk:=18) (x:=.lst .full 4 32 []) h2 (.inr ⟨_,_,rfl⟩) kr kr (w1 n0 (.e (.j 3 .x)) ?_));intro j3 _ h4 h;refine yst 0 14 a2 0 14 h4 (w1 n0 (.e (.j 3 .x)) ?_);intro j5 _ h6 h;refine yst 0 18 a3 0 4 h6 (w1 n0 S2 ?_);intro h;refine Jm (Kw (Zy (xss:=((x1.set j3 a2):(List Jd)).map cellsOf) 14 14 192 ((x1.map cellsOf).length) [9,14,19,27] [(8,0)] kr kr kr kr) (Kw (Zy (xss:=((x2.set j5 a3):(List Jk)).map cellsOf) 18 4 32 ((x2.map cellsOf).length) [10,18,23,28] [(8,1)] kr kr kr kr) ?_));exact w1 n0 .z t0⟩
def Jgp(a0:(List Int))(a1:Int):Int->Option (Int⊕(Unit⊕Bool)):=fun x2=>
 bif decide (x2<((a0.length:Nat):Int)) then (
  (ixO a0 x2).bind fun x4=>
  bif decide (x4=a1) then (
   some (.inr (.inr true))
  ) else (
   some (.inl (w64 (x2+1)))
  )
 ) else (
  some (.inr (.inl ()))
 )
def Jay(a0:(List Int))(a1:Int):Option Bool :=
 onInl (Jq (Jgp a0 a1) 0) fun _=>
 some false
instance (a0:(List Int))(a1:Int):Cp (Jay a0 a1) 123 [Enc.pv a0,Enc.pv a1] Enc.pv:=⟨fun r h=>by
 unfold Jay at h;refine zG Tryz.f123 ?_;refine w1 a0 (el 1 s1) ?_;intro h;refine uN 17 0 [9] (fun s x2=>⟨(9,I6 x2)::gt s [1,7,8],[],[],[]⟩) h ?_ ?_
 ·intro x2 _ h;unfold Jgp at h;exact w1 n0 (ec (.i 0 (ee (.c z1 z1))) .z) t0
 intro _ s' h hs;exact w1 n0 z1 t0⟩
def Jdq(a0:(List Jh)):Int->Option (Int⊕(Unit⊕Bool)):=fun x5=>
 bif decide (x5<((a0.length:Nat):Int)) then (
  (ixO a0 x5).bind fun x10=>
  ((bif (((((((decide (x10.From<(-1073741824)))||(decide (x10.To<=x10.From)))||(decide (1073741824<x10.To)))||(decide (x10.Grade<(-50))))||(decide (50<x10.Grade)))||(decide (x10.Speed<1)))||(decide (10000<x10.Speed))) then some true else (
   ((bif decide (0<x5) then (
    (ixO a0 (w64 (x5 - 1))).bind fun x13=>
    some (!(decide (x13.To=x10.From)))
   ) else some false)).bind fun b12=>
   some b12
  ))).bind fun b11=>
  bif b11 then (
   some (.inr (.inr false))
  ) else (
   some (.inl (w64 (x5+1)))
  )
 ) else (
  some (.inr (.inl ()))
 )
def Jbu(a0:(List Jh)):Option Bool :=
 onInl (Jq (Jdq a0) 0) fun _=>
 some (decide (((a0.length:Nat):Int)<=128))
instance (a0:(List Jh)):Cp (Jbu a0) 191 [Enc.pv a0] Enc.pv:=⟨fun r h=>by
 unfold Jbu at h;refine zG Tryz.f191 ?_;refine w1 a0 (el 1 s1) ?_;intro h;refine uN 66 0 [7] (fun s x5=>⟨(7,I6 x5)::gt s [0,5,6],[],[],[]⟩) h ?_ ?_
 ·intro x5 _ h;unfold Jdq at h;exact w1 n0 (ec (.i 1 (.e (.o 4 6 21 5 (.o 1 4 26 4 (.o 1 4 31 3 (.o 1 4 36 2 (.o 1 4 41 1 (.o 1 4 46 0 (.b 1 14 61 (.g 0 .z (.b 3 10 60 (.g 0 (.i 3 .z) .z) .z)) (ec z1 z1)))))))))) .z) t0
 intro _ s' h hs;exact w1 a0 (.l 1 z1) t0⟩
end
end PM
