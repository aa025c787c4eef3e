/-
 Plain functions for the program's functions, and the proofs that the program does them. Printed by den.py.
-/
import Derived.Test.YtfpoeepcomnjhaaGreatDoorDen8
namespace PM
noncomputable section
open Go Go.RowKit Go.Proofs
attribute [local irreducible] Jv pwp
def Lr (a0:Jn):(Int×(List Int))->Option ((Int×(List Int))⊕((List Int)⊕Bool)):=fun (x6,x7) =>
 bif decide (x6<((a0.Tracks.length:Nat):Int)) then (
  (ixO a0.Tracks x6).bind fun x11 =>
  (Uq x7 x11.Routes).bind fun x12 =>
  some (.inl (w64 (x6+1),x12))
 ) else (
  some (.inr (.inl x7))
 )
def Fj (a0:Jn):Option Bool :=
 onInl (Js (Lr a0) (0,[])) fun x10 =>
 (Hu x10).bind fun r13 =>
 some (!(decide (((r13.length:Nat):Int)=((x10.length:Nat):Int))))
instance Kbz (a0:Jn):Ct Tryz.prog GlS (Fj a0) 24 [Enc.pv a0] Enc.pv:=⟨fun r h=>by
 unfold Fj at h;refine zC Tryz.func24 Tryz.ntmps24 ?_;refine w1 a0.Tracks (.e (.e (.l 2 (.e .S)))) ?_;intro h;refine Jo (Kq (Zh 3 100003 1 8 kr kr ?_));refine yM 26 0 [8] (fun (x6,x7)=>⟨[(1,.ref 1 0),(3,Jh (.own 100003) x7),(7,I6 ((a0.Tracks.length:Nat):Int)),(8,I6 x6)],[(1,.cells (cellsOf a0))],[(100003,(((x7).map cellsOf).length,1))],[]⟩) h ?_ ?_
 ·rintro ⟨x6,x7⟩ _ h;unfold Lr at h;exact w1 n0 (.e (.c (.e (.i 4 (.w 2 (.e (.e .z))))) .z)) t0
 intro x10 s' h hs;refine w1 n0 (.p 1 .s) ?_;intro r13 h;refine yl 0 r13 ?_;exact w1 x10 (.l 1 (.e .z)) t0⟩
def Ww (a0:Jp) (x77:Jg) (x78:Jg):Int->Option (Int⊕(Unit⊕(Int⊕(Unit⊕Bool)))):=fun x89 =>
 bif decide (x89<((x78.Routes.length:Nat):Int)) then (
  ((bif decide (x89<((x77.Routes.length:Nat):Int)) then (
   (ixO x78.Routes x89).bind fun x101 =>
   (ixO x77.Routes x89).bind fun x102 =>
   some (!(decide (x101=x102)))
  ) else some false):Option Bool).bind fun b100 =>
  bif b100 then (
   some (.inr (.inr (.inr (.inr false))))
  ) else (
   ((bif decide (((x77.Routes.length:Nat):Int)<=x89) then (
    (ixO x78.Routes x89).bind fun x104 =>
    ((bif decide (x104<0) then some true else (
     (ixO x78.Routes x89).bind fun x106 =>
     some (decide (((a0.Inter.Routes.length:Nat):Int)<=x106))
    )):Option Bool).bind fun b105 =>
    ((bif b105 then some true else (
     (ixO x78.Routes x89).bind fun x108 =>
     (ixO a0.Inter.Routes x108).bind fun x109 =>
     some (!(decide (x109.State=2)))
    )):Option Bool).bind fun b107 =>
    some b107
   ) else some false):Option Bool).bind fun b103 =>
   bif b103 then (
    some (.inr (.inr (.inr (.inr false))))
   ) else (
    some (.inl (w64 (x89+1)))
   )
  )
 ) else (
  some (.inr (.inl ()))
 )
def Zo (a0:Jp) (r7:(Jn×(List Kn))):Int->Option (Int⊕(Unit⊕Bool)):=fun x43 =>
 bif decide (x43<((r7.1.Tracks.length:Nat):Int)) then (
  (ixO a0.Center.Tracks x43).bind fun x77 =>
  (ixO r7.1.Tracks x43).bind fun x78 =>
  bif decide (((x78.Routes.length:Nat):Int)<((x77.Routes.length:Nat):Int)) then (
   some (.inr (.inr false))
  ) else (
   onInl (Js (Ww a0 x77 x78) 0) fun _ =>
   some (.inl (w64 (x43+1)))
  )
 ) else (
  some (.inr (.inl ()))
 )
def Wq (a0:Jp) (a1:Int):Option Bool :=
 (Iy a0).bind fun r1 =>
 ((bif (!r1) then some true else (
  (Hn a0.Center).bind fun r3 =>
  some (!r3)
 )):Option Bool).bind fun b2 =>
 ((bif b2 then some true else (
  (Fj a0.Center).bind fun r5 =>
  some r5
 )):Option Bool).bind fun b4 =>
 bif b4 then (
  (Iz ).bind fun r6 =>
  some r6
 ) else (
  (Gu a0.Layout a0.Table a0.Inter a0.Slow a0.Center a1).bind fun r7 =>
  ((bif (!(decide (((r7.1.Tracks.length:Nat):Int)=((a0.Center.Tracks.length:Nat):Int)))) then some true else (
   (Fj r7.1).bind fun r9 =>
   some r9
  )):Option Bool).bind fun b8 =>
  bif b8 then (
   some false
  ) else (
   onInl (Js (Zo a0 r7) 0) fun _ =>
   (Iz ).bind fun r110 =>
   some r110
  )
 )
theorem Jbt (a0:Jp) (a1:Int) (r:Bool) (h:Wq a0 a1=some r):Yy Tryz.prog GlS 6 [Enc.pv a0,Enc.pv a1] (Enc.pv r):=by
 unfold Wq at h;refine zC Tryz.func6 Tryz.ntmps6 ?_;refine w1 n0 (.e (.p 1 (.b 2 5 19 (.g 0 .z (.p 2 .z)) (.b 1 4 24 (.g 0 .z (.p 2 .z)) (.e (.c (.p 0 (.e .z)) (.p 11 (.e .s)))))))) ?_;intro _ _ _ r7 h;refine yl 2 r7.1.Tracks (w1 a0.Center.Tracks (.l 3 (.b 2 3 52 (.g 0 .z (.p 1 .z)) (.e (.c (.e .z) .s)))) ?_);intro _ h;refine yl 2 r7.1.Tracks (w1 n0 (.e .s) ?_);intro h;refine yN 135 0 [56] (fun x43=>⟨[(2,.ref 2 0),(5,.ref 5 0),(55,I6 ((r7.1.Tracks.length:Nat):Int)),(56,I6 x43)],[(2,.cells (cellsOf a0)),(5,.cells (cellsOf r7.1))],[],[]⟩) h ?_ ?_
 ·intro x43 _ h;unfold Zo at h;refine w1 n0 (.e (.c (.e (.i 4 (.i 5 (.e .s)))) .z)) ?_;intro x77 x78 h;refine yl 1 x78.Routes (w1 x77.Routes (.l 1 (.e (.c (.e .z) .s))) ?_);intro h;refine yl 1 x78.Routes (w1 n0 (.e .s) ?_);intro h;refine yN 135 2 [79] (fun x89=>⟨[(2,.ref 2 0),(5,.ref 5 0),(8,Jh .frozen x77.Routes),(9,Jh .frozen x78.Routes),(55,I6 ((r7.1.Tracks.length:Nat):Int)),(56,I6 x43),(78,I6 ((x78.Routes.length:Nat):Int)),(79,I6 x89)],[(2,.cells (cellsOf a0)),(5,.cells (cellsOf r7.1))],[],[]⟩) h ?_ ?_
  ·intro x89 _ h;unfold Ww at h;refine w1 x77.Routes (.e (.c (.e (.l 2 (.b 2 10 96 (.g 0 (.i 2 (.i 3 .z)) .z) (.e (.c (.e .z) (.l 2 (.b 2 30 131 (.g 0 (.i 2 (.b 3 10 117 (.g 0 .z (.i 2 .s)) (.b 1 12 130 (.g 0 .z (.i 5 (.i 1 .z))) .z))) .z) (.e (.c (.e .z) (.e .z)))))))))) .z)) ?_;intro _ _ _ _ _ h;exact yl 4 a0.Inter.Routes (w1 n0 .z t0)
  intro _ s' h hs;exact w1 n0 (.e .z) t0
 intro _ s' h hs;exact w1 n0 (.p 0 (.e .z)) t0
end
end PM
