/-
 Plain functions for the program's functions, and the proofs that the program does them. Printed by den.py.
-/
import Derived.Test.YtfpoeepcomnjhaaGreatDoorDen6
namespace PM
noncomputable section
open Go Go.RowKit Go.Proofs
attribute [local irreducible] Jv pwp
def Ti (a0:(List Jb)) (a1:(List Jb)):Int->Option (Int⊕(Unit⊕Bool)):=fun x3 =>
 bif decide (x3<((a0.length:Nat):Int)) then (
  (ixO a0 x3).bind fun x6 =>
  (ixO a1 x3).bind fun x7 =>
  bif (!(Jbd x6 x7)) then (
   some (.inr (.inr false))
  ) else (
   some (.inl (w64 (x3+1)))
  )
 ) else (
  some (.inr (.inl ()))
 )
def Gc (a0:(List Jb)) (a1:(List Jb)):Option Bool :=
 bif (!(decide (((a0.length:Nat):Int)=((a1.length:Nat):Int)))) then (
  some false
 ) else (
  onInl (Js (Ti a0 a1) 0) fun _ =>
  some true
 )
instance Ju1 (a0:(List Jb)) (a1:(List Jb)):Ct Tryz.prog GlS (Gc a0 a1) 85 [Enc.pv a0,Enc.pv a1] Enc.pv:=⟨fun r h=>by
 unfold Gc at h;refine zC Tryz.func85 Tryz.ntmps85 ?_;refine w1 a0 (.e (.l 1 .s)) ?_;intro h;refine yl 1 a1 (w1 n0 (.e (.c (.e .z) (.e .s))) ?_);intro h;refine yN 26 0 [5] (fun x3=>⟨[(0,Jh .frozen a0),(1,Jh .frozen a1),(5,I6 x3)],[],[],[]⟩) h ?_ ?_
 ·intro x3 _ h;unfold Ti at h;exact w1 a0 (.l 2 (.e (.c (.i 2 (.i 3 (.e (.c (.e .z) (.e .z))))) .z))) t0
 intro _ s' h hs;exact w1 n0 (.e .z) t0⟩
def Xs (a0:(List Int)) (a1:(List Int)):Int->Option (Int⊕(Unit⊕Bool)):=fun x3 =>
 bif decide (x3<((a0.length:Nat):Int)) then (
  (ixO a0 x3).bind fun x6 =>
  (ixO a1 x3).bind fun x7 =>
  bif (!(decide (x6=x7))) then (
   some (.inr (.inr false))
  ) else (
   some (.inl (w64 (x3+1)))
  )
 ) else (
  some (.inr (.inl ()))
 )
def Dm (a0:(List Int)) (a1:(List Int)):Option Bool :=
 bif (!(decide (((a0.length:Nat):Int)=((a1.length:Nat):Int)))) then (
  some false
 ) else (
  onInl (Js (Xs a0 a1) 0) fun _ =>
  some true
 )
instance Jv0 (a0:(List Int)) (a1:(List Int)):Ct Tryz.prog GlS (Dm a0 a1) 86 [Enc.pv a0,Enc.pv a1] Enc.pv:=⟨fun r h=>by
 unfold Dm at h;refine zC Tryz.func86 Tryz.ntmps86 ?_;refine w1 a0 (.e (.l 1 .s)) ?_;intro h;refine yl 1 a1 (w1 a0 (.e (.c (.e .z) (.l 1 (.e .s)))) ?_);intro h;refine yN 26 0 [13] (fun x3=>⟨[(0,Jh .frozen a0),(1,Jh .frozen a1),(12,I6 ((a0.length:Nat):Int)),(13,I6 x3)],[],[],[]⟩) h ?_ ?_
 ·intro x3 _ h;unfold Xs at h;exact w1 n0 (.e (.c (.e (.i 2 (.i 3 (.e (.c (.e .z) (.e .z)))))) .z)) t0
 intro _ s' h hs;exact w1 n0 (.e .z) t0⟩
def Lv (a0:Jx):Int->Option (Int⊕(Unit⊕Bool)):=fun x7 =>
 bif decide (x7<((a0.Routes.length:Nat):Int)) then (
  (ixO a0.Routes x7).bind fun x14 =>
  ((bif decide (30<((x14.Sections.length:Nat):Int)) then some true else (
   some (decide (30<((x14.OverSections.length:Nat):Int)))
  )):Option Bool).bind fun b15 =>
  ((bif b15 then some true else (
   some (decide (30<((x14.Points.length:Nat):Int)))
  )):Option Bool).bind fun b16 =>
  ((bif b16 then some true else (
   some (decide (30<((x14.OverPoints.length:Nat):Int)))
  )):Option Bool).bind fun b17 =>
  ((bif b17 then some true else (
   some (decide (30<((x14.Flank.length:Nat):Int)))
  )):Option Bool).bind fun b18 =>
  ((bif b18 then some true else (
   some (decide (30<((x14.Path.length:Nat):Int)))
  )):Option Bool).bind fun b19 =>
  bif b19 then (
   some (.inr (.inr false))
  ) else (
   some (.inl (w64 (x7+1)))
  )
 ) else (
  some (.inr (.inl ()))
 )
def Iw (a0:Jx) (a1:Kd):Option Bool :=
 onInl (Js (Lv a0) 0) fun _ =>
 ((bif decide (((a0.Routes.length:Nat):Int)<=50) then (
  some (decide (((a0.Points.length:Nat):Int)<=40))
 ) else some false):Option Bool).bind fun b20 =>
 ((bif b20 then (
  some (decide (((a0.Homes.length:Nat):Int)<=40))
 ) else some false):Option Bool).bind fun b21 =>
 ((bif b21 then (
  some (decide (((a1.Routes.length:Nat):Int)<=50))
 ) else some false):Option Bool).bind fun b22 =>
 ((bif b22 then (
  some (decide (((a1.Lies.length:Nat):Int)<=40))
 ) else some false):Option Bool).bind fun b23 =>
 some b23
theorem Jjk (a0:Jx) (a1:Kd) (r:Bool) (h:Iw a0 a1=some r):Yy Tryz.prog GlS 51 [Enc.pv a0,Enc.pv a1] (Enc.pv r):=by
 unfold Iw at h;refine zC Tryz.func51 Tryz.ntmps51 ?_;refine w1 a0.Routes (.e (.l 2 (.e .s))) ?_;intro h;refine yN 81 0 [10] (fun x7=>⟨[(2,.ref 2 0),(3,.ref 3 0),(9,I6 ((a0.Routes.length:Nat):Int)),(10,I6 x7)],[(2,.cells (cellsOf a0)),(3,.cells (cellsOf a1))],[],[]⟩) h ?_ ?_
 ·intro x7 _ h;unfold Lv at h;refine w1 n0 (.e (.c (.e (.i 3 (.e .s))) .z)) ?_;intro x14 h;refine yl 2 x14.Sections ?_;refine w6 x14.OverSections (.b 2 5 27 (.g 0 .z (.l 2 .z)) (.b 1 5 33 (.g 0 .z .s) (.b 1 5 39 (.g 0 .z .s) (.b 1 5 45 (.g 0 .z .s) (.b 1 5 51 (.g 0 .z .s) (.e (.c (.e .z) (.e .z)))))))) ?_ ?_ ?_ ?_ t0 t0
  ·intro _ _ h;exact yl 2 x14.Points (w1 n0 .z t0)
  ·intro _ _ _ h;exact yl 2 x14.OverPoints (w1 n0 .z t0)
  ·intro _ _ _ _ h;exact yl 2 x14.Flank (w1 n0 .z t0)
  intro _ _ _ _ _ h;exact yl 2 x14.Path (w1 n0 .z t0)
 intro _ s' h hs;refine w6 a0.Routes (.l 2 (.b 2 5 62 (.g 0 .s .z) (.b 1 5 68 (.g 0 .s .z) (.b 1 5 74 (.g 0 .s .z) (.b 1 5 80 (.g 0 .s .z) (.e .z)))))) ?_ ?_ ?_ ?_ t0 t0
 ·intro _ h;exact yl 2 a0.Points (w1 n0 .z t0)
 ·intro _ _ h;exact yl 2 a0.Homes (w1 n0 .z t0)
 ·intro _ _ _ h;exact yl 2 a1.Routes (w1 n0 .z t0)
 intro _ _ _ _ h;exact yl 2 a1.Lies (w1 n0 .z t0)
def Rc (a0:Jn):Int->Option (Int⊕(Unit⊕Bool)):=fun x6 =>
 bif decide (x6<((a0.Tracks.length:Nat):Int)) then (
  (ixO a0.Tracks x6).bind fun x12 =>
  ((bif decide (100<((x12.Steps.length:Nat):Int)) then some true else (
   some (decide (60<((x12.Routes.length:Nat):Int)))
  )):Option Bool).bind fun b13 =>
  ((bif b13 then some true else (
   some (decide (60<((x12.Starts.length:Nat):Int)))
  )):Option Bool).bind fun b14 =>
  ((bif b14 then some true else (
   some (decide (60<((x12.Ends.length:Nat):Int)))
  )):Option Bool).bind fun b15 =>
  ((bif b15 then some true else (
   some (decide (60<((x12.Done.length:Nat):Int)))
  )):Option Bool).bind fun b16 =>
  bif b16 then (
   some (.inr (.inr false))
  ) else (
   some (.inl (w64 (x6+1)))
  )
 ) else (
  some (.inr (.inl ()))
 )
def Sa (a0:Jn):Option Bool :=
 onInl (Js (Rc a0) 0) fun _ =>
 ((bif decide (((a0.Tracks.length:Nat):Int)<=10) then (
  some (decide (((a0.Sessions.length:Nat):Int)<=10))
 ) else some false):Option Bool).bind fun b17 =>
 some b17
theorem Jnu (a0:Jn) (r:Bool) (h:Sa a0=some r):Yy Tryz.prog GlS 52 [Enc.pv a0] (Enc.pv r):=by
 unfold Sa at h;refine zC Tryz.func52 Tryz.ntmps52 ?_;refine w1 a0.Tracks (.e (.l 2 (.e .s))) ?_;intro h;refine yN 55 0 [8] (fun x6=>⟨[(1,.ref 1 0),(7,I6 ((a0.Tracks.length:Nat):Int)),(8,I6 x6)],[(1,.cells (cellsOf a0))],[],[]⟩) h ?_ ?_
 ·intro x6 _ h;unfold Rc at h;refine w1 n0 (.e (.c (.e (.i 3 (.e .s))) .z)) ?_;intro x12 h;refine yl 2 x12.Steps ?_;refine w6 x12.Routes (.b 2 5 25 (.g 0 .z (.l 2 .z)) (.b 1 5 31 (.g 0 .z .s) (.b 1 5 37 (.g 0 .z .s) (.b 1 5 43 (.g 0 .z .s) (.e (.c (.e .z) (.e .z))))))) ?_ ?_ ?_ t0 t0 t0
  ·intro _ _ h;exact yl 2 x12.Starts (w1 n0 .z t0)
  ·intro _ _ _ h;exact yl 2 x12.Ends (w1 n0 .z t0)
  intro _ _ _ _ h;exact yl 2 x12.Done (w1 n0 .z t0)
 intro _ s' h hs;refine w1 a0.Tracks (.l 2 (.b 2 5 54 (.g 0 .s .z) (.e .z))) ?_;intro _ h;exact yl 2 a0.Sessions (w1 n0 .z t0)
def It (a0:Jp):Option Bool :=
 (Rj a0.Layout).bind fun r1 =>
 ((bif r1 then (
  (Iw a0.Table a0.Inter).bind fun r3 =>
  some r3
 ) else some false):Option Bool).bind fun b2 =>
 ((bif b2 then (
  some (decide (((a0.Slow.length:Nat):Int)<=20))
 ) else some false):Option Bool).bind fun b4 =>
 ((bif b4 then (
  some (decide (((a0.Trains.length:Nat):Int)<=10))
 ) else some false):Option Bool).bind fun b5 =>
 ((bif b5 then (
  (Sa a0.Center).bind fun r7 =>
  some r7
 ) else some false):Option Bool).bind fun b6 =>
 some b6
instance Kb1 (a0:Jp):Ct Tryz.prog GlS (It a0) 17 [Enc.pv a0] Enc.pv:=⟨fun r h=>by
 unfold It at h;refine zC Tryz.func17 Tryz.ntmps17 ?_;refine w1 n0 (.e .x) ?_;intro r1 h1 h;refine zR 2 (zP (Jih _ r1 h1) ?_);refine w6 a0.Slow (.b 1 6 12 (.g 0 .x .z) (.b 1 5 18 (.g 0 (.l 2 .z) .z) (.b 1 5 24 (.g 0 .s .z) (.b 1 4 29 (.g 0 .x .z) (.e .z))))) ?_ ?_ ?_ t0 t0 t0
 ·intro _ r3 h3 h;exact zR 4 (zP (Jjk _ _ r3 h3) (w1 n0 .z t0))
 ·intro _ _ _ h;exact yl 2 a0.Trains (w1 n0 .z t0)
 intro _ _ _ _ r7 h7 h;refine zR 2 (zP (Jnu _ r7 h7) ?_);exact w1 n0 .z t0⟩
def Cd (a0:(List Jb)) (a1:(List Jb)):Option Bool :=
 (Gc a0 a1).bind fun r1 =>
 some r1
instance Juw (a0:(List Jb)) (a1:(List Jb)):Ct Tryz.prog GlS (Cd a0 a1) 161 [Enc.pv a0,Enc.pv a1] Enc.pv:=⟨fun r h=>by
 unfold Cd at h;refine zC Tryz.func161 Tryz.ntmps161 ?_;exact w1 n0 (.e (.p 2 (.e .z))) t0⟩
def Nt (a0:(List Jf)) (a1:(List Jf)):Int->Option (Int⊕(Unit⊕Bool)):=fun x3 =>
 bif decide (x3<((a0.length:Nat):Int)) then (
  (ixO a0 x3).bind fun x6 =>
  (ixO a1 x3).bind fun x7 =>
  bif (!(Wo x6 x7)) then (
   some (.inr (.inr false))
  ) else (
   some (.inl (w64 (x3+1)))
  )
 ) else (
  some (.inr (.inl ()))
 )
def Ck (a0:(List Jf)) (a1:(List Jf)):Option Bool :=
 bif (!(decide (((a0.length:Nat):Int)=((a1.length:Nat):Int)))) then (
  some false
 ) else (
  onInl (Js (Nt a0 a1) 0) fun _ =>
  some true
 )
instance Jqc (a0:(List Jf)) (a1:(List Jf)):Ct Tryz.prog GlS (Ck a0 a1) 230 [Enc.pv a0,Enc.pv a1] Enc.pv:=⟨fun r h=>by
 unfold Ck at h;refine zC Tryz.func230 Tryz.ntmps230 ?_;refine w1 a0 (.e (.l 1 .s)) ?_;intro h;refine yl 1 a1 (w1 n0 (.e (.c (.e .z) (.e .s))) ?_);intro h;refine yN 26 0 [5] (fun x3=>⟨[(0,Jh .frozen a0),(1,Jh .frozen a1),(5,I6 x3)],[],[],[]⟩) h ?_ ?_
 ·intro x3 _ h;unfold Nt at h;exact w1 a0 (.l 2 (.e (.c (.i 2 (.i 3 (.e (.c (.e .z) (.e .z))))) .z))) t0
 intro _ s' h hs;exact w1 n0 (.e .z) t0⟩
def Wn (a0:(List Jf)) (a1:(List Jf)):Option Bool :=
 (Ck a0 a1).bind fun r1 =>
 some r1
instance Jo9 (a0:(List Jf)) (a1:(List Jf)):Ct Tryz.prog GlS (Wn a0 a1) 162 [Enc.pv a0,Enc.pv a1] Enc.pv:=⟨fun r h=>by
 unfold Wn at h;refine zC Tryz.func162 Tryz.ntmps162 ?_;exact w1 n0 (.e (.p 2 (.e .z))) t0⟩
def Jaa (a0:(List Int)) (a1:(List Int)):Int->Option (Int⊕(Unit⊕Bool)):=fun x3 =>
 bif decide (x3<((a0.length:Nat):Int)) then (
  (ixO a0 x3).bind fun x6 =>
  (ixO a1 x3).bind fun x7 =>
  bif (!(decide (x6=x7))) then (
   some (.inr (.inr false))
  ) else (
   some (.inl (w64 (x3+1)))
  )
 ) else (
  some (.inr (.inl ()))
 )
def Hj (a0:(List Int)) (a1:(List Int)):Option Bool :=
 bif (!(decide (((a0.length:Nat):Int)=((a1.length:Nat):Int)))) then (
  some false
 ) else (
  onInl (Js (Jaa a0 a1) 0) fun _ =>
  some true
 )
instance Jvz (a0:(List Int)) (a1:(List Int)):Ct Tryz.prog GlS (Hj a0 a1) 231 [Enc.pv a0,Enc.pv a1] Enc.pv:=⟨fun r h=>by
 unfold Hj at h;refine zC Tryz.func231 Tryz.ntmps231 ?_;refine w1 a0 (.e (.l 1 .s)) ?_;intro h;refine yl 1 a1 (w1 n0 (.e (.c (.e .z) (.e .s))) ?_);intro h;refine yN 26 0 [5] (fun x3=>⟨[(0,Jh .frozen a0),(1,Jh .frozen a1),(5,I6 x3)],[],[],[]⟩) h ?_ ?_
 ·intro x3 _ h;unfold Jaa at h;exact w1 a0 (.l 2 (.e (.c (.i 2 (.i 3 (.e (.c (.e .z) (.e .z))))) .z))) t0
 intro _ s' h hs;exact w1 n0 (.e .z) t0⟩
def Zv (a0:(List Int)) (a1:(List Int)):Option Bool :=
 (Hj a0 a1).bind fun r1 =>
 some r1
instance Jv1 (a0:(List Int)) (a1:(List Int)):Ct Tryz.prog GlS (Zv a0 a1) 163 [Enc.pv a0,Enc.pv a1] Enc.pv:=⟨fun r h=>by
 unfold Zv at h;refine zC Tryz.func163 Tryz.ntmps163 ?_;exact w1 n0 (.e (.p 2 (.e .z))) t0⟩
def Xr (a0:(List Je)) (a1:(List Je)):Int->Option (Int⊕(Unit⊕Bool)):=fun x3 =>
 bif decide (x3<((a0.length:Nat):Int)) then (
  (ixO a0 x3).bind fun x6 =>
  (ixO a1 x3).bind fun x7 =>
  bif (!(Kb x6 x7)) then (
   some (.inr (.inr false))
  ) else (
   some (.inl (w64 (x3+1)))
  )
 ) else (
  some (.inr (.inl ()))
 )
def Ie (a0:(List Je)) (a1:(List Je)):Option Bool :=
 bif (!(decide (((a0.length:Nat):Int)=((a1.length:Nat):Int)))) then (
  some false
 ) else (
  onInl (Js (Xr a0 a1) 0) fun _ =>
  some true
 )
instance Jvw (a0:(List Je)) (a1:(List Je)):Ct Tryz.prog GlS (Ie a0 a1) 164 [Enc.pv a0,Enc.pv a1] Enc.pv:=⟨fun r h=>by
 unfold Ie at h;refine zC Tryz.func164 Tryz.ntmps164 ?_;refine w1 a0 (.e (.l 1 .s)) ?_;intro h;refine yl 1 a1 (w1 n0 (.e (.c (.e .z) (.e .s))) ?_);intro h;refine yN 26 0 [5] (fun x3=>⟨[(0,Jh .frozen a0),(1,Jh .frozen a1),(5,I6 x3)],[],[],[]⟩) h ?_ ?_
 ·intro x3 _ h;unfold Xr at h;exact w1 a0 (.l 2 (.e (.c (.i 2 (.i 3 (.e (.c (.e .z) (.e .z))))) .z))) t0
 intro _ s' h hs;exact w1 n0 (.e .z) t0⟩
def Nv (a0:Ji) (a1:Ji):Option Bool :=
 bif (((((!(decide (a0.Name=a1.Name)))||(!(decide (a0.Entry=a1.Entry))))||(!(decide (a0.Exit=a1.Exit))))||(!(decide (a0.Approach=a1.Approach))))||(!(decide (a0.Length=a1.Length)))) then (
  some false
 ) else (
  (Cd a0.Path a1.Path).bind fun r1 =>
  ((bif (!r1) then some true else (
   (Wn a0.Points a1.Points).bind fun r3 =>
   some (!r3)
  )):Option Bool).bind fun b2 =>
  ((bif b2 then some true else (
   (Zv a0.Sections a1.Sections).bind fun r5 =>
   some (!r5)
  )):Option Bool).bind fun b4 =>
  bif b4 then (
   some false
  ) else (
   (Cd a0.Over a1.Over).bind fun r6 =>
   ((bif r6 then (
    (Wn a0.OverPoints a1.OverPoints).bind fun r8 =>
    some r8
   ) else some false):Option Bool).bind fun b7 =>
   ((bif b7 then (
    (Zv a0.OverSections a1.OverSections).bind fun r10 =>
    some r10
   ) else some false):Option Bool).bind fun b9 =>
   ((bif b9 then (
    (Wn a0.Flank a1.Flank).bind fun r12 =>
    some r12
   ) else some false):Option Bool).bind fun b11 =>
   ((bif b11 then (
    (Zv a0.Guards a1.Guards).bind fun r14 =>
    some r14
   ) else some false):Option Bool).bind fun b13 =>
   ((bif b13 then (
    (Ie a0.Gaps a1.Gaps).bind fun r16 =>
    some r16
   ) else some false):Option Bool).bind fun b15 =>
   some b15
  )
 )
instance Kc4 (a0:Ji) (a1:Ji):Ct Tryz.prog GlS (Nv a0 a1) 87 [Enc.pv a0,Enc.pv a1] Enc.pv:=⟨fun r h=>by
 unfold Nv at h;refine zC Tryz.func87 Tryz.ntmps87 ?_;exact w1 n0 (.e (.o 6 6 16 3 (.o 1 6 23 2 (.o 1 6 30 1 (.o 1 6 37 0 (.e (.c (.e .z) (.p 4 (.b 2 7 51 (.g 0 .z (.p 4 .z)) (.b 1 7 59 (.g 0 .z (.p 4 .z)) (.e (.c (.e .z) (.p 4 (.b 1 6 71 (.g 0 (.p 4 .z) .z) (.b 1 6 78 (.g 0 (.p 4 .z) .z) (.b 1 6 85 (.g 0 (.p 4 .z) .z) (.b 1 6 92 (.g 0 (.p 4 .z) .z) (.b 1 6 99 (.g 0 (.p 4 .z) .z) (.e .z))))))))))))))))))) t0⟩
def Oq (a0:Jx) (a1:Jx):Int->Option (Int⊕(Unit⊕Bool)):=fun x8 =>
 bif decide (x8<((a0.Routes.length:Nat):Int)) then (
  (ixO a0.Routes x8).bind fun x12 =>
  (ixO a1.Routes x8).bind fun x13 =>
  (Nv x12 x13).bind fun r14 =>
  bif (!r14) then (
   some (.inr (.inr false))
  ) else (
   some (.inl (w64 (x8+1)))
  )
 ) else (
  some (.inr (.inl ()))
 )
def Ow (a0:Jx) (a1:Jx):Option Bool :=
 ((bif (!(decide (((a0.Routes.length:Nat):Int)=((a1.Routes.length:Nat):Int)))) then some true else (
  (Dm a0.Points a1.Points).bind fun r2 =>
  some (!r2)
 )):Option Bool).bind fun b1 =>
 ((bif b1 then some true else (
  (Dm a0.Homes a1.Homes).bind fun r4 =>
  some (!r4)
 )):Option Bool).bind fun b3 =>
 bif ((b3||(!(decide (a0.Sections=a1.Sections))))||(!(decide (a0.Signals=a1.Signals)))) then (
  some false
 ) else (
  onInl (Js (Oq a0 a1) 0) fun _ =>
  some true
 )
instance Kdb (a0:Jx) (a1:Jx):Ct Tryz.prog GlS (Ow a0 a1) 37 [Enc.pv a0,Enc.pv a1] Enc.pv:=⟨fun r h=>by
 unfold Ow at h;refine zC Tryz.func37 Tryz.ntmps37 ?_;refine w1 a0.Routes (.e (.l 2 .s)) ?_;intro h;refine yl 2 a1.Routes (w1 a0.Routes (.b 2 7 20 (.g 0 .z (.p 4 .z)) (.b 1 7 28 (.g 0 .z (.p 4 .z)) (.o 1 6 35 1 (.o 1 6 42 0 (.e (.c (.e .z) (.l 2 (.e .s)))))))) ?_);intro _ _ h;refine yN 62 0 [46] (fun x8=>⟨[(2,.ref 2 0),(3,.ref 3 0),(45,I6 ((a0.Routes.length:Nat):Int)),(46,I6 x8)],[(2,.cells (cellsOf a0)),(3,.cells (cellsOf a1))],[],[]⟩) h ?_ ?_
 ·intro x8 _ h;unfold Oq at h;exact w1 n0 (.e (.c (.e (.i 3 (.i 4 (.p 1 (.e (.c (.e .z) (.e .z))))))) .z)) t0
 intro _ s' h hs;exact w1 n0 (.e .z) t0⟩
def Bq (a0:(List Int)):Int->Option (Int⊕(Unit⊕Bool)):=fun x2 =>
 bif decide (x2<((a0.length:Nat):Int)) then (
  (ixO a0 x2).bind fun x4 =>
  bif ((decide (x4<(-1073741824)))||(decide (1073741824<x4))) then (
   some (.inr (.inr false))
  ) else (
   some (.inl (w64 (x2+1)))
  )
 ) else (
  some (.inr (.inl ()))
 )
def Vu (a0:(List Int)):Option Bool :=
 onInl (Js (Bq a0) 0) fun _ =>
 some true
instance Jq3 (a0:(List Int)):Ct Tryz.prog GlS (Vu a0) 165 [Enc.pv a0] Enc.pv:=⟨fun r h=>by
 unfold Vu at h;refine zC Tryz.func165 Tryz.ntmps165 ?_;refine w1 a0 (.e (.l 1 (.e .s))) ?_;intro h;refine yN 18 0 [7] (fun x2=>⟨[(5,Jh .frozen a0),(6,I6 ((a0.length:Nat):Int)),(7,I6 x2)],[],[],[]⟩) h ?_ ?_
 ·intro x2 _ h;unfold Bq at h;exact w1 n0 (.e (.c (.i 0 (.e (.o 3 3 16 0 (.e (.c (.e .z) (.e .z)))))) .z)) t0
 intro _ s' h hs;exact w1 n0 (.e .z) t0⟩
def Ih (a1:Jx) (a2:Jg):(Bool×Int)->Option ((Bool×Int)⊕(Bool⊕Bool)):=fun (x16,x17) =>
 bif decide (x17<((a2.Routes.length:Nat):Int)) then (
  (ixO a2.Routes x17).bind fun x25 =>
  ((bif decide (x25<0) then some true else (
   some (decide (((a1.Routes.length:Nat):Int)<=x25))
  )):Option Bool).bind fun b26 =>
  bif b26 then (
   some (.inr (.inr false))
  ) else (
   ((bif x16 then some true else (
    ((bif decide (a2.Origin<a2.Cut) then (
     (ixO a2.Ends x17).bind fun x29 =>
     (ixO a1.Routes x25).bind fun x30 =>
     some (decide (a2.Cut=(w64 (x29 - x30.Length))))
    ) else some false):Option Bool).bind fun b28 =>
    some b28
   )):Option Bool).bind fun b27 =>
   some (.inl (b27,w64 (x17+1)))
  )
 ) else (
  some (.inr (.inl x16))
 )
def Gz (a0:Ja) (a1:Jx) (a2:Jg):Option Bool :=
 (Ff a0 a2.Steps).bind fun r1 =>
 ((bif (!r1) then some true else (
  some (!(decide (((a2.Starts.length:Nat):Int)=((a2.Routes.length:Nat):Int))))
 )):Option Bool).bind fun b2 =>
 ((bif b2 then some true else (
  some (!(decide (((a2.Ends.length:Nat):Int)=((a2.Routes.length:Nat):Int))))
 )):Option Bool).bind fun b3 =>
 ((bif b3 then some true else (
  (Vu [a2.Origin,a2.At,a2.Min,a2.Cut]).bind fun r5 =>
  some (!r5)
 )):Option Bool).bind fun b4 =>
 ((bif b4 then some true else (
  (Vu a2.Starts).bind fun r7 =>
  some (!r7)
 )):Option Bool).bind fun b6 =>
 ((bif b6 then some true else (
  (Vu a2.Ends).bind fun r9 =>
  some (!r9)
 )):Option Bool).bind fun b8 =>
 bif b8 then (
  some false
 ) else (
  onInl (Js (Ih a1 a2) (decide (a2.CutSeq=0),0)) fun x24 =>
  some x24
 )
instance Jz2 (a0:Ja) (a1:Jx) (a2:Jg):Ct Tryz.prog GlS (Gz a0 a1 a2) 90 [Enc.pv a0,Enc.pv a1,Enc.pv a2] Enc.pv:=⟨fun r h=>by
 unfold Gz at h;refine zC Tryz.func90 Tryz.ntmps90 ?_;refine w6 a2.Starts (.e (.p 3 (.b 2 8 23 (.g 0 .z (.l 2 .s)) (.b 1 8 32 (.g 0 .z .s) (.b 1 12 45 (.g 0 .z (.p 9 .z)) (.b 1 5 51 (.g 0 .z (.p 2 .z)) (.b 1 5 57 (.g 0 .z (.p 2 .z)) (.e (.c (.e .z) (.e .s)))))))))) ?_ ?_ ?_ t0 t0 t0
 ·intro _ _ h;exact yl 2 a2.Routes (w1 n0 .z t0)
 ·intro _ _ _ h;exact yl 2 a2.Ends (w1 a2.Routes (.l 2 .z) t0)
 intro _ _ _ _ _ _ h;refine yl 2 a2.Routes (w1 n0 (.e .s) ?_);intro h;refine yL 105 0 (fun (x16,x17)=>⟨[(4,.ref 4 0),(5,.ref 5 0),(7,.bool x16),(62,Jh .frozen a2.Routes),(63,I6 ((a2.Routes.length:Nat):Int)),(64,I6 x17)],[(4,.cells (cellsOf a1)),(5,.cells (cellsOf a2))],[],[]⟩) (fun x24=>⟨[(7,.bool x24)],[],[],[]⟩) h ?_ ?_
 ·rintro ⟨x16,x17⟩ _ h;unfold Ih at h;exact w1 a1.Routes (.e (.c (.i 1 (.e (.b 3 6 77 (.g 0 .z (.l 3 .z)) (.e (.c (.e .z) (.b 2 23 102 (.g 0 .z (.b 6 16 101 (.g 0 (.i 5 (.i 4 .z)) .z) .z)) (.e (.e .z)))))))) .z)) t0
 intro x24 s' h hs;exact w1 n0 (.e .z) t0⟩
def Lq (a0:Jp) (a1:Jn):Int->Option (Int⊕(Unit⊕Bool)):=fun x3 =>
 bif decide (x3<((a1.Tracks.length:Nat):Int)) then (
  (ixO a1.Tracks x3).bind fun x6 =>
  (Gz a0.Layout a0.Table x6).bind fun r7 =>
  bif (!r7) then (
   some (.inr (.inr false))
  ) else (
   some (.inl (w64 (x3+1)))
  )
 ) else (
  some (.inr (.inl ()))
 )
def Re (a0:Jp) (a1:Jn):Option Bool :=
 onInl (Js (Lq a0 a1) 0) fun _ =>
 some true
instance Kbf (a0:Jp) (a1:Jn):Ct Tryz.prog GlS (Re a0 a1) 39 [Enc.pv a0,Enc.pv a1] Enc.pv:=⟨fun r h=>by
 unfold Re at h;refine zC Tryz.func39 Tryz.ntmps39 ?_;refine w1 a1.Tracks (.e (.l 2 (.e .s))) ?_;intro h;refine yN 24 0 [9] (fun x3=>⟨[(2,.ref 2 0),(3,.ref 3 0),(8,I6 ((a1.Tracks.length:Nat):Int)),(9,I6 x3)],[(2,.cells (cellsOf a0)),(3,.cells (cellsOf a1))],[],[]⟩) h ?_ ?_
 ·intro x3 _ h;unfold Lq at h;exact w1 n0 (.e (.c (.e (.i 7 (.p 1 (.e (.c (.e .z) (.e .z)))))) .z)) t0
 intro _ s' h hs;exact w1 n0 (.e .z) t0⟩
end
end PM
