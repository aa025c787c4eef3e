/-
 Plain functions for the program's functions, and the proofs that the program does them. Printed by den.py.
-/
import Derived.Test.YtfpoeepcomnjhaaGreatDoorDen6
namespace PM
noncomputable section
open Go Go.RowKit Go.Proofs Go.Proofs.Tryz
attribute [local irreducible] Jy pwp
def Jaz(a0:(List Jb))(a1:(List Jb)):Int->Option (Int⊕(Unit⊕Bool)):=fun x3=>
 bif decide (x3<((a0.length:Nat):Int)) then (
  (ixO a0 x3).bind fun x6=>
  (ixO a1 x3).bind fun x7=>
  bif (!(Ml x6 x7)) then (
   some (.inr (.inr false))
  ) else (
   some (.inl (w64 (x3+1)))
  )
 ) else (
  some (.inr (.inl ()))
 )
def Yc(a0:(List Jb))(a1:(List Jb)):Option Bool :=
 bif (!(decide (((a0.length:Nat):Int)=((a1.length:Nat):Int)))) then (
  some false
 ) else (
  onInl (Jp (Jaz a0 a1) 0) fun _=>
  some true
 )
instance (a0:(List Jb))(a1:(List Jb)):Cp (Yc a0 a1) 85 [Enc.pv a0,Enc.pv a1] Enc.pv:=⟨fun r h=>by
 unfold Yc at h;refine zG f85 ?_;refine w1 a0 (el 1 .s) ?_;intro h;refine yl 1 a1 (w1 n0 (ec z1 s1) ?_);intro h;refine uN 26 0 [5] (fun s x3=>⟨(5,I6 x3)::gt s [0,1],[],[],[]⟩) h ?_ ?_
 ·intro x3 _ h;unfold Jaz at h;exact w1 a0 (.l 2 (ec (.i 2 (.i 3 (ec z1 z1))) .z)) t0
 intro _ s' h hs;exact w1 n0 z1 t0⟩
def Jch(a0:(List Int))(a1:(List Int)):Int->Option (Int⊕(Unit⊕Bool)):=fun x3=>
 bif decide (x3<((a0.length:Nat):Int)) then (
  (ixO a0 x3).bind fun x6=>
  (ixO a1 x3).bind fun x7=>
  bif (!(decide (x6=x7))) then (
   some (.inr (.inr false))
  ) else (
   some (.inl (w64 (x3+1)))
  )
 ) else (
  some (.inr (.inl ()))
 )
def Ux(a0:(List Int))(a1:(List Int)):Option Bool :=
 bif (!(decide (((a0.length:Nat):Int)=((a1.length:Nat):Int)))) then (
  some false
 ) else (
  onInl (Jp (Jch a0 a1) 0) fun _=>
  some true
 )
instance (a0:(List Int))(a1:(List Int)):Cp (Ux a0 a1) 86 [Enc.pv a0,Enc.pv a1] Enc.pv:=⟨fun r h=>by
 unfold Ux at h;refine zG f86 ?_;refine w1 a0 (el 1 .s) ?_;intro h;refine yl 1 a1 (w1 a0 (ec z1 (.l 1 s1)) ?_);intro h;refine uN 26 0 [13] (fun s x3=>⟨(13,I6 x3)::gt s [0,1,12],[],[],[]⟩) h ?_ ?_
 ·intro x3 _ h;unfold Jch at h;exact w1 n0 (ec (ei 2 (.i 3 (ec z1 z1))) .z) t0
 intro _ s' h hs;exact w1 n0 z1 t0⟩
def Rx(a0:Je)(a1:Je):Option Bool :=
 ((bif (((((((((!(decide (a0.Id=a1.Id)))||(!(decide (a0.Origin=a1.Origin))))||(!(decide (a0.End=a1.End))))||(!(decide (a0.At=a1.At))))||(!(decide (a0.Min=a1.Min))))||(!(decide (a0.Sent=a1.Sent))))||(!(decide (a0.Accepted=a1.Accepted))))||(!(decide (a0.Cut=a1.Cut))))||(!(decide (a0.CutSeq=a1.CutSeq)))) then some true else (
  (Yc a0.Steps a1.Steps).bind fun r2=>
  some (!r2)
 ))).bind fun b1=>
 bif b1 then (
  some false
 ) else (
  (Ux a0.Routes a1.Routes).bind fun r3=>
  ((bif r3 then (
   (Ux a0.Starts a1.Starts).bind fun r5=>
   some r5
  ) else some false)).bind fun b4=>
  ((bif b4 then (
   (Ux a0.Ends a1.Ends).bind fun r7=>
   some r7
  ) else some false)).bind fun b6=>
  ((bif b6 then (
   (Ux a0.Done a1.Done).bind fun r9=>
   some r9
  ) else some false)).bind fun b8=>
  some b8
 )
instance (a0:Je)(a1:Je):Cp (Rx a0 a1) 36 [Enc.pv a0,Enc.pv a1] Enc.pv:=⟨fun r h=>by
 unfold Rx at h;refine zG f36 ?_;exact w1 n0 (.e (.o 6 6 16 7 (.o 1 6 23 6 (.o 1 6 30 5 (.o 1 6 37 4 (.o 1 6 44 3 (.o 1 6 51 2 (.o 1 6 58 1 (.o 1 6 65 0 (.b 1 7 73 (.g 0 .z (.p 4 .z)) (ec z1 (.p 4 (.b 1 6 85 (.g 0 (.p 4 .z) .z) (.b 1 6 92 (.g 0 (.p 4 .z) .z) (.b 1 6 99 (.g 0 (.p 4 .z) .z) z1))))))))))))))) t0⟩
def Rp(a0:Jm)(a1:Jm):Int->Option (Int⊕(Unit⊕Bool)):=fun x5=>
 bif decide (x5<((a0.Tracks.length:Nat):Int)) then (
  (ixO a0.Tracks x5).bind fun x9=>
  (ixO a1.Tracks x5).bind fun x10=>
  (Rx x9 x10).bind fun r11=>
  bif (!r11) then (
   some (.inr (.inr false))
  ) else (
   some (.inl (w64 (x5+1)))
  )
 ) else (
  some (.inr (.inl ()))
 )
def Rm(a0:Jm)(a1:Jm):Int->Option (Int⊕(Unit⊕Bool)):=fun x14=>
 bif decide (x14<((a0.Sessions.length:Nat):Int)) then (
  (ixO a0.Sessions x14).bind fun x17=>
  (ixO a1.Sessions x14).bind fun x18=>
  bif (!(Ta x17 x18)) then (
   some (.inr (.inr false))
  ) else (
   some (.inl (w64 (x14+1)))
  )
 ) else (
  some (.inr (.inl ()))
 )
def Mb(a0:Jm)(a1:Jm):Option Bool :=
 ((bif (!(decide (((a0.Tracks.length:Nat):Int)=((a1.Tracks.length:Nat):Int)))) then some true else (
  some (!(decide (((a0.Sessions.length:Nat):Int)=((a1.Sessions.length:Nat):Int))))
 ))).bind fun b1=>
 bif b1 then (
  some false
 ) else (
  onInl (Jp (Rp a0 a1) 0) fun _=>
  onInl (Jp (Rm a0 a1) 0) fun _=>
  some true
 )
instance (a0:Jm)(a1:Jm):Cp (Mb a0 a1) 12 [Enc.pv a0,Enc.pv a1] Enc.pv:=⟨fun r h=>by
 unfold Mb at h;refine zG f12 ?_;refine w1 a0.Tracks (el 2 .s) ?_;intro h;refine yl 2 a1.Tracks ?_;refine w6 a0.Sessions (.b 2 8 22 (.g 0 .z (.l 2 .s)) (ec z1 s1)) ?_ ?_ t0 t0 t0 t0
 ·intro _ h;exact yl 2 a1.Sessions (w1 n0 .z t0)
 intro _ h;refine uN 60 0 [5] (fun s x5=>⟨(5,I6 x5)::gt s [2,3],gh s [2,3],[],[]⟩) h ?_ ?_
 ·intro x5 _ h;unfold Rp at h;exact w1 a0.Tracks (.l 3 (ec (.i 3 (.i 4 (.p 1 (ec z1 z1)))) .z)) t0
 intro _ s' h hs;refine w1 n0 s1 ?_;intro h;refine uN 60 2 [6] (fun s x14=>⟨(6,I6 x14)::gt s [2,3],gh s [2,3],[],[]⟩) h ?_ ?_
 ·intro x14 _ h;unfold Rm at h;exact w1 a0.Sessions (.l 3 (ec (.i 3 (.i 4 (ec z1 z1))) .z)) t0
 intro _ s' h hs;exact w1 n0 z1 t0⟩
def Ns(a0:Jq):Int->Option (Int⊕(Unit⊕Bool)):=fun x7=>
 bif decide (x7<((a0.Routes.length:Nat):Int)) then (
  (ixO a0.Routes x7).bind fun x14=>
  ((bif decide (30<((x14.Sections.length:Nat):Int)) then some true else (
   some (decide (30<((x14.OverSections.length:Nat):Int)))
  ))).bind fun b15=>
  ((bif b15 then some true else (
   some (decide (30<((x14.Points.length:Nat):Int)))
  ))).bind fun b16=>
  ((bif b16 then some true else (
   some (decide (30<((x14.OverPoints.length:Nat):Int)))
  ))).bind fun b17=>
  ((bif b17 then some true else (
   some (decide (30<((x14.Flank.length:Nat):Int)))
  ))).bind fun b18=>
  ((bif b18 then some true else (
   some (decide (30<((x14.Path.length:Nat):Int)))
  ))).bind fun b19=>
  bif b19 then (
   some (.inr (.inr false))
  ) else (
   some (.inl (w64 (x7+1)))
  )
 ) else (
  some (.inr (.inl ()))
 )
def Mx(a0:Jq)(a1:Jx):Option Bool :=
 onInl (Jp (Ns a0) 0) fun _=>
 ((bif decide (((a0.Routes.length:Nat):Int)<=50) then (
  some (decide (((a0.Points.length:Nat):Int)<=40))
 ) else some false)).bind fun b20=>
 ((bif b20 then (
  some (decide (((a0.Homes.length:Nat):Int)<=40))
 ) else some false)).bind fun b21=>
 ((bif b21 then (
  some (decide (((a1.Routes.length:Nat):Int)<=50))
 ) else some false)).bind fun b22=>
 ((bif b22 then (
  some (decide (((a1.Lies.length:Nat):Int)<=40))
 ) else some false)).bind fun b23=>
 some b23
theorem Jlj(a0:Jq)(a1:Jx)(r:Bool)(h:Mx a0 a1=some r):Yx prog GlS 51 [Enc.pv a0,Enc.pv a1] (Enc.pv r):=by
 unfold Mx at h;refine zG f51 ?_;refine w1 a0.Routes (el 2 s1) ?_;intro h;refine uN 81 0 [10] (fun s x7=>⟨(10,I6 x7)::gt s [2,3,9],gh s [2,3],[],[]⟩) h ?_ ?_
 ·intro x7 _ h;unfold Ns at h;refine w1 n0 (ec (ei 3 s1) .z) ?_;intro x14 h;refine yl 2 x14.Sections ?_;refine w6 x14.OverSections (.b 2 5 27 (.g 0 .z (.l 2 .z)) (.b 1 5 33 (.g 0 .z .s) (.b 1 5 39 (.g 0 .z .s) (.b 1 5 45 (.g 0 .z .s) (.b 1 5 51 (.g 0 .z .s) (ec z1 z1)))))) ?_ ?_ ?_ ?_ t0 t0
  ·intro _ _ h;exact yl 2 x14.Points (w1 n0 .z t0)
  ·intro _ _ _ h;exact yl 2 x14.OverPoints (w1 n0 .z t0)
  ·intro _ _ _ _ h;exact yl 2 x14.Flank (w1 n0 .z t0)
  intro _ _ _ _ _ h;exact yl 2 x14.Path (w1 n0 .z t0)
 intro _ s' h hs;refine w6 a0.Routes (.l 2 (.b 2 5 62 (.g 0 .s .z) (.b 1 5 68 (.g 0 .s .z) (.b 1 5 74 (.g 0 .s .z) (.b 1 5 80 (.g 0 .s .z) z1))))) ?_ ?_ ?_ ?_ t0 t0
 ·intro _ h;exact yl 2 a0.Points (w1 n0 .z t0)
 ·intro _ _ h;exact yl 2 a0.Homes (w1 n0 .z t0)
 ·intro _ _ _ h;exact yl 2 a1.Routes (w1 n0 .z t0)
 intro _ _ _ _ h;exact yl 2 a1.Lies (w1 n0 .z t0)
def Tv(a0:Jm):Int->Option (Int⊕(Unit⊕Bool)):=fun x6=>
 bif decide (x6<((a0.Tracks.length:Nat):Int)) then (
  (ixO a0.Tracks x6).bind fun x12=>
  ((bif decide (100<((x12.Steps.length:Nat):Int)) then some true else (
   some (decide (60<((x12.Routes.length:Nat):Int)))
  ))).bind fun b13=>
  ((bif b13 then some true else (
   some (decide (60<((x12.Starts.length:Nat):Int)))
  ))).bind fun b14=>
  ((bif b14 then some true else (
   some (decide (60<((x12.Ends.length:Nat):Int)))
  ))).bind fun b15=>
  ((bif b15 then some true else (
   some (decide (60<((x12.Done.length:Nat):Int)))
  ))).bind fun b16=>
  bif b16 then (
   some (.inr (.inr false))
  ) else (
   some (.inl (w64 (x6+1)))
  )
 ) else (
  some (.inr (.inl ()))
 )
def Xo(a0:Jm):Option Bool :=
 onInl (Jp (Tv a0) 0) fun _=>
 ((bif decide (((a0.Tracks.length:Nat):Int)<=10) then (
  some (decide (((a0.Sessions.length:Nat):Int)<=10))
 ) else some false)).bind fun b17=>
 some b17
theorem Jn1(a0:Jm)(r:Bool)(h:Xo a0=some r):Yx prog GlS 52 [Enc.pv a0] (Enc.pv r):=by
 unfold Xo at h;refine zG f52 ?_;refine w1 a0.Tracks (el 2 s1) ?_;intro h;refine uN 55 0 [8] (fun s x6=>⟨(8,I6 x6)::gt s [1,7],gh s [1],[],[]⟩) h ?_ ?_
 ·intro x6 _ h;unfold Tv at h;refine w1 n0 (ec (ei 3 s1) .z) ?_;intro x12 h;refine yl 2 x12.Steps ?_;refine w6 x12.Routes (.b 2 5 25 (.g 0 .z (.l 2 .z)) (.b 1 5 31 (.g 0 .z .s) (.b 1 5 37 (.g 0 .z .s) (.b 1 5 43 (.g 0 .z .s) (ec z1 z1))))) ?_ ?_ ?_ t0 t0 t0
  ·intro _ _ h;exact yl 2 x12.Starts (w1 n0 .z t0)
  ·intro _ _ _ h;exact yl 2 x12.Ends (w1 n0 .z t0)
  intro _ _ _ _ h;exact yl 2 x12.Done (w1 n0 .z t0)
 intro _ s' h hs;refine w1 a0.Tracks (.l 2 (.b 2 5 54 (.g 0 .s .z) z1)) ?_;intro _ h;exact yl 2 a0.Sessions (w1 n0 .z t0)
def Mu(a0:Jz):Option Bool :=
 (Xb a0.Layout).bind fun r1=>
 ((bif r1 then (
  (Mx a0.Table a0.Inter).bind fun r3=>
  some r3
 ) else some false)).bind fun b2=>
 ((bif b2 then (
  some (decide (((a0.Slow.length:Nat):Int)<=20))
 ) else some false)).bind fun b4=>
 ((bif b4 then (
  some (decide (((a0.Trains.length:Nat):Int)<=10))
 ) else some false)).bind fun b5=>
 ((bif b5 then (
  (Xo a0.Center).bind fun r7=>
  some r7
 ) else some false)).bind fun b6=>
 some b6
instance (a0:Jz):Cp (Mu a0) 17 [Enc.pv a0] Enc.pv:=⟨fun r h=>by
 unfold Mu at h;refine zG f17 ?_;refine w1 n0 X1 ?_;intro r1 h1 h;refine zR 2 (zP (Jlw _ r1 h1) ?_);refine w6 a0.Slow (.b 1 6 12 (.g 0 .x .z) (.b 1 5 18 (.g 0 (.l 2 .z) .z) (.b 1 5 24 (.g 0 .s .z) (.b 1 4 29 (.g 0 .x .z) z1)))) ?_ ?_ ?_ t0 t0 t0
 ·intro _ r3 h3 h;exact zR 4 (zP (Jlj _ _ r3 h3) (w1 n0 .z t0))
 ·intro _ _ _ h;exact yl 2 a0.Trains (w1 n0 .z t0)
 intro _ _ _ _ r7 h7 h;refine zR 2 (zP (Jn1 _ r7 h7) ?_);exact w1 n0 .z t0⟩
def Dn(a0:(List Jb))(a1:(List Jb)):Option Bool :=
 (Yc a0 a1).bind fun r1=>
 some r1
instance (a0:(List Jb))(a1:(List Jb)):Cp (Dn a0 a1) 161 [Enc.pv a0,Enc.pv a1] Enc.pv:=⟨fun r h=>by
 unfold Dn at h;refine zG f161 ?_;exact w1 n0 (ep 2 z1) t0⟩
def Rc(a0:(List Jg))(a1:(List Jg)):Int->Option (Int⊕(Unit⊕Bool)):=fun x3=>
 bif decide (x3<((a0.length:Nat):Int)) then (
  (ixO a0 x3).bind fun x6=>
  (ixO a1 x3).bind fun x7=>
  bif (!(Wu x6 x7)) then (
   some (.inr (.inr false))
  ) else (
   some (.inl (w64 (x3+1)))
  )
 ) else (
  some (.inr (.inl ()))
 )
def Dr(a0:(List Jg))(a1:(List Jg)):Option Bool :=
 bif (!(decide (((a0.length:Nat):Int)=((a1.length:Nat):Int)))) then (
  some false
 ) else (
  onInl (Jp (Rc a0 a1) 0) fun _=>
  some true
 )
instance (a0:(List Jg))(a1:(List Jg)):Cp (Dr a0 a1) 230 [Enc.pv a0,Enc.pv a1] Enc.pv:=⟨fun r h=>by
 unfold Dr at h;refine zG f230 ?_;refine w1 a0 (el 1 .s) ?_;intro h;refine yl 1 a1 (w1 n0 (ec z1 s1) ?_);intro h;refine uN 26 0 [5] (fun s x3=>⟨(5,I6 x3)::gt s [0,1],[],[],[]⟩) h ?_ ?_
 ·intro x3 _ h;unfold Rc at h;exact w1 a0 (.l 2 (ec (.i 2 (.i 3 (ec z1 z1))) .z)) t0
 intro _ s' h hs;exact w1 n0 z1 t0⟩
def Wx(a0:(List Jg))(a1:(List Jg)):Option Bool :=
 (Dr a0 a1).bind fun r1=>
 some r1
instance (a0:(List Jg))(a1:(List Jg)):Cp (Wx a0 a1) 162 [Enc.pv a0,Enc.pv a1] Enc.pv:=⟨fun r h=>by
 unfold Wx at h;refine zG f162 ?_;exact w1 n0 (ep 2 z1) t0⟩
def Jbo(a0:(List Int))(a1:(List Int)):Int->Option (Int⊕(Unit⊕Bool)):=fun x3=>
 bif decide (x3<((a0.length:Nat):Int)) then (
  (ixO a0 x3).bind fun x6=>
  (ixO a1 x3).bind fun x7=>
  bif (!(decide (x6=x7))) then (
   some (.inr (.inr false))
  ) else (
   some (.inl (w64 (x3+1)))
  )
 ) else (
  some (.inr (.inl ()))
 )
def Iz(a0:(List Int))(a1:(List Int)):Option Bool :=
 bif (!(decide (((a0.length:Nat):Int)=((a1.length:Nat):Int)))) then (
  some false
 ) else (
  onInl (Jp (Jbo a0 a1) 0) fun _=>
  some true
 )
instance (a0:(List Int))(a1:(List Int)):Cp (Iz a0 a1) 231 [Enc.pv a0,Enc.pv a1] Enc.pv:=⟨fun r h=>by
 unfold Iz at h;refine zG f231 ?_;refine w1 a0 (el 1 .s) ?_;intro h;refine yl 1 a1 (w1 n0 (ec z1 s1) ?_);intro h;refine uN 26 0 [5] (fun s x3=>⟨(5,I6 x3)::gt s [0,1],[],[],[]⟩) h ?_ ?_
 ·intro x3 _ h;unfold Jbo at h;exact w1 a0 (.l 2 (ec (.i 2 (.i 3 (ec z1 z1))) .z)) t0
 intro _ s' h hs;exact w1 n0 z1 t0⟩
def Bu(a0:(List Int))(a1:(List Int)):Option Bool :=
 (Iz a0 a1).bind fun r1=>
 some r1
instance (a0:(List Int))(a1:(List Int)):Cp (Bu a0 a1) 163 [Enc.pv a0,Enc.pv a1] Enc.pv:=⟨fun r h=>by
 unfold Bu at h;refine zG f163 ?_;exact w1 n0 (ep 2 z1) t0⟩
def Jbz(a0:(List Jf))(a1:(List Jf)):Int->Option (Int⊕(Unit⊕Bool)):=fun x3=>
 bif decide (x3<((a0.length:Nat):Int)) then (
  (ixO a0 x3).bind fun x6=>
  (ixO a1 x3).bind fun x7=>
  bif (!(Kd x6 x7)) then (
   some (.inr (.inr false))
  ) else (
   some (.inl (w64 (x3+1)))
  )
 ) else (
  some (.inr (.inl ()))
 )
def La(a0:(List Jf))(a1:(List Jf)):Option Bool :=
 bif (!(decide (((a0.length:Nat):Int)=((a1.length:Nat):Int)))) then (
  some false
 ) else (
  onInl (Jp (Jbz a0 a1) 0) fun _=>
  some true
 )
instance (a0:(List Jf))(a1:(List Jf)):Cp (La a0 a1) 164 [Enc.pv a0,Enc.pv a1] Enc.pv:=⟨fun r h=>by
 unfold La at h;refine zG f164 ?_;refine w1 a0 (el 1 .s) ?_;intro h;refine yl 1 a1 (w1 n0 (ec z1 s1) ?_);intro h;refine uN 26 0 [5] (fun s x3=>⟨(5,I6 x3)::gt s [0,1],[],[],[]⟩) h ?_ ?_
 ·intro x3 _ h;unfold Jbz at h;exact w1 a0 (.l 2 (ec (.i 2 (.i 3 (ec z1 z1))) .z)) t0
 intro _ s' h hs;exact w1 n0 z1 t0⟩
def Pq(a0:Jh)(a1:Jh):Option Bool :=
 bif (((((!(decide (a0.Name=a1.Name)))||(!(decide (a0.Entry=a1.Entry))))||(!(decide (a0.Exit=a1.Exit))))||(!(decide (a0.Approach=a1.Approach))))||(!(decide (a0.Length=a1.Length)))) then (
  some false
 ) else (
  (Dn a0.Path a1.Path).bind fun r1=>
  ((bif (!r1) then some true else (
   (Wx a0.Points a1.Points).bind fun r3=>
   some (!r3)
  ))).bind fun b2=>
  ((bif b2 then some true else (
   (Bu a0.Sections a1.Sections).bind fun r5=>
   some (!r5)
  ))).bind fun b4=>
  bif b4 then (
   some false
  ) else (
   (Dn a0.Over a1.Over).bind fun r6=>
   ((bif r6 then (
    (Wx a0.OverPoints a1.OverPoints).bind fun r8=>
    some r8
   ) else some false)).bind fun b7=>
   ((bif b7 then (
    (Bu a0.OverSections a1.OverSections).bind fun r10=>
    some r10
   ) else some false)).bind fun b9=>
   ((bif b9 then (
    (Wx a0.Flank a1.Flank).bind fun r12=>
    some r12
   ) else some false)).bind fun b11=>
   ((bif b11 then (
    (Bu a0.Guards a1.Guards).bind fun r14=>
    some r14
   ) else some false)).bind fun b13=>
   ((bif b13 then (
    (La a0.Gaps a1.Gaps).bind fun r16=>
    some r16
   ) else some false)).bind fun b15=>
   some b15
  )
 )
instance (a0:Jh)(a1:Jh):Cp (Pq a0 a1) 87 [Enc.pv a0,Enc.pv a1] Enc.pv:=⟨fun r h=>by
 unfold Pq at h;refine zG f87 ?_;exact w1 n0 (.e (.o 6 6 16 3 (.o 1 6 23 2 (.o 1 6 30 1 (.o 1 6 37 0 (ec z1 (.p 4 (.b 2 7 51 (.g 0 .z (.p 4 .z)) (.b 1 7 59 (.g 0 .z (.p 4 .z)) (ec z1 (.p 4 (.b 1 6 71 (.g 0 (.p 4 .z) .z) (.b 1 6 78 (.g 0 (.p 4 .z) .z) (.b 1 6 85 (.g 0 (.p 4 .z) .z) (.b 1 6 92 (.g 0 (.p 4 .z) .z) (.b 1 6 99 (.g 0 (.p 4 .z) .z) z1)))))))))))))))) t0⟩
def Pz(a0:Jq)(a1:Jq):Int->Option (Int⊕(Unit⊕Bool)):=fun x8=>
 bif decide (x8<((a0.Routes.length:Nat):Int)) then (
  (ixO a0.Routes x8).bind fun x12=>
  (ixO a1.Routes x8).bind fun x13=>
  (Pq x12 x13).bind fun r14=>
  bif (!r14) then (
   some (.inr (.inr false))
  ) else (
   some (.inl (w64 (x8+1)))
  )
 ) else (
  some (.inr (.inl ()))
 )
def Sa(a0:Jq)(a1:Jq):Option Bool :=
 ((bif (!(decide (((a0.Routes.length:Nat):Int)=((a1.Routes.length:Nat):Int)))) then some true else (
  (Ux a0.Points a1.Points).bind fun r2=>
  some (!r2)
 ))).bind fun b1=>
 ((bif b1 then some true else (
  (Ux a0.Homes a1.Homes).bind fun r4=>
  some (!r4)
 ))).bind fun b3=>
 bif ((b3||(!(decide (a0.Sections=a1.Sections))))||(!(decide (a0.Signals=a1.Signals)))) then (
  some false
 ) else (
  onInl (Jp (Pz a0 a1) 0) fun _=>
  some true
 )
instance (a0:Jq)(a1:Jq):Cp (Sa a0 a1) 37 [Enc.pv a0,Enc.pv a1] Enc.pv:=⟨fun r h=>by
 unfold Sa at h;refine zG f37 ?_;refine w1 a0.Routes (el 2 .s) ?_;intro h;refine yl 2 a1.Routes (w1 a0.Routes (.b 2 7 20 (.g 0 .z (.p 4 .z)) (.b 1 7 28 (.g 0 .z (.p 4 .z)) (.o 1 6 35 1 (.o 1 6 42 0 (ec z1 (.l 2 s1)))))) ?_);intro _ _ h;refine uN 62 0 [46] (fun s x8=>⟨(46,I6 x8)::gt s [2,3,45],gh s [2,3],[],[]⟩) h ?_ ?_
 ·intro x8 _ h;unfold Pz at h;exact w1 n0 (ec (ei 3 (.i 4 (.p 1 (ec z1 z1)))) .z) t0
 intro _ s' h hs;exact w1 n0 z1 t0⟩
def Cm(a0:(List Int)):Int->Option (Int⊕(Unit⊕Bool)):=fun x2=>
 bif decide (x2<((a0.length:Nat):Int)) then (
  (ixO a0 x2).bind fun x4=>
  bif ((decide (x4<(-1073741824)))||(decide (1073741824<x4))) then (
   some (.inr (.inr false))
  ) else (
   some (.inl (w64 (x2+1)))
  )
 ) else (
  some (.inr (.inl ()))
 )
def Wf(a0:(List Int)):Option Bool :=
 onInl (Jp (Cm a0) 0) fun _=>
 some true
instance (a0:(List Int)):Cp (Wf a0) 165 [Enc.pv a0] Enc.pv:=⟨fun r h=>by
 unfold Wf at h;refine zG f165 ?_;refine w1 a0 (el 1 s1) ?_;intro h;refine uN 18 0 [7] (fun s x2=>⟨(7,I6 x2)::gt s [5,6],[],[],[]⟩) h ?_ ?_
 ·intro x2 _ h;unfold Cm at h;exact w1 n0 (ec (.i 0 (.e (.o 3 3 16 0 (ec z1 z1)))) .z) t0
 intro _ s' h hs;exact w1 n0 z1 t0⟩
def Ma(a1:Jq)(a2:Je):(Bool×Int)->Option ((Bool×Int)⊕(Bool⊕Bool)):=fun (x16,x17)=>
 bif decide (x17<((a2.Routes.length:Nat):Int)) then (
  (ixO a2.Routes x17).bind fun x25=>
  ((bif decide (x25<0) then some true else (
   some (decide (((a1.Routes.length:Nat):Int)<=x25))
  ))).bind fun b26=>
  bif b26 then (
   some (.inr (.inr false))
  ) else (
   ((bif x16 then some true else (
    ((bif decide (a2.Origin<a2.Cut) then (
     (ixO a2.Ends x17).bind fun x29=>
     (ixO a1.Routes x25).bind fun x30=>
     some (decide (a2.Cut=(w64 (x29 - x30.Length))))
    ) else some false)).bind fun b28=>
    some b28
   ))).bind fun b27=>
   some (.inl (b27,w64 (x17+1)))
  )
 ) else (
  some (.inr (.inl x16))
 )
def Iq(a0:Ja)(a1:Jq)(a2:Je):Option Bool :=
 (Yz a0 a2.Steps).bind fun r1=>
 ((bif (!r1) then some true else (
  some (!(decide (((a2.Starts.length:Nat):Int)=((a2.Routes.length:Nat):Int))))
 ))).bind fun b2=>
 ((bif b2 then some true else (
  some (!(decide (((a2.Ends.length:Nat):Int)=((a2.Routes.length:Nat):Int))))
 ))).bind fun b3=>
 ((bif b3 then some true else (
  (Wf [a2.Origin,a2.At,a2.Min,a2.Cut]).bind fun r5=>
  some (!r5)
 ))).bind fun b4=>
 ((bif b4 then some true else (
  (Wf a2.Starts).bind fun r7=>
  some (!r7)
 ))).bind fun b6=>
 ((bif b6 then some true else (
  (Wf a2.Ends).bind fun r9=>
  some (!r9)
 ))).bind fun b8=>
 bif b8 then (
  some false
 ) else (
  onInl (Jp (Ma a1 a2) (decide (a2.CutSeq=0),0)) fun x24=>
  some x24
 )
instance (a0:Ja)(a1:Jq)(a2:Je):Cp (Iq a0 a1 a2) 90 [Enc.pv a0,Enc.pv a1,Enc.pv a2] Enc.pv:=⟨fun r h=>by
 unfold Iq at h;refine zG f90 ?_;refine w6 a2.Starts (ep 3 (.b 2 8 23 (.g 0 .z (.l 2 .s)) (.b 1 8 32 (.g 0 .z .s) (.b 1 12 45 (.g 0 .z (.p 9 .z)) (.b 1 5 51 (.g 0 .z (.p 2 .z)) (.b 1 5 57 (.g 0 .z (.p 2 .z)) (ec z1 s1))))))) ?_ ?_ ?_ t0 t0 t0
 ·intro _ _ h;exact yl 2 a2.Routes (w1 n0 .z t0)
 ·intro _ _ _ h;exact yl 2 a2.Ends (w1 a2.Routes (.l 2 .z) t0)
 intro _ _ _ _ _ _ h;refine yl 2 a2.Routes (w1 n0 s1 ?_);intro h;refine uL 105 0 (fun s (x16,x17)=>⟨(7,.bool x16)::(64,I6 x17)::gt s [4,5,62,63],gh s [4,5],[],[]⟩) (fun _ x24=>⟨[(7,.bool x24)],[],[],[]⟩) h ?_ ?_
 ·rintro ⟨x16,x17⟩ _ h;unfold Ma at h;exact w1 a1.Routes (ec (.i 1 (.e (.b 3 6 77 (.g 0 .z (.l 3 .z)) (ec z1 (.b 2 23 102 (.g 0 .z (.b 6 16 101 (.g 0 (.i 5 (.i 4 .z)) .z) .z)) z2))))) .z) t0
 intro x24 s' h hs;exact w1 n0 z1 t0⟩
def Np(a0:Jz)(a1:Jm):Int->Option (Int⊕(Unit⊕Bool)):=fun x3=>
 bif decide (x3<((a1.Tracks.length:Nat):Int)) then (
  (ixO a1.Tracks x3).bind fun x6=>
  (Iq a0.Layout a0.Table x6).bind fun r7=>
  bif (!r7) then (
   some (.inr (.inr false))
  ) else (
   some (.inl (w64 (x3+1)))
  )
 ) else (
  some (.inr (.inl ()))
 )
def Tx(a0:Jz)(a1:Jm):Option Bool :=
 onInl (Jp (Np a0 a1) 0) fun _=>
 some true
instance (a0:Jz)(a1:Jm):Cp (Tx a0 a1) 39 [Enc.pv a0,Enc.pv a1] Enc.pv:=⟨fun r h=>by
 unfold Tx at h;refine zG f39 ?_;refine w1 a1.Tracks (el 2 s1) ?_;intro h;refine uN 24 0 [9] (fun s x3=>⟨(9,I6 x3)::gt s [2,3,8],gh s [2,3],[],[]⟩) h ?_ ?_
 ·intro x3 _ h;unfold Np at h;exact w1 n0 (ec (ei 7 (.p 1 (ec z1 z1))) .z) t0
 intro _ s' h hs;exact w1 n0 z1 t0⟩
end
end PM
