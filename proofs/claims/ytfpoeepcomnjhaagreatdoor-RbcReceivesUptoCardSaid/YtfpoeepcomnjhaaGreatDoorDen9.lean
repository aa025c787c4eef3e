/-
 Plain functions for the program's functions, and the proofs that the program does them. Printed by den.py.
-/
import Derived.Test.YtfpoeepcomnjhaaGreatDoorDen8
namespace PM
noncomputable section
open Go Go.RowKit Go.Proofs
attribute [local irreducible] Ju pwp
def Jd7(a0:(List Jh))(a1:(List Jh)):Int->Option (Int⊕(Unit⊕Bool)):=fun x3=>
 bif decide (x3<((a0.length:Nat):Int)) then (
  (ixO a0 x3).bind fun x6=>
  (ixO a1 x3).bind fun x7=>
  bif (!(Pp x6 x7)) then (
   some (.inr (.inr false))
  ) else (
   some (.inl (w64 (x3+1)))
  )
 ) else (
  some (.inr (.inl ()))
 )
def Ts(a0:(List Jh))(a1:(List Jh)):Option Bool :=
 bif (!(decide (((a0.length:Nat):Int)=((a1.length:Nat):Int)))) then (
  some false
 ) else (
  onInl (Jq (Jd7 a0 a1) 0) fun _=>
  some true
 )
instance (a0:(List Jh))(a1:(List Jh)):Cp (Ts a0 a1) 107 [Enc.pv a0,Enc.pv a1] Enc.pv:=⟨fun r h=>by
 unfold Ts at h;refine zG Tryz.f107 ?_;refine w1 a0 (el 1 .s) ?_;intro h;refine yl 1 a1 (w1 a0 (ec z1 (.l 1 s1)) ?_);intro h;refine uN 26 0 [13] (fun s x3=>⟨(13,I6 x3)::gt s [0,1,12],[],[],[]⟩) h ?_ ?_
 ·intro x3 _ h;unfold Jd7 at h;exact w1 n0 (ec (ei 2 (.i 3 (ec z1 z1))) .z) t0
 intro _ s' h hs;exact w1 n0 z1 t0⟩
def Dc(a0:Jz)(a1:Jz):Int->Option (Int⊕(Unit⊕Bool)):=fun x6=>
 bif decide (x6<((a0.Links.length:Nat):Int)) then (
  (ixO a0.Links x6).bind fun x9=>
  (ixO a1.Links x6).bind fun x10=>
  bif (!(Jk3 x9 x10)) then (
   some (.inr (.inr false))
  ) else (
   some (.inl (w64 (x6+1)))
  )
 ) else (
  some (.inr (.inl ()))
 )
def Yc(a0:Jz)(a1:Jz):Option Bool :=
 ((bif ((!(decide (a0.Seq=a1.Seq)))||(!(decide (a0.End=a1.End)))) then some true else (
  (Ts a0.Profile a1.Profile).bind fun r2=>
  some (!r2)
 ))).bind fun b1=>
 ((bif b1 then some true else (
  some (!(decide (((a0.Links.length:Nat):Int)=((a1.Links.length:Nat):Int))))
 ))).bind fun b3=>
 bif b3 then (
  some false
 ) else (
  onInl (Jq (Dc a0 a1) 0) fun _=>
  some true
 )
instance (a0:Jz)(a1:Jz):Cp (Yc a0 a1) 55 [Enc.pv a0,Enc.pv a1] Enc.pv:=⟨fun r h=>by
 unfold Yc at h;refine zG Tryz.f55 ?_;refine w6 a0.Links (.e (.o 6 6 17 0 (.b 1 7 25 (.g 0 .z (.p 4 .z)) (.b 1 8 34 (.g 0 .z (.l 2 .s)) (ec z1 (.l 2 s1)))))) ?_ ?_ t0 t0 t0 t0
 ·intro _ _ h;exact yl 2 a1.Links (w1 n0 .z t0)
 intro _ _ h;refine uN 53 0 [38] (fun s x6=>⟨(38,I6 x6)::gt s [2,3,37],gh s [2,3],[],[]⟩) h ?_ ?_
 ·intro x6 _ h;unfold Dc at h;exact w1 n0 (ec (ei 3 (.i 4 (ec z1 z1))) .z) t0
 intro _ s' h hs;exact w1 n0 z1 t0⟩
def Lk(a0:Jj)(a1:Int):Int->Option (Int⊕(Unit⊕Int)):=fun x2=>
 bif decide (x2<((a0.Tracks.length:Nat):Int)) then (
  (ixO a0.Tracks x2).bind fun x4=>
  bif decide (x4.Id=a1) then (
   some (.inr (.inr x2))
  ) else (
   some (.inl (w64 (x2+1)))
  )
 ) else (
  some (.inr (.inl ()))
 )
def Eu(a0:Jj)(a1:Int):Option Int :=
 onInl (Jq (Lk a0 a1) 0) fun _=>
 some (-1)
instance (a0:Jj)(a1:Int):Cp (Eu a0 a1) 54 [Enc.pv a0,Enc.pv a1] Enc.pv:=⟨fun r h=>by
 unfold Eu at h;refine zG Tryz.f54 ?_;refine w1 n0 s2 ?_;intro h;refine uN 22 0 [5] (fun s x2=>⟨(5,I6 x2)::gt s [1,2],gh s [2],[],[]⟩) h ?_ ?_
 ·intro x2 _ h;unfold Lk at h;exact w1 a0.Tracks (.l 3 (ec (.i 3 (ec z1 z1)) .z)) t0
 intro _ s' h hs;exact w1 n0 z1 t0⟩
def Ky(a0:Int)(a1:Int)(a2:Int):Option Bool :=
 some ((decide (a1<=a0))&&(decide (a0<=a2)))
instance (a0:Int)(a1:Int)(a2:Int):Cp (Ky a0 a1 a2) 109 [Enc.pv a0,Enc.pv a1,Enc.pv a2] Enc.pv:=⟨fun r h=>by
 unfold Ky at h;refine zG Tryz.f109 ?_;exact w1 n0 (.e (.o 4 4 14 0 z1)) t0⟩
def Fp(a0:Int):Option Bool :=
 some ((decide (a0=2))||(decide (a0=3)))
instance (a0:Int):Cp (Fp a0) 187 [Enc.pv a0] Enc.pv:=⟨fun r h=>by
 unfold Fp at h;refine zG Tryz.f187 ?_;exact w1 n0 (.e (.o 3 3 8 0 z1)) t0⟩
def Gn(a0:Jo):Int->Option (Int⊕(Unit⊕Bool)):=fun x13=>
 bif decide (x13<((a0.Auth.Links.length:Nat):Int)) then (
  (ixO a0.Auth.Links x13).bind fun x18=>
  (Ky x18.Id 1 1073741824).bind fun r19=>
  ((bif (!r19) then some true else (
   (Ky x18.At (-1073741824) 1073741824).bind fun r21=>
   some (!r21)
  ))).bind fun b20=>
  bif b20 then (
   some (.inr (.inr false))
  ) else (
   some (.inl (w64 (x13+1)))
  )
 ) else (
  some (.inr (.inl ()))
 )
def Yi(a0:Jo):Option Bool :=
 (Fp a0.Kind).bind fun r1=>
 bif (!r1) then (
  ((bif ((decide (a0.Auth.Seq=0))&&(decide (a0.Auth.End=0))) then (
   some (decide (((a0.Auth.Profile.length:Nat):Int)=0))
  ) else some false)).bind fun b2=>
  ((bif b2 then (
   some (decide (((a0.Auth.Links.length:Nat):Int)=0))
  ) else some false)).bind fun b3=>
  some b3
 ) else (
  (Ky a0.Auth.Seq 1 1073741824).bind fun r4=>
  ((bif (!r4) then some true else (
   (Ky a0.Auth.End (-1073741824) 1073741824).bind fun r6=>
   some (!r6)
  ))).bind fun b5=>
  bif b5 then (
   some false
  ) else (
   (Ww a0.Auth.Profile).bind fun r7=>
   ((bif (!r7) then some true else (
    some (decide (24<((a0.Auth.Links.length:Nat):Int)))
   ))).bind fun b8=>
   bif b8 then (
    some false
   ) else (
    onInl (Jq (Gn a0) 0) fun _=>
    some true
   )
  )
 )
instance (a0:Jo):Cp (Yi a0) 110 [Enc.pv a0] Enc.pv:=⟨fun r h=>by
 unfold Yi at h;refine zG Tryz.f110 ?_;refine w6 a0.Auth.Profile (ee (.p 2 (ec (.o 4 4 19 0 (.b 1 5 25 (.g 0 (.l 2 .z) .z) (.b 1 5 31 (.g 0 .s .z) z1))) (.p 2 (.b 2 5 41 (.g 0 .z (.p 2 .z)) (ec z1 (.p 2 (.b 2 5 51 (.g 0 .z .s) (ec z1 .s))))))))) ?_ ?_ ?_ t0 t0 t0
 ·intro _ _ _ h;exact yl 2 a0.Auth.Links (w1 n0 .z t0)
 ·intro _ _ _ _ _ h;exact yl 2 a0.Auth.Links (w1 n0 .z t0)
 intro _ _ _ _ _ h;refine yl 2 a0.Auth.Links (w1 n0 s1 ?_);intro h;refine uN 70 0 [55] (fun s x13=>⟨(55,I6 x13)::gt s [53,54],[],[],[]⟩) h ?_ ?_
 ·intro x13 _ h;unfold Gn at h;exact w1 n0 (ec (.i 0 (ep 2 (.b 2 5 68 (.g 0 .z (.p 2 .z)) (ec z1 z1)))) .z) t0
 intro _ s' h hs;exact w1 n0 z1 t0⟩
def Br(a0:Jo):Option Bool :=
 bif (!(decide (a0.Kind=1))) then (
  some (Lw a0.Report (Ki.mk 0 0 0 0 false))
 ) else (
  (Ky a0.Report.Min (-1073741824) 1073741824).bind fun r1=>
  ((bif r1 then (
   (Ky a0.Report.Speed 0 1073741824).bind fun r3=>
   some r3
  ) else some false)).bind fun b2=>
  ((bif b2 then (
   (Ky a0.Report.Mode 1 7).bind fun r5=>
   some r5
  ) else some false)).bind fun b4=>
  ((bif b4 then (
   (Ky a0.Report.Accepted 0 1073741824).bind fun r7=>
   some r7
  ) else some false)).bind fun b6=>
  some b6
 )
instance (a0:Jo):Cp (Br a0) 111 [Enc.pv a0] Enc.pv:=⟨fun r h=>by
 unfold Br at h;refine zG Tryz.f111 ?_;exact w1 n0 (ee (ec z1 (.p 2 (.b 1 4 19 (.g 0 (.p 2 .z) .z) (.b 1 4 24 (.g 0 (.p 2 .z) .z) (.b 1 4 29 (.g 0 (.p 2 .z) .z) z1)))))) t0⟩
end
end PM
