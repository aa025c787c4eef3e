/-
 Plain functions for the program's functions, and the proofs that the program does them. Printed by den.py.
-/
import Derived.Test.YtfpoeepcomnjhaaGreatDoorDen7
namespace PM
noncomputable section
open Go Go.RowKit Go.Proofs Go.Proofs.Tryz
attribute [local irreducible] Jy pwp
def Ni(a0:Jz):Int->Option (Int⊕(Unit⊕Bool)):=fun x7=>
 bif decide (x7<((a0.Trains.length:Nat):Int)) then (
  (ixO a0.Trains x7).bind fun x10=>
  (Gp x10).bind fun r11=>
  bif (!(decide (r11=0))) then (
   some (.inr (.inr false))
  ) else (
   some (.inl (w64 (x7+1)))
  )
 ) else (
  some (.inr (.inl ()))
 )
def Mj(a0:Jz):Option Bool :=
 (Bm a0.Layout).bind fun r1=>
 (Mu a0).bind fun r2=>
 ((bif ((!r2)||(!(decide (r1.2=0)))) then some true else (
  (Sa r1.1 a0.Table).bind fun r4=>
  some (!r4)
 ))).bind fun b3=>
 bif b3 then (
  some false
 ) else (
  onInl (Jp (Ni a0) 0) fun _=>
  (Tx a0 a0.Center).bind fun r12=>
  some r12
 )
instance (a0:Jz):Cp (Mj a0) 13 [Enc.pv a0] Enc.pv:=⟨fun r h=>by
 unfold Mj at h;refine zG f13 ?_;refine w1 a0.Trains (ep 2 (ep 1 (.o 2 3 18 0 (.b 1 6 25 (.g 0 .z (.p 3 .z)) (ec z1 (.l 2 s1)))))) ?_;intro _ _ _ h;refine uN 44 0 [29] (fun s x7=>⟨(29,I6 x7)::gt s [1,28],gh s [1],[],[]⟩) h ?_ ?_
 ·intro x7 _ h;unfold Ni at h;exact w1 n0 (ec (ei 3 (.p 1 (ec z1 z1))) .z) t0
 intro _ s' h hs;exact w1 n0 (.p 3 z1) t0⟩
def Em(a0:Jm):Option Bool :=
 some (decide (((a0.Tracks.length:Nat):Int)=((a0.Sessions.length:Nat):Int)))
instance (a0:Jm):Cp (Em a0) 23 [Enc.pv a0] Enc.pv:=⟨fun r h=>by
 unfold Em at h;refine zG f23 ?_;refine w1 a0.Tracks (el 2 .s) ?_;intro h;refine yl 2 a0.Sessions ?_;exact w1 n0 z1 t0⟩
def Ig(a0:Je):Option Je :=
 (Qi ([]:(List Jb)) a0.Steps).bind fun x1=>
 (Qi ([]:(List Int)) a0.Routes).bind fun x2=>
 (Qi ([]:(List Int)) a0.Starts).bind fun x3=>
 (Qi ([]:(List Int)) a0.Ends).bind fun x4=>
 (Qi ([]:(List Int)) a0.Done).bind fun x5=>
 some (Je.mk a0.Id a0.Origin a0.End a0.At x1 x2 x3 x4 x5 a0.Min a0.Sent a0.Accepted a0.Cut a0.CutSeq)
instance (a0:Je):Cp (Ig a0) 104 [Enc.pv a0] Enc.pv:=⟨fun r h=>by
 unfold Ig at h;refine zG f104 ?_;refine w1 n0 X1 ?_;intro _ h1 h;refine zR 3 (Cr (tk:=6) h1 kr (w1 n0 X1 ?_));intro _ h2 h;refine zR 3 (Cr (tk:=11) h2 kr (w1 n0 X1 ?_));intro _ h3 h;refine zR 3 (Cr (tk:=16) h3 kr (w1 n0 X1 ?_));intro _ h4 h;refine zR 3 (Cr (tk:=21) h4 kr (w1 n0 X1 ?_));intro _ h5 h;refine zR 3 (Cr (tk:=26) h5 kr ?_);exact w1 n0 z2 t0⟩
def Lt(a1:Jx)(r1:Je):(Int×(List Int))->Option ((Int×(List Int))⊕((List Int)⊕Je)):=fun (x33,x34)=>
 bif decide (x33<((r1.Done.length:Nat):Int)) then (
  onInl (α:=(List Int)) (β:=((Int×(List Int))⊕((List Int)⊕Je))) (
   (ixO r1.Done x33).bind fun x59=>
   ((bif decide (0<=x59) then (
    some (decide (x59<((a1.Routes.length:Nat):Int)))
   ) else some false)).bind fun b60=>
   ((bif b60 then (
    (ixO a1.Routes x59).bind fun x62=>
    ((bif decide (x62.State=3) then some true else (
     (ixO a1.Routes x59).bind fun x64=>
     some (decide (x64.State=4))
    ))).bind fun b63=>
    some b63
   ) else some false)).bind fun b61=>
   bif b61 then (
    (Qi x34 [x59]).bind fun x65=>
    some (.inl x65)
   ) else (
    some (.inl x34)
   )
  ) fun x58=>
  some (.inl (w64 (x33+1),x58))
 ) else (
  some (.inr (.inl x34))
 )
def Ej(a0:Je)(a1:Jx):Option Je :=
 (Ig a0).bind fun r1=>
 onInl (Jp (Lt a1 r1) (0,[])) fun x50=>
 some (Je.mk r1.Id r1.Origin r1.End r1.At r1.Steps r1.Routes r1.Starts r1.Ends x50 r1.Min r1.Sent r1.Accepted r1.Cut r1.CutSeq)
instance (a0:Je)(a1:Jx):Cp (Ej a0 a1) 48 [Enc.pv a0,Enc.pv a1] Enc.pv:=⟨fun r h=>by
 unfold Ej at h;refine zG f48 ?_;refine w1 n0 (ep 1 s2) ?_;intro r1 h;refine yl 2 r1.Done (w1 n0 S1 ?_);intro h;refine Jo (Ko (Wz 5 100005 1 8 kr kr ?_));refine uM 52 0 [13] (fun s (x33,x34)=>⟨(5,Ji (.own 100005) x34)::(13,I6 x33)::gt s [2,3,4,11,12],gh s [2,3,4],[(100005,(((x34).map cellsOf).length,1))],[]⟩) h ?_ ?_
 ·rintro ⟨x33,x34⟩ _ h;unfold Lt at h;refine w1 n0 (ec .s .z) ?_;intro h;refine uJ 52 (fun s x58=>⟨(5,Ji (.own 100005) x58)::gt s [2,3,4,11,12,13],gh s [2,3,4],[(100005,(((x58).map cellsOf).length,1))],[]⟩) h ?_ ?_
  ·intro _ h;exact w1 a1.Routes (.i 0 (.e (.b 3 6 25 (.g 0 (.l 3 .z) .z) (.b 1 17 43 (.g 0 (.i 3 (.b 4 8 42 (.g 0 .z (.i 3 .z)) .z)) .z) (ec (.w 3 z1) .z))))) t0
  intro x58 h;exact w1 n0 z1 t0
 intro x50 s' h hs;exact w1 n0 z2 t0⟩
def Fd(a0:Jm)(a1:Int)(a2:Je)(a3:Jl):Option Jm :=
 (Qi ([]:(List Je)) a0.Tracks).bind fun x1=>
 (Qi ([]:(List Jl)) a0.Sessions).bind fun x2=>
 (Wd 0 (((x1:(List Je)).map cellsOf).length) a1).bind fun j3=>
 (Vd x1 (((x1:(List Je)).map cellsOf).length) j3).bind fun x4=>
 (Wd 0 (((x2:(List Jl)).map cellsOf).length) a1).bind fun j5=>
 (Vd x2 (((x2:(List Jl)).map cellsOf).length) j5).bind fun x6=>
 some (Jm.mk (x1.set j3 a2) (x2.set j5 a3))
instance (a0:Jm)(a1:Int)(a2:Je)(a3:Jl):Cp (Fd a0 a1 a2 a3) 47 [Enc.pv a0,Enc.pv a1,Enc.pv a2,Enc.pv a3] Enc.pv:=⟨fun r h=>by
 unfold Fd at h;refine zG f47 ?_;refine w1 n0 X1 ?_;intro x1 h1 h;refine zR 3 (Jnx (tk:=14) (x:=.lst .full 14 192 []) h1 (.inr ⟨_,_,rfl⟩) kr kr (w1 n0 X1 ?_));intro x2 h2 h;refine zR 3 (Jnx (tk:=18) (x:=.lst .full 4 32 []) h2 (.inr ⟨_,_,rfl⟩) kr kr (w1 n0 (.e (.j 3 .x)) ?_));intro j3 _ h4 h;refine yst 0 14 a2 0 14 h4 (w1 n0 (.e (.j 3 .x)) ?_);intro j5 _ h6 h;refine yst 0 18 a3 0 4 h6 (w1 n0 S2 ?_);intro h;refine Jo (Qk (Dc (xss:=((x1.set j3 a2):(List Je)).map cellsOf) 14 14 192 ((x1.map cellsOf).length) [9,14,19,27] [(8,0)] kr kr kr kr) (Qk (Dc (xss:=((x2.set j5 a3):(List Jl)).map cellsOf) 18 4 32 ((x2.map cellsOf).length) [10,18,23,28] [(8,1)] kr kr kr kr) ?_));exact w1 n0 .z t0⟩
def Ht(a0:(List Je))(a1:Int):Int->Option (Int⊕(Unit⊕Bool)):=fun x3=>
 bif decide (x3<((a0.length:Nat):Int)) then (
  (ixO a0 x3).bind fun x6=>
  (Oq x6.Routes a1).bind fun r7=>
  bif r7 then (
   some (.inr (.inr true))
  ) else (
   some (.inl (w64 (x3+1)))
  )
 ) else (
  some (.inr (.inl ()))
 )
def Gj(a0:(List Je))(a1:Int):Option Bool :=
 onInl (Jp (Ht a0 a1) 0) fun _=>
 some false
instance (a0:(List Je))(a1:Int):Cp (Gj a0 a1) 180 [Enc.pv a0,Enc.pv a1] Enc.pv:=⟨fun r h=>by
 unfold Gj at h;refine zG f180 ?_;refine w1 n0 s2 ?_;intro h;refine uN 19 0 [5] (fun s x3=>⟨(5,I6 x3)::gt s [0,1],[],[],[]⟩) h ?_ ?_
 ·intro x3 _ h;unfold Ht at h;exact w1 a0 (.l 2 (ec (.i 2 (.p 3 (ec z1 z1))) .z)) t0
 intro _ s' h hs;exact w1 n0 z1 t0⟩
def Re(a0:Jq)(a1:Jx)(a2:(List Je))(a3:Je):Int->Option (Int⊕(Unit⊕Int)):=fun x7=>
 ((bif decide (x7<((a0.Routes.length:Nat):Int)) then (
  some (decide (x7<((a1.Routes.length:Nat):Int)))
 ) else some false)).bind fun b14=>
 bif b14 then (
  (ixO a1.Routes x7).bind fun x15=>
  ((bif decide (x15.State=2) then (
   (ixO a0.Routes x7).bind fun x17=>
   some (decide (x17.Entry=a3.End))
  ) else some false)).bind fun b16=>
  ((bif b16 then (
   (Gj a2 x7).bind fun r19=>
   some (!r19)
  ) else some false)).bind fun b18=>
  bif b18 then (
   some (.inr (.inr x7))
  ) else (
   some (.inl (w64 (x7+1)))
  )
 ) else (
  some (.inr (.inl ()))
 )
def Fo(a0:Jq)(a1:Jx)(a2:(List Je))(a3:Je):Option Int :=
 onInl (Jp (Re a0 a1 a2 a3) 0) fun _=>
 some (-1)
instance (a0:Jq)(a1:Jx)(a2:(List Je))(a3:Je):Cp (Fo a0 a1 a2 a3) 102 [Enc.pv a0,Enc.pv a1,Enc.pv a2,Enc.pv a3] Enc.pv:=⟨fun r h=>by
 unfold Fo at h;refine zG f102 ?_;refine w1 n0 s2 ?_;intro h;refine uN 49 0 [9] (fun s x7=>⟨(9,I6 x7)::gt s [2,4,5,7],gh s [4,5,7],[],[]⟩) h ?_ ?_
 ·intro x7 _ h;unfold Re at h;refine w1 a0.Routes (.l 3 (.b 2 6 21 (.g 0 .s .z) (ec (.i 3 (.b 4 10 41 (.g 0 (.i 3 .z) .z) (.b 1 5 47 (.g 0 (.p 2 .z) .z) (ec z1 z1)))) .z))) ?_;intro _ h;exact yl 3 a1.Routes (w1 n0 .z t0)
 intro _ s' h hs;exact w1 n0 z1 t0⟩
def Jh3(a0:(List Int))(a1:Int):Int->Option (Int⊕(Unit⊕Bool)):=fun x2=>
 bif decide (x2<((a0.length:Nat):Int)) then (
  (ixO a0 x2).bind fun x4=>
  bif decide (x4=a1) then (
   some (.inr (.inr true))
  ) else (
   some (.inl (w64 (x2+1)))
  )
 ) else (
  some (.inr (.inl ()))
 )
def Jcz(a0:(List Int))(a1:Int):Option Bool :=
 onInl (Jp (Jh3 a0 a1) 0) fun _=>
 some false
instance (a0:(List Int))(a1:Int):Cp (Jcz a0 a1) 123 [Enc.pv a0,Enc.pv a1] Enc.pv:=⟨fun r h=>by
 unfold Jcz at h;refine zG f123 ?_;refine w1 a0 (el 1 s1) ?_;intro h;refine uN 17 0 [9] (fun s x2=>⟨(9,I6 x2)::gt s [1,7,8],[],[],[]⟩) h ?_ ?_
 ·intro x2 _ h;unfold Jh3 at h;exact w1 n0 (ec (.i 0 (ee (.c z1 z1))) .z) t0
 intro _ s' h hs;exact w1 n0 z1 t0⟩
def En(a2:Je)(x49:Jb):Int->Option (Int⊕(Unit⊕(Int⊕((Int×Int)⊕(Int⊕(Je×Int)))))):=fun x51=>
 bif decide (x51<((a2.Steps.length:Nat):Int)) then (
  (ixO a2.Steps x51).bind fun x53=>
  bif decide (x53.El=x49.El) then (
   some (.inr (.inr (.inr (.inr (.inr ((Je.mk 0 0 0 0 [] [] [] [] [] 0 0 0 0 0),8))))))
  ) else (
   some (.inl (w64 (x51+1)))
  )
 ) else (
  some (.inr (.inl ()))
 )
def Mc(a0:Ja)(a2:Je)(x2:Jh):(Int×Int)->Option ((Int×Int)⊕(Int⊕(Je×Int))):=fun (x20,x21)=>
 bif decide (x21<((x2.Path.length:Nat):Int)) then (
  onInl (α:=Int) (β:=((Int×Int)⊕(Int⊕(Je×Int)))) (
   (ixO x2.Path x21).bind fun x49=>
   onInl (Jp (En a2 x49) 0) fun _=>
   (Vt a0 x49.El).bind fun r54=>
   (ixO x2.Sections (w64 (((x2.Sections.length:Nat):Int) - 1))).bind fun x55=>
   bif decide (r54=x55) then (
    (ixO a0.Elements x49.El).bind fun x56=>
    some (.inl (w64 (x20+x56.Length)))
   ) else (
    some (.inl x20)
   )
  ) fun x48=>
  some (.inl (x48,w64 (x21+1)))
 ) else (
  some (.inr (.inl x20))
 )
def Bz(a0:Ja)(a1:Jq)(a2:Je)(a3:Int):Option (Je×Int) :=
 ((bif decide (a3<0) then some true else (
  some (decide (((a1.Routes.length:Nat):Int)<=a3))
 ))).bind fun b1=>
 bif b1 then (
  some ((Je.mk 0 0 0 0 [] [] [] [] [] 0 0 0 0 0),1)
 ) else (
  (ixO a1.Routes a3).bind fun x2=>
  bif (!(decide (a2.CutSeq=0))) then (
   some ((Je.mk 0 0 0 0 [] [] [] [] [] 0 0 0 0 0),11)
  ) else (
   bif ((decide (a2.End=(-1)))||(!(decide (a2.End=x2.Entry)))) then (
    some ((Je.mk 0 0 0 0 [] [] [] [] [] 0 0 0 0 0),10)
   ) else (
    onInl (Jp (Mc a0 a2 x2) (0,0)) fun x39=>
    (Jcz a2.Routes a3).bind fun r57=>
    bif r57 then (
     some ((Je.mk 0 0 0 0 [] [] [] [] [] 0 0 0 0 0),8)
    ) else (
     bif ((decide (64<(w64 (((a2.Steps.length:Nat):Int)+((x2.Path.length:Nat):Int)))))||(decide (1073741824<(w64 (a2.At+x2.Length))))) then (
      some ((Je.mk 0 0 0 0 [] [] [] [] [] 0 0 0 0 0),2)
     ) else (
      Option.bind (α:=((List Jb)×(List Int)×(List Int)×(List Int)×(List Int))) (
       (Qi ([]:(List Jb)) a2.Steps).bind fun x68=>
       (Qi ([]:(List Int)) a2.Routes).bind fun x69=>
       (Qi ([]:(List Int)) a2.Starts).bind fun x70=>
       (Qi ([]:(List Int)) a2.Ends).bind fun x71=>
       (Qi ([]:(List Int)) a2.Done).bind fun x72=>
       some (x68,x69,x70,x71,x72)
      ) fun (x63,x64,x65,x66,x67)=>
      (Qi x63 x2.Path).bind fun x73=>
      (Qi x64 [a3]).bind fun x74=>
      (Qi x66 [w64 (a2.At+x2.Length)]).bind fun x75=>
      (Qi x65 [w64 ((w64 (a2.At+x2.Length)) - x39)]).bind fun x76=>
      some ((Je.mk a2.Id a2.Origin x2.Exit (w64 (a2.At+x2.Length)) x73 x74 x76 x75 x67 a2.Min a2.Sent a2.Accepted a2.Cut a2.CutSeq),0)
     )
    )
   )
  )
 )
set_option maxRecDepth 100000 in
instance (a0:Ja)(a1:Jq)(a2:Je)(a3:Int):Cp (Bz a0 a1 a2 a3) 103 [Enc.pv a0,Enc.pv a1,Enc.pv a2,Enc.pv a3] (fun r=>.tup [Enc.pv r.1,Enc.pv r.2]):=⟨fun r h=>by
 unfold Bz at h;refine zG f103 ?_;refine w1 a1.Routes (.e (.b 3 6 24 (.g 0 .z (.l 3 .z)) (ec z1 (.i 3 (ee (.c z1 (.o 4 6 44 0 (ec z1 s1)))))))) ?_;intro _ x2 h;refine yl 2 x2.Path (w1 n0 s1 ?_);intro h;refine uL 152 0 (fun s (x20,x21)=>⟨(11,I6 x20)::(49,I6 x21)::gt s [3,4,6,8,10,47,48],gh s [4,6,8,10],[],[]⟩) (fun s x39=>⟨(11,I6 x39)::gt s [3,6,8,10],gh s [6,8,10],[],[]⟩) h ?_ ?_
 ·rintro ⟨x20,x21⟩ _ h;unfold Mc at h;refine w1 n0 (ec .s .z) ?_;intro h;refine uJ 152 (fun s x48=>⟨(11,I6 x48)::gt s [3,4,6,8,10,47,48,49],gh s [4,6,8,10],[],[]⟩) h ?_ ?_
  ·intro _ h;refine w1 a2.Steps (.i 0 (el 2 s1)) ?_;intro _ h;refine uN 152 2 [56] (fun s x51=>⟨(56,I6 x51)::gt s [3,4,6,8,10,11,13,47,48,49,54,55],gh s [4,6,8,10,13],[],[]⟩) h ?_ ?_
   ·intro x51 _ h;unfold En at h;exact w1 n0 (ec (.i 0 (ee (.c z1 z1))) .z) t0
   intro _ s' h hs;exact w1 x2.Sections (.p 3 (.l 4 (.i 1 (ec (.i 5 z1) .z)))) t0
  intro x48 h;exact w1 n0 z1 t0
 intro x39 s' h hs;refine w1 a2.Steps (.p 3 (ec z1 (.l 2 .s))) ?_;intro _ h;refine yl 2 x2.Path (w1 n0 (.o 3 7 110 0 (ec z1 .S)) ?_);intro h;refine Vb (Jo (Kj (Jit (Py 0 1 (w1 n0 S1 ?_)))));intro h;refine Dz 1 ⟨[(3,I6 a3),(6,.ref 1006 0),(8,.ref 1008 0),(10,.ref 1010 0),(11,I6 x39),(112,Enc.pv a2)],[(1006,.cells (cellsOf a2)),(1008,.cells ([I6 0,I6 0,I6 0,I6 0,.nil,.nil,.nil,.nil,.nil,I6 0,I6 0,I6 0,I6 0,I6 0])),(1010,.cells (cellsOf x2))],[],[]⟩ 152 kr kr kr ?_;obtain ⟨o122,h122,h⟩:=Ve h;refine Jpb (f:=104) (asx:=[Enc.pv a2]) kr func104 (by rfl) rfl ntmps104 (by rfl) ?_;refine Jey o122 15200181 (fun (x63,x64,x65,x66,x67)=>⟨[(2,.ref 2 0),(32,I6 a3),(35,.ref 1006 0),(37,.ref 1008 0),(39,.ref 1010 0),(40,I6 x39)],[(2,.cells ([I6 a2.Id,I6 a2.Origin,I6 a2.End,I6 a2.At,Ji (.own 6) x63,Ji (.own 11) x64,Ji (.own 16) x65,Ji (.own 21) x66,Ji (.own 26) x67,I6 a2.Min,I6 a2.Sent,I6 a2.Accepted,I6 a2.Cut,I6 a2.CutSeq])),(1006,.cells (cellsOf a2)),(1008,.cells ([I6 0,I6 0,I6 0,I6 0,.nil,.nil,.nil,.nil,.nil,I6 0,I6 0,I6 0,I6 0,I6 0])),(1010,.cells (cellsOf x2))],[(6,(((x63).map cellsOf).length,3)),(11,(((x64).map cellsOf).length,1)),(16,(((x65).map cellsOf).length,1)),(21,(((x66).map cellsOf).length,1)),(26,(((x67).map cellsOf).length,1))],[]⟩) ?_ ?_
 ·have h:=h122;refine w1 n0 X1 ?_;intro _ h123 h;refine zR 3 (Cr (tk:=6) h123 kr (w1 n0 X1 ?_));intro _ h124 h;refine zR 3 (Cr (tk:=11) h124 kr (w1 n0 X1 ?_));intro _ h125 h;refine zR 3 (Cr (tk:=16) h125 kr (w1 n0 X1 ?_));intro _ h126 h;refine zR 3 (Cr (tk:=21) h126 kr (w1 n0 X1 ?_));intro _ h127 h;refine zR 3 (Cr (tk:=26) h127 kr (w1 n0 s2 ?_));intro h;cases h;exact Jv7 kr kr
 obtain ⟨x63,x64,x65,x66,x67⟩:=o122;refine Jo1 (r:=.agg [I6 a2.Id,I6 a2.Origin,I6 a2.End,I6 a2.At,Ji (.own 6) x63,Ji (.own 11) x64,Ji (.own 16) x65,Ji (.own 21) x66,Ji (.own 26) x67,I6 a2.Min,I6 a2.Sent,I6 a2.Accepted,I6 a2.Cut,I6 a2.CutSeq]) kr (Dz 2 ⟨[(3,I6 a3),(6,.ref 1006 0),(8,.ref 1008 0),(10,.ref 1010 0),(11,I6 x39),(113,.agg [I6 a2.Id,I6 a2.Origin,I6 a2.End,I6 a2.At,Ji (.own 2000006) x63,Ji (.own 2000011) x64,Ji (.own 2000016) x65,Ji (.own 2000021) x66,Ji (.own 2000026) x67,I6 a2.Min,I6 a2.Sent,I6 a2.Accepted,I6 a2.Cut,I6 a2.CutSeq])],[(1006,.cells (cellsOf a2)),(1008,.cells ([I6 0,I6 0,I6 0,I6 0,.nil,.nil,.nil,.nil,.nil,I6 0,I6 0,I6 0,I6 0,I6 0])),(1010,.cells (cellsOf x2))],[(2000006,(((x63).map cellsOf).length,3)),(2000011,(((x64).map cellsOf).length,1)),(2000016,(((x65).map cellsOf).length,1)),(2000021,(((x66).map cellsOf).length,1)),(2000026,(((x67).map cellsOf).length,1))],[]⟩ 152 kr kr kr ?_);refine Dz 1 ⟨[(3,I6 a3),(6,.ref 6 0),(8,.ref 8 0),(10,.ref 10 0),(11,I6 x39),(113,.agg [I6 a2.Id,I6 a2.Origin,I6 a2.End,I6 a2.At,Ji (.own 2000006) x63,Ji (.own 2000011) x64,Ji (.own 2000016) x65,Ji (.own 2000021) x66,Ji (.own 2000026) x67,I6 a2.Min,I6 a2.Sent,I6 a2.Accepted,I6 a2.Cut,I6 a2.CutSeq])],[(6,.cells (cellsOf a2)),(8,.cells ([I6 0,I6 0,I6 0,I6 0,.nil,.nil,.nil,.nil,.nil,I6 0,I6 0,I6 0,I6 0,I6 0])),(10,.cells (cellsOf x2))],[(2000006,(((x63).map cellsOf).length,3)),(2000011,(((x64).map cellsOf).length,1)),(2000016,(((x65).map cellsOf).length,1)),(2000021,(((x66).map cellsOf).length,1)),(2000026,(((x67).map cellsOf).length,1))],[]⟩ 152 kr kr kr (Py 2 1 (w1 n0 S1 ?_));intro h;refine Ji4 (Jo (Kj (Wp ?_)));exact w1 n0 (ee (.w 4 (ew 4 (ew 5 (ew 7 z2))))) t0⟩
def Fc(a0:Ja)(a1:Jq)(a2:Jx)(a4:Int):(Int×Jm)->Option ((Int×Jm)⊕(((List Je)×(List Jl))⊕Jm)):=fun (x6,x7)=>
 bif decide (x6<((a1.Routes.length:Nat):Int)) then (
  (ixO x7.Tracks a4).bind fun x15=>
  (Fo a1 a2 x7.Tracks x15).bind fun r16=>
  bif (((!(decide (x15.CutSeq=0)))||(decide (x15.End=(-1))))||(decide (r16<0))) then (
   some (.inr (.inr x7))
  ) else (
   (Bz a0 a1 x15 r16).bind fun r17=>
   bif (!(decide (r17.2=0))) then (
    some (.inr (.inr x7))
   ) else (
    (ixO x7.Sessions a4).bind fun x18=>
    (Fd x7 a4 r17.1 x18).bind fun r19=>
    some (.inl (w64 (x6+1),r19))
   )
  )
 ) else (
  some (.inr (.inl (x7.Tracks,x7.Sessions)))
 )
def Bw(a0:Ja)(a1:Jq)(a2:Jx)(a3:Jm)(a4:Int):Option Jm :=
 onInl (Jp (Fc a0 a1 a2 a4) (0,a3)) fun (x13,x14)=>
 some (Jm.mk x13 x14)
instance (a0:Ja)(a1:Jq)(a2:Jx)(a3:Jm)(a4:Int):Cp (Bw a0 a1 a2 a3 a4) 46 [Enc.pv a0,Enc.pv a1,Enc.pv a2,Enc.pv a3,Enc.pv a4] Enc.pv:=⟨fun r h=>by
 unfold Bw at h;refine zG f46 ?_;refine w1 n0 s2 ?_;intro h;refine uL 68 0 (fun s (x6,x7)=>⟨(11,I6 x6)::gt s [4,5,6,7,8,10],(8,.cells (cellsOf x7))::gh s [5,6,7,10],[],[]⟩) (fun s (x13,x14)=>⟨gt s [8,10],(8,.cells ([Ji .frozen x13,Ji .frozen x14]))::gh s [10],[],[]⟩) h ?_ ?_
 ·rintro ⟨x6,x7⟩ _ h;unfold Fc at h;exact w1 a1.Routes (.l 3 (ec (.i 3 (ep 5 (.e (.o 4 4 41 1 (.o 1 3 45 0 (ec z1 (.p 4 (ee (.c z1 (.i 6 (.p 1 z2))))))))))) .z)) t0
 rintro ⟨x13,x14⟩ s' h hs;exact w1 n0 z1 t0⟩
def Tl(a2:Je):Int->Option (Int⊕(Int⊕Je)):=fun x4=>
 ((bif decide (x4<((a2.Routes.length:Nat):Int)) then (
  some (decide (x4<((a2.Ends.length:Nat):Int)))
 ) else some false)).bind fun b9=>
 ((bif b9 then (
  (ixO a2.Ends x4).bind fun x11=>
  some (decide (x11<=a2.Cut))
 ) else some false)).bind fun b10=>
 bif b10 then (
  some (.inl (w64 (x4+1)))
 ) else (
  some (.inr (.inl x4))
 )
def Xg(a0:Ja)(a2:Je):(Int×Int×(List Jb))->Option ((Int×Int×(List Jb))⊕((List Jb)⊕Je)):=fun (x31,x32,x33)=>
 bif ((decide (x32<((a2.Steps.length:Nat):Int)))&&(decide (x31<a2.Cut))) then (
  (ixO a2.Steps x32).bind fun x39=>
  (Qi x33 [x39]).bind fun x40=>
  (slO a2.Steps (some x32) (some (w64 (x32+1))) none).bind fun x41=>
  (Cd a0 x41).bind fun r42=>
  some (.inl (w64 (x31+r42),w64 (x32+1),x40))
 ) else (
  some (.inr (.inl x33))
 )
def Jaa(a0:Ja)(a1:Jq)(a2:Je):Option Je :=
 onInl (Jp (Tl a2) 0) fun x8=>
 ((bif decide (((a2.Routes.length:Nat):Int)<=x8) then some true else (
  some (decide (((a2.Ends.length:Nat):Int)<=x8))
 ))).bind fun b12=>
 bif b12 then (
  some a2
 ) else (
  onInl (α:=Int) (β:=Je) (
   (ixO a2.Routes x8).bind fun x17=>
   ((bif decide (0<=x17) then (
    some (decide (x17<((a1.Routes.length:Nat):Int)))
   ) else some false)).bind fun b18=>
   bif b18 then (
    (ixO a1.Routes x17).bind fun x19=>
    some (.inl x19.Entry)
   ) else (
    some (.inl a2.End)
   )
  ) fun x16=>
  (slO a2.Routes none (some x8) none).bind fun x20=>
  onInl (Jp (Xg a0 a2) (a2.Origin,0,[])) fun x38=>
  some (Je.mk a2.Id a2.Origin x16 a2.Cut x38 x20 a2.Starts a2.Ends a2.Done a2.Min a2.Sent a2.Accepted a2.Cut a2.CutSeq)
 )
instance (a0:Ja)(a1:Jq)(a2:Je):Cp (Jaa a0 a1 a2) 105 [Enc.pv a0,Enc.pv a1,Enc.pv a2] Enc.pv:=⟨fun r h=>by
 unfold Jaa at h;refine zG f105 ?_;refine w1 n0 s2 ?_;intro h;refine uK 116 0 [] (fun s x4=>⟨(7,I6 x4)::gt s [3,4,5,6],gh s [3,4,5,6],[],[]⟩) h ?_ ?_
 ·intro x4 _ h;unfold Tl at h;refine w1 a2.Routes (.l 3 (.b 2 6 24 (.g 0 .s .z) (.b 1 9 34 (.g 0 (.i 3 .z) .z) (ec z1 .z)))) ?_;intro _ h;exact yl 3 a2.Ends (w1 n0 .z t0)
 intro x8 s' h hs;refine w6 a2.Routes (.l 3 (.b 2 6 48 (.g 0 .z .s) (ec z1 S2))) ?_ ?_ t0 t0 t0 t0
 ·intro _ h;exact yl 3 a2.Ends (w1 n0 .z t0)
 intro _ h;refine Jo ?_;refine uJ 116 (fun s x16=>⟨gt s [3,5,6,7,8],(8,.cells ([I6 a2.Id,I6 a2.Origin,I6 x16,I6 a2.Cut,Ji .frozen a2.Steps,Ji .frozen a2.Routes,Ji .frozen a2.Starts,Ji .frozen a2.Ends,Ji .frozen a2.Done,I6 a2.Min,I6 a2.Sent,I6 a2.Accepted,I6 a2.Cut,I6 a2.CutSeq]))::gh s [3,5,6],[],[]⟩) h ?_ ?_
 ·intro _ h;exact w1 a1.Routes (.i 3 (.e (.b 3 6 67 (.g 0 (.l 3 .z) .z) (ec (.i 3 z1) .z)))) t0
 intro x16 h;obtain ⟨x20,h20,h⟩:=Ve h;refine Kj (Wp (zR 3 (Jxb h20 .frozen kr kr kr (w1 n0 (ee S2) ?_))));intro h;refine Jo (Ko (Wz 10 100010 3 24 kr kr ?_));refine uL 116 2 (fun s (x31,x32,x33)=>⟨(10,Ji (.own 100010) x33)::(11,I6 x31)::(12,I6 x32)::gt s [3,5,6,8],gh s [3,5,6,8],[(100010,(((x33).map cellsOf).length,3))],[]⟩) (fun s x38=>⟨(10,Ji (.own 100010) x38)::gt s [6,8],gh s [6,8],[(100010,(((x38).map cellsOf).length,3))],[]⟩) h ?_ ?_
 ·rintro ⟨x31,x32,x33⟩ _ h;unfold Xg at h;refine w1 a2.Steps (.l 3 (.o 2 5 92 0 (ec (.i 4 (.w 2 X1)) .z))) ?_;intro _ _ _ h37 h;exact zR 7 (Jxb h37 .frozen kr kr kr (w1 n0 (.p 0 z2) t0))
 intro x38 s' h hs;exact w1 n0 z2 t0⟩
def Nk(a0:(List Jc)):Int->Option (Int⊕(Unit⊕Bool)):=fun x5=>
 bif decide (x5<((a0.length:Nat):Int)) then (
  (ixO a0 x5).bind fun x10=>
  ((bif (((((((decide (x10.From<(-1073741824)))||(decide (x10.To<=x10.From)))||(decide (1073741824<x10.To)))||(decide (x10.Grade<(-50))))||(decide (50<x10.Grade)))||(decide (x10.Speed<1)))||(decide (10000<x10.Speed))) then some true else (
   ((bif decide (0<x5) then (
    (ixO a0 (w64 (x5 - 1))).bind fun x13=>
    some (!(decide (x13.To=x10.From)))
   ) else some false)).bind fun b12=>
   some b12
  ))).bind fun b11=>
  bif b11 then (
   some (.inr (.inr false))
  ) else (
   some (.inl (w64 (x5+1)))
  )
 ) else (
  some (.inr (.inl ()))
 )
def Wo(a0:(List Jc)):Option Bool :=
 onInl (Jp (Nk a0) 0) fun _=>
 some (decide (((a0.length:Nat):Int)<=128))
instance (a0:(List Jc)):Cp (Wo a0) 191 [Enc.pv a0] Enc.pv:=⟨fun r h=>by
 unfold Wo at h;refine zG f191 ?_;refine w1 a0 (el 1 s1) ?_;intro h;refine uN 66 0 [7] (fun s x5=>⟨(7,I6 x5)::gt s [0,5,6],[],[],[]⟩) h ?_ ?_
 ·intro x5 _ h;unfold Nk at h;exact w1 n0 (ec (.i 1 (.e (.o 4 6 21 5 (.o 1 4 26 4 (.o 1 4 31 3 (.o 1 4 36 2 (.o 1 4 41 1 (.o 1 4 46 0 (.b 1 14 61 (.g 0 .z (.b 3 10 60 (.g 0 (.i 3 .z) .z) .z)) (ec z1 z1)))))))))) .z) t0
 intro _ s' h hs;exact w1 a0 (.l 1 z1) t0⟩
def Jbb(a0:Ja)(a1:(List Jb)):(Int×Int×(List Jc))->Option ((Int×Int×(List Jc))⊕((List Jc)⊕(List Jc))):=fun (x18,x19,x20)=>
 bif decide (x19<((a1.length:Nat):Int)) then (
  (ixO a1 x19).bind fun x29=>
  ((bif decide (x29.El<0) then some true else (
   some (decide (((a0.Elements.length:Nat):Int)<=x29.El))
  ))).bind fun b30=>
  bif b30 then (
   some (.inr (.inr ([]:(List Jc))))
  ) else (
   (ixO a0.Elements x29.El).bind fun x31=>
   (Bc x31.Kind x29.In x29.Out).bind fun r32=>
   bif (!r32.2) then (
    some (.inr (.inr ([]:(List Jc))))
   ) else (
    onInl (α:=Int) (β:=((Int×Int×(List Jc))⊕((List Jc)⊕(List Jc)))) (
     bif ((decide (x29.In=0))||((decide (x29.In=2))&&(decide (x31.Kind=3)))) then (
      some (.inl x31.Grade)
     ) else (
      some (.inl (w64 (0 - x31.Grade)))
     )
    ) fun x33=>
    onInl (α:=Int) (β:=((Int×Int×(List Jc))⊕((List Jc)⊕(List Jc)))) (
     bif ((decide (x31.Kind=2))&&((decide (x29.In=2))||(decide (x29.Out=2)))) then (
      some (.inl x31.Slow)
     ) else (
      some (.inl x31.Speed)
     )
    ) fun x34=>
    (Qi x20 [(Jc.mk x18 (w64 (x18+x31.Length)) x33 x34)]).bind fun x35=>
    some (.inl (w64 (x18+x31.Length),w64 (x19+1),x35))
   )
  )
 ) else (
  some (.inr (.inl x20))
 )
def Tc(a0:Ja)(a1:(List Jb))(a2:Int):Option (List Jc) :=
 ((bif ((decide (a2<(-1073741824)))||(decide (1073741824<a2))) then some true else (
  some (decide (128<((a1.length:Nat):Int)))
 ))).bind fun b1=>
 bif b1 then (
  some ([]:(List Jc))
 ) else (
  onInl (Jp (Jbb a0 a1) (a2,0,[])) fun x28=>
  (Wo x28).bind fun r36=>
  bif (!r36) then (
   some ([]:(List Jc))
  ) else (
   some x28
  )
 )
instance (a0:Ja)(a1:(List Jb))(a2:Int):Cp (Tc a0 a1 a2) 182 [Enc.pv a0,Enc.pv a1,Enc.pv a2] Enc.pv:=⟨fun r h=>by
 unfold Tc at h;refine zG f182 ?_;refine w1 a1 (.e (.o 3 3 19 0 (.b 1 4 24 (.g 0 .z (.l 1 .z)) (ec z1 (el 1 S1))))) ?_;intro _ h;refine Jo (Ko (Wz 7 100007 4 32 kr kr ?_));refine uL 114 0 (fun s (x18,x19,x20)=>⟨(2,I6 x18)::(7,Ji (.own 100007) x20)::(27,I6 x19)::gt s [3,25,26],gh s [3],[(100007,(((x20).map cellsOf).length,4))],[]⟩) (fun _ x28=>⟨[(7,Ji (.own 100007) x28)],[],[(100007,(((x28).map cellsOf).length,4))],[]⟩) h ?_ ?_
 ·rintro ⟨x18,x19,x20⟩ _ h;unfold Jbb at h;refine w1 a0.Elements (ec (.i 0 (.e (.b 4 7 41 (.g 0 .z (.l 4 .z)) (ec z1 (.i 4 (ep 6 (ee (.c z1 S1)))))))) .z) ?_;intro _ _ x31 _ h;refine Jo ?_;refine uJ 114 (fun s x33=>⟨gt s [3,7,9,10,13,25,26,27],(13,.cells ([I6 x18,I6 (w64 (x18+x31.Length)),I6 x33,I6 x31.Speed]))::gh s [3,9,10],gT s [100007],[]⟩) h ?_ ?_
  ·intro _ h;exact w1 n0 (.o 4 9 83 0 (ec z1 .z)) t0
  intro x33 h;refine uJ 114 (fun s x34=>⟨gt s [3,7,13,25,26,27],(13,.cells ([I6 x18,I6 (w64 (x18+x31.Length)),I6 x33,I6 x34]))::gh s [3],gT s [100007],[]⟩) h ?_ ?_
  ·intro _ h;exact w1 n0 (.o 4 9 99 0 (ec z1 .z)) t0
  intro x34 h;exact w1 n0 (.w 3 (ee z1)) t0
 intro x28 s' h hs;exact w1 n0 (.p 1 (ec z1 z1)) t0⟩
def Ms(a0:Ja)(a1:Jj):Option Int :=
 ((bif (((decide (a1.Id<1))||(decide (1073741824<a1.Id)))||(decide (a1.El<0))) then some true else (
  some (decide (((a0.Elements.length:Nat):Int)<=a1.El))
 ))).bind fun b1=>
 ((bif ((b1||(decide (a1.From<0)))||(decide (a1.To<=a1.From))) then some true else (
  (ixO a0.Elements a1.El).bind fun x3=>
  some (decide (x3.Length<a1.To))
 ))).bind fun b2=>
 bif ((b2||(decide (a1.Speed<100)))||(decide (10000<a1.Speed))) then (
  some 1
 ) else (
  some 0
 )
instance (a0:Ja)(a1:Jj):Cp (Ms a0 a1) 251 [Enc.pv a0,Enc.pv a1] Enc.pv:=⟨fun r h=>by
 unfold Ms at h;refine zG f251 ?_;exact w1 a0.Elements (.e (.o 4 4 12 1 (.o 1 4 17 0 (.b 1 7 25 (.g 0 .z (.l 4 .z)) (.o 1 4 30 1 (.o 1 6 37 0 (.b 1 11 49 (.g 0 .z (.i 6 .z)) (.o 1 4 54 1 (.o 1 4 59 0 (ec z1 z1)))))))))) t0⟩
def Rn(a0:Ja)(a1:Jb)(a2:Int)(a3:Jj):Option (Int×Int) :=
 (ixO a0.Elements a1.El).bind fun x1=>
 bif ((decide (a1.In=0))||((decide (a1.In=2))&&(decide (x1.Kind=3)))) then (
  some (w64 (a2+a3.From),w64 (a2+a3.To))
 ) else (
  some (w64 ((w64 (a2+x1.Length)) - a3.To),w64 ((w64 (a2+x1.Length)) - a3.From))
 )
instance (a0:Ja)(a1:Jb)(a2:Int)(a3:Jj):Cp (Rn a0 a1 a2 a3) 252 [Enc.pv a0,Enc.pv a1,Enc.pv a2,Enc.pv a3] (fun r=>.tup [Enc.pv r.1,Enc.pv r.2]):=⟨fun r h=>by
 unfold Rn at h;refine zG f252 ?_;exact w1 n0 (ei 4 (.e (.o 4 9 29 0 (ec z1 z1)))) t0⟩
def Tt(a0:(List Jc))(a1:Int)(a2:Int):(Int×(List Jc))->Option ((Int×(List Jc))⊕((List Jc)⊕(List Jc))):=fun (x16,x17)=>
 bif decide (x16<((a0.length:Nat):Int)) then (
  onInl (α:=(List Jc)) (β:=((Int×(List Jc))⊕((List Jc)⊕(List Jc)))) (
   (ixO a0 x16).bind fun x30=>
   (Wo a0).bind fun r31=>
   bif (r31&&(decide ((max x30.From a1)<(min x30.To a2)))) then (
    (Qi x17 [(Jc.mk (max x30.From a1) (min x30.To a2) x30.Grade x30.Speed)]).bind fun x32=>
    some (.inl x32)
   ) else (
    some (.inl x17)
   )
  ) fun x29=>
  some (.inl (w64 (x16+1),x29))
 ) else (
  some (.inr (.inl x17))
 )
def Bi(a0:(List Jc))(a1:Int)(a2:Int):Option (List Jc) :=
 onInl (Jp (Tt a0 a1 a2) (0,[])) fun x25=>
 some x25
instance Jpt(a0:(List Jc))(a1:Int)(a2:Int):Cp (Bi a0 a1 a2) 183 [Enc.pv a0,Enc.pv a1,Enc.pv a2] (fun r=>Ji (.own 100007) r):=⟨fun r h=>by
 unfold Bi at h;refine zG f183 ?_;refine w1 a0 (ee (.l 1 S1)) ?_;intro h;refine Jo (Ko (Wz 7 100007 4 32 kr kr ?_));refine uM 41 0 [12] (fun s (x16,x17)=>⟨(7,Ji (.own 100007) x17)::(12,I6 x16)::gt s [0,1,2,10,11],[],[(100007,(((x17).map cellsOf).length,4))],[]⟩) h ?_ ?_
 ·rintro ⟨x16,x17⟩ _ h;unfold Tt at h;refine w1 n0 (ec .s .z) ?_;intro h;refine uJ 41 (fun s x29=>⟨(7,Ji (.own 100007) x29)::gt s [0,1,2,10,11,12],[],[(100007,(((x29).map cellsOf).length,4))],[]⟩) h ?_ ?_
  ·intro _ h;exact w1 n0 (.i 0 (ee (ep 1 (.o 1 6 34 0 (ec (.w 3 z1) .z))))) t0
  intro x29 h;exact w1 n0 z1 t0
 intro x25 s' h hs;exact w1 n0 z1 t0⟩
theorem Jph(a0:(List Jc))(a1:Int)(a2:Int)(r:(List Jc))(h:Bi a0 a1 a2=some r):Yx prog GlS 183 [Enc.pv a0,Enc.pv a1,Enc.pv a2] (Enc.pv r) :=
 ((Jpt a0 a1 a2).ok r h).freeze kr kr kr
def Je9(a0:(List Jc))(a1:Int)(a2:Int):(Int×(List Jc))->Option ((Int×(List Jc))⊕((List Jc)⊕(List Jc))):=fun (x16,x17)=>
 bif decide (x16<((a0.length:Nat):Int)) then (
  onInl (α:=(List Jc)) (β:=((Int×(List Jc))⊕((List Jc)⊕(List Jc)))) (
   (ixO a0 x16).bind fun x30=>
   (Wo a0).bind fun r31=>
   bif (r31&&(decide ((max x30.From a1)<(min x30.To a2)))) then (
    (Qi x17 [(Jc.mk (max x30.From a1) (min x30.To a2) x30.Grade x30.Speed)]).bind fun x32=>
    some (.inl x32)
   ) else (
    some (.inl x17)
   )
  ) fun x29=>
  some (.inl (w64 (x16+1),x29))
 ) else (
  some (.inr (.inl x17))
 )
def Tp(a0:(List Jc))(a1:Int)(a2:Int):Option (List Jc) :=
 onInl (Jp (Je9 a0 a1 a2) (0,[])) fun x25=>
 some x25
theorem Jm5(a0:(List Jc))(a1:Int)(a2:Int)(r:(List Jc))(h:Tp a0 a1 a2=some r):Jl3 prog GlS 183 [Enc.pv a0,Enc.pv a1,Enc.pv a2] 4 32 (r.map cellsOf):=by
 unfold Tp at h;refine Tu func183 (by rfl) rfl ntmps183 (by rfl) rfl ?_;refine w1 a0 (ee (.l 1 S1)) ?_;intro h;refine Jo (Ko (Qk (Jf1 7 100007 4 32 kr kr) ?_));refine uM 41 0 [12] (fun s (x16,x17)=>⟨(7,.ex 100007 4 32 ((x17.map cellsOf).length) 0 ((x17.map cellsOf).length))::(12,I6 x16)::gt s [0,1,2,10,11],[],[(100007,((x17.map cellsOf).length,0))],[(100007,(4,(32,x17.map cellsOf)))]⟩) h ?_ ?_
 ·rintro ⟨x16,x17⟩ _ h;unfold Je9 at h;refine w1 n0 (ec .s .z) ?_;intro h;refine uJ 41 (fun s x29=>⟨(7,.ex 100007 4 32 ((x29.map cellsOf).length) 0 ((x29.map cellsOf).length))::gt s [0,1,2,10,11,12],[],[(100007,((x29.map cellsOf).length,0))],[(100007,(4,(32,x29.map cellsOf)))]⟩) h ?_ ?_
  ·intro _ h;refine w1 n0 (.i 0 (ee (ep 1 (.o 1 6 34 0 (ec .x .z))))) ?_;intro _ _ _ h30 h;exact zR 3 (Juu (tk:=100007) (N:=(x17.map cellsOf).length) h30 kr kr kr (w1 n0 z1 t0))
  intro x29 h;exact w1 n0 z1 t0
 intro x25 s' h hs;refine w1 n0 S1 ?_;intro h;refine Jo (Wg ?_);have hq:=cY h;subst hq;exact Jlt 100007 ((x25.map cellsOf).length) kr
def Nm(a0:(List Jc))(a1:Int)(a2:Int)(a3:Int):(Int×(List Jc))->Option ((Int×(List Jc))⊕((List Jc)⊕(List Jc))):=fun (x57,x58)=>
 bif decide (x57<((a0.length:Nat):Int)) then (
  onInl (α:=(List Jc)) (β:=((Int×(List Jc))⊕((List Jc)⊕(List Jc)))) (
   (slO a0 (some x57) (some (w64 (x57+1))) none).bind fun x101=>
   (Tp x101 a1 a2).bind fun r102=>
   bif decide (((((r102:(List Jc)).map cellsOf).length:Nat):Int)=0) then (
    (ixO a0 x57).bind fun x103=>
    (Qi x58 [x103]).bind fun x104=>
    some (.inl x104)
   ) else (
    (Wd 0 (((r102:(List Jc)).map cellsOf).length) 0).bind fun j105=>
    (Vd r102 (((r102:(List Jc)).map cellsOf).length) j105).bind fun x106=>
    (Wd 0 (((r102:(List Jc)).map cellsOf).length) 0).bind fun j107=>
    (Vd r102 (((r102:(List Jc)).map cellsOf).length) j107).bind fun x108=>
    (Bi x101 (-1073741824) a1).bind fun r109=>
    (Qi x58 r109).bind fun x110=>
    (Qi x110 (r102.set j107 (Jc.mk x108.From x108.To x108.Grade (min x106.Speed a3)))).bind fun x111=>
    (Bi x101 a2 1073741824).bind fun r112=>
    (Qi x111 r112).bind fun x113=>
    some (.inl x113)
   )
  ) fun x100=>
  some (.inl (w64 (x57+1),x100))
 ) else (
  some (.inr (.inl x58))
 )
def Gs(a0:(List Jc))(a1:Int)(a2:Int)(a3:Int):Option (List Jc) :=
 (Wo a0).bind fun r1=>
 bif ((!r1)||(decide (a3<1))) then (
  some ([]:(List Jc))
 ) else (
  onInl (Jp (Nm a0 a1 a2 a3) (0,[])) fun x86=>
  bif decide (128<((x86.length:Nat):Int)) then (
   some ([]:(List Jc))
  ) else (
   some x86
  )
 )
instance (a0:(List Jc))(a1:Int)(a2:Int)(a3:Int):Cp (Gs a0 a1 a2 a3) 253 [Enc.pv a0,Enc.pv a1,Enc.pv a2,Enc.pv a3] Enc.pv:=⟨fun r h=>by
 unfold Gs at h;refine zG f253 ?_;refine w1 a0 (ep 1 (.o 2 3 19 0 (ec z1 (el 1 S1)))) ?_;intro _ h;refine Jo (Ko (Wz 9 100009 4 32 kr kr ?_));refine uM 71 0 [22] (fun s (x57,x58)=>⟨(9,Ji (.own 100009) x58)::(22,I6 x57)::gt s [0,1,2,3,21],[],[(100009,(((x58).map cellsOf).length,4))],[]⟩) h ?_ ?_
 ·rintro ⟨x57,x58⟩ _ h;unfold Nm at h;refine w1 n0 (ec .s .z) ?_;intro h;refine uJ 71 (fun s x100=>⟨(9,Ji (.own 100009) x100)::gt s [0,1,2,3,21,22],[],[(100009,(((x100).map cellsOf).length,4))],[]⟩) h ?_ ?_
  ·intro _ h;refine w1 n0 X1 ?_;intro _ h99 h;refine zR 4 (Jxb h99 .frozen kr kr kr (w1 n0 X1 ?_));intro r102 h100 h;refine zR 3 (Jj4 (α:=Jc) 33 (Jm5 _ _ _ r102 h100) kr kr (w1 n0 (ee (.c (.i 3 (.w 2 z1)) (.j 2 (.d 1 false 1 3 (.j 2 .x))))) ?_));intro _ x106 j107 x108 h106 h;refine yst 1 33 (Jc.mk x108.From x108.To x108.Grade (min x106.Speed a3)) 3 1 h106 (w1 n0 (ep 3 (.w 0 S1)) ?_);intro _ _ h;exact Jo (Kj (Qk (Dc (xss:=((r102.set j107 (Jc.mk x108.From x108.To x108.Grade (min x106.Speed a3))):(List Jc)).map cellsOf) 33 4 32 ((r102.map cellsOf).length) [12,33,34,44,45] [] kr kr kr kr) (w1 n0 (.w 2 (ep 3 (.w 0 z1))) t0)))
  intro x100 h;exact w1 n0 z1 t0
 intro x86 s' h hs;exact w1 x86 (.l 1 (ec z1 z1)) t0⟩
def Dd(a1:(List Jb))(a3:Ja)(x85:Jj):((List Jc)×Int×Int)->Option (((List Jc)×Int×Int)⊕((List Jc)⊕(((List Jc)×Int)⊕((List Jc)⊕(List Jc))))):=fun (x97,x98,x99)=>
 bif decide (x99<((a1.length:Nat):Int)) then (
  (ixO a1 x99).bind fun x112=>
  onInl (α:=(List Jc)) (β:=(((List Jc)×Int×Int)⊕((List Jc)⊕(((List Jc)×Int)⊕((List Jc)⊕(List Jc)))))) (
   ((bif ((decide (x112.El=x85.El))&&x85.Active) then (
    (Ms a3 x85).bind fun r119=>
    some (decide (r119=0))
   ) else some false)).bind fun b118=>
   bif b118 then (
    (Rn a3 x112 x98 x85).bind fun r120=>
    (Gs x97 r120.1 r120.2 x85.Speed).bind fun r121=>
    some (.inl r121)
   ) else (
    some (.inl x97)
   )
  ) fun x117=>
  (ixO a3.Elements x112.El).bind fun x122=>
  some (.inl (x117,w64 (x98+x122.Length),w64 (x99+1)))
 ) else (
  some (.inr (.inl x97))
 )
def Oc(a0:(List Jj))(a1:(List Jb))(a2:Int)(a3:Ja):((List Jc)×Int)->Option (((List Jc)×Int)⊕((List Jc)⊕(List Jc))):=fun (x44,x45)=>
 bif decide (x45<((a0.length:Nat):Int)) then (
  (ixO a0 x45).bind fun x85=>
  onInl (Jp (Dd a1 a3 x85) (x44,a2,0)) fun x111=>
  some (.inl (x111,w64 (x45+1)))
 ) else (
  some (.inr (.inl x44))
 )
def Gk(a0:(List Jj))(a1:(List Jb))(a2:Int)(a3:Ja)(a4:(List Jc)):Option (List Jc) :=
 (Wo a4).bind fun r1=>
 ((bif (!r1) then some true else (
  (Yz a3 a1).bind fun r3=>
  some (!r3)
 ))).bind fun b2=>
 bif ((b2||(decide (a2<(-1073741824))))||(decide (1073741824<a2))) then (
  (Qi ([]:(List Jc)) a4).bind fun x4=>
  some x4
 ) else (
  (Qi ([]:(List Jc)) a4).bind fun x5=>
  onInl (Jp (Oc a0 a1 a2 a3) (x5,0)) fun x84=>
  some x84
 )
instance (a0:(List Jj))(a1:(List Jb))(a2:Int)(a3:Ja)(a4:(List Jc)):Cp (Gk a0 a1 a2 a3 a4) 181 [Enc.pv a0,Enc.pv a1,Enc.pv a2,Enc.pv a3,Enc.pv a4] Enc.pv:=⟨fun r h=>by
 unfold Gk at h;refine zG f181 ?_;refine w6 n0 (ep 1 (.b 2 5 27 (.g 0 .z (.p 2 .z)) (.o 1 3 31 1 (.o 1 3 35 0 (ec .x .x))))) ?_ ?_ t0 t0 t0 t0
 ·intro _ _ _ h4 h;exact zR 2 (Cr (tk:=38) h4 kr (w1 n0 z1 t0))
 intro _ _ _ h5 h;refine zR 2 (Cr (tk:=41) h5 kr (w1 a0 (el 1 s1) ?_));intro h;refine uL 96 0 (fun s (x44,x45)=>⟨(11,Ji .frozen x44)::(44,I6 x45)::gt s [1,2,8,42,43],gh s [8],[],[]⟩) (fun _ x84=>⟨[(11,Ji .frozen x84)],[],[],[]⟩) h ?_ ?_
 ·rintro ⟨x44,x45⟩ _ h;unfold Oc at h;refine w1 a1 (ec (.i 0 (ee (.l 1 s1))) .z) ?_;intro _ h;refine uL 96 2 (fun s (x97,x98,x99)=>⟨(11,Ji .frozen x97)::(14,I6 x98)::(51,I6 x99)::gt s [1,2,8,13,42,43,44,49,50],gh s [8,13],[],[]⟩) (fun s x111=>⟨(11,Ji .frozen x111)::gt s [1,2,8,42,43,44],gh s [8],[],[]⟩) h ?_ ?_
  ·rintro ⟨x97,x98,x99⟩ _ h;unfold Dd at h;refine w1 n0 (ec (.i 0 S1) .z) ?_;intro _ h;refine Jo ?_;refine uJ 96 (fun s x117=>⟨(11,Ji .frozen x117)::gt s [1,2,8,13,14,16,42,43,44,49,50,51],gh s [8,13,16],[],[]⟩) h ?_ ?_
   ·intro _ h;exact w1 n0 (.o 6 3 63 0 (.b 1 5 69 (.g 0 (.p 2 .z) .z) (ec (.p 4 (ep 5 z1)) .z))) t0
   intro x117 h;exact w1 n0 (.i 5 z2) t0
  intro x111 s' h hs;exact w1 n0 z1 t0
 intro x84 s' h hs;exact w1 n0 z1 t0⟩
end
end PM
