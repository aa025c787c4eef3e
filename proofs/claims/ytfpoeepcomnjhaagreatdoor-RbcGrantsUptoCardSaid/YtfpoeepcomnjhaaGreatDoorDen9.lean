/-
 Plain functions for the program's functions, and the proofs that the program does them. Printed by den.py.
-/
import Derived.Test.YtfpoeepcomnjhaaGreatDoorDen8
namespace PM
noncomputable section
open Go Go.RowKit Go.Proofs Go.Proofs.Tryz
attribute [local irreducible] Jy pwp
def Dv(a0:Jt)(a1:Jb)(a2:Jk):Option Int :=
 bif decide (a1.In=1) then (
  some (w64 (a0.Length - a2.Offset))
 ) else (
  some a2.Offset
 )
instance (a0:Jt)(a1:Jb)(a2:Jk):Cp (Dv a0 a1 a2) 255 [Enc.pv a0,Enc.pv a1,Enc.pv a2] Enc.pv:=⟨fun r h=>by
 unfold Dv at h;refine zG f255 ?_;exact w1 n0 (ee (.c z1 z1)) t0⟩
def Ic(a0:Int)(a1:Jb):Option Bool :=
 some ((decide (a0=1))||(decide ((w64 (a1.In+a1.Out))=1)))
instance (a0:Int)(a1:Jb):Cp (Ic a0 a1) 256 [Enc.pv a0,Enc.pv a1] Enc.pv:=⟨fun r h=>by
 unfold Ic at h;refine zG f256 ?_;exact w1 n0 (.e (.o 3 7 14 0 z1)) t0⟩
def Ir(a0:Jd)(a1:Jd):Option Bool :=
 some ((decide (a0.At<a1.At))||((decide (a0.At=a1.At))&&(decide (a0.Id<a1.Id))))
instance (a0:Jd)(a1:Jd):Cp (Ir a0 a1) 275 [Enc.pv a0,Enc.pv a1] Enc.pv:=⟨fun r h=>by
 unfold Ir at h;refine zG f275 ?_;exact w1 n0 (.e (.o 6 13 23 0 z1)) t0⟩
def Ti(a0:(List Jd))(a1:Jd):(Bool×Int×(List Jd))->Option ((Bool×Int×(List Jd))⊕(((List Jd)×Bool)⊕(List Jd))):=fun (x27,x28,x29)=>
 bif decide (x28<((a0.length:Nat):Int)) then (
  onInl (α:=((List Jd)×Bool)) (β:=((Bool×Int×(List Jd))⊕(((List Jd)×Bool)⊕(List Jd)))) (
   ((bif (!x27) then (
    (ixO a0 x28).bind fun x51=>
    (Ir a1 x51).bind fun r52=>
    some r52
   ) else some false)).bind fun b50=>
   bif b50 then (
    (Qi x29 [a1]).bind fun x53=>
    some (.inl (x53,true))
   ) else (
    some (.inl (x29,x27))
   )
  ) fun (x48,x49)=>
  (ixO a0 x28).bind fun x54=>
  (Qi x48 [x54]).bind fun x55=>
  some (.inl (x49,w64 (x28+1),x55))
 ) else (
  some (.inr (.inl (x29,x27)))
 )
def Ph(a0:(List Jd))(a1:Jd):Option (List Jd) :=
 onInl (Jp (Ti a0 a1) (false,0,[])) fun (x42,x43)=>
 onInl (α:=(List Jd)) (β:=(List Jd)) (
  bif (!x43) then (
   (Qi x42 [a1]).bind fun x58=>
   some (.inl x58)
  ) else (
   some (.inl x42)
  )
 ) fun x57=>
 some x57
instance (a0:(List Jd))(a1:Jd):Cp (Ph a0 a1) 257 [Enc.pv a0,Enc.pv a1] (fun r=>Ji (.own 100005) r):=⟨fun r h=>by
 unfold Ph at h;refine zG f257 ?_;refine w1 n0 (ee S2) ?_;intro h;refine Jo (Ko (Wz 5 100005 2 16 kr kr ?_));refine uL 42 0 (fun s (x27,x28,x29)=>⟨(5,Ji (.own 100005) x29)::(6,.bool x27)::(7,I6 x28)::gt s [0,3],gh s [3],[(100005,(((x29).map cellsOf).length,2))],[]⟩) (fun s (x42,x43)=>⟨[(3,.ref 3 0),(5,Ji (.own 100005) x42),(6,.bool x43)],gh s [3],[(100005,(((x42).map cellsOf).length,2))],[]⟩) h ?_ ?_
 ·rintro ⟨x27,x28,x29⟩ _ h;unfold Ti at h;refine w1 a0 (.l 2 (ec .S .z)) ?_;intro h;refine Vb (Jo (Kj (Ko ?_)));refine uJ 42 (fun s (x48,x49)=>⟨(5,Ji (.own 100005) x48)::(6,.bool x49)::gt s [0,3,7],gh s [3],[(100005,(((x48).map cellsOf).length,2))],[]⟩) h ?_ ?_
  ·intro _ h;exact w1 n0 (.b 3 7 23 (.g 0 (.i 3 (.p 1 .z)) .z) (ec (.w 3 z2) .z)) t0
  rintro ⟨x48,x49⟩ h;exact w1 n0 (.i 3 (.w 2 z2)) t0
 rintro ⟨x42,x43⟩ s' h hs;refine Ui (Jo (Qk hs ?_));refine uJ 42 (fun _ x57=>⟨[(5,Ji (.own 100005) x57)],[],[(100005,(((x57).map cellsOf).length,2))],[]⟩) h ?_ ?_
 ·intro _ h;exact w1 n0 (ec (.w 3 z1) .z) t0
 intro x57 h;exact w1 n0 z1 t0⟩
def Ll(a0:Ja)(a1:(List Jb))(a3:Int)(x134:Int)(x135:Int)(x195:Jt):((List Jd)×Int)->Option (((List Jd)×Int)⊕((List Jd)⊕((Int×Int×(List Jd))⊕((List Jd)⊕(List Jd))))):=fun (x213,x214)=>
 bif decide (x214<((a0.Balises.length:Nat):Int)) then (
  onInl (α:=(List Jd)) (β:=(((List Jd)×Int)⊕((List Jd)⊕((Int×Int×(List Jd))⊕((List Jd)⊕(List Jd)))))) (
   (ixO a0.Balises x214).bind fun x242=>
   (ixO a1 x135).bind fun x243=>
   (Dv x195 x243 x242).bind fun r244=>
   (ixO a1 x135).bind fun x245=>
   ((bif decide (x242.El=x245.El) then (
    (ixO a1 x135).bind fun x247=>
    (Ic x195.Kind x247).bind fun r248=>
    some r248
   ) else some false)).bind fun b246=>
   bif (b246&&(decide ((w64 (x134+r244))<=a3))) then (
    (Ph x213 (Jd.mk x242.Id (w64 (x134+r244)))).bind fun r249=>
    some (.inl r249)
   ) else (
    some (.inl x213)
   )
  ) fun x241=>
  some (.inl (x241,w64 (x214+1)))
 ) else (
  some (.inr (.inl x213))
 )
def Rs(a0:Ja)(a1:(List Jb))(a3:Int):(Int×Int×(List Jd))->Option ((Int×Int×(List Jd))⊕((List Jd)⊕(List Jd))):=fun (x134,x135,x136)=>
 bif decide (x135<((a1.length:Nat):Int)) then (
  (ixO a1 x135).bind fun x194=>
  (ixO a0.Elements x194.El).bind fun x195=>
  onInl (Jp (Ll a0 a1 a3 x134 x135 x195) (x136,0)) fun x232=>
  some (.inl (w64 (x134+x195.Length),w64 (x135+1),x232))
 ) else (
  some (.inr (.inl x136))
 )
def Oe(a0:Ja)(a1:(List Jb))(a2:Int)(a3:Int):Option (List Jd) :=
 (Yz a0 a1).bind fun r1=>
 bif (!r1) then (
  some ([]:(List Jd))
 ) else (
  onInl (Jp (Rs a0 a1 a3) (a2,0,[])) fun x193=>
  some x193
 )
instance (a0:Ja)(a1:(List Jb))(a2:Int)(a3:Int):Cp (Oe a0 a1 a2 a3) 184 [Enc.pv a0,Enc.pv a1,Enc.pv a2,Enc.pv a3] Enc.pv:=⟨fun r h=>by
 unfold Oe at h;refine zG f184 ?_;refine w1 n0 (ep 2 (ec z1 (ee s1))) ?_;intro _ h;refine uL 91 0 (fun s (x134,x135,x136)=>⟨(9,Ji .frozen x136)::(10,I6 x134)::(11,I6 x135)::gt s [1,3,4],gh s [4],[],[]⟩) (fun _ x193=>⟨[(9,Ji .frozen x193)],[],[],[]⟩) h ?_ ?_
 ·rintro ⟨x134,x135,x136⟩ _ h;unfold Rs at h;refine w1 a1 (.l 2 (ec (.i 4 (.i 2 s2)) .z)) ?_;intro _ _ h;refine uL 91 2 (fun s (x213,x214)=>⟨(9,Ji .frozen x213)::(13,I6 x214)::gt s [1,3,4,10,11,12],gh s [4,12],[],[]⟩) (fun s x232=>⟨(9,Ji .frozen x232)::gt s [1,3,4,10,11,12],gh s [4,12],[],[]⟩) h ?_ ?_
  ·rintro ⟨x213,x214⟩ _ h;unfold Ll at h;refine w1 a0.Balises (.l 3 (ec .s .z)) ?_;intro h;refine uJ 91 (fun s x241=>⟨(9,Ji .frozen x241)::gt s [1,3,4,10,11,12,13],gh s [4,12],[],[]⟩) h ?_ ?_
   ·intro _ h;exact w1 n0 (.i 3 (ei 6 (.p 2 (ei 4 (.b 4 8 76 (.g 0 (.i 4 (.p 1 .z)) .z) (.o 1 5 82 0 (ec (.p 2 z1) .z))))))) t0
   intro x241 h;exact w1 n0 z1 t0
  intro x232 s' h hs;exact w1 n0 z2 t0
 intro x193 s' h hs;exact w1 n0 z1 t0⟩
def Ng(a0:(List Jd))(x12:Int):Int->Option (Int⊕(Unit⊕(Int⊕(Unit⊕Bool)))):=fun x30=>
 bif decide (x30<x12) then (
  (ixO a0 x30).bind fun x33=>
  (ixO a0 x12).bind fun x34=>
  bif decide (x33.Id=x34.Id) then (
   some (.inr (.inr (.inr (.inr false))))
  ) else (
   some (.inl (w64 (x30+1)))
  )
 ) else (
  some (.inr (.inl ()))
 )
def Da(a0:(List Jd)):Int->Option (Int⊕(Unit⊕Bool)):=fun x12=>
 ((bif decide (x12<((a0.length:Nat):Int)) then (
  some (decide (((a0.length:Nat):Int)<=24))
 ) else some false)).bind fun b24=>
 bif b24 then (
  ((bif decide (0<x12) then (
   (ixO a0 x12).bind fun x26=>
   (ixO a0 (w64 (x12 - 1))).bind fun x27=>
   some (decide (x26.At<x27.At))
  ) else some false)).bind fun b25=>
  bif b25 then (
   some (.inr (.inr false))
  ) else (
   onInl (Jp (Ng a0 x12) 0) fun _=>
   some (.inl (w64 (x12+1)))
  )
 ) else (
  some (.inr (.inl ()))
 )
def Mm(a0:(List Jd)):Option Bool :=
 onInl (Jp (Da a0) 0) fun _=>
 some (decide (((a0.length:Nat):Int)<=24))
instance (a0:(List Jd)):Cp (Mm a0) 258 [Enc.pv a0] Enc.pv:=⟨fun r h=>by
 unfold Mm at h;refine zG f258 ?_;refine w1 n0 s2 ?_;intro h;refine uN 51 0 [3] (fun s x12=>⟨(3,I6 x12)::gt s [0],[],[],[]⟩) h ?_ ?_
 ·intro x12 _ h;unfold Da at h;refine w1 a0 (.l 2 (.b 2 4 13 (.g 0 (.l 1 .z) .z) (ec (.b 3 13 31 (.g 0 (.i 2 (.i 5 .z)) .z) (ec z1 s1)) .z))) ?_;intro _ _ h;refine uN 51 2 [4] (fun s x30=>⟨(4,I6 x30)::gt s [0,3],[],[],[]⟩) h ?_ ?_
  ·intro x30 _ h;unfold Ng at h;exact w1 n0 (ec (.i 2 (.i 4 (ec z1 z1))) .z) t0
  intro _ s' h hs;exact w1 n0 z1 t0
 intro _ s' h hs;exact w1 a0 (.l 1 z1) t0⟩
def Mi(a0:Ka):Option Bool :=
 ((bif ((decide (1<=a0.Seq))&&(decide (a0.Seq<=1073741824))) then (
  (Wo a0.Profile).bind fun r2=>
  some r2
 ) else some false)).bind fun b1=>
 ((bif (b1&&(decide (0<((a0.Profile.length:Nat):Int)))) then (
  (ixO a0.Profile (w64 (((a0.Profile.length:Nat):Int) - 1))).bind fun x4=>
  some (decide (x4.To=a0.End))
 ) else some false)).bind fun b3=>
 ((bif b3 then (
  (Mm a0.Links).bind fun r6=>
  some r6
 ) else some false)).bind fun b5=>
 some b5
instance (a0:Ka):Cp (Mi a0) 185 [Enc.pv a0] Enc.pv:=⟨fun r h=>by
 unfold Mi at h;refine zG f185 ?_;exact w1 a0.Profile (el 2 (.e (.o 4 4 14 0 (.b 1 4 19 (.g 0 (.p 2 .z) .z) (.o 1 3 23 0 (.b 1 11 35 (.g 0 (.i 4 .z) .z) (.b 1 4 40 (.g 0 (.p 2 .z) .z) z1))))))) t0⟩
def Yy(a0:Ja)(a1:Je)(a2:(List Jj))(a3:Int):Option (Ka×Int) :=
 (Yz a0 a1.Steps).bind fun r1=>
 bif (((!r1)||(decide (a3<1)))||(decide (1073741824<a3))) then (
  some ((Ka.mk 0 0 [] []),1)
 ) else (
  (Tc a0 a1.Steps a1.Origin).bind fun r2=>
  (Gk a2 a1.Steps a1.Origin a0 r2).bind fun r3=>
  (Bi r3 a1.Origin a1.At).bind fun r4=>
  (Oe a0 a1.Steps a1.Origin a1.At).bind fun r5=>
  (Mi (Ka.mk a3 a1.At r4 r5)).bind fun r6=>
  bif (!r6) then (
   some ((Ka.mk 0 0 [] []),2)
  ) else (
   some ((Ka.mk a3 a1.At r4 r5),0)
  )
 )
instance (a0:Ja)(a1:Je)(a2:(List Jj))(a3:Int):Cp (Yy a0 a1 a2 a3) 106 [Enc.pv a0,Enc.pv a1,Enc.pv a2,Enc.pv a3] (fun r=>.tup [Enc.pv r.1,Enc.pv r.2]):=⟨fun r h=>by
 unfold Yy at h;refine zG f106 ?_;refine w1 n0 (ep 3 (.o 2 3 20 1 (.o 1 3 24 0 (ec z1 (.p 11 (.p 0 X1)))))) ?_;intro _ _ _ r4 h4 h;refine zR 8 (zP (Jph _ _ _ r4 h4) ?_);exact w1 n0 (.p 7 (ep 1 (ec z1 z1))) t0⟩
def Fw(a0:Ja)(a1:Jq)(a2:(List Jj))(a3:Je):Option (Jn×Bool) :=
 onInl (α:=(Int×Int×Int×Int×(List Jb)×(List Int)×(List Int)×(List Int)×(List Int)×Int×Int×Int×Int×Int×Int)) (β:=(Jn×Bool)) (
  bif (!(decide (a3.CutSeq=0))) then (
   (Jaa a0 a1 a3).bind fun r17=>
   some (.inl (r17.Id,r17.Origin,r17.End,r17.At,r17.Steps,r17.Routes,r17.Starts,r17.Ends,r17.Done,r17.Min,r17.Sent,r17.Accepted,r17.Cut,r17.CutSeq,3))
  ) else (
   some (.inl (a3.Id,a3.Origin,a3.End,a3.At,a3.Steps,a3.Routes,a3.Starts,a3.Ends,a3.Done,a3.Min,a3.Sent,a3.Accepted,a3.Cut,a3.CutSeq,2))
  )
 ) fun (x2,x3,x4,x5,x6,x7,x8,x9,x10,x11,x12,x13,x14,x15,x16)=>
 (Yy a0 (Je.mk x2 x3 x4 x5 x6 x7 x8 x9 x10 x11 x12 x13 x14 x15) a2 (w64 (x12+1))).bind fun r18=>
 bif (!(decide (r18.2=0))) then (
  some ((Jn.mk 5 0 0 0 0 (Ka.mk 0 0 [] []) (Uw.mk 0 0 0 0 false)),false)
 ) else (
  some ((Jn.mk x16 0 0 0 0 r18.1 (Uw.mk 0 0 0 0 false)),true)
 )
instance (a0:Ja)(a1:Jq)(a2:(List Jj))(a3:Je):Cp (Fw a0 a1 a2 a3) 49 [Enc.pv a0,Enc.pv a1,Enc.pv a2,Enc.pv a3] (fun r=>.tup [Enc.pv r.1,Enc.pv r.2]):=⟨fun r h=>by
 unfold Fw at h;refine zG f49 ?_;refine w1 n0 S2 ?_;intro h;refine Jo ?_;refine uJ 38 (fun s (x2,x3,x4,x5,x6,x7,x8,x9,x10,x11,x12,x13,x14,x15,x16)=>⟨gt s [2,4,7,8,10],(7,.cells ([I6 x2,I6 x3,I6 x4,I6 x5,Ji .frozen x6,Ji .frozen x7,Ji .frozen x8,Ji .frozen x9,Ji .frozen x10,I6 x11,I6 x12,I6 x13,I6 x14,I6 x15]))::(10,.cells ([I6 x16,I6 0,I6 0,I6 0,I6 0,I6 0,I6 0,.nil,.nil,I6 0,I6 0,I6 0,I6 0,.bool false]))::gh s [4,8],[],[]⟩) h ?_ ?_
 ·intro _ h;exact w1 n0 (ec (.p 3 z2) .z) t0
 rintro ⟨x2,x3,x4,x5,x6,x7,x8,x9,x10,x11,x12,x13,x14,x15,x16⟩ h;exact w1 n0 (.p 6 (ee (.c z1 z2))) t0⟩
def Sn(a0:Jl)(a1:Jn)(a2:Int):Option (Jl×Jn) :=
 onInl (α:=Int) (β:=(Jl×Jn)) (
  bif decide (a0.Out<1073741824) then (
   some (.inl (w64 (a0.Out+1)))
  ) else (
   some (.inl a0.Out)
  )
 ) fun x1=>
 some ((Jl.mk a0.Peer x1 a0.In a0.Heard),(Jn.mk a1.Kind a1.From a0.Peer x1 a2 a1.Auth a1.Report))
instance (a0:Jl)(a1:Jn)(a2:Int):Cp (Sn a0 a1 a2) 50 [Enc.pv a0,Enc.pv a1,Enc.pv a2] (fun r=>.tup [Enc.pv r.1,Enc.pv r.2]):=⟨fun r h=>by
 unfold Sn at h;refine zG f50 ?_;refine w1 n0 S1 ?_;intro h;refine Jo ?_;refine uJ 25 (fun s x1=>⟨gt s [2,3,4,6,7],(3,.cells ([I6 a0.Peer,I6 x1,I6 a0.In,I6 a0.Heard]))::gh s [4,6,7],[],[]⟩) h ?_ ?_
 ·intro _ h;exact w1 n0 (ec z1 .z) t0
 intro x1 h;refine w1 n0 (ee S1) ?_;intro h;refine Jo (Kj ?_);refine Kah 25 ⟨[(6,.ref 6 0),(7,.ref 7 0)],[(6,.cells ([I6 a0.Peer,I6 x1,I6 a0.In,I6 a0.Heard])),(7,.cells ([I6 a1.Kind,I6 a1.From,I6 a0.Peer,I6 x1,I6 a2,I6 a1.Auth.Seq,I6 a1.Auth.End,Ji .frozen a1.Auth.Profile,Ji .frozen a1.Auth.Links,I6 a1.Report.Min,I6 a1.Report.Speed,I6 a1.Report.Mode,I6 a1.Report.Accepted,.bool a1.Report.Whole]))],[],[]⟩ kr ?_ ?_
 ·refine Qu [0,1] kr ⟨?_, ?_,trivial⟩
  ·refine ⟨_,rfl,(zR 1 (Yw ?_))⟩;refine Qu [1,2] kr ⟨?_, ?_,trivial⟩
   ·refine ⟨_,rfl,(zR 1 (Yw ?_))⟩;refine Qu [2] kr ⟨?_,trivial⟩;refine ⟨_,rfl,(zR 1 (Yw ?_))⟩;refine Qu [3] kr ⟨?_,trivial⟩;exact ⟨_,rfl,(zR 1 (Yw (Lb kr (.of kr kr))))⟩
   refine ⟨_,rfl,(zR 1 (Yw ?_))⟩;refine Qu [1] kr ⟨?_,trivial⟩;refine ⟨_,rfl,(zR 1 (Yw ?_))⟩;refine Qu [3] kr ⟨?_,trivial⟩;exact ⟨_,rfl,(zR 1 (Yw (Lb kr (.of kr kr))))⟩
  refine ⟨_,rfl,(zR 1 (Yw ?_))⟩;refine Qu [0] kr ⟨?_,trivial⟩;refine ⟨_,rfl,(zR 1 (Yw ?_))⟩;refine Qu [2] kr ⟨?_,trivial⟩;refine ⟨_,rfl,(zR 1 (Yw ?_))⟩;refine Qu [3] kr ⟨?_,trivial⟩;exact ⟨_,rfl,(zR 1 (Yw (Lb kr (.of kr kr))))⟩
 exact w1 n0 .z t0⟩
def De(a0:Ja)(a1:Jq)(a2:Jx)(a3:(List Jj))(a5:Int):(Int×Jm×(List Jn))->Option ((Int×Jm×(List Jn))⊕(((List Jn)×(List Je)×(List Jl))⊕(Jm×(List Jn)))):=fun (x28,x29,x30)=>
 bif decide (x28<((x29.Tracks.length:Nat):Int)) then (
  (ixO x29.Tracks x28).bind fun x46=>
  (Ej x46 a2).bind fun r47=>
  (ixO x29.Sessions x28).bind fun x48=>
  (Fd x29 x28 r47 x48).bind fun r49=>
  (Bw a0 a1 a2 r49 x28).bind fun r50=>
  (ixO r50.Tracks x28).bind fun x51=>
  (Fw a0 a1 a3 x51).bind fun r52=>
  onInl (α:=Int) (β:=((Int×Jm×(List Jn))⊕(((List Jn)×(List Je)×(List Jl))⊕(Jm×(List Jn))))) (
   bif r52.2 then (
    some (.inl (w64 (x51.Sent+1)))
   ) else (
    some (.inl x51.Sent)
   )
  ) fun x53=>
  (ixO r50.Sessions x28).bind fun x54=>
  (Sn x54 r52.1 a5).bind fun r55=>
  (Fd r50 x28 (Je.mk x51.Id x51.Origin x51.End x51.At x51.Steps x51.Routes x51.Starts x51.Ends x51.Done x51.Min x53 x51.Accepted x51.Cut x51.CutSeq) r55.1).bind fun r56=>
  (Qi x30 [r55.2]).bind fun x57=>
  some (.inl (w64 (x28+1),r56,x57))
 ) else (
  some (.inr (.inl (x30,x29.Tracks,x29.Sessions)))
 )
def Gm(a0:Ja)(a1:Jq)(a2:Jx)(a3:(List Jj))(a4:Jm)(a5:Int):Option (Jm×(List Jn)) :=
 (Em a4).bind fun r1=>
 bif (!r1) then (
  some (a4,([]:(List Jn)))
 ) else (
  onInl (Jp (De a0 a1 a2 a3 a5) (0,a4,[])) fun (x43,x44,x45)=>
  some ((Jm.mk x44 x45),x43)
 )
instance (a0:Ja)(a1:Jq)(a2:Jx)(a3:(List Jj))(a4:Jm)(a5:Int):Cp (Gm a0 a1 a2 a3 a4 a5) 15 [Enc.pv a0,Enc.pv a1,Enc.pv a2,Enc.pv a3,Enc.pv a4,Enc.pv a5] (fun r=>.tup [Enc.pv r.1,Ji (.own 100014) r.2]):=⟨fun r h=>by
 unfold Gm at h;refine zG f15 ?_;refine w6 n0 (ep 1 (ec S1 S2)) ?_ ?_ t0 t0 t0 t0
 ·intro _ h;exact Jo (Wz 13 100014 14 144 kr kr (w1 n0 .z t0))
 intro _ h;refine Jo (Ko (Wz 14 100014 14 144 kr kr ?_));refine uL 92 0 (fun s (x28,x29,x30)=>⟨(14,Ji (.own 100014) x30)::(15,I6 x28)::gt s [3,5,6,7,8,10,12],(10,.cells (cellsOf x29))::gh s [6,7,8,12],[(100014,(((x30).map cellsOf).length,14))],[]⟩) (fun s (x43,x44,x45)=>⟨(14,Ji (.own 100014) x43)::gt s [10,12],(10,.cells ([Ji .frozen x44,Ji .frozen x45]))::gh s [12],[(100014,(((x43).map cellsOf).length,14))],[]⟩) h ?_ ?_
 ·rintro ⟨x28,x29,x30⟩ _ h;unfold De at h;refine w1 x29.Tracks (.l 3 (ec (.i 8 (.p 2 (.i 3 (.p 1 (.p 1 (ei 3 (ep 4 S1))))))) .z)) ?_;intro _ _ _ _ _ x51 _ h;refine Jo ?_;refine uJ 92 (fun s x53=>⟨gt s [3,5,6,7,8,10,12,14,15,16,17],(16,.cells ([I6 x51.Id,I6 x51.Origin,I6 x51.End,I6 x51.At,Ji .frozen x51.Steps,Ji .frozen x51.Routes,Ji .frozen x51.Starts,Ji .frozen x51.Ends,Ji .frozen x51.Done,I6 x51.Min,I6 x53,I6 x51.Accepted,I6 x51.Cut,I6 x51.CutSeq]))::gh s [6,7,8,10,12,17],gT s [100014],[]⟩) h ?_ ?_
  ·intro _ h;exact w1 n0 (ec z1 .z) t0
  intro x53 h;exact w1 n0 (.i 3 (.p 3 (ep 4 (ew 3 z2)))) t0
 rintro ⟨x43,x44,x45⟩ s' h hs;exact w1 n0 z1 t0⟩
def Jgs(a0:(List Jc))(a1:(List Jc)):Int->Option (Int⊕(Unit⊕Bool)):=fun x3=>
 bif decide (x3<((a0.length:Nat):Int)) then (
  (ixO a0 x3).bind fun x6=>
  (ixO a1 x3).bind fun x7=>
  bif (!(Td x6 x7)) then (
   some (.inr (.inr false))
  ) else (
   some (.inl (w64 (x3+1)))
  )
 ) else (
  some (.inr (.inl ()))
 )
def Ja8(a0:(List Jc))(a1:(List Jc)):Option Bool :=
 bif (!(decide (((a0.length:Nat):Int)=((a1.length:Nat):Int)))) then (
  some false
 ) else (
  onInl (Jp (Jgs a0 a1) 0) fun _=>
  some true
 )
instance (a0:(List Jc))(a1:(List Jc)):Cp (Ja8 a0 a1) 107 [Enc.pv a0,Enc.pv a1] Enc.pv:=⟨fun r h=>by
 unfold Ja8 at h;refine zG f107 ?_;refine w1 a0 (el 1 .s) ?_;intro h;refine yl 1 a1 (w1 a0 (ec z1 (.l 1 s1)) ?_);intro h;refine uN 26 0 [13] (fun s x3=>⟨(13,I6 x3)::gt s [0,1,12],[],[],[]⟩) h ?_ ?_
 ·intro x3 _ h;unfold Jgs at h;exact w1 n0 (ec (ei 2 (.i 3 (ec z1 z1))) .z) t0
 intro _ s' h hs;exact w1 n0 z1 t0⟩
def Zn(a0:Ka)(a1:Ka):Int->Option (Int⊕(Unit⊕Bool)):=fun x6=>
 bif decide (x6<((a0.Links.length:Nat):Int)) then (
  (ixO a0.Links x6).bind fun x9=>
  (ixO a1.Links x6).bind fun x10=>
  bif (!(Jas x9 x10)) then (
   some (.inr (.inr false))
  ) else (
   some (.inl (w64 (x6+1)))
  )
 ) else (
  some (.inr (.inl ()))
 )
def Wl(a0:Ka)(a1:Ka):Option Bool :=
 ((bif ((!(decide (a0.Seq=a1.Seq)))||(!(decide (a0.End=a1.End)))) then some true else (
  (Ja8 a0.Profile a1.Profile).bind fun r2=>
  some (!r2)
 ))).bind fun b1=>
 ((bif b1 then some true else (
  some (!(decide (((a0.Links.length:Nat):Int)=((a1.Links.length:Nat):Int))))
 ))).bind fun b3=>
 bif b3 then (
  some false
 ) else (
  onInl (Jp (Zn a0 a1) 0) fun _=>
  some true
 )
instance (a0:Ka)(a1:Ka):Cp (Wl a0 a1) 55 [Enc.pv a0,Enc.pv a1] Enc.pv:=⟨fun r h=>by
 unfold Wl at h;refine zG f55 ?_;refine w6 a0.Links (.e (.o 6 6 17 0 (.b 1 7 25 (.g 0 .z (.p 4 .z)) (.b 1 8 34 (.g 0 .z (.l 2 .s)) (ec z1 (.l 2 s1)))))) ?_ ?_ t0 t0 t0 t0
 ·intro _ _ h;exact yl 2 a1.Links (w1 n0 .z t0)
 intro _ _ h;refine uN 53 0 [38] (fun s x6=>⟨(38,I6 x6)::gt s [2,3,37],gh s [2,3],[],[]⟩) h ?_ ?_
 ·intro x6 _ h;unfold Zn at h;exact w1 n0 (ec (ei 3 (.i 4 (ec z1 z1))) .z) t0
 intro _ s' h hs;exact w1 n0 z1 t0⟩
def Sl(a0:Jn)(a1:Jn):Option Bool :=
 ((bif (((((decide (a0.Kind=a1.Kind))&&(decide (a0.From=a1.From)))&&(decide (a0.To=a1.To)))&&(decide (a0.Seq=a1.Seq)))&&(decide (a0.Time=a1.Time))) then (
  (Wl a0.Auth a1.Auth).bind fun r2=>
  some r2
 ) else some false)).bind fun b1=>
 some (b1&&(Jar a0.Report a1.Report))
instance (a0:Jn)(a1:Jn):Cp (Sl a0 a1) 22 [Enc.pv a0,Enc.pv a1] Enc.pv:=⟨fun r h=>by
 unfold Sl at h;refine zG f22 ?_;exact w1 n0 (.e (.o 6 6 16 3 (.o 1 6 23 2 (.o 1 6 30 1 (.o 1 6 37 0 (.b 1 6 44 (.g 0 (.p 4 .z) .z) (.o 1 6 51 0 z1))))))) t0⟩
def Bf(a0:(List Jn))(a1:(List Jn)):Int->Option (Int⊕(Unit⊕Bool)):=fun x4=>
 bif decide (x4<((a0.length:Nat):Int)) then (
  (ixO a0 x4).bind fun x8=>
  (ixO a1 x4).bind fun x9=>
  (Sl x8 x9).bind fun r10=>
  bif (!r10) then (
   some (.inr (.inr false))
  ) else (
   some (.inl (w64 (x4+1)))
  )
 ) else (
  some (.inr (.inl ()))
 )
def Ww(a0:(List Jn))(a1:(List Jn)):Option Bool :=
 bif (!(decide (((a0.length:Nat):Int)=((a1.length:Nat):Int)))) then (
  some false
 ) else (
  onInl (Jp (Bf a0 a1) 0) fun _=>
  some true
 )
instance (a0:(List Jn))(a1:(List Jn)):Cp (Ww a0 a1) 16 [Enc.pv a0,Enc.pv a1] Enc.pv:=⟨fun r h=>by
 unfold Ww at h;refine zG f16 ?_;refine w1 a0 (el 1 .s) ?_;intro h;refine yl 1 a1 (w1 n0 (ec z1 s1) ?_);intro h;refine uN 27 0 [5] (fun s x4=>⟨(5,I6 x4)::gt s [0,1],[],[],[]⟩) h ?_ ?_
 ·intro x4 _ h;unfold Bf at h;exact w1 a0 (.l 2 (ec (.i 2 (.i 3 (.p 1 (ec z1 z1)))) .z)) t0
 intro _ s' h hs;exact w1 n0 z1 t0⟩
def Zm(a0:Jz)(a1:Int):Option Bool :=
 (Mj a0).bind fun r1=>
 bif (!r1) then (
  (Mk ).bind fun r2=>
  some r2
 ) else (
  (Bh a0.Layout a0.Table a0.Inter a0.Slow a0.Center a1).bind fun r3=>
  (Gm a0.Layout a0.Table a0.Inter a0.Slow a0.Center a1).bind fun r4=>
  (Mb r3.1 r4.1).bind fun r5=>
  ((bif r5 then (
   (Ww r3.2 r4.2).bind fun r7=>
   some r7
  ) else some false)).bind fun b6=>
  ((bif b6 then (
   (Mk ).bind fun r9=>
   some r9
  ) else some false)).bind fun b8=>
  some b8
 )
theorem Jfy(a0:Jz)(a1:Int)(r:Bool)(h:Zm a0 a1=some r):Yx prog GlS 4 [Enc.pv a0,Enc.pv a1] (Enc.pv r):=by
 unfold Zm at h;refine zG f4 ?_;exact w1 n0 (ep 1 (ec (.p 0 z1) (.p 11 (ep 11 (ep 2 (.b 1 4 50 (.g 0 (.p 2 .z) .z) (.b 1 2 53 (.g 0 (.p 0 .z) .z) z1))))))) t0
def Jav(a0:Jm)(a1:Int):Int->Option (Int⊕(Unit⊕Int)):=fun x2=>
 bif decide (x2<((a0.Tracks.length:Nat):Int)) then (
  (ixO a0.Tracks x2).bind fun x4=>
  bif decide (x4.Id=a1) then (
   some (.inr (.inr x2))
  ) else (
   some (.inl (w64 (x2+1)))
  )
 ) else (
  some (.inr (.inl ()))
 )
def Jdc(a0:Jm)(a1:Int):Option Int :=
 onInl (Jp (Jav a0 a1) 0) fun _=>
 some (-1)
end
end PM
