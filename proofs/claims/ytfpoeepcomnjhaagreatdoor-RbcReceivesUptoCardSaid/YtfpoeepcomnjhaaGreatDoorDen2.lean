/-
 Plain functions for the program's functions, and the proofs that the program does them. Printed by den.py.
-/
import Derived.Test.YtfpoeepcomnjhaaGreatDoorDen1
namespace PM
noncomputable section
open Go Go.RowKit Go.Proofs Go.Proofs.Tryz
attribute [local irreducible] Ju pwp
def Kz(a0:Ja)(a1:Ji):(Int×Int×Int)->Option ((Int×Int×Int)⊕(Unit⊕(Jf×Int×Bool))):=fun (x13,x14,x15)=>
 bif decide (x13<4) then (
  (Wn a0 (Je.mk x14 x15)).bind fun r28=>
  bif (!r28.2) then (
   some (.inr (.inr ((Jf.mk 0 0),(-1),true)))
  ) else (
   (Vs a0 r28.1).bind fun r29=>
   bif decide (0<=r29) then (
    some (.inr (.inr ((Jf.mk 0 0),r29,true)))
   ) else (
    (Zl a1.Path r28.1.El).bind fun r30=>
    ((bif r30 then some true else (
     (Zl a1.Over r28.1.El).bind fun r32=>
     some r32
    ))).bind fun b31=>
    bif b31 then (
     some (.inr (.inr ((Jf.mk 0 0),(-1),true)))
    ) else (
     ((bif decide (r28.1.El<0) then some true else (
      some (decide (((a0.Elements.length:Nat):Int)<=r28.1.El))
     ))).bind fun b33=>
     ((bif b33 then some true else (
      (ixO a0.Elements r28.1.El).bind fun x35=>
      some ((decide (x35.Kind=2))&&(decide (r28.1.Side=0)))
     ))).bind fun b34=>
     bif b34 then (
      some (.inr (.inr ((Jf.mk 0 0),(-1),false)))
     ) else (
      (ixO a0.Elements r28.1.El).bind fun x36=>
      bif decide (x36.Kind=2) then (
       (Sl a1 r28.1).bind fun r37=>
       some (.inr (.inr (r37.1,r37.2.1,r37.2.2)))
      ) else (
       (ixO a0.Elements r28.1.El).bind fun x38=>
       (Jbf x38.Kind r28.1.Side 0).bind fun r39=>
       some (.inl (w64 (x13+1),r28.1.El,r39.1))
      )
     )
    )
   )
  )
 ) else (
  some (.inr (.inl ()))
 )
def Nu(a0:Ja)(a1:Ji)(a2:Je):Option (Jf×Int×Bool) :=
 onInl (Jq (Kz a0 a1) (0,a2.El,a2.Side)) fun _=>
 some ((Jf.mk 0 0),(-1),false)
instance (a0:Ja)(a1:Ji)(a2:Je):Cp (Nu a0 a1 a2) 127 [Enc.pv a0,Enc.pv a1,Enc.pv a2] (fun r=>.tup [Enc.pv r.1,Enc.pv r.2.1,Enc.pv r.2.2]):=⟨fun r h=>by
 unfold Nu at h;refine zG f127 ?_;refine w1 n0 s2 ?_;intro h;refine uL 107 0 (fun s (x13,x14,x15)=>⟨(9,I6 x13)::gt s [3,4,5,6],(5,.cells ([I6 x14,I6 x15]))::gh s [3,4,6],[],[]⟩) (fun s (_:Unit)=>⟨[(6,.ref 6 0)],gh s [6],[],[]⟩) h ?_ ?_
 ·rintro ⟨x13,x14,x15⟩ _ h;unfold Kz at h;exact w1 a0.Elements (ec (.p 2 (ee (.c z1 (.p 2 (ee (.c z1 (.p 4 (.b 1 6 46 (.g 0 .z (.p 4 .z)) (ec z1 (.b 4 7 58 (.g 0 .z (.l 4 .z)) (.b 1 14 73 (.g 0 .z (.i 4 .y)) (ec z1 (.i 4 (ec (.p 2 z1) (.i 4 (.p 4 (ee z1))))))))))))))))) .z) t0
 intro _ s' h hs;exact w1 n0 z1 t0⟩
def Re(a0:(List Jf))(a1:Jf):(Bool×Int×(List Jf))->Option ((Bool×Int×(List Jf))⊕(((List Jf)×Bool)⊕(List Jf))):=fun (x24,x25,x26)=>
 bif decide (x25<((a0.length:Nat):Int)) then (
  onInl (α:=((List Jf)×Bool)) (β:=((Bool×Int×(List Jf))⊕(((List Jf)×Bool)⊕(List Jf)))) (
   ((bif (!x24) then (
    (ixO a0 x25).bind fun x45=>
    some (decide (a1.El<x45.El))
   ) else some false)).bind fun b44=>
   bif b44 then (
    (Qd x26 [a1]).bind fun x46=>
    some (.inl (x46,true))
   ) else (
    some (.inl (x26,x24))
   )
  ) fun (x42,x43)=>
  (ixO a0 x25).bind fun x47=>
  (Qd x42 [x47]).bind fun x48=>
  some (.inl (x43,w64 (x25+1),x48))
 ) else (
  some (.inr (.inl (x26,x24)))
 )
def Rs(a0:(List Jf))(a1:Jf):Option (List Jf) :=
 (Cm a0 a1).bind fun r1=>
 bif r1 then (
  some a0
 ) else (
  onInl (Jq (Re a0 a1) (false,0,[])) fun (x37,x38)=>
  onInl (α:=(List Jf)) (β:=(List Jf)) (
   bif (!x38) then (
    (Qd x37 [a1]).bind fun x51=>
    some (.inl x51)
   ) else (
    some (.inl x37)
   )
  ) fun x50=>
  some x50
 )
instance (a0:(List Jf))(a1:Jf):Cp (Rs a0 a1) 128 [Enc.pv a0,Enc.pv a1] Enc.pv:=⟨fun r h=>by
 unfold Rs at h;refine zG f128 ?_;refine w1 n0 (ep 2 (ec z1 (ee S1))) ?_;intro _ h;refine Jm (Kk (Wh 5 100005 2 16 kr kr ?_));refine uL 48 0 (fun s (x24,x25,x26)=>⟨(5,Jg (.own 100005) x26)::(6,.bool x24)::(7,I6 x25)::gt s [0,3],gh s [3],[(100005,(((x26).map cellsOf).length,2))],[]⟩) (fun s (x37,x38)=>⟨[(3,.ref 3 0),(5,Jg (.own 100005) x37),(6,.bool x38)],gh s [3],[(100005,(((x37).map cellsOf).length,2))],[]⟩) h ?_ ?_
 ·rintro ⟨x24,x25,x26⟩ _ h;unfold Re at h;refine w1 a0 (.l 2 (ec .S .z)) ?_;intro h;refine Qv (Jm (Kb (Kk ?_)));refine uJ 48 (fun s (x42,x43)=>⟨(5,Jg (.own 100005) x42)::(6,.bool x43)::gt s [0,3,7],gh s [3],[(100005,(((x42).map cellsOf).length,2))],[]⟩) h ?_ ?_
  ·intro _ h;exact w1 n0 (.b 3 9 29 (.g 0 (.i 2 .z) .z) (ec (.w 3 z2) .z)) t0
  rintro ⟨x42,x43⟩ h;exact w1 n0 (.i 3 (.w 2 z2)) t0
 rintro ⟨x37,x38⟩ s' h hs;refine Qa (Jm (Kw hs ?_));refine uJ 48 (fun _ x50=>⟨[(5,Jg (.own 100005) x50)],[],[(100005,(((x50).map cellsOf).length,2))],[]⟩) h ?_ ?_
 ·intro _ h;exact w1 n0 (ec (.w 3 z1) .z) t0
 intro x50 h;exact w1 n0 z1 t0⟩
def Rf(a0:(List Int))(a1:Int):Int->Option (Int⊕(Unit⊕Bool)):=fun x2=>
 bif decide (x2<((a0.length:Nat):Int)) then (
  (ixO a0 x2).bind fun x4=>
  bif decide (x4=a1) then (
   some (.inr (.inr true))
  ) else (
   some (.inl (w64 (x2+1)))
  )
 ) else (
  some (.inr (.inl ()))
 )
def Sj(a0:(List Int))(a1:Int):Option Bool :=
 onInl (Jq (Rf a0 a1) 0) fun _=>
 some false
instance (a0:(List Int))(a1:Int):Cp (Sj a0 a1) 186 [Enc.pv a0,Enc.pv a1] Enc.pv:=⟨fun r h=>by
 unfold Sj at h;refine zG f186 ?_;refine w1 n0 s2 ?_;intro h;refine uN 18 0 [5] (fun s x2=>⟨(5,I6 x2)::gt s [0,1],[],[],[]⟩) h ?_ ?_
 ·intro x2 _ h;unfold Rf at h;exact w1 a0 (.l 2 (ec (.i 2 (ec z1 z1)) .z)) t0
 intro _ s' h hs;exact w1 n0 z1 t0⟩
def Hu(a0:(List Int))(a1:Int):(Bool×Int×(List Int))->Option ((Bool×Int×(List Int))⊕(((List Int)×Bool)⊕(List Int))):=fun (x24,x25,x26)=>
 bif decide (x25<((a0.length:Nat):Int)) then (
  onInl (α:=((List Int)×Bool)) (β:=((Bool×Int×(List Int))⊕(((List Int)×Bool)⊕(List Int)))) (
   ((bif (!x24) then (
    (ixO a0 x25).bind fun x45=>
    some (decide (a1<x45))
   ) else some false)).bind fun b44=>
   bif b44 then (
    (Qd x26 [a1]).bind fun x46=>
    some (.inl (x46,true))
   ) else (
    some (.inl (x26,x24))
   )
  ) fun (x42,x43)=>
  (ixO a0 x25).bind fun x47=>
  (Qd x42 [x47]).bind fun x48=>
  some (.inl (x43,w64 (x25+1),x48))
 ) else (
  some (.inr (.inl (x26,x24)))
 )
def Df(a0:(List Int))(a1:Int):Option (List Int) :=
 (Sj a0 a1).bind fun r1=>
 bif r1 then (
  some a0
 ) else (
  onInl (Jq (Hu a0 a1) (false,0,[])) fun (x37,x38)=>
  onInl (α:=(List Int)) (β:=(List Int)) (
   bif (!x38) then (
    (Qd x37 [a1]).bind fun x51=>
    some (.inl x51)
   ) else (
    some (.inl x37)
   )
  ) fun x50=>
  some x50
 )
instance (a0:(List Int))(a1:Int):Cp (Df a0 a1) 108 [Enc.pv a0,Enc.pv a1] Enc.pv:=⟨fun r h=>by
 unfold Df at h;refine zG f108 ?_;refine w1 n0 (ep 2 (ec z1 (ee S1))) ?_;intro _ h;refine Jm (Kk (Wh 5 100005 1 8 kr kr ?_));refine uL 46 0 (fun s (x24,x25,x26)=>⟨(5,Jg (.own 100005) x26)::(6,.bool x24)::(7,I6 x25)::gt s [0,1],[],[(100005,(((x26).map cellsOf).length,1))],[]⟩) (fun _ (x37,x38)=>⟨[(1,I6 a1),(5,Jg (.own 100005) x37),(6,.bool x38)],[],[(100005,(((x37).map cellsOf).length,1))],[]⟩) h ?_ ?_
 ·rintro ⟨x24,x25,x26⟩ _ h;unfold Hu at h;refine w1 a0 (.l 2 (ec .S .z)) ?_;intro h;refine Qv (Jm (Kb (Kk ?_)));refine uJ 46 (fun s (x42,x43)=>⟨(5,Jg (.own 100005) x42)::(6,.bool x43)::gt s [0,1,7],[],[(100005,(((x42).map cellsOf).length,1))],[]⟩) h ?_ ?_
  ·intro _ h;exact w1 n0 (.b 3 7 27 (.g 0 (.i 2 .z) .z) (ec (.w 3 z2) .z)) t0
  rintro ⟨x42,x43⟩ h;exact w1 n0 (.i 3 (.w 2 z2)) t0
 rintro ⟨x37,x38⟩ s' h hs;refine Qa (Jm (Kw hs ?_));refine uJ 46 (fun _ x50=>⟨[(5,Jg (.own 100005) x50)],[],[(100005,(((x50).map cellsOf).length,1))],[]⟩) h ?_ ?_
 ·intro _ h;exact w1 n0 (ec (.w 3 z1) .z) t0
 intro x50 h;exact w1 n0 z1 t0⟩
def Ok(a0:(List Int)):(Int×(List Int))->Option ((Int×(List Int))⊕((List Int)⊕(List Int))):=fun (x6,x7)=>
 bif decide (x6<((a0.length:Nat):Int)) then (
  (ixO a0 x6).bind fun x11=>
  (Df x7 x11).bind fun r12=>
  some (.inl (w64 (x6+1),r12))
 ) else (
  some (.inr (.inl x7))
 )
def Pa(a0:(List Int)):Option (List Int) :=
 onInl (Jq (Ok a0) (0,[])) fun x10=>
 some x10
instance (a0:(List Int)):Cp (Pa a0) 56 [Enc.pv a0] Enc.pv:=⟨fun r h=>by
 unfold Pa at h;refine zG f56 ?_;refine w1 n0 (ee s1) ?_;intro h;refine uM 18 0 [4] (fun s (x6,x7)=>⟨(3,Jg .frozen x7)::(4,I6 x6)::gt s [0],[],[],[]⟩) h ?_ ?_
 ·rintro ⟨x6,x7⟩ _ h;unfold Ok at h;exact w1 a0 (.l 2 (ec (.i 3 (.p 1 z2)) .z)) t0
 intro x10 s' h hs;exact w1 n0 z1 t0⟩
def Bz(a1:(List Int)):((List Int)×Int)->Option (((List Int)×Int)⊕((List Int)⊕(List Int))):=fun (x4,x5)=>
 bif decide (x5<((a1.length:Nat):Int)) then (
  (ixO a1 x5).bind fun x9=>
  (Df x4 x9).bind fun r10=>
  some (.inl (r10,w64 (x5+1)))
 ) else (
  some (.inr (.inl x4))
 )
def Iu(a0:(List Int))(a1:(List Int)):Option (List Int) :=
 (Pa a0).bind fun r1=>
 onInl (Jq (Bz a1) (r1,0)) fun x8=>
 some x8
instance (a0:(List Int))(a1:(List Int)):Cp (Iu a0 a1) 129 [Enc.pv a0,Enc.pv a1] Enc.pv:=⟨fun r h=>by
 unfold Iu at h;refine zG f129 ?_;refine w1 n0 (ep 1 s2) ?_;intro _ h;refine uL 22 0 (fun s (x4,x5)=>⟨(5,Jg .frozen x4)::(6,I6 x5)::gt s [1],[],[],[]⟩) (fun _ x8=>⟨[(5,Jg .frozen x8)],[],[],[]⟩) h ?_ ?_
 ·rintro ⟨x4,x5⟩ _ h;unfold Bz at h;exact w1 a1 (.l 2 (ec (.i 3 (.p 1 z2)) .z)) t0
 intro x8 s' h hs;exact w1 n0 z1 t0⟩
def Gj(a0:Ja)(a1:Ji)(r1:(List Je)):(Int×(List Jf)×(List Int)×(List Je))->Option ((Int×(List Jf)×(List Int)×(List Je))⊕(((List Jf)×(List Int)×(List Je))⊕Ji)):=fun (x55,x56,x57,x58)=>
 bif decide (x55<((r1.length:Nat):Int)) then (
  onInl (α:=((List Jf)×(List Int)×(List Je))) (β:=((Int×(List Jf)×(List Int)×(List Je))⊕(((List Jf)×(List Int)×(List Je))⊕Ji))) (
   (ixO r1 x55).bind fun x101=>
   (Nu a0 (Ji.mk a1.Name a1.Entry a1.Exit a1.Path a1.Points a1.Sections a1.Approach a1.Length a1.Over a1.OverPoints a1.OverSections x56 x57 x58) x101).bind fun r102=>
   onInl (α:=(List Je)) (β:=(((List Jf)×(List Int)×(List Je))⊕((Int×(List Jf)×(List Int)×(List Je))⊕(((List Jf)×(List Int)×(List Je))⊕Ji)))) (
    bif (!r102.2.2) then (
     (ixO r1 x55).bind fun x106=>
     (Qd x58 [x106]).bind fun x107=>
     some (.inl x107)
    ) else (
     some (.inl x58)
    )
   ) fun x105=>
   onInl (α:=(List Jf)) (β:=(((List Jf)×(List Int)×(List Je))⊕((Int×(List Jf)×(List Int)×(List Je))⊕(((List Jf)×(List Int)×(List Je))⊕Ji)))) (
    bif (!(decide (r102.1.Pos=0))) then (
     (Rs x56 r102.1).bind fun r110=>
     some (.inl r110)
    ) else (
     some (.inl x56)
    )
   ) fun x109=>
   bif decide (0<=r102.2.1) then (
    (Iu x57 [r102.2.1]).bind fun r111=>
    some (.inl (x109,r111,x105))
   ) else (
    some (.inl (x109,x57,x105))
   )
  ) fun (x98,x99,x100)=>
  some (.inl (w64 (x55+1),x98,x99,x100))
 ) else (
  some (.inr (.inl (x56,x57,x58)))
 )
def Hs(a0:Ja)(a1:Ji):Option Ji :=
 (Iw a0 (Ji.mk a1.Name a1.Entry a1.Exit a1.Path a1.Points a1.Sections a1.Approach a1.Length a1.Over a1.OverPoints a1.OverSections [] [] [])).bind fun r1=>
 onInl (Jq (Gj a0 a1 r1) (0,[],[],[])) fun (x84,x85,x86)=>
 some (Ji.mk a1.Name a1.Entry a1.Exit a1.Path a1.Points a1.Sections a1.Approach a1.Length a1.Over a1.OverPoints a1.OverSections x84 x85 x86)
instance (a0:Ja)(a1:Ji):Cp (Hs a0 a1) 67 [Enc.pv a0,Enc.pv a1] Enc.pv:=⟨fun r h=>by
 unfold Hs at h;refine zG f67 ?_;refine w1 n0 (ee (ee (.p 2 S2))) ?_;intro r1 h;refine Jm (Kk (Kw (Ob 3 13 200313 2 16 (cs:=[.str a1.Name,I6 a1.Entry,I6 a1.Exit,Jg .frozen a1.Path,Jg .frozen a1.Points,Jg .frozen a1.Sections,I6 a1.Approach,I6 a1.Length,Jg .frozen a1.Over,Jg .frozen a1.OverPoints,Jg .frozen a1.OverSections,.nil,.nil,.nil]) kr kr kr) ?_));refine uM 61 0 [6] (fun s (x55,x56,x57,x58)=>⟨(6,I6 x55)::gt s [2,3,4,5],(3,.cells ([.str a1.Name,I6 a1.Entry,I6 a1.Exit,Jg .frozen a1.Path,Jg .frozen a1.Points,Jg .frozen a1.Sections,I6 a1.Approach,I6 a1.Length,Jg .frozen a1.Over,Jg .frozen a1.OverPoints,Jg .frozen a1.OverSections,Jg .frozen x56,Jg .frozen x57,Jg (.own 200313) x58]))::gh s [2,4],(200313,(((x58).map cellsOf).length,2))::gT s [115005],[]⟩) h ?_ ?_
 ·rintro ⟨x55,x56,x57,x58⟩ _ h;unfold Gj at h;refine w1 r1 (.l 2 (ec .s .z)) ?_;intro h;refine uJ 61 (fun s (x98,x99,x100)=>⟨gt s [2,3,4,5,6],(3,.cells ([.str a1.Name,I6 a1.Entry,I6 a1.Exit,Jg .frozen a1.Path,Jg .frozen a1.Points,Jg .frozen a1.Sections,I6 a1.Approach,I6 a1.Length,Jg .frozen a1.Over,Jg .frozen a1.OverPoints,Jg .frozen a1.OverSections,Jg .frozen x98,Jg .frozen x99,Jg (.own 200313) x100]))::gh s [2,4],(200313,(((x100).map cellsOf).length,2))::gT s [115005],[]⟩) h ?_ ?_
  ·intro _ h;refine w1 n0 (.i 4 (.p 1 S1)) ?_;intro _ _ h;refine Jm ?_;refine uJ 61 (fun s x105=>⟨gt s [2,3,4,5,6,7,8],(3,.cells ([.str a1.Name,I6 a1.Entry,I6 a1.Exit,Jg .frozen a1.Path,Jg .frozen a1.Points,Jg .frozen a1.Sections,I6 a1.Approach,I6 a1.Length,Jg .frozen a1.Over,Jg .frozen a1.OverPoints,Jg .frozen a1.OverSections,Jg .frozen x56,Jg .frozen x57,Jg (.own 200313) x105]))::gh s [2,4,7],(200313,(((x105).map cellsOf).length,2))::gT s [115005],[]⟩) h ?_ ?_
   ·intro _ h;exact w1 n0 (ec (.i 4 (.w 2 z1)) .z) t0
   intro x105 h;refine uJ 61 (fun s x109=>⟨gt s [2,3,4,5,6,8],(3,.cells ([.str a1.Name,I6 a1.Entry,I6 a1.Exit,Jg .frozen a1.Path,Jg .frozen a1.Points,Jg .frozen a1.Sections,I6 a1.Approach,I6 a1.Length,Jg .frozen a1.Over,Jg .frozen a1.OverPoints,Jg .frozen a1.OverSections,Jg .frozen x109,Jg .frozen x57,Jg (.own 200313) x105]))::gh s [2,4],gT s [115005,200313],[]⟩) h ?_ ?_
   ·intro _ h;exact w1 n0 (ec (.p 3 z1) .z) t0
   intro x109 h;exact w1 n0 (ec (.p 4 z1) .z) t0
  rintro ⟨x98,x99,x100⟩ h;exact w1 n0 z1 t0
 rintro ⟨x84,x85,x86⟩ s' h hs;exact w1 n0 z1 t0⟩
def Lz(a0:Ja)(r1:((List Ji)×Int)):(Int×(List Ji))->Option ((Int×(List Ji))⊕((List Ji)⊕(Jw×Int))):=fun (x12,x13)=>
 bif decide (x12<((r1.1.length:Nat):Int)) then (
  (ixO r1.1 x12).bind fun x19=>
  (Gv a0 x19).bind fun r20=>
  (Hs a0 r20).bind fun r21=>
  (Qd x13 [r21]).bind fun x22=>
  some (.inl (w64 (x12+1),x22))
 ) else (
  some (.inr (.inl x13))
 )
def Ly(a0:Ja)(r2:(List Int)):(Int×(List Int))->Option ((Int×(List Int))⊕((List Int)⊕(Jw×Int))):=fun (x30,x31)=>
 bif decide (x30<((r2.length:Nat):Int)) then (
  (ixO r2 x30).bind fun x36=>
  (Vv a0 x36).bind fun r37=>
  (Qd x31 [r37]).bind fun x38=>
  some (.inl (w64 (x30+1),x38))
 ) else (
  some (.inr (.inl x31))
 )
def Zo(a0:Ja):Option (Jw×Int) :=
 (Mq a0).bind fun r1=>
 bif (!(decide (r1.2=0))) then (
  some ((Jw.mk [] [] [] 0 0),r1.2)
 ) else (
  (Dk a0).bind fun r2=>
  onInl (Jq (Lz a0 r1) (0,[])) fun x18=>
  onInl (Jq (Ly a0 r2) (0,[])) fun x35=>
  some ((Jw.mk x18 r2 x35 ((a0.Sections.length:Nat):Int) ((a0.Signals.length:Nat):Int)),0)
 )
instance (a0:Ja):Cp (Zo a0) 28 [Enc.pv a0] (fun r=>.tup [Enc.pv r.1,Enc.pv r.2]):=⟨fun r h=>by
 unfold Zo at h;refine zG f28 ?_;refine w1 a0.Sections (ep 1 (ee (.c z1 (.p 1 (.l 2 .s))))) ?_;intro r1 r2 h;refine yl 2 a0.Signals (w1 r1.1 (el 1 S1) ?_);intro h;refine Jm (Kk (Kw (Ob 6 0 200600 14 264 (cs:=[.nil,Jg .frozen r2,.nil,I6 ((a0.Sections.length:Nat):Int),I6 ((a0.Signals.length:Nat):Int)]) kr kr kr) ?_));refine uM 63 0 [31] (fun s (x12,x13)=>⟨(31,I6 x12)::gt s [1,2,6,29,30],(6,.cells ([Jg (.own 200600) x13,Jg .frozen r2,.nil,I6 ((a0.Sections.length:Nat):Int),I6 ((a0.Signals.length:Nat):Int)]))::gh s [1,2],[(200600,(((x13).map cellsOf).length,14))],[]⟩) h ?_ ?_
 ·rintro ⟨x12,x13⟩ _ h;unfold Lz at h;exact w1 n0 (ec (.i 0 (ep 5 (.p 0 (.w 1 z2)))) .z) t0
 intro x18 s' h hs;refine w1 r2 (.l 2 S1) ?_;intro h;refine Jm (Kk (Kw (Ob 6 2 200602 1 8 (cs:=[Jg (.own 200600) x18,Jg .frozen r2,.nil,I6 ((a0.Sections.length:Nat):Int),I6 ((a0.Signals.length:Nat):Int)]) kr kr kr) ?_));refine uM 63 2 [49] (fun s (x30,x31)=>⟨(49,I6 x30)::gt s [1,2,6,47,48],(6,.cells ([Jg (.own 200600) x18,Jg .frozen r2,Jg (.own 200602) x31,I6 ((a0.Sections.length:Nat):Int),I6 ((a0.Signals.length:Nat):Int)]))::gh s [1,2],(200602,(((x31).map cellsOf).length,1))::gT s [200600],[]⟩) h ?_ ?_
 ·rintro ⟨x30,x31⟩ _ h;unfold Ly at h;exact w1 n0 (ec (.i 0 (ep 4 (.w 1 z2))) .z) t0
 intro x35 s' h hs;exact w1 n0 z1 t0⟩
def Jbp : Option (Jr×Qz) :=
 some ((Jr.mk 3 (ByteArray.mk #[105,99,101]) 5000 900 50 50 100 0 0 0),(Qz.mk [(Jb.mk 0 0 1)] 15000 5000))
theorem Jiw(r:(Jr×Qz))(h:Jbp=some r):Yr prog GlS 29 [] (.tup [Enc.pv r.1,Enc.pv r.2]):=by
 unfold Jbp at h;refine zG f29 ?_;exact w1 n0 z2 t0
def Kx(a0:Int)(a1:Int)(a2:Int):Option Bool :=
 some ((decide (a1<=a0))&&(decide (a0<=a2)))
instance (a0:Int)(a1:Int)(a2:Int):Cp (Kx a0 a1 a2) 205 [Enc.pv a0,Enc.pv a1,Enc.pv a2] Enc.pv:=⟨fun r h=>by
 unfold Kx at h;refine zG f205 ?_;exact w1 n0 (.e (.o 4 4 14 0 z1)) t0⟩
def Mk(a0:Ja):Option Bool :=
 (Kx ((a0.Elements.length:Nat):Int) 1 32).bind fun r1=>
 ((bif r1 then (
  (Kx ((a0.Sections.length:Nat):Int) 1 24).bind fun r3=>
  some r3
 ) else some false)).bind fun b2=>
 ((bif b2 then (
  some (decide (((a0.Signals.length:Nat):Int)<=20))
 ) else some false)).bind fun b4=>
 ((bif b4 then (
  some (decide (((a0.Balises.length:Nat):Int)<=24))
 ) else some false)).bind fun b5=>
 some b5
instance (a0:Ja):Cp (Mk a0) 137 [Enc.pv a0] Enc.pv:=⟨fun r h=>by
 unfold Mk at h;refine zG f137 ?_;refine w6 a0.Elements (el 2 (.p 0 (.b 1 5 12 (.g 0 .s .z) (.b 1 5 18 (.g 0 .s .z) (.b 1 5 24 (.g 0 .s .z) z1))))) ?_ ?_ ?_ t0 t0 t0
 ·intro _ _ h;exact yl 2 a0.Sections (w1 n0 (.p 0 .z) t0)
 ·intro _ _ _ h;exact yl 2 a0.Signals (w1 n0 .z t0)
 intro _ _ _ _ h;refine yl 2 a0.Balises ?_;exact w1 n0 .z t0⟩
def Jey(a0:ByteArray):Nat->Option (Nat⊕(Unit⊕Bool)):=fun x5=>
 bif decide (x5<a0.size) then (
  bif ((((decide ((((Go.Utf8.decode a0 x5).1:Nat):Int)<97))||(decide (122<(((Go.Utf8.decode a0 x5).1:Nat):Int))))&&((decide ((((Go.Utf8.decode a0 x5).1:Nat):Int)<48))||(decide (57<(((Go.Utf8.decode a0 x5).1:Nat):Int)))))&&(!(decide ((((Go.Utf8.decode a0 x5).1:Nat):Int)=95)))) then (
   some (.inr (.inr false))
  ) else (
   some (.inl (x5+(Go.Utf8.decode a0 x5).2))
  )
 ) else (
  some (.inr (.inl ()))
 )
def Tt(a0:ByteArray):Option Bool :=
 ((bif ((decide (a0=ByteArray.empty))||(decide (12<((a0.size:Nat):Int)))) then some true else (
  (Jny a0 0).bind fun x2=>
  some (decide (x2<97))
 ))).bind fun b1=>
 ((bif b1 then some true else (
  (Jny a0 0).bind fun x4=>
  some (decide (122<x4))
 ))).bind fun b3=>
 bif b3 then (
  some false
 ) else (
  onInl (Jq (Jey a0) 0) fun _=>
  some true
 )
instance (a0:ByteArray):Cp (Tt a0) 144 [Enc.pv a0] Enc.pv:=⟨fun r h=>by
 unfold Tt at h;refine zG f144 ?_;refine w6 n0 (.e (.o 3 4 11 0 (.b 1 4 16 (.g 0 .z .x) (.b 1 4 21 (.g 0 .z .x) (ec z1 .s))))) ?_ ?_ ?_ t0 t0 t0
 ·intro _ _ h2 h;exact zR 1 (Jln h2 kr (w1 n0 .z t0))
 ·intro _ _ _ h4 h;exact zR 1 (Jln h4 kr (w1 n0 .z t0))
 intro _ _ h;refine zR 1 (Kch (b:=a0) (l:=23) kr (w1 n0 s1 ?_));intro h;refine uL 45 0 (fun s x5=>⟨gt s [23],[(23,.iter a0 x5)],[],[]⟩) (fun _ (_:Unit)=>⟨[],[],[],[]⟩) h ?_ ?_
 ·intro x5 _ h;unfold Jey at h;refine Kb (Vn ?_);rcases Jja h with ⟨hb,h⟩|⟨hb,h⟩
  ·refine Jzc (b:=a0) (pos:=x5) 23 kr hb kr (w1 n0 S1 ?_);intro h;exact Jm (Kb (Jad (b:=true) rfl kr (w1 n0 (.e (.o 3 3 32 2 (.o 1 7 40 1 (.o 1 3 44 0 (ec z1 .z))))) t0)))
  refine Jzf (b:=a0) (pos:=x5) 23 kr hb kr (w1 n0 S1 ?_);intro h;exact Jm (Kb (Jap (b:=false) rfl kr (w1 n0 .z t0)))
 intro _ s' h hs;exact w1 n0 z1 t0⟩
def Pm(a0:Ja):((List ByteArray)×Int)->Option (((List ByteArray)×Int)⊕((List ByteArray)⊕Int)):=fun (x4,x5)=>
 bif decide (x5<((a0.Elements.length:Nat):Int)) then (
  (ixO a0.Elements x5).bind fun x9=>
  (Qd x4 [x9.Name]).bind fun x10=>
  some (.inl (x10,w64 (x5+1)))
 ) else (
  some (.inr (.inl x4))
 )
def Pf(a0:Ja):((List ByteArray)×Int)->Option (((List ByteArray)×Int)⊕((List ByteArray)⊕Int)):=fun (x14,x15)=>
 bif decide (x15<((a0.Signals.length:Nat):Int)) then (
  (ixO a0.Signals x15).bind fun x19=>
  (Qd x14 [x19.Name]).bind fun x20=>
  some (.inl (x20,w64 (x15+1)))
 ) else (
  some (.inr (.inl x14))
 )
def Pj(x38:(List ByteArray)):Int->Option (Int⊕(Unit⊕(Int⊕(Unit⊕Int)))):=fun x41=>
 bif decide (x41<((x38.length:Nat):Int)) then (
  (ixO x38 x41).bind fun x44=>
  (Tt x44).bind fun r45=>
  bif (!r45) then (
   some (.inr (.inr (.inr (.inr 3))))
  ) else (
   some (.inl (w64 (x41+1)))
  )
 ) else (
  some (.inr (.inl ()))
 )
def Ph(a0:Ja)(x8:(List ByteArray))(x18:(List ByteArray)):Int->Option (Int⊕(Unit⊕Int)):=fun x29=>
 bif decide (x29<(([[a0.Name],a0.Sections,x8,x18].length:Nat):Int)) then (
  (ixO [[a0.Name],a0.Sections,x8,x18] x29).bind fun x38=>
  onInl (Jq (Pj x38) 0) fun _=>
  some (.inl (w64 (x29+1)))
 ) else (
  some (.inr (.inl ()))
 )
def Pg(x59:(List ByteArray)):(Int×(List (ByteArray×Bool)))->Option ((Int×(List (ByteArray×Bool)))⊕(Unit⊕(Int⊕(Unit⊕Int)))):=fun (x61,x62)=>
 bif decide (x61<((x59.length:Nat):Int)) then (
  (ixO x59 x61).bind fun x64=>
  bif ((Wx (x62:(List (ByteArray×Bool))) x64).getD false) then (
   some (.inr (.inr (.inr (.inr 8))))
  ) else (
   some (.inl (w64 (x61+1),(Fy x64 true x62)))
  )
 ) else (
  some (.inr (.inl ()))
 )
def Pe(a0:Ja)(x8:(List ByteArray))(x18:(List ByteArray)):Int->Option (Int⊕(Unit⊕Int)):=fun x52=>
 bif decide (x52<(([[a0.Name],a0.Sections,x8,x18].length:Nat):Int)) then (
  (ixO [[a0.Name],a0.Sections,x8,x18] x52).bind fun x59=>
  onInl (Jq (Pg x59) (0,[])) fun _=>
  some (.inl (w64 (x52+1)))
 ) else (
  some (.inr (.inl ()))
 )
def Ia(a0:Ja):Option Int :=
 (mkO ByteArray ((a0.Elements.length:Nat):Int)).bind fun x1=>
 onInl (Jq (Pm a0) (x1,0)) fun x8=>
 (mkO ByteArray ((a0.Signals.length:Nat):Int)).bind fun x11=>
 onInl (Jq (Pf a0) (x11,0)) fun x18=>
 onInl (Jq (Ph a0 x8 x18) 0) fun _=>
 onInl (Jq (Pe a0 x8 x18) 0) fun _=>
 some 0
instance (a0:Ja):Cp (Ia a0) 138 [Enc.pv a0] Enc.pv:=⟨fun r h=>by
 unfold Ia at h;refine zG f138 ?_;refine w1 a0.Elements (el 2 .x) ?_;intro _ h1 h;refine Kdc 22 h1 kr (w1 a0.Elements (el 2 s1) ?_);intro h;refine uL 98 0 (fun s (x4,x5)=>⟨(3,Jg (.own 22) x4)::(26,I6 x5)::gt s [1,24,25],gh s [1],[(22,(((x4).map cellsOf).length,1))],[]⟩) (fun s x8=>⟨[(1,.ref 1 0),(3,Jg (.own 22) x8)],gh s [1],[(22,(((x8).map cellsOf).length,1))],[]⟩) h ?_ ?_
 ·rintro ⟨x4,x5⟩ _ h;unfold Pm at h;exact w1 n0 (ec (.i 0 (ew 4 z2)) .z) t0
 intro x8 s' h hs;refine w1 a0.Signals (.l 2 .x) ?_;intro _ h10 h;refine Kdc 39 h10 kr (w1 a0.Signals (el 2 s1) ?_);intro h;refine uL 98 2 (fun s (x14,x15)=>⟨(6,Jg (.own 39) x14)::(43,I6 x15)::gt s [1,3,41,42],gh s [1],(39,(((x14).map cellsOf).length,1))::gT s [22],[]⟩) (fun s x18=>⟨(6,Jg (.own 39) x18)::gt s [1,3],gh s [1],(39,(((x18).map cellsOf).length,1))::gT s [22],[]⟩) h ?_ ?_
 ·rintro ⟨x14,x15⟩ _ h;unfold Pf at h;exact w1 n0 (ec (.i 0 (ew 4 z2)) .z) t0
 intro x18 s' h hs;refine w1 (([[a0.Name],a0.Sections,x8,x18]:(List (List ByteArray)))) (el 1 s1) ?_;intro h;refine uN 98 4 [63] (fun s x29=>⟨(63,I6 x29)::gt s [9,61,62],[],[],[]⟩) h ?_ ?_
 ·intro x29 _ h;unfold Ph at h;refine w1 n0 (ec (.i 0 s1) .z) ?_;intro x38 h;refine yl 1 x38 (w1 n0 s1 ?_);intro h;refine uN 98 6 [69] (fun s x41=>⟨(69,I6 x41)::gt s [9,61,62,63,67,68],[],[],[]⟩) h ?_ ?_
  ·intro x41 _ h;unfold Pj at h;exact w1 n0 (ec (.i 0 (ep 1 (ec z1 z1))) .z) t0
  intro _ s' h hs;exact w1 n0 z1 t0
 intro _ s' h hs;refine w1 (([[a0.Name],a0.Sections,x8,x18]:(List (List ByteArray)))) (.l 1 s1) ?_;intro h;refine uN 98 8 [80] (fun s x52=>⟨(80,I6 x52)::gt s [78,79],[],[],[]⟩) h ?_ ?_
 ·intro x52 _ h;unfold Pe at h;refine w1 n0 (ec (.i 0 s2) .z) ?_;intro x59 h;refine yl 1 x59 (w1 n0 s1 ?_);intro h;refine uL 98 10 (fun s (x61,x62)=>⟨(87,I6 x61)::gt s [16,78,79,80,85,86],[(84,.map (Ys x62))],[],[]⟩) (fun s (_:Unit)=>⟨gt s [78,79,80],[],[],[]⟩) h ?_ ?_
  ·rintro ⟨x61,x62⟩ _ h;unfold Pg at h;refine w1 n0 (ec (.i 0 s1) .z) ?_;intro x64 h;refine zR 2 (Je0 (m:=x62) (k:=x64) false 84 kr kr (w1 n0 (ec z1 .s) ?_));intro h;exact zR 2 (Jhh (m:=x62) (k:=x64) (v:=true) 84 kr kr kr (w1 n0 z2 t0))
  intro _ s' h hs;exact w1 n0 z1 t0
 intro _ s' h hs;exact w1 n0 z1 t0⟩
def Zh(a0:Ja):Int->Option (Int⊕(Unit⊕Bool)):=fun x13=>
 bif decide (x13<((a0.Elements.length:Nat):Int)) then (
  (ixO a0.Elements x13).bind fun x26=>
  (Kx x26.Kind 1 3).bind fun r27=>
  ((bif (!r27) then some true else (
   (Kx x26.Length 500 1000000).bind fun r29=>
   some (!r29)
  ))).bind fun b28=>
  ((bif b28 then some true else (
   (Kx x26.Grade (-50) 50).bind fun r31=>
   some (!r31)
  ))).bind fun b30=>
  ((bif b30 then some true else (
   (Kx x26.Speed 100 10000).bind fun r33=>
   some (!r33)
  ))).bind fun b32=>
  ((bif b32 then some true else (
   (Kx x26.Section 0 (w64 (((a0.Sections.length:Nat):Int) - 1))).bind fun r35=>
   some (!r35)
  ))).bind fun b34=>
  bif b34 then (
   some (.inr (.inr false))
  ) else (
   ((bif decide (x26.Kind=2) then (
    (Kx x26.Slow 100 x26.Speed).bind fun r37=>
    some (!r37)
   ) else some false)).bind fun b36=>
   bif (b36||((!(decide (x26.Kind=2)))&&(!(decide (x26.Slow=0))))) then (
    some (.inr (.inr false))
   ) else (
    some (.inl (w64 (x13+1)))
   )
  )
 ) else (
  some (.inr (.inl ()))
 )
def Yq(a0:Ja):Option Bool :=
 onInl (Jq (Zh a0) 0) fun _=>
 some true
instance (a0:Ja):Cp (Yq a0) 139 [Enc.pv a0] Enc.pv:=⟨fun r h=>by
 unfold Yq at h;refine zG f139 ?_;refine w1 a0.Elements (el 2 s1) ?_;intro h;refine uN 66 0 [8] (fun s x13=>⟨(8,I6 x13)::gt s [1,6,7],gh s [1],[],[]⟩) h ?_ ?_
 ·intro x13 _ h;unfold Zh at h;exact w1 a0.Sections (ec (.i 0 (ep 2 (.b 2 5 21 (.g 0 .z (.p 2 .z)) (.b 1 5 27 (.g 0 .z (.p 2 .z)) (.b 1 5 33 (.g 0 .z (.p 2 .z)) (.b 1 9 43 (.g 0 .z (.l 4 (.p 1 .z))) (ec z1 (.b 4 7 54 (.g 0 (.p 4 .z) .z) (.o 1 9 64 0 (ec z1 z1)))))))))) .z) t0
 intro _ s' h hs;exact w1 n0 z1 t0⟩
def Dw(a0:Ja)(a1:Int):(Int×(List Int))->Option ((Int×(List Int))⊕((List Int)⊕(List Int))):=fun (x13,x14)=>
 bif decide (x13<((a0.Elements.length:Nat):Int)) then (
  onInl (α:=(List Int)) (β:=((Int×(List Int))⊕((List Int)⊕(List Int)))) (
   (ixO a0.Elements x13).bind fun x24=>
   bif decide (x24.Section=a1) then (
    (Qd x14 [x13]).bind fun x25=>
    some (.inl x25)
   ) else (
    some (.inl x14)
   )
  ) fun x23=>
  some (.inl (w64 (x13+1),x23))
 ) else (
  some (.inr (.inl x14))
 )
def Zw(a0:Ja)(a1:Int):Option (List Int) :=
 ((bif decide (a1<0) then some true else (
  some (decide (((a0.Sections.length:Nat):Int)<=a1))
 ))).bind fun b1=>
 bif b1 then (
  some ([]:(List Int))
 ) else (
  onInl (Jq (Dw a0 a1) (0,[])) fun x20=>
  some x20
 )
instance (a0:Ja)(a1:Int):Cp (Zw a0 a1) 206 [Enc.pv a0,Enc.pv a1] (fun r=>Jg (.own 100005) r):=⟨fun r h=>by
 unfold Zw at h;refine zG f206 ?_;refine w6 a0.Sections (.e (.b 3 6 16 (.g 0 .z (.l 3 .z)) (ec S1 s1))) ?_ ?_ t0 t0 t0 t0
 ·intro _ h;exact Jm (Wh 4 100005 1 8 kr kr (w1 n0 .z t0))
 intro _ h;refine yl 2 a0.Elements (w1 n0 S1 ?_);intro h;refine Jm (Kk (Wh 5 100005 1 8 kr kr ?_));refine uM 35 0 [20] (fun s (x13,x14)=>⟨(5,Jg (.own 100005) x14)::(20,I6 x13)::gt s [1,18,19],[],[(100005,(((x14).map cellsOf).length,1))],[]⟩) h ?_ ?_
 ·rintro ⟨x13,x14⟩ _ h;unfold Dw at h;refine w1 n0 (ec .s .z) ?_;intro h;refine uJ 35 (fun s x23=>⟨(5,Jg (.own 100005) x23)::gt s [1,18,19,20],[],[(100005,(((x23).map cellsOf).length,1))],[]⟩) h ?_ ?_
  ·intro _ h;exact w1 n0 (.i 1 (ee (.c (.w 3 z1) .z))) t0
  intro x23 h;exact w1 n0 z1 t0
 intro x20 s' h hs;exact w1 n0 z1 t0⟩
def Mn(a0:Ja):Int->Option (Int⊕(Unit⊕Bool)):=fun x2=>
 bif decide (x2<((a0.Sections.length:Nat):Int)) then (
  (Zw a0 x2).bind fun r4=>
  bif decide (((r4.length:Nat):Int)=0) then (
   some (.inr (.inr false))
  ) else (
   some (.inl (w64 (x2+1)))
  )
 ) else (
  some (.inr (.inl ()))
 )
def Fg(a0:Ja):Option Bool :=
 onInl (Jq (Mn a0) 0) fun _=>
 some true
instance (a0:Ja):Cp (Fg a0) 140 [Enc.pv a0] Enc.pv:=⟨fun r h=>by
 unfold Fg at h;refine zG f140 ?_;refine w1 a0.Sections (el 2 s1) ?_;intro h;refine uN 16 0 [7] (fun s x2=>⟨(7,I6 x2)::gt s [1,6],gh s [1],[],[]⟩) h ?_ ?_
 ·intro x2 _ h;unfold Mn at h;refine w1 n0 (ec (ep 2 .s) .z) ?_;intro r4 h;exact yl 0 r4 (w1 n0 (ec z1 z1) t0)
 intro _ s' h hs;exact w1 n0 z1 t0⟩
def Jcr(a0:Int):Option Int :=
 bif ((decide (a0<0))||(decide (4<=a0))) then (
  some 0
 ) else (
  (ixO Gt a0).bind fun x1=>
  some x1
 )
instance (a0:Int):Cp (Jcr a0) 262 [Enc.pv a0] Enc.pv:=⟨fun r h=>by
 unfold Jcr at h;refine zG f262 ?_;refine w1 n0 (.e (.o 3 3 8 0 (ec z1 .x))) ?_;intro _ h1 h;refine zR 1 (Kfq h1 1 4 1 kr kr (Kb7 (tab:=Gt) h1 false 1 kr kr kr ?_));exact w1 n0 z1 t0⟩
def Ep(a0:Ja)(a1:Je):Option Bool :=
 (Kx a1.El 0 (w64 (((a0.Elements.length:Nat):Int) - 1))).bind fun r1=>
 ((bif r1 then (
  (ixO a0.Elements a1.El).bind fun x3=>
  (Jcr x3.Kind).bind fun r4=>
  (Kx a1.Side 0 (w64 (r4 - 1))).bind fun r5=>
  some r5
 ) else some false)).bind fun b2=>
 some b2
instance (a0:Ja)(a1:Je):Cp (Ep a0 a1) 207 [Enc.pv a0,Enc.pv a1] Enc.pv:=⟨fun r h=>by
 unfold Ep at h;refine zG f207 ?_;exact w1 a0.Elements (el 4 (.p 1 (.b 1 13 25 (.g 0 (.i 6 (.p 2 (.p 1 .z))) .z) z1))) t0⟩
def Tl(a0:Ja):Int->Option (Int⊕(Unit⊕((List (Je×Je))×Int))):=fun x5=>
 bif decide (x5<((a0.Joints.length:Nat):Int)) then (
  (ixO a0.Joints x5).bind fun x10=>
  (Ep a0 x10.A).bind fun r11=>
  ((bif (!r11) then some true else (
   (Ep a0 x10.B).bind fun r13=>
   some (!r13)
  ))).bind fun b12=>
  bif (b12||(Kc x10.A x10.B)) then (
   some (.inr (.inr (([]:(List (Je×Je))),1)))
  ) else (
   some (.inl (w64 (x5+1)))
  )
 ) else (
  some (.inr (.inl ()))
 )
def Tj(a0:Ja):(Int×(List (Je×Je)))->Option ((Int×(List (Je×Je)))⊕((List (Je×Je))⊕((List (Je×Je))×Int))):=fun (x15,x16)=>
 bif decide (x15<((a0.Joints.length:Nat):Int)) then (
  (ixO a0.Joints x15).bind fun x19=>
  bif (((Wx (x16:(List (Je×Je))) x19.A).isSome)||((Wx (x16:(List (Je×Je))) x19.B).isSome)) then (
   some (.inr (.inr (([]:(List (Je×Je))),8)))
  ) else (
   some (.inl (w64 (x15+1),(Fy x19.B x19.A (Fy x19.A x19.B x16))))
  )
 ) else (
  some (.inr (.inl x16))
 )
def Od(a0:Ja):Option ((List (Je×Je))×Int) :=
 onInl (Jq (Tl a0) 0) fun _=>
 onInl (Jq (Tj a0) (0,[])) fun x18=>
 some (x18,0)
theorem Jfh(a0:Ja)(r:((List (Je×Je))×Int))(h:Od a0=some r):Yr prog GlS 141 [Enc.pv a0] (.tup [Ke7 (r.1:(List (Je×Je))),Enc.pv r.2]):=by
 unfold Od at h;refine zG f141 ?_;refine w1 a0.Joints (el 2 s1) ?_;intro h;refine uN 78 0 [16] (fun s x5=>⟨(16,I6 x5)::gt s [1,14,15],gh s [1],[],[]⟩) h ?_ ?_
 ·intro x5 _ h;unfold Tl at h;refine w1 n0 (ec (.i 0 (ep 3 (.b 2 6 31 (.g 0 .z (.p 3 .z)) (.o 1 6 38 0 (ec s1 z1))))) .z) ?_;intro _ _ _ h;cases h;exact zQ
 intro _ s' h hs;refine w1 a0.Joints (el 2 s1) ?_;intro h;refine uM 78 2 [44] (fun s (x15,x16)=>⟨(44,I6 x15)::gt s [6,42,43],[(40,.map (Ys x16))],[],[]⟩) h ?_ ?_
 ·rintro ⟨x15,x16⟩ _ h;unfold Tj at h;refine w1 n0 (ec (.i 0 s1) .z) ?_;intro x19 h;refine zR 3 (Jjh (m:=x16) (k:=x19.A) (Je.mk 0 0) 40 kr kr (w1 n0 s1 ?_));intro h;refine zR 3 (Jjh (m:=x16) (k:=x19.B) (Je.mk 0 0) 40 kr kr ?_);refine w6 n0 (.e (.o 2 2 65 0 (ec s1 .s))) ?_ ?_ t0 t0 t0 t0
  ·intro h;cases h;exact zQ
  intro h;exact zR 10 (Jhh (m:=x16) (k:=x19.A) (v:=x19.B) 40 kr kr kr (Jhh (m:=((Fy x19.A x19.B x16):(List (Je×Je)))) (k:=x19.B) (v:=x19.A) 40 kr kr kr (w1 n0 z2 t0)))
 intro x18 s' h hs;refine w1 n0 S1 ?_;intro h;refine Jm (Kc1 40 [] x18 kr kr kr (Vw ?_));cases h;exact zQ
def Ja6(a0:Ja)(a1:Je):Int->Option (Int⊕(Unit⊕Int)):=fun x2=>
 bif decide (x2<((a0.Signals.length:Nat):Int)) then (
  (ixO a0.Signals x2).bind fun x4=>
  bif Kc x4.At a1 then (
   some (.inr (.inr x2))
  ) else (
   some (.inl (w64 (x2+1)))
  )
 ) else (
  some (.inr (.inl ()))
 )
def Lq(a0:Ja)(a1:Je):Option Int :=
 onInl (Jq (Ja6 a0 a1) 0) fun _=>
 some (-1)
instance (a0:Ja)(a1:Je):Cp (Lq a0 a1) 73 [Enc.pv a0,Enc.pv a1] Enc.pv:=⟨fun r h=>by
 unfold Lq at h;refine zG f73 ?_;refine w1 a0.Signals (el 2 s1) ?_;intro h;refine uN 21 0 [10] (fun s x2=>⟨(10,I6 x2)::gt s [3,8,9],gh s [3],[],[]⟩) h ?_ ?_
 ·intro x2 _ h;unfold Ja6 at h;exact w1 n0 (ec (.i 1 (ee (.c z1 z1))) .z) t0
 intro _ s' h hs;exact w1 n0 z1 t0⟩
def De(a0:Ja)(a1:Int):Option Int :=
 ((bif decide (a1<0) then some true else (
  some (decide (((a0.Elements.length:Nat):Int)<=a1))
 ))).bind fun b1=>
 bif b1 then (
  some (-1)
 ) else (
  (ixO a0.Elements a1).bind fun x2=>
  some x2.Section
 )
instance (a0:Ja)(a1:Int):Cp (De a0 a1) 208 [Enc.pv a0,Enc.pv a1] Enc.pv:=⟨fun r h=>by
 unfold De at h;refine zG f208 ?_;exact w1 a0.Elements (.e (.b 3 6 13 (.g 0 .z (.l 3 .z)) (ec z1 (.i 3 z1)))) t0⟩
def Mm(a0:Ja):Int->Option (Int⊕(Unit⊕Int)):=fun x5=>
 bif decide (x5<((a0.Signals.length:Nat):Int)) then (
  (ixO a0.Signals x5).bind fun x10=>
  (Ep a0 x10.At).bind fun r11=>
  ((bif (!r11) then some true else (
   (Kx x10.Overlap 0 1000000).bind fun r13=>
   some (!r13)
  ))).bind fun b12=>
  bif b12 then (
   some (.inr (.inr 1))
  ) else (
   some (.inl (w64 (x5+1)))
  )
 ) else (
  some (.inr (.inl ()))
 )
def My(a0:Ja):Int->Option (Int⊕(Unit⊕Int)):=fun x16=>
 bif decide (x16<((a0.Signals.length:Nat):Int)) then (
  (ixO a0.Signals x16).bind fun x19=>
  (Lq a0 x19.At).bind fun r20=>
  bif (!(decide (r20=x16))) then (
   some (.inr (.inr 8))
  ) else (
   some (.inl (w64 (x16+1)))
  )
 ) else (
  some (.inr (.inl ()))
 )
def Mw(a0:Ja)(a1:(List (Je×Je))):Int->Option (Int⊕(Unit⊕Int)):=fun x25=>
 bif decide (x25<((a0.Signals.length:Nat):Int)) then (
  (ixO a0.Signals x25).bind fun x30=>
  ((bif (!((Wx (a1:(List (Je×Je))) x30.At).isSome)) then some true else (
   (De a0 (((Wx (a1:(List (Je×Je))) x30.At).getD (Je.mk 0 0)).El)).bind fun r32=>
   (De a0 x30.At.El).bind fun r33=>
   some (decide (r32=r33))
  ))).bind fun b31=>
  bif b31 then (
   some (.inr (.inr 14))
  ) else (
   some (.inl (w64 (x25+1)))
  )
 ) else (
  some (.inr (.inl ()))
 )
def Fh(a0:Ja)(a1:(List (Je×Je))):Option Int :=
 onInl (Jq (Mm a0) 0) fun _=>
 onInl (Jq (My a0) 0) fun _=>
 onInl (Jq (Mw a0 a1) 0) fun _=>
 some 0
instance (a0:Ja)(a1:(List (Je×Je))):Cp (Fh a0 a1) 142 [Enc.pv a0,Ke7 (a1:(List (Je×Je)))] Enc.pv:=⟨fun r h=>by
 unfold Fh at h;refine zG f142 ?_;refine w1 a0.Signals (el 2 s1) ?_;intro h;refine uN 76 0 [16] (fun s x5=>⟨(16,I6 x5)::gt s [1,2,14,15],gh s [2],[],[]⟩) h ?_ ?_
 ·intro x5 _ h;unfold Mm at h;exact w1 n0 (ec (.i 0 (ep 3 (.b 2 5 30 (.g 0 .z (.p 2 .z)) (ec z1 z1)))) .z) t0
 intro _ s' h hs;refine w1 a0.Signals (.l 2 s1) ?_;intro h;refine uN 76 2 [35] (fun s x16=>⟨(35,I6 x16)::gt s [1,2,33,34],gh s [2],[],[]⟩) h ?_ ?_
 ·intro x16 _ h;unfold My at h;exact w1 n0 (ec (.i 1 (ep 3 (ec z1 z1))) .z) t0
 intro _ s' h hs;refine w1 a0.Signals (.l 2 s1) ?_;intro h;refine uN 76 4 [50] (fun s x25=>⟨(50,I6 x25)::gt s [1,2,48,49],gh s [2],[],[]⟩) h ?_ ?_
 ·intro x25 _ h;unfold Mw at h;refine w1 n0 (ec (.i 0 s1) .z) ?_;intro x30 h;exact zR 3 (Jf2 (m:=a1) (k:=x30.At) (Je.mk 0 0) true kr (w1 n0 (.e (.b 3 11 74 (.g 0 .z (.p 3 (.p 4 .z))) (ec z1 z1))) t0))
 intro _ s' h hs;exact w1 n0 z1 t0⟩
end
end PM
