/-
 Plain functions for the program's functions, and the proofs that the program does them. Printed by den.py.
-/
import Derived.Test.YtfpoeepcomnjhaaGreatDoorDen1
namespace PM
noncomputable section
open Go Go.RowKit Go.Proofs Go.Proofs.Tryz
attribute [local irreducible] Jy pwp
def Qj(a0:Ja)(a1:Jh):(Int×Int×Int)->Option ((Int×Int×Int)⊕(Unit⊕(Jg×Int×Bool))):=fun (x13,x14,x15)=>
 bif decide (x13<4) then (
  (Yf a0 (Jf.mk x14 x15)).bind fun r28=>
  bif (!r28.2) then (
   some (.inr (.inr ((Jg.mk 0 0),(-1),true)))
  ) else (
   (Wn a0 r28.1).bind fun r29=>
   bif decide (0<=r29) then (
    some (.inr (.inr ((Jg.mk 0 0),r29,true)))
   ) else (
    (Zy a1.Path r28.1.El).bind fun r30=>
    ((bif r30 then some true else (
     (Zy a1.Over r28.1.El).bind fun r32=>
     some r32
    ))).bind fun b31=>
    bif b31 then (
     some (.inr (.inr ((Jg.mk 0 0),(-1),true)))
    ) else (
     ((bif decide (r28.1.El<0) then some true else (
      some (decide (((a0.Elements.length:Nat):Int)<=r28.1.El))
     ))).bind fun b33=>
     ((bif b33 then some true else (
      (ixO a0.Elements r28.1.El).bind fun x35=>
      some ((decide (x35.Kind=2))&&(decide (r28.1.Side=0)))
     ))).bind fun b34=>
     bif b34 then (
      some (.inr (.inr ((Jg.mk 0 0),(-1),false)))
     ) else (
      (ixO a0.Elements r28.1.El).bind fun x36=>
      bif decide (x36.Kind=2) then (
       (Xt a1 r28.1).bind fun r37=>
       some (.inr (.inr (r37.1,r37.2.1,r37.2.2)))
      ) else (
       (ixO a0.Elements r28.1.El).bind fun x38=>
       (Jcy x38.Kind r28.1.Side 0).bind fun r39=>
       some (.inl (w64 (x13+1),r28.1.El,r39.1))
      )
     )
    )
   )
  )
 ) else (
  some (.inr (.inl ()))
 )
def Pu(a0:Ja)(a1:Jh)(a2:Jf):Option (Jg×Int×Bool) :=
 onInl (Jp (Qj a0 a1) (0,a2.El,a2.Side)) fun _=>
 some ((Jg.mk 0 0),(-1),false)
instance (a0:Ja)(a1:Jh)(a2:Jf):Cp (Pu a0 a1 a2) 127 [Enc.pv a0,Enc.pv a1,Enc.pv a2] (fun r=>.tup [Enc.pv r.1,Enc.pv r.2.1,Enc.pv r.2.2]):=⟨fun r h=>by
 unfold Pu at h;refine zG f127 ?_;refine w1 n0 s2 ?_;intro h;refine uL 107 0 (fun s (x13,x14,x15)=>⟨(9,I6 x13)::gt s [3,4,5,6],(5,.cells ([I6 x14,I6 x15]))::gh s [3,4,6],[],[]⟩) (fun s (_:Unit)=>⟨[(6,.ref 6 0)],gh s [6],[],[]⟩) h ?_ ?_
 ·rintro ⟨x13,x14,x15⟩ _ h;unfold Qj at h;exact w1 a0.Elements (ec (.p 2 (ee (.c z1 (.p 2 (ee (.c z1 (.p 4 (.b 1 6 46 (.g 0 .z (.p 4 .z)) (ec z1 (.b 4 7 58 (.g 0 .z (.l 4 .z)) (.b 1 14 73 (.g 0 .z (.i 4 .y)) (ec z1 (.i 4 (ec (.p 2 z1) (.i 4 (.p 4 (ee z1))))))))))))))))) .z) t0
 intro _ s' h hs;exact w1 n0 z1 t0⟩
def Xd(a0:(List Jg))(a1:Jg):(Bool×Int×(List Jg))->Option ((Bool×Int×(List Jg))⊕(((List Jg)×Bool)⊕(List Jg))):=fun (x24,x25,x26)=>
 bif decide (x25<((a0.length:Nat):Int)) then (
  onInl (α:=((List Jg)×Bool)) (β:=((Bool×Int×(List Jg))⊕(((List Jg)×Bool)⊕(List Jg)))) (
   ((bif (!x24) then (
    (ixO a0 x25).bind fun x45=>
    some (decide (a1.El<x45.El))
   ) else some false)).bind fun b44=>
   bif b44 then (
    (Qi x26 [a1]).bind fun x46=>
    some (.inl (x46,true))
   ) else (
    some (.inl (x26,x24))
   )
  ) fun (x42,x43)=>
  (ixO a0 x25).bind fun x47=>
  (Qi x42 [x47]).bind fun x48=>
  some (.inl (x43,w64 (x25+1),x48))
 ) else (
  some (.inr (.inl (x26,x24)))
 )
def Jab(a0:(List Jg))(a1:Jg):Option (List Jg) :=
 (Dl a0 a1).bind fun r1=>
 bif r1 then (
  some a0
 ) else (
  onInl (Jp (Xd a0 a1) (false,0,[])) fun (x37,x38)=>
  onInl (α:=(List Jg)) (β:=(List Jg)) (
   bif (!x38) then (
    (Qi x37 [a1]).bind fun x51=>
    some (.inl x51)
   ) else (
    some (.inl x37)
   )
  ) fun x50=>
  some x50
 )
instance (a0:(List Jg))(a1:Jg):Cp (Jab a0 a1) 128 [Enc.pv a0,Enc.pv a1] Enc.pv:=⟨fun r h=>by
 unfold Jab at h;refine zG f128 ?_;refine w1 n0 (ep 2 (ec z1 (ee S1))) ?_;intro _ h;refine Jo (Ko (Wz 5 100005 2 16 kr kr ?_));refine uL 48 0 (fun s (x24,x25,x26)=>⟨(5,Ji (.own 100005) x26)::(6,.bool x24)::(7,I6 x25)::gt s [0,3],gh s [3],[(100005,(((x26).map cellsOf).length,2))],[]⟩) (fun s (x37,x38)=>⟨[(3,.ref 3 0),(5,Ji (.own 100005) x37),(6,.bool x38)],gh s [3],[(100005,(((x37).map cellsOf).length,2))],[]⟩) h ?_ ?_
 ·rintro ⟨x24,x25,x26⟩ _ h;unfold Xd at h;refine w1 a0 (.l 2 (ec .S .z)) ?_;intro h;refine Vb (Jo (Kj (Ko ?_)));refine uJ 48 (fun s (x42,x43)=>⟨(5,Ji (.own 100005) x42)::(6,.bool x43)::gt s [0,3,7],gh s [3],[(100005,(((x42).map cellsOf).length,2))],[]⟩) h ?_ ?_
  ·intro _ h;exact w1 n0 (.b 3 9 29 (.g 0 (.i 2 .z) .z) (ec (.w 3 z2) .z)) t0
  rintro ⟨x42,x43⟩ h;exact w1 n0 (.i 3 (.w 2 z2)) t0
 rintro ⟨x37,x38⟩ s' h hs;refine Ui (Jo (Qk hs ?_));refine uJ 48 (fun _ x50=>⟨[(5,Ji (.own 100005) x50)],[],[(100005,(((x50).map cellsOf).length,2))],[]⟩) h ?_ ?_
 ·intro _ h;exact w1 n0 (ec (.w 3 z1) .z) t0
 intro x50 h;exact w1 n0 z1 t0⟩
def Tw(a0:(List Int))(a1:Int):Int->Option (Int⊕(Unit⊕Bool)):=fun x2=>
 bif decide (x2<((a0.length:Nat):Int)) then (
  (ixO a0 x2).bind fun x4=>
  bif decide (x4=a1) then (
   some (.inr (.inr true))
  ) else (
   some (.inl (w64 (x2+1)))
  )
 ) else (
  some (.inr (.inl ()))
 )
def Oq(a0:(List Int))(a1:Int):Option Bool :=
 onInl (Jp (Tw a0 a1) 0) fun _=>
 some false
instance (a0:(List Int))(a1:Int):Cp (Oq a0 a1) 186 [Enc.pv a0,Enc.pv a1] Enc.pv:=⟨fun r h=>by
 unfold Oq at h;refine zG f186 ?_;refine w1 n0 s2 ?_;intro h;refine uN 18 0 [5] (fun s x2=>⟨(5,I6 x2)::gt s [0,1],[],[],[]⟩) h ?_ ?_
 ·intro x2 _ h;unfold Tw at h;exact w1 a0 (.l 2 (ec (.i 2 (ec z1 z1)) .z)) t0
 intro _ s' h hs;exact w1 n0 z1 t0⟩
def Lr(a0:(List Int))(a1:Int):(Bool×Int×(List Int))->Option ((Bool×Int×(List Int))⊕(((List Int)×Bool)⊕(List Int))):=fun (x24,x25,x26)=>
 bif decide (x25<((a0.length:Nat):Int)) then (
  onInl (α:=((List Int)×Bool)) (β:=((Bool×Int×(List Int))⊕(((List Int)×Bool)⊕(List Int)))) (
   ((bif (!x24) then (
    (ixO a0 x25).bind fun x45=>
    some (decide (a1<x45))
   ) else some false)).bind fun b44=>
   bif b44 then (
    (Qi x26 [a1]).bind fun x46=>
    some (.inl (x46,true))
   ) else (
    some (.inl (x26,x24))
   )
  ) fun (x42,x43)=>
  (ixO a0 x25).bind fun x47=>
  (Qi x42 [x47]).bind fun x48=>
  some (.inl (x43,w64 (x25+1),x48))
 ) else (
  some (.inr (.inl (x26,x24)))
 )
def Ef(a0:(List Int))(a1:Int):Option (List Int) :=
 (Oq a0 a1).bind fun r1=>
 bif r1 then (
  some a0
 ) else (
  onInl (Jp (Lr a0 a1) (false,0,[])) fun (x37,x38)=>
  onInl (α:=(List Int)) (β:=(List Int)) (
   bif (!x38) then (
    (Qi x37 [a1]).bind fun x51=>
    some (.inl x51)
   ) else (
    some (.inl x37)
   )
  ) fun x50=>
  some x50
 )
instance (a0:(List Int))(a1:Int):Cp (Ef a0 a1) 108 [Enc.pv a0,Enc.pv a1] Enc.pv:=⟨fun r h=>by
 unfold Ef at h;refine zG f108 ?_;refine w1 n0 (ep 2 (ec z1 (ee S1))) ?_;intro _ h;refine Jo (Ko (Wz 5 100005 1 8 kr kr ?_));refine uL 46 0 (fun s (x24,x25,x26)=>⟨(5,Ji (.own 100005) x26)::(6,.bool x24)::(7,I6 x25)::gt s [0,1],[],[(100005,(((x26).map cellsOf).length,1))],[]⟩) (fun _ (x37,x38)=>⟨[(1,I6 a1),(5,Ji (.own 100005) x37),(6,.bool x38)],[],[(100005,(((x37).map cellsOf).length,1))],[]⟩) h ?_ ?_
 ·rintro ⟨x24,x25,x26⟩ _ h;unfold Lr at h;refine w1 a0 (.l 2 (ec .S .z)) ?_;intro h;refine Vb (Jo (Kj (Ko ?_)));refine uJ 46 (fun s (x42,x43)=>⟨(5,Ji (.own 100005) x42)::(6,.bool x43)::gt s [0,1,7],[],[(100005,(((x42).map cellsOf).length,1))],[]⟩) h ?_ ?_
  ·intro _ h;exact w1 n0 (.b 3 7 27 (.g 0 (.i 2 .z) .z) (ec (.w 3 z2) .z)) t0
  rintro ⟨x42,x43⟩ h;exact w1 n0 (.i 3 (.w 2 z2)) t0
 rintro ⟨x37,x38⟩ s' h hs;refine Ui (Jo (Qk hs ?_));refine uJ 46 (fun _ x50=>⟨[(5,Ji (.own 100005) x50)],[],[(100005,(((x50).map cellsOf).length,1))],[]⟩) h ?_ ?_
 ·intro _ h;exact w1 n0 (ec (.w 3 z1) .z) t0
 intro x50 h;exact w1 n0 z1 t0⟩
def Rl(a0:(List Int)):(Int×(List Int))->Option ((Int×(List Int))⊕((List Int)⊕(List Int))):=fun (x6,x7)=>
 bif decide (x6<((a0.length:Nat):Int)) then (
  (ixO a0 x6).bind fun x11=>
  (Ef x7 x11).bind fun r12=>
  some (.inl (w64 (x6+1),r12))
 ) else (
  some (.inr (.inl x7))
 )
def Sh(a0:(List Int)):Option (List Int) :=
 onInl (Jp (Rl a0) (0,[])) fun x10=>
 some x10
instance (a0:(List Int)):Cp (Sh a0) 56 [Enc.pv a0] Enc.pv:=⟨fun r h=>by
 unfold Sh at h;refine zG f56 ?_;refine w1 n0 (ee s1) ?_;intro h;refine uM 18 0 [4] (fun s (x6,x7)=>⟨(3,Ji .frozen x7)::(4,I6 x6)::gt s [0],[],[],[]⟩) h ?_ ?_
 ·rintro ⟨x6,x7⟩ _ h;unfold Rl at h;exact w1 a0 (.l 2 (ec (.i 3 (.p 1 z2)) .z)) t0
 intro x10 s' h hs;exact w1 n0 z1 t0⟩
def Cv(a1:(List Int)):((List Int)×Int)->Option (((List Int)×Int)⊕((List Int)⊕(List Int))):=fun (x4,x5)=>
 bif decide (x5<((a1.length:Nat):Int)) then (
  (ixO a1 x5).bind fun x9=>
  (Ef x4 x9).bind fun r10=>
  some (.inl (r10,w64 (x5+1)))
 ) else (
  some (.inr (.inl x4))
 )
def Mr(a0:(List Int))(a1:(List Int)):Option (List Int) :=
 (Sh a0).bind fun r1=>
 onInl (Jp (Cv a1) (r1,0)) fun x8=>
 some x8
instance (a0:(List Int))(a1:(List Int)):Cp (Mr a0 a1) 129 [Enc.pv a0,Enc.pv a1] Enc.pv:=⟨fun r h=>by
 unfold Mr at h;refine zG f129 ?_;refine w1 n0 (ep 1 s2) ?_;intro _ h;refine uL 22 0 (fun s (x4,x5)=>⟨(5,Ji .frozen x4)::(6,I6 x5)::gt s [1],[],[],[]⟩) (fun _ x8=>⟨[(5,Ji .frozen x8)],[],[],[]⟩) h ?_ ?_
 ·rintro ⟨x4,x5⟩ _ h;unfold Cv at h;exact w1 a1 (.l 2 (ec (.i 3 (.p 1 z2)) .z)) t0
 intro x8 s' h hs;exact w1 n0 z1 t0⟩
def Hz(a0:Ja)(a1:Jh)(r1:(List Jf)):(Int×(List Jg)×(List Int)×(List Jf))->Option ((Int×(List Jg)×(List Int)×(List Jf))⊕(((List Jg)×(List Int)×(List Jf))⊕Jh)):=fun (x55,x56,x57,x58)=>
 bif decide (x55<((r1.length:Nat):Int)) then (
  onInl (α:=((List Jg)×(List Int)×(List Jf))) (β:=((Int×(List Jg)×(List Int)×(List Jf))⊕(((List Jg)×(List Int)×(List Jf))⊕Jh))) (
   (ixO r1 x55).bind fun x101=>
   (Pu a0 (Jh.mk a1.Name a1.Entry a1.Exit a1.Path a1.Points a1.Sections a1.Approach a1.Length a1.Over a1.OverPoints a1.OverSections x56 x57 x58) x101).bind fun r102=>
   onInl (α:=(List Jf)) (β:=(((List Jg)×(List Int)×(List Jf))⊕((Int×(List Jg)×(List Int)×(List Jf))⊕(((List Jg)×(List Int)×(List Jf))⊕Jh)))) (
    bif (!r102.2.2) then (
     (ixO r1 x55).bind fun x106=>
     (Qi x58 [x106]).bind fun x107=>
     some (.inl x107)
    ) else (
     some (.inl x58)
    )
   ) fun x105=>
   onInl (α:=(List Jg)) (β:=(((List Jg)×(List Int)×(List Jf))⊕((Int×(List Jg)×(List Int)×(List Jf))⊕(((List Jg)×(List Int)×(List Jf))⊕Jh)))) (
    bif (!(decide (r102.1.Pos=0))) then (
     (Jab x56 r102.1).bind fun r110=>
     some (.inl r110)
    ) else (
     some (.inl x56)
    )
   ) fun x109=>
   bif decide (0<=r102.2.1) then (
    (Mr x57 [r102.2.1]).bind fun r111=>
    some (.inl (x109,r111,x105))
   ) else (
    some (.inl (x109,x57,x105))
   )
  ) fun (x98,x99,x100)=>
  some (.inl (w64 (x55+1),x98,x99,x100))
 ) else (
  some (.inr (.inl (x56,x57,x58)))
 )
def Lg(a0:Ja)(a1:Jh):Option Jh :=
 (Na a0 (Jh.mk a1.Name a1.Entry a1.Exit a1.Path a1.Points a1.Sections a1.Approach a1.Length a1.Over a1.OverPoints a1.OverSections [] [] [])).bind fun r1=>
 onInl (Jp (Hz a0 a1 r1) (0,[],[],[])) fun (x84,x85,x86)=>
 some (Jh.mk a1.Name a1.Entry a1.Exit a1.Path a1.Points a1.Sections a1.Approach a1.Length a1.Over a1.OverPoints a1.OverSections x84 x85 x86)
instance (a0:Ja)(a1:Jh):Cp (Lg a0 a1) 67 [Enc.pv a0,Enc.pv a1] Enc.pv:=⟨fun r h=>by
 unfold Lg at h;refine zG f67 ?_;refine w1 n0 (ee (ee (.p 2 S2))) ?_;intro r1 h;refine Jo (Ko (Qk (Rt 3 13 200313 2 16 (cs:=[.str a1.Name,I6 a1.Entry,I6 a1.Exit,Ji .frozen a1.Path,Ji .frozen a1.Points,Ji .frozen a1.Sections,I6 a1.Approach,I6 a1.Length,Ji .frozen a1.Over,Ji .frozen a1.OverPoints,Ji .frozen a1.OverSections,.nil,.nil,.nil]) kr kr kr) ?_));refine uM 61 0 [6] (fun s (x55,x56,x57,x58)=>⟨(6,I6 x55)::gt s [2,3,4,5],(3,.cells ([.str a1.Name,I6 a1.Entry,I6 a1.Exit,Ji .frozen a1.Path,Ji .frozen a1.Points,Ji .frozen a1.Sections,I6 a1.Approach,I6 a1.Length,Ji .frozen a1.Over,Ji .frozen a1.OverPoints,Ji .frozen a1.OverSections,Ji .frozen x56,Ji .frozen x57,Ji (.own 200313) x58]))::gh s [2,4],(200313,(((x58).map cellsOf).length,2))::gT s [115005],[]⟩) h ?_ ?_
 ·rintro ⟨x55,x56,x57,x58⟩ _ h;unfold Hz at h;refine w1 r1 (.l 2 (ec .s .z)) ?_;intro h;refine uJ 61 (fun s (x98,x99,x100)=>⟨gt s [2,3,4,5,6],(3,.cells ([.str a1.Name,I6 a1.Entry,I6 a1.Exit,Ji .frozen a1.Path,Ji .frozen a1.Points,Ji .frozen a1.Sections,I6 a1.Approach,I6 a1.Length,Ji .frozen a1.Over,Ji .frozen a1.OverPoints,Ji .frozen a1.OverSections,Ji .frozen x98,Ji .frozen x99,Ji (.own 200313) x100]))::gh s [2,4],(200313,(((x100).map cellsOf).length,2))::gT s [115005],[]⟩) h ?_ ?_
  ·intro _ h;refine w1 n0 (.i 4 (.p 1 S1)) ?_;intro _ _ h;refine Jo ?_;refine uJ 61 (fun s x105=>⟨gt s [2,3,4,5,6,7,8],(3,.cells ([.str a1.Name,I6 a1.Entry,I6 a1.Exit,Ji .frozen a1.Path,Ji .frozen a1.Points,Ji .frozen a1.Sections,I6 a1.Approach,I6 a1.Length,Ji .frozen a1.Over,Ji .frozen a1.OverPoints,Ji .frozen a1.OverSections,Ji .frozen x56,Ji .frozen x57,Ji (.own 200313) x105]))::gh s [2,4,7],(200313,(((x105).map cellsOf).length,2))::gT s [115005],[]⟩) h ?_ ?_
   ·intro _ h;exact w1 n0 (ec (.i 4 (.w 2 z1)) .z) t0
   intro x105 h;refine uJ 61 (fun s x109=>⟨gt s [2,3,4,5,6,8],(3,.cells ([.str a1.Name,I6 a1.Entry,I6 a1.Exit,Ji .frozen a1.Path,Ji .frozen a1.Points,Ji .frozen a1.Sections,I6 a1.Approach,I6 a1.Length,Ji .frozen a1.Over,Ji .frozen a1.OverPoints,Ji .frozen a1.OverSections,Ji .frozen x109,Ji .frozen x57,Ji (.own 200313) x105]))::gh s [2,4],gT s [115005,200313],[]⟩) h ?_ ?_
   ·intro _ h;exact w1 n0 (ec (.p 3 z1) .z) t0
   intro x109 h;exact w1 n0 (ec (.p 4 z1) .z) t0
  rintro ⟨x98,x99,x100⟩ h;exact w1 n0 z1 t0
 rintro ⟨x84,x85,x86⟩ s' h hs;exact w1 n0 z1 t0⟩
def Nj(a0:Ja)(r1:((List Jh)×Int)):(Int×(List Jh))->Option ((Int×(List Jh))⊕((List Jh)⊕(Jq×Int))):=fun (x12,x13)=>
 bif decide (x12<((r1.1.length:Nat):Int)) then (
  (ixO r1.1 x12).bind fun x19=>
  (Lc a0 x19).bind fun r20=>
  (Lg a0 r20).bind fun r21=>
  (Qi x13 [r21]).bind fun x22=>
  some (.inl (w64 (x12+1),x22))
 ) else (
  some (.inr (.inl x13))
 )
def Nh(a0:Ja)(r2:(List Int)):(Int×(List Int))->Option ((Int×(List Int))⊕((List Int)⊕(Jq×Int))):=fun (x30,x31)=>
 bif decide (x30<((r2.length:Nat):Int)) then (
  (ixO r2 x30).bind fun x36=>
  (Vt a0 x36).bind fun r37=>
  (Qi x31 [r37]).bind fun x38=>
  some (.inl (w64 (x30+1),x38))
 ) else (
  some (.inr (.inl x31))
 )
def Bm(a0:Ja):Option (Jq×Int) :=
 (Pp a0).bind fun r1=>
 bif (!(decide (r1.2=0))) then (
  some ((Jq.mk [] [] [] 0 0),r1.2)
 ) else (
  (Es a0).bind fun r2=>
  onInl (Jp (Nj a0 r1) (0,[])) fun x18=>
  onInl (Jp (Nh a0 r2) (0,[])) fun x35=>
  some ((Jq.mk x18 r2 x35 ((a0.Sections.length:Nat):Int) ((a0.Signals.length:Nat):Int)),0)
 )
instance (a0:Ja):Cp (Bm a0) 28 [Enc.pv a0] (fun r=>.tup [Enc.pv r.1,Enc.pv r.2]):=⟨fun r h=>by
 unfold Bm at h;refine zG f28 ?_;refine w1 a0.Sections (ep 1 (ee (.c z1 (.p 1 (.l 2 .s))))) ?_;intro r1 r2 h;refine yl 2 a0.Signals (w1 r1.1 (el 1 S1) ?_);intro h;refine Jo (Ko (Qk (Rt 6 0 200600 14 264 (cs:=[.nil,Ji .frozen r2,.nil,I6 ((a0.Sections.length:Nat):Int),I6 ((a0.Signals.length:Nat):Int)]) kr kr kr) ?_));refine uM 63 0 [31] (fun s (x12,x13)=>⟨(31,I6 x12)::gt s [1,2,6,29,30],(6,.cells ([Ji (.own 200600) x13,Ji .frozen r2,.nil,I6 ((a0.Sections.length:Nat):Int),I6 ((a0.Signals.length:Nat):Int)]))::gh s [1,2],[(200600,(((x13).map cellsOf).length,14))],[]⟩) h ?_ ?_
 ·rintro ⟨x12,x13⟩ _ h;unfold Nj at h;exact w1 n0 (ec (.i 0 (ep 5 (.p 0 (.w 1 z2)))) .z) t0
 intro x18 s' h hs;refine w1 r2 (.l 2 S1) ?_;intro h;refine Jo (Ko (Qk (Rt 6 2 200602 1 8 (cs:=[Ji (.own 200600) x18,Ji .frozen r2,.nil,I6 ((a0.Sections.length:Nat):Int),I6 ((a0.Signals.length:Nat):Int)]) kr kr kr) ?_));refine uM 63 2 [49] (fun s (x30,x31)=>⟨(49,I6 x30)::gt s [1,2,6,47,48],(6,.cells ([Ji (.own 200600) x18,Ji .frozen r2,Ji (.own 200602) x31,I6 ((a0.Sections.length:Nat):Int),I6 ((a0.Signals.length:Nat):Int)]))::gh s [1,2],(200602,(((x31).map cellsOf).length,1))::gT s [200600],[]⟩) h ?_ ?_
 ·rintro ⟨x30,x31⟩ _ h;unfold Nh at h;exact w1 n0 (ec (.i 0 (ep 4 (.w 1 z2))) .z) t0
 intro x35 s' h hs;exact w1 n0 z1 t0⟩
def Jdh : Option (Kt×Uv) :=
 some ((Kt.mk 3 (ByteArray.mk #[105,99,101]) 5000 900 50 50 100 0 0 0),(Uv.mk [(Jb.mk 0 0 1)] 15000 5000))
theorem Jlo(r:(Kt×Uv))(h:Jdh=some r):Yx prog GlS 29 [] (.tup [Enc.pv r.1,Enc.pv r.2]):=by
 unfold Jdh at h;refine zG f29 ?_;exact w1 n0 z2 t0
def Qe(a0:Int)(a1:Int)(a2:Int):Option Bool :=
 some ((decide (a1<=a0))&&(decide (a0<=a2)))
instance (a0:Int)(a1:Int)(a2:Int):Cp (Qe a0 a1 a2) 205 [Enc.pv a0,Enc.pv a1,Enc.pv a2] Enc.pv:=⟨fun r h=>by
 unfold Qe at h;refine zG f205 ?_;exact w1 n0 (.e (.o 4 4 14 0 z1)) t0⟩
def Oj(a0:Ja):Option Bool :=
 (Qe ((a0.Elements.length:Nat):Int) 1 32).bind fun r1=>
 ((bif r1 then (
  (Qe ((a0.Sections.length:Nat):Int) 1 24).bind fun r3=>
  some r3
 ) else some false)).bind fun b2=>
 ((bif b2 then (
  some (decide (((a0.Signals.length:Nat):Int)<=20))
 ) else some false)).bind fun b4=>
 ((bif b4 then (
  some (decide (((a0.Balises.length:Nat):Int)<=24))
 ) else some false)).bind fun b5=>
 some b5
instance (a0:Ja):Cp (Oj a0) 137 [Enc.pv a0] Enc.pv:=⟨fun r h=>by
 unfold Oj at h;refine zG f137 ?_;refine w6 a0.Elements (el 2 (.p 0 (.b 1 5 12 (.g 0 .s .z) (.b 1 5 18 (.g 0 .s .z) (.b 1 5 24 (.g 0 .s .z) z1))))) ?_ ?_ ?_ t0 t0 t0
 ·intro _ _ h;exact yl 2 a0.Sections (w1 n0 (.p 0 .z) t0)
 ·intro _ _ _ h;exact yl 2 a0.Signals (w1 n0 .z t0)
 intro _ _ _ _ h;refine yl 2 a0.Balises ?_;exact w1 n0 .z t0⟩
def Jf0(a0:ByteArray):Nat->Option (Nat⊕(Unit⊕Bool)):=fun x5=>
 bif decide (x5<a0.size) then (
  bif ((((decide ((((Go.Utf8.decode a0 x5).1:Nat):Int)<97))||(decide (122<(((Go.Utf8.decode a0 x5).1:Nat):Int))))&&((decide ((((Go.Utf8.decode a0 x5).1:Nat):Int)<48))||(decide (57<(((Go.Utf8.decode a0 x5).1:Nat):Int)))))&&(!(decide ((((Go.Utf8.decode a0 x5).1:Nat):Int)=95)))) then (
   some (.inr (.inr false))
  ) else (
   some (.inl (x5+(Go.Utf8.decode a0 x5).2))
  )
 ) else (
  some (.inr (.inl ()))
 )
def Ja6(a0:ByteArray):Option Bool :=
 ((bif ((decide (a0=ByteArray.empty))||(decide (12<((a0.size:Nat):Int)))) then some true else (
  (Jpf a0 0).bind fun x2=>
  some (decide (x2<97))
 ))).bind fun b1=>
 ((bif b1 then some true else (
  (Jpf a0 0).bind fun x4=>
  some (decide (122<x4))
 ))).bind fun b3=>
 bif b3 then (
  some false
 ) else (
  onInl (Jp (Jf0 a0) 0) fun _=>
  some true
 )
instance (a0:ByteArray):Cp (Ja6 a0) 144 [Enc.pv a0] Enc.pv:=⟨fun r h=>by
 unfold Ja6 at h;refine zG f144 ?_;refine w6 n0 (.e (.o 3 4 11 0 (.b 1 4 16 (.g 0 .z .x) (.b 1 4 21 (.g 0 .z .x) (ec z1 .s))))) ?_ ?_ ?_ t0 t0 t0
 ·intro _ _ h2 h;exact zR 1 (Joa h2 kr (w1 n0 .z t0))
 ·intro _ _ _ h4 h;exact zR 1 (Joa h4 kr (w1 n0 .z t0))
 intro _ _ h;refine zR 1 (Khw (b:=a0) (l:=23) kr (w1 n0 s1 ?_));intro h;refine uL 45 0 (fun s x5=>⟨gt s [23],[(23,.iter a0 x5)],[],[]⟩) (fun _ (_:Unit)=>⟨[],[],[],[]⟩) h ?_ ?_
 ·intro x5 _ h;unfold Jf0 at h;refine Kj (Wp ?_);rcases Jls h with ⟨hb,h⟩|⟨hb,h⟩
  ·refine Kdi (b:=a0) (pos:=x5) 23 kr hb kr (w1 n0 S1 ?_);intro h;exact Jo (Kj (Jb3 (b:=true) rfl kr (w1 n0 (.e (.o 3 3 32 2 (.o 1 7 40 1 (.o 1 3 44 0 (ec z1 .z))))) t0)))
  refine Kfe (b:=a0) (pos:=x5) 23 kr hb kr (w1 n0 S1 ?_);intro h;exact Jo (Kj (Jbv (b:=false) rfl kr (w1 n0 .z t0)))
 intro _ s' h hs;exact w1 n0 z1 t0⟩
def Sw(a0:Ja):((List ByteArray)×Int)->Option (((List ByteArray)×Int)⊕((List ByteArray)⊕Int)):=fun (x4,x5)=>
 bif decide (x5<((a0.Elements.length:Nat):Int)) then (
  (ixO a0.Elements x5).bind fun x9=>
  (Qi x4 [x9.Name]).bind fun x10=>
  some (.inl (x10,w64 (x5+1)))
 ) else (
  some (.inr (.inl x4))
 )
def Ss(a0:Ja):((List ByteArray)×Int)->Option (((List ByteArray)×Int)⊕((List ByteArray)⊕Int)):=fun (x14,x15)=>
 bif decide (x15<((a0.Signals.length:Nat):Int)) then (
  (ixO a0.Signals x15).bind fun x19=>
  (Qi x14 [x19.Name]).bind fun x20=>
  some (.inl (x20,w64 (x15+1)))
 ) else (
  some (.inr (.inl x14))
 )
def Sv(x38:(List ByteArray)):Int->Option (Int⊕(Unit⊕(Int⊕(Unit⊕Int)))):=fun x41=>
 bif decide (x41<((x38.length:Nat):Int)) then (
  (ixO x38 x41).bind fun x44=>
  (Ja6 x44).bind fun r45=>
  bif (!r45) then (
   some (.inr (.inr (.inr (.inr 3))))
  ) else (
   some (.inl (w64 (x41+1)))
  )
 ) else (
  some (.inr (.inl ()))
 )
def Su(a0:Ja)(x8:(List ByteArray))(x18:(List ByteArray)):Int->Option (Int⊕(Unit⊕Int)):=fun x29=>
 bif decide (x29<(([[a0.Name],a0.Sections,x8,x18].length:Nat):Int)) then (
  (ixO [[a0.Name],a0.Sections,x8,x18] x29).bind fun x38=>
  onInl (Jp (Sv x38) 0) fun _=>
  some (.inl (w64 (x29+1)))
 ) else (
  some (.inr (.inl ()))
 )
def Sx(x59:(List ByteArray)):(Int×(List (ByteArray×Bool)))->Option ((Int×(List (ByteArray×Bool)))⊕(Unit⊕(Int⊕(Unit⊕Int)))):=fun (x61,x62)=>
 bif decide (x61<((x59.length:Nat):Int)) then (
  (ixO x59 x61).bind fun x64=>
  bif ((Ye (x62:(List (ByteArray×Bool))) x64).getD false) then (
   some (.inr (.inr (.inr (.inr 8))))
  ) else (
   some (.inl (w64 (x61+1),(Hv x64 true x62)))
  )
 ) else (
  some (.inr (.inl ()))
 )
def Sr(a0:Ja)(x8:(List ByteArray))(x18:(List ByteArray)):Int->Option (Int⊕(Unit⊕Int)):=fun x52=>
 bif decide (x52<(([[a0.Name],a0.Sections,x8,x18].length:Nat):Int)) then (
  (ixO [[a0.Name],a0.Sections,x8,x18] x52).bind fun x59=>
  onInl (Jp (Sx x59) (0,[])) fun _=>
  some (.inl (w64 (x52+1)))
 ) else (
  some (.inr (.inl ()))
 )
def Mf(a0:Ja):Option Int :=
 (mkO ByteArray ((a0.Elements.length:Nat):Int)).bind fun x1=>
 onInl (Jp (Sw a0) (x1,0)) fun x8=>
 (mkO ByteArray ((a0.Signals.length:Nat):Int)).bind fun x11=>
 onInl (Jp (Ss a0) (x11,0)) fun x18=>
 onInl (Jp (Su a0 x8 x18) 0) fun _=>
 onInl (Jp (Sr a0 x8 x18) 0) fun _=>
 some 0
instance (a0:Ja):Cp (Mf a0) 138 [Enc.pv a0] Enc.pv:=⟨fun r h=>by
 unfold Mf at h;refine zG f138 ?_;refine w1 a0.Elements (el 2 .x) ?_;intro _ h1 h;refine Kiv 22 h1 kr (w1 a0.Elements (el 2 s1) ?_);intro h;refine uL 98 0 (fun s (x4,x5)=>⟨(3,Ji (.own 22) x4)::(26,I6 x5)::gt s [1,24,25],gh s [1],[(22,(((x4).map cellsOf).length,1))],[]⟩) (fun s x8=>⟨[(1,.ref 1 0),(3,Ji (.own 22) x8)],gh s [1],[(22,(((x8).map cellsOf).length,1))],[]⟩) h ?_ ?_
 ·rintro ⟨x4,x5⟩ _ h;unfold Sw at h;exact w1 n0 (ec (.i 0 (ew 4 z2)) .z) t0
 intro x8 s' h hs;refine w1 a0.Signals (.l 2 .x) ?_;intro _ h10 h;refine Kiv 39 h10 kr (w1 a0.Signals (el 2 s1) ?_);intro h;refine uL 98 2 (fun s (x14,x15)=>⟨(6,Ji (.own 39) x14)::(43,I6 x15)::gt s [1,3,41,42],gh s [1],(39,(((x14).map cellsOf).length,1))::gT s [22],[]⟩) (fun s x18=>⟨(6,Ji (.own 39) x18)::gt s [1,3],gh s [1],(39,(((x18).map cellsOf).length,1))::gT s [22],[]⟩) h ?_ ?_
 ·rintro ⟨x14,x15⟩ _ h;unfold Ss at h;exact w1 n0 (ec (.i 0 (ew 4 z2)) .z) t0
 intro x18 s' h hs;refine w1 (([[a0.Name],a0.Sections,x8,x18]:(List (List ByteArray)))) (el 1 s1) ?_;intro h;refine uN 98 4 [63] (fun s x29=>⟨(63,I6 x29)::gt s [9,61,62],[],[],[]⟩) h ?_ ?_
 ·intro x29 _ h;unfold Su at h;refine w1 n0 (ec (.i 0 s1) .z) ?_;intro x38 h;refine yl 1 x38 (w1 n0 s1 ?_);intro h;refine uN 98 6 [69] (fun s x41=>⟨(69,I6 x41)::gt s [9,61,62,63,67,68],[],[],[]⟩) h ?_ ?_
  ·intro x41 _ h;unfold Sv at h;exact w1 n0 (ec (.i 0 (ep 1 (ec z1 z1))) .z) t0
  intro _ s' h hs;exact w1 n0 z1 t0
 intro _ s' h hs;refine w1 (([[a0.Name],a0.Sections,x8,x18]:(List (List ByteArray)))) (.l 1 s1) ?_;intro h;refine uN 98 8 [80] (fun s x52=>⟨(80,I6 x52)::gt s [78,79],[],[],[]⟩) h ?_ ?_
 ·intro x52 _ h;unfold Sr at h;refine w1 n0 (ec (.i 0 s2) .z) ?_;intro x59 h;refine yl 1 x59 (w1 n0 s1 ?_);intro h;refine uL 98 10 (fun s (x61,x62)=>⟨(87,I6 x61)::gt s [16,78,79,80,85,86],[(84,.map (Zj x62))],[],[]⟩) (fun s (_:Unit)=>⟨gt s [78,79,80],[],[],[]⟩) h ?_ ?_
  ·rintro ⟨x61,x62⟩ _ h;unfold Sx at h;refine w1 n0 (ec (.i 0 s1) .z) ?_;intro x64 h;refine zR 2 (Jf5 (m:=x62) (k:=x64) false 84 kr kr (w1 n0 (ec z1 .s) ?_));intro h;exact zR 2 (Jiv (m:=x62) (k:=x64) (v:=true) 84 kr kr kr (w1 n0 z2 t0))
  intro _ s' h hs;exact w1 n0 z1 t0
 intro _ s' h hs;exact w1 n0 z1 t0⟩
def Zz(a0:Ja):Int->Option (Int⊕(Unit⊕Bool)):=fun x13=>
 bif decide (x13<((a0.Elements.length:Nat):Int)) then (
  (ixO a0.Elements x13).bind fun x26=>
  (Qe x26.Kind 1 3).bind fun r27=>
  ((bif (!r27) then some true else (
   (Qe x26.Length 500 1000000).bind fun r29=>
   some (!r29)
  ))).bind fun b28=>
  ((bif b28 then some true else (
   (Qe x26.Grade (-50) 50).bind fun r31=>
   some (!r31)
  ))).bind fun b30=>
  ((bif b30 then some true else (
   (Qe x26.Speed 100 10000).bind fun r33=>
   some (!r33)
  ))).bind fun b32=>
  ((bif b32 then some true else (
   (Qe x26.Section 0 (w64 (((a0.Sections.length:Nat):Int) - 1))).bind fun r35=>
   some (!r35)
  ))).bind fun b34=>
  bif b34 then (
   some (.inr (.inr false))
  ) else (
   ((bif decide (x26.Kind=2) then (
    (Qe x26.Slow 100 x26.Speed).bind fun r37=>
    some (!r37)
   ) else some false)).bind fun b36=>
   bif (b36||((!(decide (x26.Kind=2)))&&(!(decide (x26.Slow=0))))) then (
    some (.inr (.inr false))
   ) else (
    some (.inl (w64 (x13+1)))
   )
  )
 ) else (
  some (.inr (.inl ()))
 )
def Ze(a0:Ja):Option Bool :=
 onInl (Jp (Zz a0) 0) fun _=>
 some true
instance (a0:Ja):Cp (Ze a0) 139 [Enc.pv a0] Enc.pv:=⟨fun r h=>by
 unfold Ze at h;refine zG f139 ?_;refine w1 a0.Elements (el 2 s1) ?_;intro h;refine uN 66 0 [8] (fun s x13=>⟨(8,I6 x13)::gt s [1,6,7],gh s [1],[],[]⟩) h ?_ ?_
 ·intro x13 _ h;unfold Zz at h;exact w1 a0.Sections (ec (.i 0 (ep 2 (.b 2 5 21 (.g 0 .z (.p 2 .z)) (.b 1 5 27 (.g 0 .z (.p 2 .z)) (.b 1 5 33 (.g 0 .z (.p 2 .z)) (.b 1 9 43 (.g 0 .z (.l 4 (.p 1 .z))) (ec z1 (.b 4 7 54 (.g 0 (.p 4 .z) .z) (.o 1 9 64 0 (ec z1 z1)))))))))) .z) t0
 intro _ s' h hs;exact w1 n0 z1 t0⟩
def Fj(a0:Ja)(a1:Int):(Int×(List Int))->Option ((Int×(List Int))⊕((List Int)⊕(List Int))):=fun (x13,x14)=>
 bif decide (x13<((a0.Elements.length:Nat):Int)) then (
  onInl (α:=(List Int)) (β:=((Int×(List Int))⊕((List Int)⊕(List Int)))) (
   (ixO a0.Elements x13).bind fun x24=>
   bif decide (x24.Section=a1) then (
    (Qi x14 [x13]).bind fun x25=>
    some (.inl x25)
   ) else (
    some (.inl x14)
   )
  ) fun x23=>
  some (.inl (w64 (x13+1),x23))
 ) else (
  some (.inr (.inl x14))
 )
def Bx(a0:Ja)(a1:Int):Option (List Int) :=
 ((bif decide (a1<0) then some true else (
  some (decide (((a0.Sections.length:Nat):Int)<=a1))
 ))).bind fun b1=>
 bif b1 then (
  some ([]:(List Int))
 ) else (
  onInl (Jp (Fj a0 a1) (0,[])) fun x20=>
  some x20
 )
instance (a0:Ja)(a1:Int):Cp (Bx a0 a1) 206 [Enc.pv a0,Enc.pv a1] (fun r=>Ji (.own 100005) r):=⟨fun r h=>by
 unfold Bx at h;refine zG f206 ?_;refine w6 a0.Sections (.e (.b 3 6 16 (.g 0 .z (.l 3 .z)) (ec S1 s1))) ?_ ?_ t0 t0 t0 t0
 ·intro _ h;exact Jo (Wz 4 100005 1 8 kr kr (w1 n0 .z t0))
 intro _ h;refine yl 2 a0.Elements (w1 n0 S1 ?_);intro h;refine Jo (Ko (Wz 5 100005 1 8 kr kr ?_));refine uM 35 0 [20] (fun s (x13,x14)=>⟨(5,Ji (.own 100005) x14)::(20,I6 x13)::gt s [1,18,19],[],[(100005,(((x14).map cellsOf).length,1))],[]⟩) h ?_ ?_
 ·rintro ⟨x13,x14⟩ _ h;unfold Fj at h;refine w1 n0 (ec .s .z) ?_;intro h;refine uJ 35 (fun s x23=>⟨(5,Ji (.own 100005) x23)::gt s [1,18,19,20],[],[(100005,(((x23).map cellsOf).length,1))],[]⟩) h ?_ ?_
  ·intro _ h;exact w1 n0 (.i 1 (ee (.c (.w 3 z1) .z))) t0
  intro x23 h;exact w1 n0 z1 t0
 intro x20 s' h hs;exact w1 n0 z1 t0⟩
def Pj(a0:Ja):Int->Option (Int⊕(Unit⊕Bool)):=fun x2=>
 bif decide (x2<((a0.Sections.length:Nat):Int)) then (
  (Bx a0 x2).bind fun r4=>
  bif decide (((r4.length:Nat):Int)=0) then (
   some (.inr (.inr false))
  ) else (
   some (.inl (w64 (x2+1)))
  )
 ) else (
  some (.inr (.inl ()))
 )
def Gx(a0:Ja):Option Bool :=
 onInl (Jp (Pj a0) 0) fun _=>
 some true
instance (a0:Ja):Cp (Gx a0) 140 [Enc.pv a0] Enc.pv:=⟨fun r h=>by
 unfold Gx at h;refine zG f140 ?_;refine w1 a0.Sections (el 2 s1) ?_;intro h;refine uN 16 0 [7] (fun s x2=>⟨(7,I6 x2)::gt s [1,6],gh s [1],[],[]⟩) h ?_ ?_
 ·intro x2 _ h;unfold Pj at h;refine w1 n0 (ec (ep 2 .s) .z) ?_;intro r4 h;exact yl 0 r4 (w1 n0 (ec z1 z1) t0)
 intro _ s' h hs;exact w1 n0 z1 t0⟩
def Jen(a0:Int):Option Int :=
 bif ((decide (a0<0))||(decide (4<=a0))) then (
  some 0
 ) else (
  (ixO Ih a0).bind fun x1=>
  some x1
 )
instance (a0:Int):Cp (Jen a0) 262 [Enc.pv a0] Enc.pv:=⟨fun r h=>by
 unfold Jen at h;refine zG f262 ?_;refine w1 n0 (.e (.o 3 3 8 0 (ec z1 .x))) ?_;intro _ h1 h;refine zR 1 (Kll h1 1 4 1 kr kr (Kh6 (tab:=Ih) h1 false 1 kr kr kr ?_));exact w1 n0 z1 t0⟩
def Ge(a0:Ja)(a1:Jf):Option Bool :=
 (Qe a1.El 0 (w64 (((a0.Elements.length:Nat):Int) - 1))).bind fun r1=>
 ((bif r1 then (
  (ixO a0.Elements a1.El).bind fun x3=>
  (Jen x3.Kind).bind fun r4=>
  (Qe a1.Side 0 (w64 (r4 - 1))).bind fun r5=>
  some r5
 ) else some false)).bind fun b2=>
 some b2
instance (a0:Ja)(a1:Jf):Cp (Ge a0 a1) 207 [Enc.pv a0,Enc.pv a1] Enc.pv:=⟨fun r h=>by
 unfold Ge at h;refine zG f207 ?_;exact w1 a0.Elements (el 4 (.p 1 (.b 1 13 25 (.g 0 (.i 6 (.p 2 (.p 1 .z))) .z) z1))) t0⟩
def Ja4(a0:Ja):Int->Option (Int⊕(Unit⊕((List (Jf×Jf))×Int))):=fun x5=>
 bif decide (x5<((a0.Joints.length:Nat):Int)) then (
  (ixO a0.Joints x5).bind fun x10=>
  (Ge a0 x10.A).bind fun r11=>
  ((bif (!r11) then some true else (
   (Ge a0 x10.B).bind fun r13=>
   some (!r13)
  ))).bind fun b12=>
  bif (b12||(Kd x10.A x10.B)) then (
   some (.inr (.inr (([]:(List (Jf×Jf))),1)))
  ) else (
   some (.inl (w64 (x5+1)))
  )
 ) else (
  some (.inr (.inl ()))
 )
def Ja2(a0:Ja):(Int×(List (Jf×Jf)))->Option ((Int×(List (Jf×Jf)))⊕((List (Jf×Jf))⊕((List (Jf×Jf))×Int))):=fun (x15,x16)=>
 bif decide (x15<((a0.Joints.length:Nat):Int)) then (
  (ixO a0.Joints x15).bind fun x19=>
  bif (((Ye (x16:(List (Jf×Jf))) x19.A).isSome)||((Ye (x16:(List (Jf×Jf))) x19.B).isSome)) then (
   some (.inr (.inr (([]:(List (Jf×Jf))),8)))
  ) else (
   some (.inl (w64 (x15+1),(Hv x19.B x19.A (Hv x19.A x19.B x16))))
  )
 ) else (
  some (.inr (.inl x16))
 )
def Ro(a0:Ja):Option ((List (Jf×Jf))×Int) :=
 onInl (Jp (Ja4 a0) 0) fun _=>
 onInl (Jp (Ja2 a0) (0,[])) fun x18=>
 some (x18,0)
theorem Jgl(a0:Ja)(r:((List (Jf×Jf))×Int))(h:Ro a0=some r):Yx prog GlS 141 [Enc.pv a0] (.tup [Kkw (r.1:(List (Jf×Jf))),Enc.pv r.2]):=by
 unfold Ro at h;refine zG f141 ?_;refine w1 a0.Joints (el 2 s1) ?_;intro h;refine uN 78 0 [16] (fun s x5=>⟨(16,I6 x5)::gt s [1,14,15],gh s [1],[],[]⟩) h ?_ ?_
 ·intro x5 _ h;unfold Ja4 at h;refine w1 n0 (ec (.i 0 (ep 3 (.b 2 6 31 (.g 0 .z (.p 3 .z)) (.o 1 6 38 0 (ec s1 z1))))) .z) ?_;intro _ _ _ h;cases h;exact zQ
 intro _ s' h hs;refine w1 a0.Joints (el 2 s1) ?_;intro h;refine uM 78 2 [44] (fun s (x15,x16)=>⟨(44,I6 x15)::gt s [6,42,43],[(40,.map (Zj x16))],[],[]⟩) h ?_ ?_
 ·rintro ⟨x15,x16⟩ _ h;unfold Ja2 at h;refine w1 n0 (ec (.i 0 s1) .z) ?_;intro x19 h;refine zR 3 (Jkq (m:=x16) (k:=x19.A) (Jf.mk 0 0) 40 kr kr (w1 n0 s1 ?_));intro h;refine zR 3 (Jkq (m:=x16) (k:=x19.B) (Jf.mk 0 0) 40 kr kr ?_);refine w6 n0 (.e (.o 2 2 65 0 (ec s1 .s))) ?_ ?_ t0 t0 t0 t0
  ·intro h;cases h;exact zQ
  intro h;exact zR 10 (Jiv (m:=x16) (k:=x19.A) (v:=x19.B) 40 kr kr kr (Jiv (m:=((Hv x19.A x19.B x16):(List (Jf×Jf)))) (k:=x19.B) (v:=x19.A) 40 kr kr kr (w1 n0 z2 t0)))
 intro x18 s' h hs;refine w1 n0 S1 ?_;intro h;refine Jo (Kja 40 [] x18 kr kr kr (Wg ?_));cases h;exact zQ
def Jc2(a0:Ja)(a1:Jf):Int->Option (Int⊕(Unit⊕Int)):=fun x2=>
 bif decide (x2<((a0.Signals.length:Nat):Int)) then (
  (ixO a0.Signals x2).bind fun x4=>
  bif Kd x4.At a1 then (
   some (.inr (.inr x2))
  ) else (
   some (.inl (w64 (x2+1)))
  )
 ) else (
  some (.inr (.inl ()))
 )
def Nt(a0:Ja)(a1:Jf):Option Int :=
 onInl (Jp (Jc2 a0 a1) 0) fun _=>
 some (-1)
instance (a0:Ja)(a1:Jf):Cp (Nt a0 a1) 73 [Enc.pv a0,Enc.pv a1] Enc.pv:=⟨fun r h=>by
 unfold Nt at h;refine zG f73 ?_;refine w1 a0.Signals (el 2 s1) ?_;intro h;refine uN 21 0 [10] (fun s x2=>⟨(10,I6 x2)::gt s [3,8,9],gh s [3],[],[]⟩) h ?_ ?_
 ·intro x2 _ h;unfold Jc2 at h;exact w1 n0 (ec (.i 1 (ee (.c z1 z1))) .z) t0
 intro _ s' h hs;exact w1 n0 z1 t0⟩
def Yu(a0:Ja)(a1:Int):Option Int :=
 ((bif decide (a1<0) then some true else (
  some (decide (((a0.Elements.length:Nat):Int)<=a1))
 ))).bind fun b1=>
 bif b1 then (
  some (-1)
 ) else (
  (ixO a0.Elements a1).bind fun x2=>
  some x2.Section
 )
instance (a0:Ja)(a1:Int):Cp (Yu a0 a1) 208 [Enc.pv a0,Enc.pv a1] Enc.pv:=⟨fun r h=>by
 unfold Yu at h;refine zG f208 ?_;exact w1 a0.Elements (.e (.b 3 6 13 (.g 0 .z (.l 3 .z)) (ec z1 (.i 3 z1)))) t0⟩
def Pb(a0:Ja):Int->Option (Int⊕(Unit⊕Int)):=fun x5=>
 bif decide (x5<((a0.Signals.length:Nat):Int)) then (
  (ixO a0.Signals x5).bind fun x10=>
  (Ge a0 x10.At).bind fun r11=>
  ((bif (!r11) then some true else (
   (Qe x10.Overlap 0 1000000).bind fun r13=>
   some (!r13)
  ))).bind fun b12=>
  bif b12 then (
   some (.inr (.inr 1))
  ) else (
   some (.inl (w64 (x5+1)))
  )
 ) else (
  some (.inr (.inl ()))
 )
def Po(a0:Ja):Int->Option (Int⊕(Unit⊕Int)):=fun x16=>
 bif decide (x16<((a0.Signals.length:Nat):Int)) then (
  (ixO a0.Signals x16).bind fun x19=>
  (Nt a0 x19.At).bind fun r20=>
  bif (!(decide (r20=x16))) then (
   some (.inr (.inr 8))
  ) else (
   some (.inl (w64 (x16+1)))
  )
 ) else (
  some (.inr (.inl ()))
 )
def Pk(a0:Ja)(a1:(List (Jf×Jf))):Int->Option (Int⊕(Unit⊕Int)):=fun x25=>
 bif decide (x25<((a0.Signals.length:Nat):Int)) then (
  (ixO a0.Signals x25).bind fun x30=>
  ((bif (!((Ye (a1:(List (Jf×Jf))) x30.At).isSome)) then some true else (
   (Yu a0 (((Ye (a1:(List (Jf×Jf))) x30.At).getD (Jf.mk 0 0)).El)).bind fun r32=>
   (Yu a0 x30.At.El).bind fun r33=>
   some (decide (r32=r33))
  ))).bind fun b31=>
  bif b31 then (
   some (.inr (.inr 14))
  ) else (
   some (.inl (w64 (x25+1)))
  )
 ) else (
  some (.inr (.inl ()))
 )
def Gu(a0:Ja)(a1:(List (Jf×Jf))):Option Int :=
 onInl (Jp (Pb a0) 0) fun _=>
 onInl (Jp (Po a0) 0) fun _=>
 onInl (Jp (Pk a0 a1) 0) fun _=>
 some 0
instance (a0:Ja)(a1:(List (Jf×Jf))):Cp (Gu a0 a1) 142 [Enc.pv a0,Kkw (a1:(List (Jf×Jf)))] Enc.pv:=⟨fun r h=>by
 unfold Gu at h;refine zG f142 ?_;refine w1 a0.Signals (el 2 s1) ?_;intro h;refine uN 76 0 [16] (fun s x5=>⟨(16,I6 x5)::gt s [1,2,14,15],gh s [2],[],[]⟩) h ?_ ?_
 ·intro x5 _ h;unfold Pb at h;exact w1 n0 (ec (.i 0 (ep 3 (.b 2 5 30 (.g 0 .z (.p 2 .z)) (ec z1 z1)))) .z) t0
 intro _ s' h hs;refine w1 a0.Signals (.l 2 s1) ?_;intro h;refine uN 76 2 [35] (fun s x16=>⟨(35,I6 x16)::gt s [1,2,33,34],gh s [2],[],[]⟩) h ?_ ?_
 ·intro x16 _ h;unfold Po at h;exact w1 n0 (ec (.i 1 (ep 3 (ec z1 z1))) .z) t0
 intro _ s' h hs;refine w1 a0.Signals (.l 2 s1) ?_;intro h;refine uN 76 4 [50] (fun s x25=>⟨(50,I6 x25)::gt s [1,2,48,49],gh s [2],[],[]⟩) h ?_ ?_
 ·intro x25 _ h;unfold Pk at h;refine w1 n0 (ec (.i 0 s1) .z) ?_;intro x30 h;exact zR 3 (Jle (m:=a1) (k:=x30.At) (Jf.mk 0 0) true kr (w1 n0 (.e (.b 3 11 74 (.g 0 .z (.p 3 (.p 4 .z))) (ec z1 z1))) t0))
 intro _ s' h hs;exact w1 n0 z1 t0⟩
end
end PM
