/-
 Plain functions for the program's functions, and the proofs that the program does them. Printed by den.py.
-/
import Derived.Test.YtfpoeepcomnjhaaGreatDoorDen1
namespace PM
noncomputable section
open Go Go.RowKit Go.Proofs
attribute [local irreducible] Jv pwp
def Qi (a0:Ja) (a1:Ji):(Int×Int×Int)->Option ((Int×Int×Int)⊕(Unit⊕(Jf×Int×Bool))):=fun (x13,x14,x15) =>
 bif decide (x13<4) then (
  (Wx a0 (Je.mk x14 x15)).bind fun r28 =>
  bif (!r28.2) then (
   some (.inr (.inr ((Jf.mk 0 0),(-1),true)))
  ) else (
   (Wc a0 r28.1).bind fun r29 =>
   bif decide (0<=r29) then (
    some (.inr (.inr ((Jf.mk 0 0),r29,true)))
   ) else (
    (Zl a1.Path r28.1.El).bind fun r30 =>
    ((bif r30 then some true else (
     (Zl a1.Over r28.1.El).bind fun r32 =>
     some r32
    )):Option Bool).bind fun b31 =>
    bif b31 then (
     some (.inr (.inr ((Jf.mk 0 0),(-1),true)))
    ) else (
     ((bif decide (r28.1.El<0) then some true else (
      some (decide (((a0.Elements.length:Nat):Int)<=r28.1.El))
     )):Option Bool).bind fun b33 =>
     ((bif b33 then some true else (
      (ixO a0.Elements r28.1.El).bind fun x35 =>
      some ((decide (x35.Kind=2))&&(decide (r28.1.Side=0)))
     )):Option Bool).bind fun b34 =>
     bif b34 then (
      some (.inr (.inr ((Jf.mk 0 0),(-1),false)))
     ) else (
      (ixO a0.Elements r28.1.El).bind fun x36 =>
      bif decide (x36.Kind=2) then (
       (Sb a1 r28.1).bind fun r37 =>
       some (.inr (.inr (r37.1,r37.2.1,r37.2.2)))
      ) else (
       (ixO a0.Elements r28.1.El).bind fun x38 =>
       (Jan x38.Kind r28.1.Side 0).bind fun r39 =>
       some (.inl (w64 (x13+1),r28.1.El,r39.1))
      )
     )
    )
   )
  )
 ) else (
  some (.inr (.inl ()))
 )
def Od (a0:Ja) (a1:Ji) (a2:Je):Option (Jf×Int×Bool) :=
 onInl (Js (Qi a0 a1) (0,a2.El,a2.Side)) fun _ =>
 some ((Jf.mk 0 0),(-1),false)
instance Jy4 (a0:Ja) (a1:Ji) (a2:Je):Ct Tryz.prog GlS (Od a0 a1 a2) 127 [Enc.pv a0,Enc.pv a1,Enc.pv a2] (fun r=>.tup [Enc.pv r.1,Enc.pv r.2.1,Enc.pv r.2.2]):=⟨fun r h=>by
 unfold Od at h;refine zC Tryz.func127 Tryz.ntmps127 ?_;refine w1 n0 (.e (.e .s)) ?_;intro h;refine yL 107 0 (fun (x13,x14,x15)=>⟨[(3,.ref 3 0),(4,.ref 4 0),(5,.ref 5 0),(6,.ref 6 0),(9,I6 x13)],[(3,.cells (cellsOf a0)),(4,.cells (cellsOf a1)),(5,.cells ([I6 x14,I6 x15])),(6,.cells ([I6 0,I6 0]))],[],[]⟩) (fun (_:Unit)=>⟨[(6,.ref 6 0)],[(6,.cells ([I6 0,I6 0]))],[],[]⟩) h ?_ ?_
 ·rintro ⟨x13,x14,x15⟩ _ h;unfold Qi at h;exact w1 a0.Elements (.e (.c (.p 2 (.e (.e (.c (.e .z) (.p 2 (.e (.e (.c (.e .z) (.p 4 (.b 1 6 46 (.g 0 .z (.p 4 .z)) (.e (.c (.e .z) (.b 4 7 58 (.g 0 .z (.l 4 .z)) (.b 1 14 73 (.g 0 .z (.i 4 .y)) (.e (.c (.e .z) (.i 4 (.e (.c (.p 2 (.e .z)) (.i 4 (.p 4 (.e (.e (.e .z)))))))))))))))))))))))) .z)) t0
 intro _ s' h hs;exact w1 n0 (.e .z) t0⟩
def Rk (a0:(List Jf)) (a1:Jf):(Bool×Int×(List Jf))->Option ((Bool×Int×(List Jf))⊕(((List Jf)×Bool)⊕(List Jf))):=fun (x24,x25,x26) =>
 bif decide (x25<((a0.length:Nat):Int)) then (
  onInl (α:=((List Jf)×Bool)) (β:=((Bool×Int×(List Jf))⊕(((List Jf)×Bool)⊕(List Jf)))) (
   ((bif (!x24) then (
    (ixO a0 x25).bind fun x45 =>
    some (decide (a1.El<x45.El))
   ) else some false):Option Bool).bind fun b44 =>
   bif b44 then (
    (Uq x26 [a1]).bind fun x46 =>
    some (.inl (x46,true))
   ) else (
    some (.inl (x26,x24))
   )
  ) fun (x42,x43) =>
  (ixO a0 x25).bind fun x47 =>
  (Uq x42 [x47]).bind fun x48 =>
  some (.inl (x43,w64 (x25+1),x48))
 ) else (
  some (.inr (.inl (x26,x24)))
 )
def Sj (a0:(List Jf)) (a1:Jf):Option (List Jf) :=
 (Ci a0 a1).bind fun r1 =>
 bif r1 then (
  some a0
 ) else (
  onInl (Js (Rk a0 a1) (false,0,[])) fun (x37,x38) =>
  onInl (α:=(List Jf)) (β:=(List Jf)) (
   bif (!x38) then (
    (Uq x37 [a1]).bind fun x51 =>
    some (.inl x51)
   ) else (
    some (.inl x37)
   )
  ) fun x50 =>
  some x50
 )
instance Kfk (a0:(List Jf)) (a1:Jf):Ct Tryz.prog GlS (Sj a0 a1) 128 [Enc.pv a0,Enc.pv a1] Enc.pv:=⟨fun r h=>by
 unfold Sj at h;refine zC Tryz.func128 Tryz.ntmps128 ?_;refine w1 n0 (.e (.p 2 (.e (.c (.e .z) (.e (.e (.e .S))))))) ?_;intro _ h;refine Jo (Kq (Zh 5 100005 2 16 kr kr ?_));refine yL 48 0 (fun (x24,x25,x26)=>⟨[(0,Jh .frozen a0),(3,.ref 3 0),(5,Jh (.own 100005) x26),(6,.bool x24),(7,I6 x25)],[(3,.cells (cellsOf a1))],[(100005,(((x26).map cellsOf).length,2))],[]⟩) (fun (x37,x38)=>⟨[(3,.ref 3 0),(5,Jh (.own 100005) x37),(6,.bool x38)],[(3,.cells (cellsOf a1))],[(100005,(((x37).map cellsOf).length,2))],[]⟩) h ?_ ?_
 ·rintro ⟨x24,x25,x26⟩ _ h;unfold Rk at h;refine w1 a0 (.l 2 (.e (.c .S .z))) ?_;intro h;refine Ve (Jo (Kj (Kq ?_)));refine yJ 48 (fun (x42,x43)=>⟨[(0,Jh .frozen a0),(3,.ref 3 0),(5,Jh (.own 100005) x42),(6,.bool x43),(7,I6 x25)],[(3,.cells (cellsOf a1))],[(100005,(((x42).map cellsOf).length,2))],[]⟩) h ?_ ?_
  ·intro _ h;exact w1 n0 (.b 3 9 29 (.g 0 (.i 2 .z) .z) (.e (.c (.w 3 (.e (.e .z))) .z))) t0
  rintro ⟨x42,x43⟩ h;exact w1 n0 (.i 3 (.w 2 (.e (.e .z)))) t0
 rintro ⟨x37,x38⟩ s' h hs;refine Ui (Jo (Qx hs ?_));refine yJ 48 (fun x50=>⟨[(5,Jh (.own 100005) x50)],[],[(100005,(((x50).map cellsOf).length,2))],[]⟩) h ?_ ?_
 ·intro _ h;exact w1 n0 (.e (.c (.w 3 (.e .z)) .z)) t0
 intro x50 h;exact w1 n0 (.e .z) t0⟩
def Pz (a0:(List Int)) (a1:Int):Int->Option (Int⊕(Unit⊕Bool)):=fun x2 =>
 bif decide (x2<((a0.length:Nat):Int)) then (
  (ixO a0 x2).bind fun x4 =>
  bif decide (x4=a1) then (
   some (.inr (.inr true))
  ) else (
   some (.inl (w64 (x2+1)))
  )
 ) else (
  some (.inr (.inl ()))
 )
def Sf (a0:(List Int)) (a1:Int):Option Bool :=
 onInl (Js (Pz a0 a1) 0) fun _ =>
 some false
instance Kf1 (a0:(List Int)) (a1:Int):Ct Tryz.prog GlS (Sf a0 a1) 186 [Enc.pv a0,Enc.pv a1] Enc.pv:=⟨fun r h=>by
 unfold Sf at h;refine zC Tryz.func186 Tryz.ntmps186 ?_;refine w1 n0 (.e (.e .s)) ?_;intro h;refine yN 18 0 [5] (fun x2=>⟨[(0,Jh .frozen a0),(1,I6 a1),(5,I6 x2)],[],[],[]⟩) h ?_ ?_
 ·intro x2 _ h;unfold Pz at h;exact w1 a0 (.l 2 (.e (.c (.i 2 (.e (.c (.e .z) (.e .z)))) .z))) t0
 intro _ s' h hs;exact w1 n0 (.e .z) t0⟩
def Hs (a0:(List Int)) (a1:Int):(Bool×Int×(List Int))->Option ((Bool×Int×(List Int))⊕(((List Int)×Bool)⊕(List Int))):=fun (x24,x25,x26) =>
 bif decide (x25<((a0.length:Nat):Int)) then (
  onInl (α:=((List Int)×Bool)) (β:=((Bool×Int×(List Int))⊕(((List Int)×Bool)⊕(List Int)))) (
   ((bif (!x24) then (
    (ixO a0 x25).bind fun x45 =>
    some (decide (a1<x45))
   ) else some false):Option Bool).bind fun b44 =>
   bif b44 then (
    (Uq x26 [a1]).bind fun x46 =>
    some (.inl (x46,true))
   ) else (
    some (.inl (x26,x24))
   )
  ) fun (x42,x43) =>
  (ixO a0 x25).bind fun x47 =>
  (Uq x42 [x47]).bind fun x48 =>
  some (.inl (x43,w64 (x25+1),x48))
 ) else (
  some (.inr (.inl (x26,x24)))
 )
def Cz (a0:(List Int)) (a1:Int):Option (List Int) :=
 (Sf a0 a1).bind fun r1 =>
 bif r1 then (
  some a0
 ) else (
  onInl (Js (Hs a0 a1) (false,0,[])) fun (x37,x38) =>
  onInl (α:=(List Int)) (β:=(List Int)) (
   bif (!x38) then (
    (Uq x37 [a1]).bind fun x51 =>
    some (.inl x51)
   ) else (
    some (.inl x37)
   )
  ) fun x50 =>
  some x50
 )
instance Jzg (a0:(List Int)) (a1:Int):Ct Tryz.prog GlS (Cz a0 a1) 108 [Enc.pv a0,Enc.pv a1] Enc.pv:=⟨fun r h=>by
 unfold Cz at h;refine zC Tryz.func108 Tryz.ntmps108 ?_;refine w1 n0 (.e (.p 2 (.e (.c (.e .z) (.e (.e (.e .S))))))) ?_;intro _ h;refine Jo (Kq (Zh 5 100005 1 8 kr kr ?_));refine yL 46 0 (fun (x24,x25,x26)=>⟨[(0,Jh .frozen a0),(1,I6 a1),(5,Jh (.own 100005) x26),(6,.bool x24),(7,I6 x25)],[],[(100005,(((x26).map cellsOf).length,1))],[]⟩) (fun (x37,x38)=>⟨[(1,I6 a1),(5,Jh (.own 100005) x37),(6,.bool x38)],[],[(100005,(((x37).map cellsOf).length,1))],[]⟩) h ?_ ?_
 ·rintro ⟨x24,x25,x26⟩ _ h;unfold Hs at h;refine w1 a0 (.l 2 (.e (.c .S .z))) ?_;intro h;refine Ve (Jo (Kj (Kq ?_)));refine yJ 46 (fun (x42,x43)=>⟨[(0,Jh .frozen a0),(1,I6 a1),(5,Jh (.own 100005) x42),(6,.bool x43),(7,I6 x25)],[],[(100005,(((x42).map cellsOf).length,1))],[]⟩) h ?_ ?_
  ·intro _ h;exact w1 n0 (.b 3 7 27 (.g 0 (.i 2 .z) .z) (.e (.c (.w 3 (.e (.e .z))) .z))) t0
  rintro ⟨x42,x43⟩ h;exact w1 n0 (.i 3 (.w 2 (.e (.e .z)))) t0
 rintro ⟨x37,x38⟩ s' h hs;refine Ui (Jo (Qx hs ?_));refine yJ 46 (fun x50=>⟨[(5,Jh (.own 100005) x50)],[],[(100005,(((x50).map cellsOf).length,1))],[]⟩) h ?_ ?_
 ·intro _ h;exact w1 n0 (.e (.c (.w 3 (.e .z)) .z)) t0
 intro x50 h;exact w1 n0 (.e .z) t0⟩
def Oh (a0:(List Int)):(Int×(List Int))->Option ((Int×(List Int))⊕((List Int)⊕(List Int))):=fun (x6,x7) =>
 bif decide (x6<((a0.length:Nat):Int)) then (
  (ixO a0 x6).bind fun x11 =>
  (Cz x7 x11).bind fun r12 =>
  some (.inl (w64 (x6+1),r12))
 ) else (
  some (.inr (.inl x7))
 )
def Hu (a0:(List Int)):Option (List Int) :=
 onInl (Js (Oh a0) (0,[])) fun x10 =>
 some x10
instance Kcx (a0:(List Int)):Ct Tryz.prog GlS (Hu a0) 56 [Enc.pv a0] Enc.pv:=⟨fun r h=>by
 unfold Hu at h;refine zC Tryz.func56 Tryz.ntmps56 ?_;refine w1 n0 (.e (.e (.e .s))) ?_;intro h;refine yM 18 0 [4] (fun (x6,x7)=>⟨[(0,Jh .frozen a0),(3,Jh .frozen x7),(4,I6 x6)],[],[],[]⟩) h ?_ ?_
 ·rintro ⟨x6,x7⟩ _ h;unfold Oh at h;exact w1 a0 (.l 2 (.e (.c (.i 3 (.p 1 (.e (.e .z)))) .z))) t0
 intro x10 s' h hs;exact w1 n0 (.e .z) t0⟩
def Bv (a1:(List Int)):((List Int)×Int)->Option (((List Int)×Int)⊕((List Int)⊕(List Int))):=fun (x4,x5) =>
 bif decide (x5<((a1.length:Nat):Int)) then (
  (ixO a1 x5).bind fun x9 =>
  (Cz x4 x9).bind fun r10 =>
  some (.inl (r10,w64 (x5+1)))
 ) else (
  some (.inr (.inl x4))
 )
def La (a0:(List Int)) (a1:(List Int)):Option (List Int) :=
 (Hu a0).bind fun r1 =>
 onInl (Js (Bv a1) (r1,0)) fun x8 =>
 some x8
instance Kb7 (a0:(List Int)) (a1:(List Int)):Ct Tryz.prog GlS (La a0 a1) 129 [Enc.pv a0,Enc.pv a1] Enc.pv:=⟨fun r h=>by
 unfold La at h;refine zC Tryz.func129 Tryz.ntmps129 ?_;refine w1 n0 (.e (.p 1 (.e (.e .s)))) ?_;intro _ h;refine yL 22 0 (fun (x4,x5)=>⟨[(1,Jh .frozen a1),(5,Jh .frozen x4),(6,I6 x5)],[],[],[]⟩) (fun x8=>⟨[(5,Jh .frozen x8)],[],[],[]⟩) h ?_ ?_
 ·rintro ⟨x4,x5⟩ _ h;unfold Bv at h;exact w1 a1 (.l 2 (.e (.c (.i 3 (.p 1 (.e (.e .z)))) .z))) t0
 intro x8 s' h hs;exact w1 n0 (.e .z) t0⟩
def Hf (a0:Ja) (a1:Ji) (r1:(List Je)):(Int×(List Jf)×(List Int)×(List Je))->Option ((Int×(List Jf)×(List Int)×(List Je))⊕(((List Jf)×(List Int)×(List Je))⊕Ji)):=fun (x55,x56,x57,x58) =>
 bif decide (x55<((r1.length:Nat):Int)) then (
  onInl (α:=((List Jf)×(List Int)×(List Je))) (β:=((Int×(List Jf)×(List Int)×(List Je))⊕(((List Jf)×(List Int)×(List Je))⊕Ji))) (
   (ixO r1 x55).bind fun x101 =>
   (Od a0 (Ji.mk a1.Name a1.Entry a1.Exit a1.Path a1.Points a1.Sections a1.Approach a1.Length a1.Over a1.OverPoints a1.OverSections x56 x57 x58) x101).bind fun r102 =>
   onInl (α:=(List Je)) (β:=(((List Jf)×(List Int)×(List Je))⊕((Int×(List Jf)×(List Int)×(List Je))⊕(((List Jf)×(List Int)×(List Je))⊕Ji)))) (
    bif (!r102.2.2) then (
     (ixO r1 x55).bind fun x106 =>
     (Uq x58 [x106]).bind fun x107 =>
     some (.inl x107)
    ) else (
     some (.inl x58)
    )
   ) fun x105 =>
   onInl (α:=(List Jf)) (β:=(((List Jf)×(List Int)×(List Je))⊕((Int×(List Jf)×(List Int)×(List Je))⊕(((List Jf)×(List Int)×(List Je))⊕Ji)))) (
    bif (!(decide (r102.1.Pos=0))) then (
     (Sj x56 r102.1).bind fun r110 =>
     some (.inl r110)
    ) else (
     some (.inl x56)
    )
   ) fun x109 =>
   bif decide (0<=r102.2.1) then (
    (La x57 [r102.2.1]).bind fun r111 =>
    some (.inl (x109,r111,x105))
   ) else (
    some (.inl (x109,x57,x105))
   )
  ) fun (x98,x99,x100) =>
  some (.inl (w64 (x55+1),x98,x99,x100))
 ) else (
  some (.inr (.inl (x56,x57,x58)))
 )
def Ho (a0:Ja) (a1:Ji):Option Ji :=
 (Lg a0 (Ji.mk a1.Name a1.Entry a1.Exit a1.Path a1.Points a1.Sections a1.Approach a1.Length a1.Over a1.OverPoints a1.OverSections [] [] [])).bind fun r1 =>
 onInl (Js (Hf a0 a1 r1) (0,[],[],[])) fun (x84,x85,x86) =>
 some (Ji.mk a1.Name a1.Entry a1.Exit a1.Path a1.Points a1.Sections a1.Approach a1.Length a1.Over a1.OverPoints a1.OverSections x84 x85 x86)
instance Kcr (a0:Ja) (a1:Ji):Ct Tryz.prog GlS (Ho a0 a1) 67 [Enc.pv a0,Enc.pv a1] Enc.pv:=⟨fun r h=>by
 unfold Ho at h;refine zC Tryz.func67 Tryz.ntmps67 ?_;refine w1 n0 (.e (.e (.e (.e (.p 2 (.e (.e .S))))))) ?_;intro r1 h;refine Jo (Kq (Qx (Pa 3 13 200313 2 16 (cs:=[.str a1.Name,I6 a1.Entry,I6 a1.Exit,Jh .frozen a1.Path,Jh .frozen a1.Points,Jh .frozen a1.Sections,I6 a1.Approach,I6 a1.Length,Jh .frozen a1.Over,Jh .frozen a1.OverPoints,Jh .frozen a1.OverSections,.nil,.nil,.nil]) kr kr kr) ?_));refine yM 61 0 [6] (fun (x55,x56,x57,x58)=>⟨[(2,.ref 2 0),(3,.ref 3 0),(4,.ref 4 0),(5,Jh (.own 115005) r1),(6,I6 x55)],[(2,.cells (cellsOf a0)),(3,.cells ([.str a1.Name,I6 a1.Entry,I6 a1.Exit,Jh .frozen a1.Path,Jh .frozen a1.Points,Jh .frozen a1.Sections,I6 a1.Approach,I6 a1.Length,Jh .frozen a1.Over,Jh .frozen a1.OverPoints,Jh .frozen a1.OverSections,Jh .frozen x56,Jh .frozen x57,Jh (.own 200313) x58])),(4,.cells ([.str ByteArray.empty,I6 0,I6 0,.nil,.nil,.nil,I6 0,I6 0,.nil,.nil,.nil,.nil,.nil,.nil]))],[(115005,(((r1).map cellsOf).length,2)),(200313,(((x58).map cellsOf).length,2))],[]⟩) h ?_ ?_
 ·rintro ⟨x55,x56,x57,x58⟩ _ h;unfold Hf at h;refine w1 r1 (.l 2 (.e (.c .s .z))) ?_;intro h;refine yJ 61 (fun (x98,x99,x100)=>⟨[(2,.ref 2 0),(3,.ref 3 0),(4,.ref 4 0),(5,Jh (.own 115005) r1),(6,I6 x55)],[(2,.cells (cellsOf a0)),(3,.cells ([.str a1.Name,I6 a1.Entry,I6 a1.Exit,Jh .frozen a1.Path,Jh .frozen a1.Points,Jh .frozen a1.Sections,I6 a1.Approach,I6 a1.Length,Jh .frozen a1.Over,Jh .frozen a1.OverPoints,Jh .frozen a1.OverSections,Jh .frozen x98,Jh .frozen x99,Jh (.own 200313) x100])),(4,.cells ([.str ByteArray.empty,I6 0,I6 0,.nil,.nil,.nil,I6 0,I6 0,.nil,.nil,.nil,.nil,.nil,.nil]))],[(115005,(((r1).map cellsOf).length,2)),(200313,(((x100).map cellsOf).length,2))],[]⟩) h ?_ ?_
  ·intro _ h;refine w1 n0 (.i 4 (.p 1 (.e .S))) ?_;intro _ r102 h;refine Jo ?_;refine yJ 61 (fun x105=>⟨[(2,.ref 2 0),(3,.ref 3 0),(4,.ref 4 0),(5,Jh (.own 115005) r1),(6,I6 x55),(7,.ref 7 0),(8,I6 r102.2.1)],[(2,.cells (cellsOf a0)),(3,.cells ([.str a1.Name,I6 a1.Entry,I6 a1.Exit,Jh .frozen a1.Path,Jh .frozen a1.Points,Jh .frozen a1.Sections,I6 a1.Approach,I6 a1.Length,Jh .frozen a1.Over,Jh .frozen a1.OverPoints,Jh .frozen a1.OverSections,Jh .frozen x56,Jh .frozen x57,Jh (.own 200313) x105])),(4,.cells ([.str ByteArray.empty,I6 0,I6 0,.nil,.nil,.nil,I6 0,I6 0,.nil,.nil,.nil,.nil,.nil,.nil])),(7,.cells (cellsOf r102.1))],[(115005,(((r1).map cellsOf).length,2)),(200313,(((x105).map cellsOf).length,2))],[]⟩) h ?_ ?_
   ·intro _ h;exact w1 n0 (.e (.c (.i 4 (.w 2 (.e .z))) .z)) t0
   intro x105 h;refine yJ 61 (fun x109=>⟨[(2,.ref 2 0),(3,.ref 3 0),(4,.ref 4 0),(5,Jh (.own 115005) r1),(6,I6 x55),(8,I6 r102.2.1)],[(2,.cells (cellsOf a0)),(3,.cells ([.str a1.Name,I6 a1.Entry,I6 a1.Exit,Jh .frozen a1.Path,Jh .frozen a1.Points,Jh .frozen a1.Sections,I6 a1.Approach,I6 a1.Length,Jh .frozen a1.Over,Jh .frozen a1.OverPoints,Jh .frozen a1.OverSections,Jh .frozen x109,Jh .frozen x57,Jh (.own 200313) x105])),(4,.cells ([.str ByteArray.empty,I6 0,I6 0,.nil,.nil,.nil,I6 0,I6 0,.nil,.nil,.nil,.nil,.nil,.nil]))],[(115005,(((r1).map cellsOf).length,2)),(200313,(((x105).map cellsOf).length,2))],[]⟩) h ?_ ?_
   ·intro _ h;exact w1 n0 (.e (.c (.p 3 (.e .z)) .z)) t0
   intro x109 h;exact w1 n0 (.e (.c (.p 4 (.e .z)) .z)) t0
  rintro ⟨x98,x99,x100⟩ h;exact w1 n0 (.e .z) t0
 rintro ⟨x84,x85,x86⟩ s' h hs;exact w1 n0 (.e .z) t0⟩
def Md (a0:Ja) (r1:((List Ji)×Int)):(Int×(List Ji))->Option ((Int×(List Ji))⊕((List Ji)⊕(Jx×Int))):=fun (x12,x13) =>
 bif decide (x12<((r1.1.length:Nat):Int)) then (
  (ixO r1.1 x12).bind fun x19 =>
  (Ii a0 x19).bind fun r20 =>
  (Ho a0 r20).bind fun r21 =>
  (Uq x13 [r21]).bind fun x22 =>
  some (.inl (w64 (x12+1),x22))
 ) else (
  some (.inr (.inl x13))
 )
def Ly (a0:Ja) (r2:(List Int)):(Int×(List Int))->Option ((Int×(List Int))⊕((List Int)⊕(Jx×Int))):=fun (x30,x31) =>
 bif decide (x30<((r2.length:Nat):Int)) then (
  (ixO r2 x30).bind fun x36 =>
  (Wh a0 x36).bind fun r37 =>
  (Uq x31 [r37]).bind fun x38 =>
  some (.inl (w64 (x30+1),x38))
 ) else (
  some (.inr (.inl x31))
 )
def Zs (a0:Ja):Option (Jx×Int) :=
 (Mv a0).bind fun r1 =>
 bif (!(decide (r1.2=0))) then (
  some ((Jx.mk [] [] [] 0 0),r1.2)
 ) else (
  (Dq a0).bind fun r2 =>
  onInl (Js (Md a0 r1) (0,[])) fun x18 =>
  onInl (Js (Ly a0 r2) (0,[])) fun x35 =>
  some ((Jx.mk x18 r2 x35 ((a0.Sections.length:Nat):Int) ((a0.Signals.length:Nat):Int)),0)
 )
instance Kcc (a0:Ja):Ct Tryz.prog GlS (Zs a0) 28 [Enc.pv a0] (fun r=>.tup [Enc.pv r.1,Enc.pv r.2]):=⟨fun r h=>by
 unfold Zs at h;refine zC Tryz.func28 Tryz.ntmps28 ?_;refine w1 a0.Sections (.e (.p 1 (.e (.e (.c (.e .z) (.p 1 (.l 2 .s))))))) ?_;intro r1 r2 h;refine yl 2 a0.Signals (w1 r1.1 (.e (.l 1 (.e .S))) ?_);intro h;refine Jo (Kq (Qx (Pa 6 0 200600 14 264 (cs:=[.nil,Jh .frozen r2,.nil,I6 ((a0.Sections.length:Nat):Int),I6 ((a0.Signals.length:Nat):Int)]) kr kr kr) ?_));refine yM 63 0 [31] (fun (x12,x13)=>⟨[(1,.ref 1 0),(2,.ref 2 0),(6,.ref 6 0),(29,Jh .frozen r1.1),(30,I6 ((r1.1.length:Nat):Int)),(31,I6 x12)],[(1,.cells (cellsOf a0)),(2,.cells ([.nil,.nil,.nil,I6 0,I6 0])),(6,.cells ([Jh (.own 200600) x13,Jh .frozen r2,.nil,I6 ((a0.Sections.length:Nat):Int),I6 ((a0.Signals.length:Nat):Int)]))],[(200600,(((x13).map cellsOf).length,14))],[]⟩) h ?_ ?_
 ·rintro ⟨x12,x13⟩ _ h;unfold Md at h;exact w1 n0 (.e (.c (.i 0 (.e (.p 5 (.p 0 (.w 1 (.e (.e .z))))))) .z)) t0
 intro x18 s' h hs;refine w1 r2 (.l 2 (.e .S)) ?_;intro h;refine Jo (Kq (Qx (Pa 6 2 200602 1 8 (cs:=[Jh (.own 200600) x18,Jh .frozen r2,.nil,I6 ((a0.Sections.length:Nat):Int),I6 ((a0.Signals.length:Nat):Int)]) kr kr kr) ?_));refine yM 63 2 [49] (fun (x30,x31)=>⟨[(1,.ref 1 0),(2,.ref 2 0),(6,.ref 6 0),(47,Jh .frozen r2),(48,I6 ((r2.length:Nat):Int)),(49,I6 x30)],[(1,.cells (cellsOf a0)),(2,.cells ([.nil,.nil,.nil,I6 0,I6 0])),(6,.cells ([Jh (.own 200600) x18,Jh .frozen r2,Jh (.own 200602) x31,I6 ((a0.Sections.length:Nat):Int),I6 ((a0.Signals.length:Nat):Int)]))],[(200600,(((x18).map cellsOf).length,14)),(200602,(((x31).map cellsOf).length,1))],[]⟩) h ?_ ?_
 ·rintro ⟨x30,x31⟩ _ h;unfold Ly at h;exact w1 n0 (.e (.c (.i 0 (.e (.p 4 (.w 1 (.e (.e .z)))))) .z)) t0
 intro x35 s' h hs;exact w1 n0 (.e .z) t0⟩
def Ja9 : Option (Kr×Uo) :=
 some ((Kr.mk 3 (ByteArray.mk #[105,99,101]) 5000 900 50 50 100 0 0 0),(Uo.mk [(Jb.mk 0 0 1)] 15000 5000))
theorem Ji0 (r:(Kr×Uo)) (h:Ja9=some r):Yy Tryz.prog GlS 29 [] (.tup [Enc.pv r.1,Enc.pv r.2]):=by
 unfold Ja9 at h;refine zC Tryz.func29 Tryz.ntmps29 ?_;exact w1 n0 (.e (.e .z)) t0
def Qe (a0:Int) (a1:Int) (a2:Int):Option Bool :=
 some ((decide (a1<=a0))&&(decide (a0<=a2)))
instance Jxb (a0:Int) (a1:Int) (a2:Int):Ct Tryz.prog GlS (Qe a0 a1 a2) 205 [Enc.pv a0,Enc.pv a1,Enc.pv a2] Enc.pv:=⟨fun r h=>by
 unfold Qe at h;refine zC Tryz.func205 Tryz.ntmps205 ?_;exact w1 n0 (.e (.o 4 4 14 0 (.e .z))) t0⟩
def Mk (a0:Ja):Option Bool :=
 (Qe ((a0.Elements.length:Nat):Int) 1 32).bind fun r1 =>
 ((bif r1 then (
  (Qe ((a0.Sections.length:Nat):Int) 1 24).bind fun r3 =>
  some r3
 ) else some false):Option Bool).bind fun b2 =>
 ((bif b2 then (
  some (decide (((a0.Signals.length:Nat):Int)<=20))
 ) else some false):Option Bool).bind fun b4 =>
 ((bif b4 then (
  some (decide (((a0.Balises.length:Nat):Int)<=24))
 ) else some false):Option Bool).bind fun b5 =>
 some b5
instance Jsz (a0:Ja):Ct Tryz.prog GlS (Mk a0) 137 [Enc.pv a0] Enc.pv:=⟨fun r h=>by
 unfold Mk at h;refine zC Tryz.func137 Tryz.ntmps137 ?_;refine w6 a0.Elements (.e (.l 2 (.p 0 (.b 1 5 12 (.g 0 .s .z) (.b 1 5 18 (.g 0 .s .z) (.b 1 5 24 (.g 0 .s .z) (.e .z))))))) ?_ ?_ ?_ t0 t0 t0
 ·intro _ _ h;exact yl 2 a0.Sections (w1 n0 (.p 0 .z) t0)
 ·intro _ _ _ h;exact yl 2 a0.Signals (w1 n0 .z t0)
 intro _ _ _ _ h;refine yl 2 a0.Balises ?_;exact w1 n0 .z t0⟩
def Jd9 (a0:ByteArray):Nat->Option (Nat⊕(Unit⊕Bool)):=fun x5 =>
 bif decide (x5<a0.size) then (
  bif ((((decide ((((Go.Utf8.decode a0 x5).1:Nat):Int)<97))||(decide (122<(((Go.Utf8.decode a0 x5).1:Nat):Int))))&&((decide ((((Go.Utf8.decode a0 x5).1:Nat):Int)<48))||(decide (57<(((Go.Utf8.decode a0 x5).1:Nat):Int)))))&&(!(decide ((((Go.Utf8.decode a0 x5).1:Nat):Int)=95)))) then (
   some (.inr (.inr false))
  ) else (
   some (.inl (x5+(Go.Utf8.decode a0 x5).2))
  )
 ) else (
  some (.inr (.inl ()))
 )
def Tm (a0:ByteArray):Option Bool :=
 ((bif ((decide (a0=ByteArray.empty))||(decide (12<((a0.size:Nat):Int)))) then some true else (
  (Jns a0 0).bind fun x2 =>
  some (decide (x2<97))
 )):Option Bool).bind fun b1 =>
 ((bif b1 then some true else (
  (Jns a0 0).bind fun x4 =>
  some (decide (122<x4))
 )):Option Bool).bind fun b3 =>
 bif b3 then (
  some false
 ) else (
  onInl (Js (Jd9 a0) 0) fun _ =>
  some true
 )
instance Kcv (a0:ByteArray):Ct Tryz.prog GlS (Tm a0) 144 [Enc.pv a0] Enc.pv:=⟨fun r h=>by
 unfold Tm at h;refine zC Tryz.func144 Tryz.ntmps144 ?_;refine w6 n0 (.e (.o 3 4 11 0 (.b 1 4 16 (.g 0 .z .x) (.b 1 4 21 (.g 0 .z .x) (.e (.c (.e .z) .s)))))) ?_ ?_ ?_ t0 t0 t0
 ·intro _ _ h2 h;exact zR 1 (Jl5 h2 kr (w1 n0 .z t0))
 ·intro _ _ _ h4 h;exact zR 1 (Jl5 h4 kr (w1 n0 .z t0))
 intro _ _ h;refine zR 1 (Kje (b:=a0) (l:=23) kr (w1 n0 (.e .s) ?_));intro h;refine yL 45 0 (fun x5=>⟨[(23,.ref 23 0)],[(23,.iter a0 x5)],[],[]⟩) (fun (_:Unit)=>⟨[],[],[],[]⟩) h ?_ ?_
 ·intro x5 _ h;unfold Jd9 at h;refine Kj (Wj ?_);rcases Jjl h with ⟨hb,h⟩|⟨hb,h⟩
  ·refine Kdd (b:=a0) (pos:=x5) 23 kr hb kr (w1 n0 (.e .S) ?_);intro h;exact Jo (Kj (Xh (b:=true) rfl kr (w1 n0 (.e (.o 3 3 32 2 (.o 1 7 40 1 (.o 1 3 44 0 (.e (.c (.e .z) .z)))))) t0)))
  refine Keo (b:=a0) (pos:=x5) 23 kr hb kr (w1 n0 (.e .S) ?_);intro h;exact Jo (Kj (Xa (b:=false) rfl kr (w1 n0 .z t0)))
 intro _ s' h hs;exact w1 n0 (.e .z) t0⟩
def Pf (a0:Ja):((List ByteArray)×Int)->Option (((List ByteArray)×Int)⊕((List ByteArray)⊕Int)):=fun (x4,x5) =>
 bif decide (x5<((a0.Elements.length:Nat):Int)) then (
  (ixO a0.Elements x5).bind fun x9 =>
  (Uq x4 [x9.Name]).bind fun x10 =>
  some (.inl (x10,w64 (x5+1)))
 ) else (
  some (.inr (.inl x4))
 )
def Pe (a0:Ja):((List ByteArray)×Int)->Option (((List ByteArray)×Int)⊕((List ByteArray)⊕Int)):=fun (x14,x15) =>
 bif decide (x15<((a0.Signals.length:Nat):Int)) then (
  (ixO a0.Signals x15).bind fun x19 =>
  (Uq x14 [x19.Name]).bind fun x20 =>
  some (.inl (x20,w64 (x15+1)))
 ) else (
  some (.inr (.inl x14))
 )
def Pj (x38:(List ByteArray)):Int->Option (Int⊕(Unit⊕(Int⊕(Unit⊕Int)))):=fun x41 =>
 bif decide (x41<((x38.length:Nat):Int)) then (
  (ixO x38 x41).bind fun x44 =>
  (Tm x44).bind fun r45 =>
  bif (!r45) then (
   some (.inr (.inr (.inr (.inr 3))))
  ) else (
   some (.inl (w64 (x41+1)))
  )
 ) else (
  some (.inr (.inl ()))
 )
def Pm (a0:Ja) (x8:(List ByteArray)) (x18:(List ByteArray)):Int->Option (Int⊕(Unit⊕Int)):=fun x29 =>
 bif decide (x29<(([[a0.Name],a0.Sections,x8,x18].length:Nat):Int)) then (
  (ixO [[a0.Name],a0.Sections,x8,x18] x29).bind fun x38 =>
  onInl (Js (Pj x38) 0) fun _ =>
  some (.inl (w64 (x29+1)))
 ) else (
  some (.inr (.inl ()))
 )
def Ph (x59:(List ByteArray)):(Int×(List (ByteArray×Bool)))->Option ((Int×(List (ByteArray×Bool)))⊕(Unit⊕(Int⊕(Unit⊕Int)))):=fun (x61,x62) =>
 bif decide (x61<((x59.length:Nat):Int)) then (
  (ixO x59 x61).bind fun x64 =>
  bif ((Vt (x62:(List (ByteArray×Bool))) x64).getD false) then (
   some (.inr (.inr (.inr (.inr 8))))
  ) else (
   some (.inl (w64 (x61+1),(Gw x64 true x62)))
  )
 ) else (
  some (.inr (.inl ()))
 )
def Pg (a0:Ja) (x8:(List ByteArray)) (x18:(List ByteArray)):Int->Option (Int⊕(Unit⊕Int)):=fun x52 =>
 bif decide (x52<(([[a0.Name],a0.Sections,x8,x18].length:Nat):Int)) then (
  (ixO [[a0.Name],a0.Sections,x8,x18] x52).bind fun x59 =>
  onInl (Js (Ph x59) (0,[])) fun _ =>
  some (.inl (w64 (x52+1)))
 ) else (
  some (.inr (.inl ()))
 )
def Im (a0:Ja):Option Int :=
 (mkO ByteArray ((a0.Elements.length:Nat):Int)).bind fun x1 =>
 onInl (Js (Pf a0) (x1,0)) fun x8 =>
 (mkO ByteArray ((a0.Signals.length:Nat):Int)).bind fun x11 =>
 onInl (Js (Pe a0) (x11,0)) fun x18 =>
 onInl (Js (Pm a0 x8 x18) 0) fun _ =>
 onInl (Js (Pg a0 x8 x18) 0) fun _ =>
 some 0
instance Jq7 (a0:Ja):Ct Tryz.prog GlS (Im a0) 138 [Enc.pv a0] Enc.pv:=⟨fun r h=>by
 unfold Im at h;refine zC Tryz.func138 Tryz.ntmps138 ?_;refine w1 a0.Elements (.e (.l 2 .x)) ?_;intro _ h1 h;refine Kj4 22 h1 kr (w1 a0.Elements (.e (.l 2 (.e .s))) ?_);intro h;refine yL 98 0 (fun (x4,x5)=>⟨[(1,.ref 1 0),(3,Jh (.own 22) x4),(24,Jh .frozen a0.Elements),(25,I6 ((a0.Elements.length:Nat):Int)),(26,I6 x5)],[(1,.cells (cellsOf a0))],[(22,(((x4).map cellsOf).length,1))],[]⟩) (fun x8=>⟨[(1,.ref 1 0),(3,Jh (.own 22) x8)],[(1,.cells (cellsOf a0))],[(22,(((x8).map cellsOf).length,1))],[]⟩) h ?_ ?_
 ·rintro ⟨x4,x5⟩ _ h;unfold Pf at h;exact w1 n0 (.e (.c (.i 0 (.e (.w 4 (.e (.e .z))))) .z)) t0
 intro x8 s' h hs;refine w1 a0.Signals (.l 2 .x) ?_;intro _ h10 h;refine Kj4 39 h10 kr (w1 a0.Signals (.e (.l 2 (.e .s))) ?_);intro h;refine yL 98 2 (fun (x14,x15)=>⟨[(1,.ref 1 0),(3,Jh (.own 22) x8),(6,Jh (.own 39) x14),(41,Jh .frozen a0.Signals),(42,I6 ((a0.Signals.length:Nat):Int)),(43,I6 x15)],[(1,.cells (cellsOf a0))],[(22,(((x8).map cellsOf).length,1)),(39,(((x14).map cellsOf).length,1))],[]⟩) (fun x18=>⟨[(1,.ref 1 0),(3,Jh (.own 22) x8),(6,Jh (.own 39) x18)],[(1,.cells (cellsOf a0))],[(22,(((x8).map cellsOf).length,1)),(39,(((x18).map cellsOf).length,1))],[]⟩) h ?_ ?_
 ·rintro ⟨x14,x15⟩ _ h;unfold Pe at h;exact w1 n0 (.e (.c (.i 0 (.e (.w 4 (.e (.e .z))))) .z)) t0
 intro x18 s' h hs;refine w1 (([[a0.Name],a0.Sections,x8,x18]:(List (List ByteArray)))) (.e (.l 1 (.e .s))) ?_;intro h;refine yN 98 4 [63] (fun x29=>⟨[(9,Jh .full ([[a0.Name],a0.Sections,x8,x18]:(List (List ByteArray)))),(61,Jh .full ([[a0.Name],a0.Sections,x8,x18]:(List (List ByteArray)))),(62,I6 (([[a0.Name],a0.Sections,x8,x18].length:Nat):Int)),(63,I6 x29)],[],[],[]⟩) h ?_ ?_
 ·intro x29 _ h;unfold Pm at h;refine w1 n0 (.e (.c (.i 0 (.e .s)) .z)) ?_;intro x38 h;refine yl 1 x38 (w1 n0 (.e .s) ?_);intro h;refine yN 98 6 [69] (fun x41=>⟨[(9,Jh .full ([[a0.Name],a0.Sections,x8,x18]:(List (List ByteArray)))),(61,Jh .full ([[a0.Name],a0.Sections,x8,x18]:(List (List ByteArray)))),(62,I6 (([[a0.Name],a0.Sections,x8,x18].length:Nat):Int)),(63,I6 x29),(67,Jh .frozen x38),(68,I6 ((x38.length:Nat):Int)),(69,I6 x41)],[],[],[]⟩) h ?_ ?_
  ·intro x41 _ h;unfold Pj at h;exact w1 n0 (.e (.c (.i 0 (.e (.p 1 (.e (.c (.e .z) (.e .z)))))) .z)) t0
  intro _ s' h hs;exact w1 n0 (.e .z) t0
 intro _ s' h hs;refine w1 (([[a0.Name],a0.Sections,x8,x18]:(List (List ByteArray)))) (.l 1 (.e .s)) ?_;intro h;refine yN 98 8 [80] (fun x52=>⟨[(78,Jh .full ([[a0.Name],a0.Sections,x8,x18]:(List (List ByteArray)))),(79,I6 (([[a0.Name],a0.Sections,x8,x18].length:Nat):Int)),(80,I6 x52)],[],[],[]⟩) h ?_ ?_
 ·intro x52 _ h;unfold Pg at h;refine w1 n0 (.e (.c (.i 0 (.e (.e .s))) .z)) ?_;intro x59 h;refine yl 1 x59 (w1 n0 (.e .s) ?_);intro h;refine yL 98 10 (fun (x61,x62)=>⟨[(16,.mp 84),(78,Jh .full ([[a0.Name],a0.Sections,x8,x18]:(List (List ByteArray)))),(79,I6 (([[a0.Name],a0.Sections,x8,x18].length:Nat):Int)),(80,I6 x52),(85,Jh .frozen x59),(86,I6 ((x59.length:Nat):Int)),(87,I6 x61)],[(84,.map (Yl x62))],[],[]⟩) (fun (_:Unit)=>⟨[(78,Jh .full ([[a0.Name],a0.Sections,x8,x18]:(List (List ByteArray)))),(79,I6 (([[a0.Name],a0.Sections,x8,x18].length:Nat):Int)),(80,I6 x52)],[],[],[]⟩) h ?_ ?_
  ·rintro ⟨x61,x62⟩ _ h;unfold Ph at h;refine w1 n0 (.e (.c (.i 0 (.e .s)) .z)) ?_;intro x64 h;refine zR 2 (Jd3 (m:=x62) (k:=x64) false 84 kr kr (w1 n0 (.e (.c (.e .z) .s)) ?_));intro h;exact zR 2 (Jgh (m:=x62) (k:=x64) (v:=true) 84 kr kr kr (w1 n0 (.e (.e .z)) t0))
  intro _ s' h hs;exact w1 n0 (.e .z) t0
 intro _ s' h hs;exact w1 n0 (.e .z) t0⟩
def Zn (a0:Ja):Int->Option (Int⊕(Unit⊕Bool)):=fun x13 =>
 bif decide (x13<((a0.Elements.length:Nat):Int)) then (
  (ixO a0.Elements x13).bind fun x26 =>
  (Qe x26.Kind 1 3).bind fun r27 =>
  ((bif (!r27) then some true else (
   (Qe x26.Length 500 1000000).bind fun r29 =>
   some (!r29)
  )):Option Bool).bind fun b28 =>
  ((bif b28 then some true else (
   (Qe x26.Grade (-50) 50).bind fun r31 =>
   some (!r31)
  )):Option Bool).bind fun b30 =>
  ((bif b30 then some true else (
   (Qe x26.Speed 100 10000).bind fun r33 =>
   some (!r33)
  )):Option Bool).bind fun b32 =>
  ((bif b32 then some true else (
   (Qe x26.Section 0 (w64 (((a0.Sections.length:Nat):Int) - 1))).bind fun r35 =>
   some (!r35)
  )):Option Bool).bind fun b34 =>
  bif b34 then (
   some (.inr (.inr false))
  ) else (
   ((bif decide (x26.Kind=2) then (
    (Qe x26.Slow 100 x26.Speed).bind fun r37 =>
    some (!r37)
   ) else some false):Option Bool).bind fun b36 =>
   bif (b36||((!(decide (x26.Kind=2)))&&(!(decide (x26.Slow=0))))) then (
    some (.inr (.inr false))
   ) else (
    some (.inl (w64 (x13+1)))
   )
  )
 ) else (
  some (.inr (.inl ()))
 )
def Yp (a0:Ja):Option Bool :=
 onInl (Js (Zn a0) 0) fun _ =>
 some true
instance Jqk (a0:Ja):Ct Tryz.prog GlS (Yp a0) 139 [Enc.pv a0] Enc.pv:=⟨fun r h=>by
 unfold Yp at h;refine zC Tryz.func139 Tryz.ntmps139 ?_;refine w1 a0.Elements (.e (.l 2 (.e .s))) ?_;intro h;refine yN 66 0 [8] (fun x13=>⟨[(1,.ref 1 0),(6,Jh .frozen a0.Elements),(7,I6 ((a0.Elements.length:Nat):Int)),(8,I6 x13)],[(1,.cells (cellsOf a0))],[],[]⟩) h ?_ ?_
 ·intro x13 _ h;unfold Zn at h;exact w1 a0.Sections (.e (.c (.i 0 (.e (.p 2 (.b 2 5 21 (.g 0 .z (.p 2 .z)) (.b 1 5 27 (.g 0 .z (.p 2 .z)) (.b 1 5 33 (.g 0 .z (.p 2 .z)) (.b 1 9 43 (.g 0 .z (.l 4 (.p 1 .z))) (.e (.c (.e .z) (.b 4 7 54 (.g 0 (.p 4 .z) .z) (.o 1 9 64 0 (.e (.c (.e .z) (.e .z)))))))))))))) .z)) t0
 intro _ s' h hs;exact w1 n0 (.e .z) t0⟩
def Dz (a0:Ja) (a1:Int):(Int×(List Int))->Option ((Int×(List Int))⊕((List Int)⊕(List Int))):=fun (x13,x14) =>
 bif decide (x13<((a0.Elements.length:Nat):Int)) then (
  onInl (α:=(List Int)) (β:=((Int×(List Int))⊕((List Int)⊕(List Int)))) (
   (ixO a0.Elements x13).bind fun x24 =>
   bif decide (x24.Section=a1) then (
    (Uq x14 [x13]).bind fun x25 =>
    some (.inl x25)
   ) else (
    some (.inl x14)
   )
  ) fun x23 =>
  some (.inl (w64 (x13+1),x23))
 ) else (
  some (.inr (.inl x14))
 )
def Bc (a0:Ja) (a1:Int):Option (List Int) :=
 ((bif decide (a1<0) then some true else (
  some (decide (((a0.Sections.length:Nat):Int)<=a1))
 )):Option Bool).bind fun b1 =>
 bif b1 then (
  some ([]:(List Int))
 ) else (
  onInl (Js (Dz a0 a1) (0,[])) fun x20 =>
  some x20
 )
instance Jv5 (a0:Ja) (a1:Int):Ct Tryz.prog GlS (Bc a0 a1) 206 [Enc.pv a0,Enc.pv a1] (fun r=>Jh (.own 100005) r):=⟨fun r h=>by
 unfold Bc at h;refine zC Tryz.func206 Tryz.ntmps206 ?_;refine w6 a0.Sections (.e (.b 3 6 16 (.g 0 .z (.l 3 .z)) (.e (.c (.e .S) (.e .s))))) ?_ ?_ t0 t0 t0 t0
 ·intro _ h;exact Jo (Zh 4 100005 1 8 kr kr (w1 n0 .z t0))
 intro _ h;refine yl 2 a0.Elements (w1 n0 (.e .S) ?_);intro h;refine Jo (Kq (Zh 5 100005 1 8 kr kr ?_));refine yM 35 0 [20] (fun (x13,x14)=>⟨[(1,I6 a1),(5,Jh (.own 100005) x14),(18,Jh .frozen a0.Elements),(19,I6 ((a0.Elements.length:Nat):Int)),(20,I6 x13)],[],[(100005,(((x14).map cellsOf).length,1))],[]⟩) h ?_ ?_
 ·rintro ⟨x13,x14⟩ _ h;unfold Dz at h;refine w1 n0 (.e (.c .s .z)) ?_;intro h;refine yJ 35 (fun x23=>⟨[(1,I6 a1),(5,Jh (.own 100005) x23),(18,Jh .frozen a0.Elements),(19,I6 ((a0.Elements.length:Nat):Int)),(20,I6 x13)],[],[(100005,(((x23).map cellsOf).length,1))],[]⟩) h ?_ ?_
  ·intro _ h;exact w1 n0 (.i 1 (.e (.e (.c (.w 3 (.e .z)) .z)))) t0
  intro x23 h;exact w1 n0 (.e .z) t0
 intro x20 s' h hs;exact w1 n0 (.e .z) t0⟩
def Mt (a0:Ja):Int->Option (Int⊕(Unit⊕Bool)):=fun x2 =>
 bif decide (x2<((a0.Sections.length:Nat):Int)) then (
  (Bc a0 x2).bind fun r4 =>
  bif decide (((r4.length:Nat):Int)=0) then (
   some (.inr (.inr false))
  ) else (
   some (.inl (w64 (x2+1)))
  )
 ) else (
  some (.inr (.inl ()))
 )
def Fm (a0:Ja):Option Bool :=
 onInl (Js (Mt a0) 0) fun _ =>
 some true
instance Jo1 (a0:Ja):Ct Tryz.prog GlS (Fm a0) 140 [Enc.pv a0] Enc.pv:=⟨fun r h=>by
 unfold Fm at h;refine zC Tryz.func140 Tryz.ntmps140 ?_;refine w1 a0.Sections (.e (.l 2 (.e .s))) ?_;intro h;refine yN 16 0 [7] (fun x2=>⟨[(1,.ref 1 0),(6,I6 ((a0.Sections.length:Nat):Int)),(7,I6 x2)],[(1,.cells (cellsOf a0))],[],[]⟩) h ?_ ?_
 ·intro x2 _ h;unfold Mt at h;refine w1 n0 (.e (.c (.e (.p 2 .s)) .z)) ?_;intro r4 h;exact yl 0 r4 (w1 n0 (.e (.c (.e .z) (.e .z))) t0)
 intro _ s' h hs;exact w1 n0 (.e .z) t0⟩
def Jcl (a0:Int):Option Int :=
 bif ((decide (a0<0))||(decide (4<=a0))) then (
  some 0
 ) else (
  (ixO Hc a0).bind fun x1 =>
  some x1
 )
instance Kcz (a0:Int):Ct Tryz.prog GlS (Jcl a0) 262 [Enc.pv a0] Enc.pv:=⟨fun r h=>by
 unfold Jcl at h;refine zC Tryz.func262 Tryz.ntmps262 ?_;refine w1 n0 (.e (.o 3 3 8 0 (.e (.c (.e .z) .x)))) ?_;intro _ h1 h;refine zR 1 (Kmw h1 1 4 1 kr kr (Ki2 (tab:=Hc) h1 false 1 kr kr kr ?_));exact w1 n0 (.e .z) t0⟩
def Eo (a0:Ja) (a1:Je):Option Bool :=
 (Qe a1.El 0 (w64 (((a0.Elements.length:Nat):Int) - 1))).bind fun r1 =>
 ((bif r1 then (
  (ixO a0.Elements a1.El).bind fun x3 =>
  (Jcl x3.Kind).bind fun r4 =>
  (Qe a1.Side 0 (w64 (r4 - 1))).bind fun r5 =>
  some r5
 ) else some false):Option Bool).bind fun b2 =>
 some b2
instance Jwa (a0:Ja) (a1:Je):Ct Tryz.prog GlS (Eo a0 a1) 207 [Enc.pv a0,Enc.pv a1] Enc.pv:=⟨fun r h=>by
 unfold Eo at h;refine zC Tryz.func207 Tryz.ntmps207 ?_;exact w1 a0.Elements (.e (.l 4 (.p 1 (.b 1 13 25 (.g 0 (.i 6 (.p 2 (.p 1 .z))) .z) (.e .z))))) t0⟩
def Te (a0:Ja):Int->Option (Int⊕(Unit⊕((List (Je×Je))×Int))):=fun x5 =>
 bif decide (x5<((a0.Joints.length:Nat):Int)) then (
  (ixO a0.Joints x5).bind fun x10 =>
  (Eo a0 x10.A).bind fun r11 =>
  ((bif (!r11) then some true else (
   (Eo a0 x10.B).bind fun r13 =>
   some (!r13)
  )):Option Bool).bind fun b12 =>
  bif (b12||(Kb x10.A x10.B)) then (
   some (.inr (.inr (([]:(List (Je×Je))),1)))
  ) else (
   some (.inl (w64 (x5+1)))
  )
 ) else (
  some (.inr (.inl ()))
 )
def Tc (a0:Ja):(Int×(List (Je×Je)))->Option ((Int×(List (Je×Je)))⊕((List (Je×Je))⊕((List (Je×Je))×Int))):=fun (x15,x16) =>
 bif decide (x15<((a0.Joints.length:Nat):Int)) then (
  (ixO a0.Joints x15).bind fun x19 =>
  bif (((Vt (x16:(List (Je×Je))) x19.A).isSome)||((Vt (x16:(List (Je×Je))) x19.B).isSome)) then (
   some (.inr (.inr (([]:(List (Je×Je))),8)))
  ) else (
   some (.inl (w64 (x15+1),(Gw x19.B x19.A (Gw x19.A x19.B x16))))
  )
 ) else (
  some (.inr (.inl x16))
 )
def Ot (a0:Ja):Option ((List (Je×Je))×Int) :=
 onInl (Js (Te a0) 0) fun _ =>
 onInl (Js (Tc a0) (0,[])) fun x18 =>
 some (x18,0)
theorem Jd2 (a0:Ja) (r:((List (Je×Je))×Int)) (h:Ot a0=some r):Yy Tryz.prog GlS 141 [Enc.pv a0] (.tup [Kbi (r.1:(List (Je×Je))),Enc.pv r.2]):=by
 unfold Ot at h;refine zC Tryz.func141 Tryz.ntmps141 ?_;refine w1 a0.Joints (.e (.l 2 (.e .s))) ?_;intro h;refine yN 78 0 [16] (fun x5=>⟨[(1,.ref 1 0),(14,Jh .frozen a0.Joints),(15,I6 ((a0.Joints.length:Nat):Int)),(16,I6 x5)],[(1,.cells (cellsOf a0))],[],[]⟩) h ?_ ?_
 ·intro x5 _ h;unfold Te at h;refine w1 n0 (.e (.c (.i 0 (.e (.p 3 (.b 2 6 31 (.g 0 .z (.p 3 .z)) (.o 1 6 38 0 (.e (.c (.e .s) (.e .z)))))))) .z)) ?_;intro _ _ _ h;cases h;exact zQ
 intro _ s' h hs;refine w1 a0.Joints (.e (.l 2 (.e .s))) ?_;intro h;refine yM 78 2 [44] (fun (x15,x16)=>⟨[(6,.mp 40),(42,Jh .frozen a0.Joints),(43,I6 ((a0.Joints.length:Nat):Int)),(44,I6 x15)],[(40,.map (Yl x16))],[],[]⟩) h ?_ ?_
 ·rintro ⟨x15,x16⟩ _ h;unfold Tc at h;refine w1 n0 (.e (.c (.i 0 (.e .s)) .z)) ?_;intro x19 h;refine zR 3 (Jh7 (m:=x16) (k:=x19.A) (Je.mk 0 0) 40 kr kr (w1 n0 (.e .s) ?_));intro h;refine zR 3 (Jh7 (m:=x16) (k:=x19.B) (Je.mk 0 0) 40 kr kr ?_);refine w6 n0 (.e (.o 2 2 65 0 (.e (.c (.e .s) .s)))) ?_ ?_ t0 t0 t0 t0
  ·intro h;cases h;exact zQ
  intro h;exact zR 10 (Jgh (m:=x16) (k:=x19.A) (v:=x19.B) 40 kr kr kr (Jgh (m:=((Gw x19.A x19.B x16):(List (Je×Je)))) (k:=x19.B) (v:=x19.A) 40 kr kr kr (w1 n0 (.e (.e .z)) t0)))
 intro x18 s' h hs;refine w1 n0 (.e .S) ?_;intro h;refine Jo (Kjx 40 [] x18 kr kr kr (Wf ?_));cases h;exact zQ
def Jay (a0:Ja) (a1:Je):Int->Option (Int⊕(Unit⊕Int)):=fun x2 =>
 bif decide (x2<((a0.Signals.length:Nat):Int)) then (
  (ixO a0.Signals x2).bind fun x4 =>
  bif Kb x4.At a1 then (
   some (.inr (.inr x2))
  ) else (
   some (.inl (w64 (x2+1)))
  )
 ) else (
  some (.inr (.inl ()))
 )
def Lo (a0:Ja) (a1:Je):Option Int :=
 onInl (Js (Jay a0 a1) 0) fun _ =>
 some (-1)
instance Jx1 (a0:Ja) (a1:Je):Ct Tryz.prog GlS (Lo a0 a1) 73 [Enc.pv a0,Enc.pv a1] Enc.pv:=⟨fun r h=>by
 unfold Lo at h;refine zC Tryz.func73 Tryz.ntmps73 ?_;refine w1 a0.Signals (.e (.l 2 (.e .s))) ?_;intro h;refine yN 21 0 [10] (fun x2=>⟨[(3,.ref 3 0),(8,Jh .frozen a0.Signals),(9,I6 ((a0.Signals.length:Nat):Int)),(10,I6 x2)],[(3,.cells (cellsOf a1))],[],[]⟩) h ?_ ?_
 ·intro x2 _ h;unfold Jay at h;exact w1 n0 (.e (.c (.i 1 (.e (.e (.c (.e .z) (.e .z))))) .z)) t0
 intro _ s' h hs;exact w1 n0 (.e .z) t0⟩
def Ym (a0:Ja) (a1:Int):Option Int :=
 ((bif decide (a1<0) then some true else (
  some (decide (((a0.Elements.length:Nat):Int)<=a1))
 )):Option Bool).bind fun b1 =>
 bif b1 then (
  some (-1)
 ) else (
  (ixO a0.Elements a1).bind fun x2 =>
  some x2.Section
 )
instance Jvx (a0:Ja) (a1:Int):Ct Tryz.prog GlS (Ym a0 a1) 208 [Enc.pv a0,Enc.pv a1] Enc.pv:=⟨fun r h=>by
 unfold Ym at h;refine zC Tryz.func208 Tryz.ntmps208 ?_;exact w1 a0.Elements (.e (.b 3 6 13 (.g 0 .z (.l 3 .z)) (.e (.c (.e .z) (.i 3 (.e .z)))))) t0⟩
def Mm (a0:Ja):Int->Option (Int⊕(Unit⊕Int)):=fun x5 =>
 bif decide (x5<((a0.Signals.length:Nat):Int)) then (
  (ixO a0.Signals x5).bind fun x10 =>
  (Eo a0 x10.At).bind fun r11 =>
  ((bif (!r11) then some true else (
   (Qe x10.Overlap 0 1000000).bind fun r13 =>
   some (!r13)
  )):Option Bool).bind fun b12 =>
  bif b12 then (
   some (.inr (.inr 1))
  ) else (
   some (.inl (w64 (x5+1)))
  )
 ) else (
  some (.inr (.inl ()))
 )
def Ms (a0:Ja):Int->Option (Int⊕(Unit⊕Int)):=fun x16 =>
 bif decide (x16<((a0.Signals.length:Nat):Int)) then (
  (ixO a0.Signals x16).bind fun x19 =>
  (Lo a0 x19.At).bind fun r20 =>
  bif (!(decide (r20=x16))) then (
   some (.inr (.inr 8))
  ) else (
   some (.inl (w64 (x16+1)))
  )
 ) else (
  some (.inr (.inl ()))
 )
def Mw (a0:Ja) (a1:(List (Je×Je))):Int->Option (Int⊕(Unit⊕Int)):=fun x25 =>
 bif decide (x25<((a0.Signals.length:Nat):Int)) then (
  (ixO a0.Signals x25).bind fun x30 =>
  ((bif (!((Vt (a1:(List (Je×Je))) x30.At).isSome)) then some true else (
   (Ym a0 (((Vt (a1:(List (Je×Je))) x30.At).getD (Je.mk 0 0)).El)).bind fun r32 =>
   (Ym a0 x30.At.El).bind fun r33 =>
   some (decide (r32=r33))
  )):Option Bool).bind fun b31 =>
  bif b31 then (
   some (.inr (.inr 14))
  ) else (
   some (.inl (w64 (x25+1)))
  )
 ) else (
  some (.inr (.inl ()))
 )
def Fl (a0:Ja) (a1:(List (Je×Je))):Option Int :=
 onInl (Js (Mm a0) 0) fun _ =>
 onInl (Js (Ms a0) 0) fun _ =>
 onInl (Js (Mw a0 a1) 0) fun _ =>
 some 0
instance Jod (a0:Ja) (a1:(List (Je×Je))):Ct Tryz.prog GlS (Fl a0 a1) 142 [Enc.pv a0,Kbi (a1:(List (Je×Je)))] Enc.pv:=⟨fun r h=>by
 unfold Fl at h;refine zC Tryz.func142 Tryz.ntmps142 ?_;refine w1 a0.Signals (.e (.l 2 (.e .s))) ?_;intro h;refine yN 76 0 [16] (fun x5=>⟨[(1,Kbi a1),(2,.ref 2 0),(14,Jh .frozen a0.Signals),(15,I6 ((a0.Signals.length:Nat):Int)),(16,I6 x5)],[(2,.cells (cellsOf a0))],[],[]⟩) h ?_ ?_
 ·intro x5 _ h;unfold Mm at h;exact w1 n0 (.e (.c (.i 0 (.e (.p 3 (.b 2 5 30 (.g 0 .z (.p 2 .z)) (.e (.c (.e .z) (.e .z))))))) .z)) t0
 intro _ s' h hs;refine w1 a0.Signals (.l 2 (.e .s)) ?_;intro h;refine yN 76 2 [35] (fun x16=>⟨[(1,Kbi a1),(2,.ref 2 0),(33,Jh .frozen a0.Signals),(34,I6 ((a0.Signals.length:Nat):Int)),(35,I6 x16)],[(2,.cells (cellsOf a0))],[],[]⟩) h ?_ ?_
 ·intro x16 _ h;unfold Ms at h;exact w1 n0 (.e (.c (.i 1 (.e (.p 3 (.e (.c (.e .z) (.e .z)))))) .z)) t0
 intro _ s' h hs;refine w1 a0.Signals (.l 2 (.e .s)) ?_;intro h;refine yN 76 4 [50] (fun x25=>⟨[(1,Kbi a1),(2,.ref 2 0),(48,Jh .frozen a0.Signals),(49,I6 ((a0.Signals.length:Nat):Int)),(50,I6 x25)],[(2,.cells (cellsOf a0))],[],[]⟩) h ?_ ?_
 ·intro x25 _ h;unfold Mw at h;refine w1 n0 (.e (.c (.i 0 (.e .s)) .z)) ?_;intro x30 h;exact zR 3 (Jh9 (m:=a1) (k:=x30.At) (Je.mk 0 0) true kr (w1 n0 (.e (.b 3 11 74 (.g 0 .z (.p 3 (.p 4 .z))) (.e (.c (.e .z) (.e .z))))) t0))
 intro _ s' h hs;exact w1 n0 (.e .z) t0⟩
end
end PM
