/-
 Plain functions for the program's functions, and the proofs that the program does them. Printed by den.py.
-/
import Derived.Test.YtfpoeepcomnjhaaGreatDoorDen2
namespace PM
noncomputable section
open Go Go.RowKit Go.Proofs Go.Proofs.Tryz
attribute [local irreducible] Ju pwp
def Nf(a0:Ja):Int->Option (Int⊕(Unit⊕Int)):=fun x8=>
 bif decide (x8<((a0.Balises.length:Nat):Int)) then (
  (ixO a0.Balises x8).bind fun x16=>
  (Kx x16.Id 1 1073741824).bind fun r17=>
  ((bif (!r17) then some true else (
   (Kx x16.El 0 (w64 (((a0.Elements.length:Nat):Int) - 1))).bind fun r19=>
   some (!r19)
  ))).bind fun b18=>
  ((bif b18 then some true else (
   (ixO a0.Elements x16.El).bind fun x21=>
   (Kx x16.Offset 0 x21.Length).bind fun r22=>
   some (!r22)
  ))).bind fun b20=>
  bif b20 then (
   some (.inr (.inr 1))
  ) else (
   some (.inl (w64 (x8+1)))
  )
 ) else (
  some (.inr (.inl ()))
 )
def Mu(a0:Ja):(Int×(List (Int×Bool)))->Option ((Int×(List (Int×Bool)))⊕(Unit⊕Int)):=fun (x24,x25)=>
 bif decide (x24<((a0.Balises.length:Nat):Int)) then (
  (ixO a0.Balises x24).bind fun x27=>
  bif ((Wx (x25:(List (Int×Bool))) x27.Id).getD false) then (
   some (.inr (.inr 8))
  ) else (
   some (.inl (w64 (x24+1),(Fy x27.Id true x25)))
  )
 ) else (
  some (.inr (.inl ()))
 )
def Fc(a0:Ja):Option Int :=
 onInl (Jq (Nf a0) 0) fun _=>
 onInl (Jq (Mu a0) (0,[])) fun _=>
 some 0
instance (a0:Ja):Cp (Fc a0) 143 [Enc.pv a0] Enc.pv:=⟨fun r h=>by
 unfold Fc at h;refine zG f143 ?_;refine w1 a0.Balises (el 2 s1) ?_;intro h;refine uN 59 0 [11] (fun s x8=>⟨(11,I6 x8)::gt s [1,9,10],gh s [1],[],[]⟩) h ?_ ?_
 ·intro x8 _ h;unfold Nf at h;exact w1 a0.Elements (ec (.i 0 (ep 2 (.b 2 9 28 (.g 0 .z (.l 4 (.p 1 .z))) (.b 1 12 41 (.g 0 .z (.i 6 (.p 2 .z))) (ec z1 z1))))) .z) t0
 intro _ s' h hs;refine w1 a0.Balises (el 2 s1) ?_;intro h;refine uL 59 2 (fun s (x24,x25)=>⟨(47,I6 x24)::gt s [5,45,46],[(43,.map (Ys x25))],[],[]⟩) (fun _ (_:Unit)=>⟨[],[],[],[]⟩) h ?_ ?_
 ·rintro ⟨x24,x25⟩ _ h;unfold Mu at h;refine w1 n0 (ec (.i 0 s1) .z) ?_;intro x27 h;refine zR 3 (Je0 (m:=x25) (k:=x27.Id) false 43 kr kr (w1 n0 (ec z1 .s) ?_));intro h;exact zR 3 (Jhh (m:=x25) (k:=x27.Id) (v:=true) 43 kr kr kr (w1 n0 z2 t0))
 intro _ s' h hs;exact w1 n0 z1 t0⟩
def Xi(a0:Ja):Option Int :=
 (Mk a0).bind fun r1=>
 bif (!r1) then (
  some 2
 ) else (
  (Ia a0).bind fun r2=>
  bif (!(decide (r2=0))) then (
   some r2
  ) else (
   (Yq a0).bind fun r3=>
   ((bif (!r3) then some true else (
    (Fg a0).bind fun r5=>
    some (!r5)
   ))).bind fun b4=>
   bif b4 then (
    some 1
   ) else (
    (Od a0).bind fun r6=>
    bif (!(decide (r6.2=0))) then (
     some r6.2
    ) else (
     (Fh a0 r6.1).bind fun r7=>
     bif (!(decide (r7=0))) then (
      some r7
     ) else (
      (Fc a0).bind fun r8=>
      some r8
     )
    )
   )
  )
 )
instance (a0:Ja):Cp (Xi a0) 70 [Enc.pv a0] Enc.pv:=⟨fun r h=>by
 unfold Xi at h;refine zG f70 ?_;refine w1 n0 (ep 1 (ec z1 (.p 1 (ee (.c z1 (.p 1 (.b 2 4 22 (.g 0 .z (.p 1 .z)) (ec z1 .x)))))))) ?_;intro _ _ _ _ r6 h6 h;refine zR 1 (zP (Jfh _ r6 h6) ?_);exact w1 n0 (ee (.c z1 (.p 2 (ee (.c z1 (.p 1 z1)))))) t0⟩
def Yn(a0:Int)(a1:Int)(a2:Int):Option Int :=
 some (max a1 (min a0 a2))
instance (a0:Int)(a1:Int)(a2:Int):Cp (Yn a0 a1 a2) 209 [Enc.pv a0,Enc.pv a1,Enc.pv a2] Enc.pv:=⟨fun r h=>by
 unfold Yn at h;refine zG f209 ?_;exact w1 n0 z2 t0⟩
def Xm(a0:Jr):Option Jr :=
 (Yn a0.Id 1 99).bind fun r1=>
 (Yn a0.Length 1 50000).bind fun r2=>
 (Yn a0.Speed 1 10000).bind fun r3=>
 (Yn a0.Accel 1 200).bind fun r4=>
 (Yn a0.Service 1 200).bind fun r5=>
 (Yn a0.Emergency a0.Service 200).bind fun r6=>
 (Yn a0.Delay 0 5).bind fun r7=>
 (Yn a0.Const 0 500).bind fun r8=>
 (Yn a0.Rate 0 100).bind fun r9=>
 some (Jr.mk r1 a0.Name r2 r3 r4 r5 r6 r7 r8 r9)
instance (a0:Jr):Cp (Xm a0) 145 [Enc.pv a0] Enc.pv:=⟨fun r h=>by
 unfold Xm at h;refine zG f145 ?_;exact w1 n0 (ep 2 (.p 4 (.p 2 (.p 2 (.p 2 (.p 4 (.p 2 (.p 2 (.p 2 z1))))))))) t0⟩
def Jbs(a0:Jr):Option Int :=
 (Tt a0.Name).bind fun r1=>
 bif (!r1) then (
  some 3
 ) else (
  (Xm a0).bind fun r2=>
  bif (!(Jmw a0 r2)) then (
   some 1
  ) else (
   some 0
  )
 )
instance (a0:Jr):Cp (Jbs a0) 71 [Enc.pv a0] Enc.pv:=⟨fun r h=>by
 unfold Jbs at h;refine zG f71 ?_;exact w1 n0 (ep 2 (ec z1 (.p 2 (ec z1 z1)))) t0⟩
def Xj(a0:Ja):Option Ja :=
 some a0
instance (a0:Ja):Cp (Xj a0) 210 [Enc.pv a0] (fun r=>.fn 263 [.cptr (cellsOf r)]):=⟨fun r h=>by
 unfold Xj at h;refine zG f210 ?_;refine w1 n0 S2 ?_;intro h;refine Jm (Jpy 1 [] (cs:=cellsOf a0) (cs':=cellsOf a0) kr kr kr kr (Vw ?_));cases h;exact zQ⟩
def Zm(a0:Ja)(a1:Int):Option Bool :=
 ((bif decide (0<=a1) then (
  some (decide (a1<((a0.Elements.length:Nat):Int)))
 ) else some false)).bind fun b1=>
 some b1
instance (a0:Ja)(a1:Int):Cp (Zm a0 a1) 149 [Enc.pv a0,Enc.pv a1] Enc.pv:=⟨fun r h=>by
 unfold Zm at h;refine zG f149 ?_;exact w1 a0.Elements (.e (.b 3 6 13 (.g 0 (.l 3 .z) .z) z1)) t0⟩
def Jgh(a0:Int)(a1:Int)(a2:Int):Int->Option (Int⊕(Unit⊕(Int×Bool))):=fun x2=>
 bif decide (x2<10) then (
  (ixO Qy x2).bind fun x4=>
  bif (((decide (x4.kind_=a0))&&(decide (x4.in_=a1)))&&(decide (x4.out_=a2))) then (
   some (.inr (.inr (x4.need_,true)))
  ) else (
   some (.inl (w64 (x2+1)))
  )
 ) else (
  some (.inr (.inl ()))
 )
def Jbc(a0:Int)(a1:Int)(a2:Int):Option (Int×Bool) :=
 onInl (Jq (Jgh a0 a1 a2) 0) fun _=>
 some (0,false)
instance (a0:Int)(a1:Int)(a2:Int):Cp (Jbc a0 a1 a2) 241 [Enc.pv a0,Enc.pv a1,Enc.pv a2] (fun r=>.tup [Enc.pv r.1,Enc.pv r.2]):=⟨fun r h=>by
 unfold Jbc at h;refine zG f241 ?_;refine w1 n0 s2 ?_;intro h;refine uN 33 0 [11] (fun s x2=>⟨(11,I6 x2)::gt s [0,1,2,10],[],[],[]⟩) h ?_ ?_
 ·intro x2 _ h;unfold Jgh at h;refine w1 n0 (ec .x .z) ?_;intro _ h7 h;exact Kgj (tab:=Qy) h7 true 10 4 kr kr kr kr (w1 n0 (.e (.o 5 5 23 1 (.o 1 5 29 0 (ec z1 z1)))) t0)
 intro _ s' h hs;exact w1 n0 z1 t0⟩
def Td(a0:Ja)(a1:Jb):Option (Int×Bool) :=
 (Zm a0 a1.El).bind fun r1=>
 bif (!r1) then (
  some (0,false)
 ) else (
  (ixO a0.Elements a1.El).bind fun x2=>
  (Jbc x2.Kind a1.In a1.Out).bind fun r3=>
  some (r3.1,r3.2)
 )
instance (a0:Ja)(a1:Jb):Cp (Td a0 a1) 211 [Enc.pv a0,Enc.pv a1] (fun r=>.tup [Enc.pv r.1,Enc.pv r.2]):=⟨fun r h=>by
 unfold Td at h;refine zG f211 ?_;exact w1 n0 (ep 3 (ec z1 (.i 4 (.p 6 z1)))) t0⟩
def Fk(a0:Ja)(a1:Je):Int->Option (Int⊕(Unit⊕(Je×Bool))):=fun x2=>
 bif decide (x2<((a0.Joints.length:Nat):Int)) then (
  (ixO a0.Joints x2).bind fun x4=>
  bif Kc x4.A a1 then (
   some (.inr (.inr (x4.B,true)))
  ) else (
   bif Kc x4.B a1 then (
    some (.inr (.inr (x4.A,true)))
   ) else (
    some (.inl (w64 (x2+1)))
   )
  )
 ) else (
  some (.inr (.inl ()))
 )
def Er(a0:Ja)(a1:Je):Option (Je×Bool) :=
 onInl (Jq (Fk a0 a1) 0) fun _=>
 some ((Je.mk 0 0),false)
instance (a0:Ja)(a1:Je):Cp (Er a0 a1) 264 [Enc.pv a0,Enc.pv a1] (fun r=>.tup [Enc.pv r.1,Enc.pv r.2]):=⟨fun r h=>by
 unfold Er at h;refine zG f264 ?_;refine w1 a0.Joints (el 2 s1) ?_;intro h;refine uN 29 0 [11] (fun s x2=>⟨(11,I6 x2)::gt s [3,4,9,10],gh s [3,4],[],[]⟩) h ?_ ?_
 ·intro x2 _ h;unfold Fk at h;exact w1 n0 (ec (.i 0 (ee (.c z1 (ec z1 z1)))) .z) t0
 intro _ s' h hs;exact w1 n0 z1 t0⟩
def Pv(a0:Jb)(c0:Ja):Option (Je×Bool) :=
 (Er c0 (Je.mk a0.El a0.Out)).bind fun r1=>
 some (r1.1,r1.2)
instance (a0:Jb)(c0:Ja):Cp (Pv a0 c0) 263 [Enc.pv a0,.cptr (cellsOf c0)] (fun r=>.tup [Enc.pv r.1,Enc.pv r.2]):=⟨fun r h=>by
 unfold Pv at h;refine zG f263 ?_;exact w1 n0 (ep 6 z1) t0⟩
def Jeq(x49:Jb)(x51:(List Jb)):Int->Option (Int⊕(Unit⊕(Unit⊕(Int⊕(Unit⊕Bool))))):=fun x53=>
 bif decide (x53<((x51.length:Nat):Int)) then (
  (ixO x51 x53).bind fun x55=>
  bif decide (x55.El=x49.El) then (
   some (.inr (.inr (.inr (.inr (.inr false)))))
  ) else (
   some (.inl (w64 (x53+1)))
  )
 ) else (
  some (.inr (.inl ()))
 )
def Jej(a0:Ja)(a1:(List Jb))(r2:Ja):Int->Option (Int⊕(Unit⊕Bool)):=fun x21=>
 bif decide (x21<((a1.length:Nat):Int)) then (
  onInl (α:=Unit) (β:=(Int⊕(Unit⊕Bool))) (
   (ixO a1 x21).bind fun x49=>
   (Td a0 x49).bind fun r50=>
   bif (!r50.2) then (
    some (.inr (.inr (.inr false)))
   ) else (
    (slO a1 none (some x21) none).bind fun x51=>
    onInl (Jq (Jeq x49 x51) 0) fun _=>
    bif decide (x21=0) then (
     some (.inl ())
    ) else (
     (ixO a1 (w64 (x21 - 1))).bind fun x56=>
     (Pv x56 r2).bind fun r57=>
     bif (((!r57.2)||(!(decide (r57.1.El=x49.El))))||(!(decide (r57.1.Side=x49.In)))) then (
      some (.inr (.inr (.inr false)))
     ) else (
      some (.inl ())
     )
    )
   )
  ) fun _=>
  some (.inl (w64 (x21+1)))
 ) else (
  some (.inr (.inl ()))
 )
def Hb(a0:Ja)(a1:(List Jb)):Option Bool :=
 ((bif decide (((a1.length:Nat):Int)=0) then some true else (
  some (decide (64<((a1.length:Nat):Int)))
 ))).bind fun b1=>
 bif b1 then (
  some false
 ) else (
  (Xj a0).bind fun r2=>
  onInl (Jq (Jej a0 a1 r2) 0) fun _=>
  some true
 )
instance (a0:Ja)(a1:(List Jb)):Cp (Hb a0 a1) 146 [Enc.pv a0,Enc.pv a1] Enc.pv:=⟨fun r h=>by
 unfold Hb at h;refine zG f146 ?_;refine w1 a1 (el 1 (.b 2 4 21 (.g 0 .z (.l 1 .z)) (ec z1 (.p 1 (el 1 s1))))) ?_;intro _ _ h;refine uN 82 0 [26] (fun s x21=>⟨(26,I6 x21)::gt s [1,2,5,24,25],gh s [2],[],[]⟩) h ?_ ?_
 ·intro x21 _ h;unfold Jej at h;refine w1 n0 (ec .s .z) ?_;intro h;refine uJ 82 (fun s (_:Unit)=>⟨gt s [1,2,5,24,25,26],gh s [2],[],[]⟩) h ?_ ?_
  ·intro _ h;refine w1 n0 (.i 1 (ep 2 (ee (.c z1 .x)))) ?_;intro _ _ x51 h127 h;refine zR 2 (Jju h127 .frozen kr kr kr (w1 x51 (.l 0 s1) ?_));intro h;refine uN 82 2 [43] (fun s x53=>⟨(43,I6 x53)::gt s [1,2,5,6,7,24,25,26,41,42],gh s [2,7],[],[]⟩) h ?_ ?_
   ·intro x53 _ h;unfold Jeq at h;exact w1 n0 (ec (.i 0 (ee (.c z1 z1))) .z) t0
   intro _ s' h hs;exact w1 n0 (ec .z (.i 4 (.p 1 (.e (.o 3 6 73 1 (.o 1 6 80 0 (ec z1 .z))))))) t0
  intro _ h;exact w1 n0 z1 t0
 intro _ s' h hs;exact w1 n0 z1 t0⟩
def Jed(a0:Qz):Option Jb :=
 (ixO a0.Steps (w64 (((a0.Steps.length:Nat):Int) - 1))).bind fun x1=>
 some x1
instance (a0:Qz):Cp (Jed a0) 147 [Enc.pv a0] Enc.pv:=⟨fun r h=>by
 unfold Jed at h;refine zG f147 ?_;exact w1 a0.Steps (el 4 (.i 1 z1)) t0⟩
def Ei(a0:Ja)(a1:(List Jb)):(Int×Int)->Option ((Int×Int)⊕(Int⊕Int)):=fun (x8,x9)=>
 bif decide (x9<((a1.length:Nat):Int)) then (
  onInl (α:=Int) (β:=((Int×Int)⊕(Int⊕Int))) (
   (ixO a1 x9).bind fun x22=>
   (Zm a0 x22.El).bind fun r23=>
   bif r23 then (
    (ixO a0.Elements x22.El).bind fun x24=>
    some (.inl (w64 (x8+x24.Length)))
   ) else (
    some (.inl x8)
   )
  ) fun x21=>
  some (.inl (x21,w64 (x9+1)))
 ) else (
  some (.inr (.inl x8))
 )
def Cv(a0:Ja)(a1:(List Jb)):Option Int :=
 onInl (Jq (Ei a0 a1) (0,0)) fun x17=>
 some x17
instance (a0:Ja)(a1:(List Jb)):Cp (Cv a0 a1) 74 [Enc.pv a0,Enc.pv a1] Enc.pv:=⟨fun r h=>by
 unfold Cv at h;refine zG f74 ?_;refine w1 a1 (ee (.l 1 s1)) ?_;intro h;refine uL 29 0 (fun s (x8,x9)=>⟨(5,I6 x8)::(10,I6 x9)::gt s [2,8,9],gh s [2],[],[]⟩) (fun _ x17=>⟨[(5,I6 x17)],[],[],[]⟩) h ?_ ?_
 ·rintro ⟨x8,x9⟩ _ h;unfold Ei at h;refine w1 n0 (ec .s .z) ?_;intro h;refine uJ 29 (fun s x21=>⟨(5,I6 x21)::gt s [2,8,9,10],gh s [2],[],[]⟩) h ?_ ?_
  ·intro _ h;exact w1 n0 (.i 0 (ep 3 (ec (.i 5 z1) .z))) t0
  intro x21 h;exact w1 n0 z1 t0
 intro x17 s' h hs;exact w1 n0 z1 t0⟩
def Xx(a0:Ja)(a1:Qz):Option Int :=
 (slO a1.Steps none (some (w64 (((a1.Steps.length:Nat):Int) - 1))) none).bind fun x1=>
 (Cv a0 x1).bind fun r2=>
 some (w64 ((w64 (r2+a1.Head)) - a1.Length))
instance (a0:Ja)(a1:Qz):Cp (Xx a0 a1) 148 [Enc.pv a0,Enc.pv a1] Enc.pv:=⟨fun r h=>by
 unfold Xx at h;refine zG f148 ?_;refine w1 a1.Steps (el 5 .x) ?_;intro _ h1 h;refine zR 1 (Jju h1 .frozen kr kr kr ?_);exact w1 n0 (.p 0 z2) t0⟩
def Jcu(a0:Ja)(a1:Qz):Option Int :=
 (Hb a0 a1.Steps).bind fun r1=>
 ((bif ((((!r1)||(decide (a1.Length<1)))||(decide (1000000<a1.Length)))||(decide (a1.Head<1))) then some true else (
  (Jed a1).bind fun r3=>
  (ixO a0.Elements r3.El).bind fun x4=>
  some (decide (x4.Length<a1.Head))
 ))).bind fun b2=>
 bif b2 then (
  some 1
 ) else (
  (Xx a0 a1).bind fun r5=>
  ((bif decide (r5<0) then some true else (
   ((bif decide (1<((a1.Steps.length:Nat):Int)) then (
    (ixO a1.Steps 0).bind fun x8=>
    (ixO a0.Elements x8.El).bind fun x9=>
    some (decide (x9.Length<=r5))
   ) else some false)).bind fun b7=>
   some b7
  ))).bind fun b6=>
  bif b6 then (
   some 10
  ) else (
   some 0
  )
 )
instance (a0:Ja)(a1:Qz):Cp (Jcu a0 a1) 72 [Enc.pv a0,Enc.pv a1] Enc.pv:=⟨fun r h=>by
 unfold Jcu at h;refine zG f72 ?_;exact w1 a1.Steps (ep 3 (.o 2 4 15 2 (.o 1 4 20 1 (.o 1 4 25 0 (.b 1 12 38 (.g 0 .z (.p 5 (.i 1 .z))) (ec z1 (.p 2 (.e (.b 3 19 63 (.g 0 .z (.l 2 (.b 2 13 62 (.g 0 (.i 5 (.i 2 .z)) .z) .z))) (ec z1 z1)))))))))) t0⟩
def Va(a0:Ja)(a1:Jb):Option Int :=
 (Cv a0 [a1]).bind fun r1=>
 some r1
instance (a0:Ja)(a1:Jb):Cp (Va a0 a1) 75 [Enc.pv a0,Enc.pv a1] Enc.pv:=⟨fun r h=>by
 unfold Va at h;refine zG f75 ?_;exact w1 n0 (ep 3 z1) t0⟩
def Kl(a0:(List Jb)):Option (List Jb) :=
 (Qd ([]:(List Jb)) a0).bind fun x1=>
 some x1
instance Jaa(a0:(List Jb)):Cp (Kl a0) 76 [Enc.pv a0] (fun r=>Jg (.own 7) r):=⟨fun r h=>by
 unfold Kl at h;refine zG f76 ?_;refine w1 n0 S2 ?_;intro h;refine Jm ?_;refine Tw (e:=(a0.map cellsOf).isEmpty) kr (fun hub=>?_) ?_
 ·have hN:=Xb (Ji7 hub) h;refine w1 n0 S1 ?_;intro h;refine Jm (Wh 2 7 3 24 kr kr (Vw (Yw ?_)));cases hN;exact zQ
 obtain ⟨x1,h1,h⟩:=Qp h;refine Qv (Jm (Kb (Vn (zR 2 (Md (tk:=7) h1 kr ?_)))));exact w1 n0 z1 t0⟩
theorem Jah(a0:(List Jb))(r:(List Jb))(h:Kl a0=some r):Yr prog GlS 76 [Enc.pv a0] (Enc.pv r) :=
 ((Jaa a0).ok r h).freeze kr kr kr
def Jal(a0:Ja)(a1:Jr)(a2:Qz):Option (Jd×Int) :=
 (Xi a0).bind fun r1=>
 ((bif (!(decide (r1=0))) then some true else (
  (Jbs a1).bind fun r3=>
  some (!(decide (r3=0)))
 ))).bind fun b2=>
 ((bif b2 then some true else (
  (Jcu a0 a2).bind fun r5=>
  some (!(decide (r5=0)))
 ))).bind fun b4=>
 ((bif (b4||(!(decide (a2.Length=a1.Length)))) then some true else (
  some (decide (((a2.Steps.length:Nat):Int)=0))
 ))).bind fun b6=>
 bif b6 then (
  some ((Jd.mk 0 0 0 0 [] [] [] [] [] 0 0 0 0 0),1)
 ) else (
  (ixO a2.Steps (w64 (((a2.Steps.length:Nat):Int) - 1))).bind fun x7=>
  (Lq a0 (Je.mk x7.El x7.Out)).bind fun r8=>
  bif decide (r8<0) then (
   some ((Jd.mk 0 0 0 0 [] [] [] [] [] 0 0 0 0 0),9)
  ) else (
   (slO a2.Steps none (some (w64 (((a2.Steps.length:Nat):Int) - 1))) none).bind fun x9=>
   (Cv a0 x9).bind fun r10=>
   (Va a0 x7).bind fun r11=>
   (Kl a2.Steps).bind fun r12=>
   some ((Jd.mk a1.Id (w64 ((w64 (0 - r10)) - a2.Head)) r8 (w64 (r11 - a2.Head)) r12 [] [] [] [] 0 0 0 0 0),0)
  )
 )
instance (a0:Ja)(a1:Jr)(a2:Qz):Cp (Jal a0 a1 a2) 30 [Enc.pv a0,Enc.pv a1,Enc.pv a2] (fun r=>.tup [Enc.pv r.1,Enc.pv r.2]):=⟨fun r h=>by
 unfold Jal at h;refine zG f30 ?_;refine w1 a2.Steps (ep 1 (.b 2 4 18 (.g 0 .z (.p 1 .z)) (.b 1 5 24 (.g 0 .z (.p 2 .z)) (.o 1 6 31 0 (.b 1 5 37 (.g 0 .z (.l 2 .z)) (ec z1 (.l 2 (ei 3 (ep 6 (ee (.c z1 .x))))))))))) ?_;intro _ _ _ _ _ _ _ h9 h;refine zR 6 (Jju h9 .frozen kr kr kr (w1 n0 (.p 0 (.p 7 .x)) ?_));intro _ _ r12 h12 h;refine zR 5 (zP (Jah _ r12 h12) ?_);exact w1 n0 z1 t0⟩
def Jbt(a0:Int)(a1:Int):Option Jk :=
 some (Jk.mk a0 0 0 a1)
instance (a0:Int)(a1:Int):Cp (Jbt a0 a1) 31 [Enc.pv a0,Enc.pv a1] Enc.pv:=⟨fun r h=>by
 unfold Jbt at h;refine zG f31 ?_;exact w1 n0 z2 t0⟩
def Jwy(a0:Ja)(a1:(List Jb)):(Int×(List (Int×Bool))×(List Int))->Option ((Int×(List (Int×Bool))×(List Int))⊕((List Int)⊕(List Int))):=fun (x23,x24,x25)=>
 bif decide (x23<((a1.length:Nat):Int)) then (
  onInl (α:=((List Int)×(List (Int×Bool)))) (β:=((Int×(List (Int×Bool))×(List Int))⊕((List Int)⊕(List Int)))) (
   (ixO a1 x23).bind fun x43=>
   (Zm a0 x43.El).bind fun r44=>
   bif (!r44) then (
    some (.inl (x25,x24))
   ) else (
    (ixO a0.Elements x43.El).bind fun x45=>
    bif (!((Wx (x24:(List (Int×Bool))) x45.Section).getD false)) then (
     (Qd x25 [x45.Section]).bind fun x46=>
     some (.inl (x46,(Fy x45.Section true x24)))
    ) else (
     some (.inl (x25,x24))
    )
   )
  ) fun (x41,x42)=>
  some (.inl (w64 (x23+1),x42,x41))
 ) else (
  some (.inr (.inl x25))
 )
def Tp(a0:Ja)(a1:(List Jb)):(Int×(List (Int×Bool))×(List Int))->Option ((Int×(List (Int×Bool))×(List Int))⊕((List Int)⊕(List Int))):=fun (x23,x24,x25)=>
 bif decide (x23<((a1.length:Nat):Int)) then (
  onInl (α:=((List Int)×(List (Int×Bool)))) (β:=((Int×(List (Int×Bool))×(List Int))⊕((List Int)⊕(List Int)))) (
   (ixO a1 x23).bind fun x43=>
   (Zm a0 x43.El).bind fun r44=>
   bif (!r44) then (
    some (.inl (x25,x24))
   ) else (
    (ixO a0.Elements x43.El).bind fun x45=>
    bif (!((Wx (x24:(List (Int×Bool))) x45.Section).getD false)) then (
     (Qd x25 [x45.Section]).bind fun x46=>
     some (.inl (x46,(Fy x45.Section true x24)))
    ) else (
     some (.inl (x25,x24))
    )
   )
  ) fun (x41,x42)=>
  some (.inl (w64 (x23+1),x42,x41))
 ) else (
  some (.inr (.inl x25))
 )
def Nw(a0:Ja)(a1:(List Jb)):Option (List Int) :=
 onInl (Jq (Tp a0 a1) (0,[],[])) fun x36=>
 some x36
theorem Jgc(a0:Ja)(a1:(List Jb))(r:(List Int))(h:Nw a0 a1=some r):Jm4 prog GlS 77 [Enc.pv a0,Enc.pv a1] 1 8 (r.map cellsOf):=by
 unfold Nw at h;refine Jbn func77 (by rfl) rfl ntmps77 (by rfl) rfl ?_;refine w1 a1 (ee (el 1 S1)) ?_;intro h;refine Jm (Kk (Kw (Jio 5 100005 1 8 kr kr) ?_));refine uL 41 0 (fun s (x23,x24,x25)=>⟨(5,.ex 100005 1 8 ((x25.map cellsOf).length) 0 ((x25.map cellsOf).length))::(13,I6 x23)::gt s [2,6,11,12],(10,.map (Ys x24))::gh s [2],[(100005,((x25.map cellsOf).length,0))],[(100005,(1,(8,x25.map cellsOf)))]⟩) (fun _ x36=>⟨[(5,.ex 100005 1 8 ((x36.map cellsOf).length) 0 ((x36.map cellsOf).length))],[],[(100005,((x36.map cellsOf).length,0))],[(100005,(1,(8,x36.map cellsOf)))]⟩) h ?_ ?_
 ·rintro ⟨x23,x24,x25⟩ _ h;unfold Tp at h;refine w1 n0 (ec .s .z) ?_;intro h;refine uJ 41 (fun s (x41,x42)=>⟨(5,.ex 100005 1 8 ((x41.map cellsOf).length) 0 ((x41.map cellsOf).length))::gt s [2,6,11,12,13],(10,.map (Ys x42))::gh s [2],[(100005,((x41.map cellsOf).length,0))],[(100005,(1,(8,x41.map cellsOf)))]⟩) h ?_ ?_
  ·intro _ h;refine w1 n0 (.i 0 (ep 3 (ec .z (.i 4 s1)))) ?_;intro _ _ x45 h;refine zR 2 (Je0 (m:=x24) (k:=x45.Section) false 10 kr kr (w1 n0 (ec .s .z) ?_));intro h;refine zR 2 (Jhh (m:=x24) (k:=x45.Section) (v:=true) 10 kr kr kr (w1 n0 X1 ?_));intro _ h38 h;exact zR 3 (Ju7 (tk:=100005) (N:=(x25.map cellsOf).length) h38 kr kr kr (w1 n0 z1 t0))
  rintro ⟨x41,x42⟩ h;exact w1 n0 z1 t0
 intro x36 s' h hs;refine w1 n0 S1 ?_;intro h;refine Jm (Vw ?_);have hq:=cN h;subst hq;exact Jn4 100005 ((x36.map cellsOf).length) kr
def Jba(a0:(List Int)):Option (List Int):=some (a0.mergeSort fun x y=>decide (x<=y))
theorem Jfi(a0:(List Int))(r:(List Int))(h:Jba a0=some r):Rw prog GlS 78 1 8 (a0.map cellsOf) [] none (r.map cellsOf):=by
 cases h;exact Jtb Tryz.sort78 ⟨_,func78,rfl,rfl⟩ a0
def Tc(a0:Ja)(a1:Qz):Option (List Int) :=
 (Nw a0 a1.Steps).bind fun r1=>
 (Jba r1).bind fun r2=>
 some r2
instance (a0:Ja)(a1:Qz):Cp (Tc a0 a1) 32 [Enc.pv a0,Enc.pv a1] Enc.pv:=⟨fun r h=>by
 unfold Tc at h;refine zG f32 ?_;refine w1 n0 X1 ?_;intro r1 h1 h;refine zR 3 (Jh1 (α:=Int) 9 (Jgc _ _ r1 h1) kr kr (w1 n0 X1 ?_));intro r2 h2 h;refine zR 1 (Hl (t:=9) (L:=r1) (L':=r2) (N:=(r1.map cellsOf).length) kr kr kr (Jfi _ r2 h2) (w1 n0 S2 ?_));intro h;refine Jm (Kw (Zy (xss:=r2.map cellsOf) 9 1 8 ((r1.map cellsOf).length) [4,5,9,10,12] [] kr kr kr kr) ?_);exact w1 n0 .z t0⟩
def Jj6(a1:(List Jr)):Int->Option (Int⊕(Unit⊕(Jj×Int))):=fun x4=>
 bif decide (x4<((a1.length:Nat):Int)) then (
  (ixO a1 (w64 (x4 - 1))).bind fun x7=>
  (ixO a1 x4).bind fun x8=>
  bif decide (x8.Id<=x7.Id) then (
   some (.inr (.inr ((Jj.mk [] []),7)))
  ) else (
   some (.inl (w64 (x4+1)))
  )
 ) else (
  some (.inr (.inl ()))
 )
def Jkg(a0:Ja)(a1:(List Jr))(a2:(List Qz)):(Int×(List Jd)×(List Jk))->Option ((Int×(List Jd)×(List Jk))⊕(((List Jd)×(List Jk))⊕(Jj×Int))):=fun (x22,x23,x24)=>
 bif decide (x22<((a1.length:Nat):Int)) then (
  (ixO a1 x22).bind fun x33=>
  (ixO a2 x22).bind fun x34=>
  (Jal a0 x33 x34).bind fun r35=>
  bif (!(decide (r35.2=0))) then (
   some (.inr (.inr ((Jj.mk [] []),r35.2)))
  ) else (
   (Qd x23 [r35.1]).bind fun x36=>
   (Jbt x33.Id 0).bind fun r37=>
   (Qd x24 [r37]).bind fun x38=>
   some (.inl (w64 (x22+1),x36,x38))
  )
 ) else (
  some (.inr (.inl (x23,x24)))
 )
def Jkj(r58:(List Int)):(Int×(List (Int×Bool)))->Option ((Int×(List (Int×Bool)))⊕((List (Int×Bool))⊕((Int×(List (Int×Bool)))⊕(Unit⊕(Jj×Int))))):=fun (x60,x61)=>
 bif decide (x60<((r58.length:Nat):Int)) then (
  (ixO r58 x60).bind fun x64=>
  bif ((Wx (x61:(List (Int×Bool))) x64).getD false) then (
   some (.inr (.inr (.inr (.inr ((Jj.mk [] []),10)))))
  ) else (
   some (.inl (w64 (x60+1),(Fy x64 true x61)))
  )
 ) else (
  some (.inr (.inl x61))
 )
def Jj7(a0:Ja)(a2:(List Qz)):(Int×(List (Int×Bool)))->Option ((Int×(List (Int×Bool)))⊕(Unit⊕(Jj×Int))):=fun (x47,x48)=>
 bif decide (x47<((a2.length:Nat):Int)) then (
  (ixO a2 x47).bind fun x57=>
  (Tc a0 x57).bind fun r58=>
  onInl (Jq (Jkj r58) (0,x48)) fun x63=>
  some (.inl (w64 (x47+1),x63))
 ) else (
  some (.inr (.inl ()))
 )
def Jjr(a0:Ja)(a1:(List Jr))(a2:(List Qz)):Option (Jj×Int) :=
 ((bif ((decide (((a1.length:Nat):Int)=0))||(decide (6<((a1.length:Nat):Int)))) then some true else (
  some (!(decide (((a2.length:Nat):Int)=((a1.length:Nat):Int))))
 ))).bind fun b1=>
 bif b1 then (
  some ((Jj.mk [] []),1)
 ) else (
  onInl (Jq (Jj6 a1) 1) fun _=>
  onInl (Jq (Jkg a0 a1 a2) (0,[],[])) fun (x31,x32)=>
  onInl (Jq (Jj7 a0 a2) (0,[])) fun _=>
  some ((Jj.mk x31 x32),0)
 )
instance (a0:Ja)(a1:(List Jr))(a2:(List Qz)):Cp (Jjr a0 a1 a2) 10 [Enc.pv a0,Enc.pv a1,Enc.pv a2] (fun r=>.tup [Enc.pv r.1,Enc.pv r.2]):=⟨fun r h=>by
 unfold Jjr at h;refine zG f10 ?_;refine w6 a1 (el 1 (.e (.o 3 3 27 0 (.b 1 5 33 (.g 0 .z .s) (ec z1 s1))))) ?_ ?_ t0 t0 t0 t0
 ·intro _ h;exact yl 1 a2 (w1 n0 .z t0)
 intro _ h;refine uN 113 0 [9] (fun s x4=>⟨(9,I6 x4)::gt s [1,2,3,6,8],gh s [3,6],[],[]⟩) h ?_ ?_
 ·intro x4 _ h;unfold Jj6 at h;exact w1 n0 (ec (.i 3 (.i 4 (ec z1 z1))) .z) t0
 intro _ s' h hs;refine w1 a1 (el 1 S1) ?_;intro h;refine Jm (Kk (Kw (Ob 10 0 201000 14 192 (cs:=[.nil,.nil]) kr kr kr) (Kw (Ob 10 1 201001 4 32 (cs:=[Jg (.own 201000) (([]:(List Jd)):(List Jd)),.nil]) kr kr kr) ?_)));refine uM 113 2 [55] (fun s (x22,x23,x24)=>⟨(55,I6 x22)::gt s [2,3,6,10,53,54],(10,.cells ([Jg (.own 201000) x23,Jg (.own 201001) x24]))::gh s [3,6],[(201000,(((x23).map cellsOf).length,14)),(201001,(((x24).map cellsOf).length,4))],[]⟩) h ?_ ?_
 ·rintro ⟨x22,x23,x24⟩ _ h;unfold Jkg at h;exact w1 n0 (ec (.i 1 (ei 4 (.p 1 (ee (.c z1 (.w 4 (ep 4 (.w 1 z2)))))))) .z) t0
 rintro ⟨x31,x32⟩ s' h hs;refine w1 a2 (el 1 s1) ?_;intro h;refine uL 113 4 (fun s (x47,x48)=>⟨(92,I6 x47)::gt s [3,6,10,15,90,91],(89,.map (Ys x48))::gh s [3,6,10],gT s [201000,201001],[]⟩) (fun s (_:Unit)=>⟨gt s [6,10],gh s [6,10],gT s [201000,201001],[]⟩) h ?_ ?_
 ·rintro ⟨x47,x48⟩ _ h;unfold Jj7 at h;refine w1 n0 (ec (.i 0 (ep 2 .s)) .z) ?_;intro _ r58 h;refine yl 0 r58 (w1 n0 s1 ?_);intro h;refine uM 113 6 [100] (fun s (x60,x61)=>⟨(100,I6 x60)::gt s [3,6,10,15,90,91,92,98,99],(89,.map (Ys x61))::gh s [3,6,10],gT s [201000,201001],[]⟩) h ?_ ?_
  ·rintro ⟨x60,x61⟩ _ h;unfold Jkj at h;refine w1 n0 (ec (.i 0 s1) .z) ?_;intro x64 h;refine zR 2 (Je0 (m:=x61) (k:=x64) false 89 kr kr (w1 n0 (ec z1 .s) ?_));intro h;exact zR 2 (Jhh (m:=x61) (k:=x64) (v:=true) 89 kr kr kr (w1 n0 z2 t0))
  intro x63 s' h hs;exact w1 n0 z1 t0
 intro _ s' h hs;exact w1 n0 z1 t0⟩
def Jt(a0:(List Int)):Option (List Int) :=
 (Qd ([]:(List Int)) a0).bind fun x1=>
 some x1
instance (a0:(List Int)):Cp (Jt a0) 91 [Enc.pv a0] (fun r=>Jg (.own 7) r):=⟨fun r h=>by
 unfold Jt at h;refine zG f91 ?_;refine w1 n0 S2 ?_;intro h;refine Jm ?_;refine Tw (e:=(a0.map cellsOf).isEmpty) kr (fun hub=>?_) ?_
 ·have hN:=Xb (Ji7 hub) h;refine w1 n0 S1 ?_;intro h;refine Jm (Wh 2 7 1 8 kr kr (Vw (Yw ?_)));cases hN;exact zQ
 obtain ⟨x1,h1,h⟩:=Qp h;refine Qv (Jm (Kb (Vn (zR 2 (Md (tk:=7) h1 kr ?_)))));exact w1 n0 z1 t0⟩
def Bh(a0:(List Jk)):Option (List Jk) :=
 (Qd ([]:(List Jk)) a0).bind fun x1=>
 some x1
instance (a0:(List Jk)):Cp (Bh a0) 92 [Enc.pv a0] (fun r=>Jg (.own 7) r):=⟨fun r h=>by
 unfold Bh at h;refine zG f92 ?_;refine w1 n0 S2 ?_;intro h;refine Jm ?_;refine Tw (e:=(a0.map cellsOf).isEmpty) kr (fun hub=>?_) ?_
 ·have hN:=Xb (Ji7 hub) h;refine w1 n0 S1 ?_;intro h;refine Jm (Wh 2 7 4 32 kr kr (Vw (Yw ?_)));cases hN;exact zQ
 obtain ⟨x1,h1,h⟩:=Qp h;refine Qv (Jm (Kb (Vn (zR 2 (Md (tk:=7) h1 kr ?_)))));exact w1 n0 z1 t0⟩
def Vt(a0:Jj):Option Bool :=
 some (decide (((a0.Tracks.length:Nat):Int)=((a0.Sessions.length:Nat):Int)))
instance Jho(a0:Jj):Cp (Vt a0) 41 [Enc.pv a0] Enc.pv:=⟨fun r h=>by
 unfold Vt at h;refine zG f41 ?_;refine w1 a0.Tracks (el 2 .s) ?_;intro h;refine yl 2 a0.Sessions ?_;exact w1 n0 z1 t0⟩
def Gi(a0:(List Int)):Option (List Int) :=
 (Qd ([]:(List Int)) a0).bind fun x1=>
 some x1
theorem Jdb(a0:(List Int))(r:(List Int))(h:Gi a0=some r):Jm4 prog GlS 91 [Enc.pv a0] 1 8 (r.map cellsOf):=by
 unfold Gi at h;refine Jbn func91 (by rfl) rfl ntmps91 (by rfl) rfl ?_;refine w1 n0 S2 ?_;intro h;refine Jm ?_;refine Tw (e:=(a0.map cellsOf).isEmpty) kr (fun hub=>?_) ?_
 ·have hN:=Xb (Ji7 hub) h;refine w1 n0 S1 ?_;intro h;refine Jm (Kw (Jio 2 100002 1 8 kr kr) (Vw (Yw ?_)));have hq:=cN hN;subst hq;exact Jn4 100002 (((([]:(List Int)):(List Int)).map cellsOf).length) kr
 obtain ⟨x1,h1,h⟩:=Qp h;refine Qv (Jm (Kb (Vn (zR 2 (Jlc (tk:=7) (x:=.lst .full 1 8 []) h1 (.inr ⟨_,_,rfl⟩) kr kr (w1 n0 S1 ?_))))));intro h;refine Jm (Vw ?_);have hq:=cN h;subst hq;exact Jn4 7 ((x1.map cellsOf).length) kr
def Eb(a0:Int)(c0:Ko):Option Bool :=
 ((bif decide (a0<0) then some true else (
  some (decide (((c0.Routes.length:Nat):Int)<=a0))
 ))).bind fun b1=>
 bif b1 then (
  some true
 ) else (
  (ixO c0.Routes a0).bind fun x2=>
  some ((!(decide (x2.State=3)))&&(!(decide (x2.State=4))))
 )
instance (a0:Int)(c0:Ko):Cp (Eb a0 c0) 95 [Enc.pv a0,.cptr (cellsOf c0)] Enc.pv:=⟨fun r h=>by
 unfold Eb at h;refine zG f95 ?_;exact w1 c0.Routes (.e (.b 3 6 13 (.g 0 .z (.l 3 .z)) (ec z1 (.i 3 (.e (.o 3 3 25 0 z1)))))) t0⟩
def Iv(a0:(List Int))(a1_0:Ko):Int->Option (Int⊕(Unit⊕Int)):=fun x3=>
 bif decide (x3<((a0.length:Nat):Int)) then (
  (ixO a0 x3).bind fun x6=>
  (Eb x6 a1_0).bind fun r7=>
  bif r7 then (
   some (.inr (.inr x3))
  ) else (
   some (.inl (w64 (x3+1)))
  )
 ) else (
  some (.inr (.inl ()))
 )
def Uw(a0:(List Int))(a1_0:Ko):Option Int :=
 onInl (Jq (Iv a0 a1_0) 0) fun _=>
 some (-1)
instance Dr(a0:(List Int))(a1_0:Ko):Cp (Uw a0 a1_0) 166 [Enc.pv a0,.fn 95 [.cptr (cellsOf a1_0)]] Enc.pv:=⟨fun r h=>by
 unfold Uw at h;refine zG f166 ?_;refine w1 a0 (el 1 s1) ?_;intro h;refine uN 19 0 [8] (fun s x3=>⟨(8,I6 x3)::gt s [0,1,7],[],[],[]⟩) h ?_ ?_
 ·intro x3 _ h;unfold Iv at h;exact w1 n0 (ec (ei 3 (.p 1 (ec z1 z1))) .z) t0
 intro _ s' h hs;exact w1 n0 z1 t0⟩
def Hx(a0:(List Int))(a1_0:Ko):(Int×Int×(List Int))->Option ((Int×Int×(List Int))⊕(((List Int)×Int)⊕((List Int)×Nat))):=fun (x14,x15,x16)=>
 bif decide (x15<((((a0:(List Int)).map cellsOf).length:Nat):Int)) then (
  onInl (α:=((List Int)×Int)) (β:=((Int×Int×(List Int))⊕(((List Int)×Int)⊕((List Int)×Nat)))) (
   (Vz 0 (((a0:(List Int)).map cellsOf).length) x15).bind fun j38=>
   (Uy x16 (((a0:(List Int)).map cellsOf).length) j38).bind fun x39=>
   (Eb x39 a1_0).bind fun r40=>
   bif (!r40) then (
    (Vz 0 (((a0:(List Int)).map cellsOf).length) x14).bind fun j41=>
    (Uy x16 (((a0:(List Int)).map cellsOf).length) j41).bind fun x42=>
    some (.inl ((x16.set j41 x39),w64 (x14+1)))
   ) else (
    some (.inl (x16,x14))
   )
  ) fun (x36,x37)=>
  some (.inl (x37,w64 (x15+1),x36))
 ) else (
  some (.inr (.inl (x16,x14)))
 )
def Uo(a0:(List Int))(a1_0:Ko):Option ((List Int)×Nat) :=
 (Uw a0 a1_0).bind fun r1=>
 bif decide (r1=(-1)) then (
  some (a0,((a0:(List Int)).map cellsOf).length)
 ) else (
  onInl (Jq (Hx a0 a1_0) (r1,w64 (r1+1),a0)) fun (x29,x30)=>
  (Jzm (((a0:(List Int)).map cellsOf).length) (some x30) none).bind fun p43=>
  (Jzu x29 (((a0:(List Int)).map cellsOf).length) (0+p43.1) (p43.2 - p43.1) (0:Int)).bind fun x44=>
  (Kba (((a0:(List Int)).map cellsOf).length) x30).bind fun m45=>
  some (x44,m45)
 )
theorem Dq(a0:(List Int))(a1_0:Ko)(r:((List Int)×Nat))(h:Uo a0 a1_0=some r):Rw prog GlS 94 1 8 (a0.map cellsOf) [.fn 95 [.cptr (cellsOf a1_0)]] (some r.2) (r.1.map cellsOf):=by
 unfold Uo at h;refine Cw func94 (by rfl) rfl ntmps94 (by rfl) rfl ?_;refine w1 n0 X1 ?_;intro r1 h1 h;refine zR 2 (Fq [1000000000] ((Dr _ _).ok r1 h1) kr kr kr ?_);refine w6 n0 (ee (.c s1 s1)) ?_ ?_ t0 t0 t0 t0
 ·intro h;cases h;exact Ja7 kr
 intro h;refine uL 42 0 (fun s (x14,x15,x16)=>⟨(5,I6 x14)::(6,I6 x15)::gt s [0,1],[],gT s [1000000000],[(1000000000,(1,(8,x16.map cellsOf)))]⟩) (fun s (x29,x30)=>⟨(5,I6 x30)::gt s [0],[],gT s [1000000000],[(1000000000,(1,(8,x29.map cellsOf)))]⟩) h ?_ ?_
 ·rintro ⟨x14,x15,x16⟩ _ h;unfold Hx at h;refine w1 n0 (ec .s .z) ?_;intro h;refine uJ 42 (fun s (x36,x37)=>⟨(5,I6 x37)::gt s [0,1,6],[],gT s [1000000000],[(1000000000,(1,(8,x36.map cellsOf)))]⟩) h ?_ ?_
  ·intro _ h;refine w1 n0 (.j 2 (.d 0 false 1 0 (ep 2 (ec (.j 3 .x) .z)))) ?_;intro _ x39 _ _ _ h36 h;exact yst 0 1000000000 x39 0 1 h36 (w1 n0 z2 t0)
  rintro ⟨x36,x37⟩ h;exact w1 n0 z1 t0
 rintro ⟨x29,x30⟩ s' h hs;obtain ⟨p43,h37,h⟩:=Qp h;refine Qa (Jm (Kw hs (Kb (Vn (zR 2 (Kdj (tk:=1000000000) (k:=1) (b:=8) (N:=(a0.map cellsOf).length) (o:=0) (lo:=(some x30)) (hi:=none) h37 kr ?_))))));obtain ⟨x44,h38,h⟩:=Qp h;refine Keo (L:=x29) (tk:=1000000000) (N:=(a0.map cellsOf).length) (z:=(0:Int)) h38 kr kr kr rfl (w1 n0 X1 ?_);intro _ h39 h;refine zR 2 (Kd5 (tk:=1000000000) (k:=1) (b:=8) (N:=(a0.map cellsOf).length) (o:=0) h39 kr (w1 n0 s1 ?_));intro h;cases h;exact Ja7 kr
def Sp(a0:Jd)(a1:Ko):Option Jd :=
 Option.bind (α:=((List Int)×(List Jb)×(List Int)×(List Int)×(List Int))) (
  (Kl a0.Steps).bind fun r11=>
  (Jt a0.Routes).bind fun r12=>
  (Jt a0.Starts).bind fun r13=>
  (Jt a0.Ends).bind fun r14=>
  (Gi a0.Done).bind fun r15=>
  some (r15,r11,r12,r13,r14)
 ) fun (x6,x7,x8,x9,x10)=>
 (Uo x6 a1).bind fun r16=>
 some (Jd.mk a0.Id a0.Origin a0.End a0.At x7 x8 x9 x10 (r16.1.take r16.2) a0.Min a0.Sent a0.Accepted a0.Cut a0.CutSeq)
set_option maxRecDepth 100000 in
instance (a0:Jd)(a1:Ko):Cp (Sp a0 a1) 42 [Enc.pv a0,Enc.pv a1] Enc.pv:=⟨fun r h=>by
 unfold Sp at h;refine zG f42 ?_;refine w1 n0 S1 ?_;intro h;refine Jm (Kb (Jaj (Bx 0 1 (w1 n0 S1 ?_))));intro h;refine Vm 1 ⟨[(2,.ref 1002 0),(3,.ref 1003 0),(4,.ref 1004 0),(5,Enc.pv a0)],[(1002,.cells (cellsOf a0)),(1003,.cells (cellsOf a1)),(1004,.cells ([I6 0,I6 0,I6 0,I6 0,.nil,.nil,.nil,.nil,.nil,I6 0,I6 0,I6 0,I6 0,I6 0]))],[],[]⟩ 13 kr kr kr ?_;obtain ⟨o6,h6,h⟩:=Qp h;refine Jfa (f:=93) (asx:=[Enc.pv a0]) kr func93 (by rfl) rfl ntmps93 (by rfl) ?_;refine Og o6 1300037 (fun (x6,x7,x8,x9,x10)=>⟨[(2,.ref 2 0),(26,.ref 1002 0),(27,.ref 1003 0),(28,.ref 1004 0)],[(2,.cells ([I6 a0.Id,I6 a0.Origin,I6 a0.End,I6 a0.At,Jg (.own 5007) x7,Jg (.own 9007) x8,Jg (.own 13007) x9,Jg (.own 17007) x10,.ex 21 1 8 ((x6.map cellsOf).length) 0 ((x6.map cellsOf).length),I6 a0.Min,I6 a0.Sent,I6 a0.Accepted,I6 a0.Cut,I6 a0.CutSeq])),(1002,.cells (cellsOf a0)),(1003,.cells (cellsOf a1)),(1004,.cells ([I6 0,I6 0,I6 0,I6 0,.nil,.nil,.nil,.nil,.nil,I6 0,I6 0,I6 0,I6 0,I6 0]))],[(5007,(((x7).map cellsOf).length,3)),(9007,(((x8).map cellsOf).length,1)),(13007,(((x9).map cellsOf).length,1)),(17007,(((x10).map cellsOf).length,1)),(21,((x6.map cellsOf).length,0))],[(21,(1,(8,x6.map cellsOf)))]⟩) ?_ ?_
 ·have h:=h6;refine w1 n0 (ep 2 (ep 2 (ep 2 (ep 2 X1)))) ?_;intro _ _ _ _ r15 h11 h;refine zR 2 (Jh1 (α:=Int) 21 (Jdb _ r15 h11) kr kr (w1 n0 s2 ?_));intro h;cases h;exact Jkw kr kr
 obtain ⟨x6,x7,x8,x9,x10⟩:=o6;refine Jfe (r:=.agg [I6 a0.Id,I6 a0.Origin,I6 a0.End,I6 a0.At,Jg (.own 5007) x7,Jg (.own 9007) x8,Jg (.own 13007) x9,Jg (.own 17007) x10,.ex 21 1 8 ((x6.map cellsOf).length) 0 ((x6.map cellsOf).length),I6 a0.Min,I6 a0.Sent,I6 a0.Accepted,I6 a0.Cut,I6 a0.CutSeq]) kr (Vm 2 ⟨[(2,.ref 1002 0),(3,.ref 1003 0),(4,.ref 1004 0),(6,.agg [I6 a0.Id,I6 a0.Origin,I6 a0.End,I6 a0.At,Jg (.own 2005007) x7,Jg (.own 2009007) x8,Jg (.own 2013007) x9,Jg (.own 2017007) x10,.ex 2000021 1 8 ((x6.map cellsOf).length) 0 ((x6.map cellsOf).length),I6 a0.Min,I6 a0.Sent,I6 a0.Accepted,I6 a0.Cut,I6 a0.CutSeq])],[(1002,.cells (cellsOf a0)),(1003,.cells (cellsOf a1)),(1004,.cells ([I6 0,I6 0,I6 0,I6 0,.nil,.nil,.nil,.nil,.nil,I6 0,I6 0,I6 0,I6 0,I6 0]))],[(2005007,(((x7).map cellsOf).length,3)),(2009007,(((x8).map cellsOf).length,1)),(2013007,(((x9).map cellsOf).length,1)),(2017007,(((x10).map cellsOf).length,1)),(2000021,((x6.map cellsOf).length,0))],[(2000021,(1,(8,x6.map cellsOf)))]⟩ 13 kr kr kr ?_);refine Vm 1 ⟨[(2,.ref 2 0),(3,.ref 3 0),(4,.ref 4 0),(6,.agg [I6 a0.Id,I6 a0.Origin,I6 a0.End,I6 a0.At,Jg (.own 2005007) x7,Jg (.own 2009007) x8,Jg (.own 2013007) x9,Jg (.own 2017007) x10,.ex 2000021 1 8 ((x6.map cellsOf).length) 0 ((x6.map cellsOf).length),I6 a0.Min,I6 a0.Sent,I6 a0.Accepted,I6 a0.Cut,I6 a0.CutSeq])],[(2,.cells (cellsOf a0)),(3,.cells (cellsOf a1)),(4,.cells ([I6 0,I6 0,I6 0,I6 0,.nil,.nil,.nil,.nil,.nil,I6 0,I6 0,I6 0,I6 0,I6 0]))],[(2005007,(((x7).map cellsOf).length,3)),(2009007,(((x8).map cellsOf).length,1)),(2013007,(((x9).map cellsOf).length,1)),(2017007,(((x10).map cellsOf).length,1)),(2000021,((x6.map cellsOf).length,0))],[(2000021,(1,(8,x6.map cellsOf)))]⟩ 13 kr kr kr (Bx 2 1 (w1 n0 S1 ?_));intro h;refine Jac (Jm (Kb (Jpy 3 [2,4] (cs:=cellsOf a1) (cs':=cellsOf a1) kr kr kr kr ?_)));obtain ⟨r16,h12,h⟩:=Qp h;refine Vn (zR 3 (Jzi (t:=2000021) (L:=x6) (L':=r16.1) (m:=r16.2) (N:=(x6.map cellsOf).length) kr kr kr (Dq _ _ r16 h12) ?_));exact w1 n0 z2 t0⟩
def Ck(a0:(List Int))(a1:Int):Int->Option (Int⊕(Unit⊕Int)):=fun x2=>
 bif decide (x2<((a0.length:Nat):Int)) then (
  (ixO a0 x2).bind fun x4=>
  bif decide (a1=x4) then (
   some (.inr (.inr x2))
  ) else (
   some (.inl (w64 (x2+1)))
  )
 ) else (
  some (.inr (.inl ()))
 )
def Ef(a0:(List Int))(a1:Int):Option Int :=
 onInl (Jq (Ck a0 a1) 0) fun _=>
 some (-1)
instance (a0:(List Int))(a1:Int):Cp (Ef a0 a1) 190 [Enc.pv a0,Enc.pv a1] Enc.pv:=⟨fun r h=>by
 unfold Ef at h;refine zG f190 ?_;refine w1 a0 (el 1 s1) ?_;intro h;refine uN 19 0 [8] (fun s x2=>⟨(8,I6 x2)::gt s [0,1,7],[],[],[]⟩) h ?_ ?_
 ·intro x2 _ h;unfold Ck at h;exact w1 n0 (ec (ei 3 (ec z1 z1)) .z) t0
 intro _ s' h hs;exact w1 n0 z1 t0⟩
def Ud(a0:(List Int))(a1:Int):Option Bool :=
 (Ef a0 a1).bind fun r1=>
 some (decide (0<=r1))
instance (a0:(List Int))(a1:Int):Cp (Ud a0 a1) 115 [Enc.pv a0,Enc.pv a1] Enc.pv:=⟨fun r h=>by
 unfold Ud at h;refine zG f115 ?_;exact w1 n0 (ep 2 z1) t0⟩
def Xl(a0:Jd)(c0:Int):Option Bool :=
 (Ud a0.Routes c0).bind fun r1=>
 some r1
instance (a0:Jd)(c0:Int):Cp (Xl a0 c0) 168 [Enc.pv a0,.cptr (cellsOf c0)] Enc.pv:=⟨fun r h=>by
 unfold Xl at h;refine zG f168 ?_;exact w1 n0 (ep 3 z1) t0⟩
def Dd(a0:(List Jd))(a1_0:Int):Int->Option (Int⊕(Unit⊕Int)):=fun x3=>
 bif decide (x3<((a0.length:Nat):Int)) then (
  (ixO a0 x3).bind fun x6=>
  (Xl x6 a1_0).bind fun r7=>
  bif r7 then (
   some (.inr (.inr x3))
  ) else (
   some (.inl (w64 (x3+1)))
  )
 ) else (
  some (.inr (.inl ()))
 )
def Uj(a0:(List Jd))(a1_0:Int):Option Int :=
 onInl (Jq (Dd a0 a1_0) 0) fun _=>
 some (-1)
instance (a0:(List Jd))(a1_0:Int):Cp (Uj a0 a1_0) 232 [Enc.pv a0,.fn 168 [.cptr ([I6 a1_0])]] Enc.pv:=⟨fun r h=>by
 unfold Uj at h;refine zG f232 ?_;refine w1 a0 (el 1 s1) ?_;intro h;refine uN 19 0 [8] (fun s x3=>⟨(8,I6 x3)::gt s [0,1,7],[],[],[]⟩) h ?_ ?_
 ·intro x3 _ h;unfold Dd at h;exact w1 n0 (ec (ei 3 (.p 1 (ec z1 z1))) .z) t0
 intro _ s' h hs;exact w1 n0 z1 t0⟩
def Ub(a0:(List Jd))(a1_0:Int):Option Bool :=
 (Uj a0 a1_0).bind fun r1=>
 some (decide (0<=r1))
instance (a0:(List Jd))(a1_0:Int):Cp (Ub a0 a1_0) 167 [Enc.pv a0,.fn 168 [.cptr ([I6 a1_0])]] Enc.pv:=⟨fun r h=>by
 unfold Ub at h;refine zG f167 ?_;exact w1 n0 (ep 2 z1) t0⟩
end
end PM
