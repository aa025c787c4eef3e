/-
 Plain functions for the program's functions, and the proofs that the program does them. Printed by den.py.
-/
import Derived.Test.YtfpoeepcomnjhaaGreatDoorDen2
namespace PM
noncomputable section
open Go Go.RowKit Go.Proofs
attribute [local irreducible] Jv pwp
def Mx (a0:Ja):Int->Option (Int⊕(Unit⊕Int)):=fun x8 =>
 bif decide (x8<((a0.Balises.length:Nat):Int)) then (
  (ixO a0.Balises x8).bind fun x16 =>
  (Qe x16.Id 1 1073741824).bind fun r17 =>
  ((bif (!r17) then some true else (
   (Qe x16.El 0 (w64 (((a0.Elements.length:Nat):Int) - 1))).bind fun r19 =>
   some (!r19)
  )):Option Bool).bind fun b18 =>
  ((bif b18 then some true else (
   (ixO a0.Elements x16.El).bind fun x21 =>
   (Qe x16.Offset 0 x21.Length).bind fun r22 =>
   some (!r22)
  )):Option Bool).bind fun b20 =>
  bif b20 then (
   some (.inr (.inr 1))
  ) else (
   some (.inl (w64 (x8+1)))
  )
 ) else (
  some (.inr (.inl ()))
 )
def Ml (a0:Ja):(Int×(List (Int×Bool)))->Option ((Int×(List (Int×Bool)))⊕(Unit⊕Int)):=fun (x24,x25) =>
 bif decide (x24<((a0.Balises.length:Nat):Int)) then (
  (ixO a0.Balises x24).bind fun x27 =>
  bif ((Vt (x25:(List (Int×Bool))) x27.Id).getD false) then (
   some (.inr (.inr 8))
  ) else (
   some (.inl (w64 (x24+1),(Gw x27.Id true x25)))
  )
 ) else (
  some (.inr (.inl ()))
 )
def Fr (a0:Ja):Option Int :=
 onInl (Js (Mx a0) 0) fun _ =>
 onInl (Js (Ml a0) (0,[])) fun _ =>
 some 0
instance Joo (a0:Ja):Ct Tryz.prog GlS (Fr a0) 143 [Enc.pv a0] Enc.pv:=⟨fun r h=>by
 unfold Fr at h;refine zC Tryz.func143 Tryz.ntmps143 ?_;refine w1 a0.Balises (.e (.l 2 (.e .s))) ?_;intro h;refine yN 59 0 [11] (fun x8=>⟨[(1,.ref 1 0),(9,Jh .frozen a0.Balises),(10,I6 ((a0.Balises.length:Nat):Int)),(11,I6 x8)],[(1,.cells (cellsOf a0))],[],[]⟩) h ?_ ?_
 ·intro x8 _ h;unfold Mx at h;exact w1 a0.Elements (.e (.c (.i 0 (.e (.p 2 (.b 2 9 28 (.g 0 .z (.l 4 (.p 1 .z))) (.b 1 12 41 (.g 0 .z (.i 6 (.p 2 .z))) (.e (.c (.e .z) (.e .z)))))))) .z)) t0
 intro _ s' h hs;refine w1 a0.Balises (.e (.l 2 (.e .s))) ?_;intro h;refine yL 59 2 (fun (x24,x25)=>⟨[(5,.mp 43),(45,Jh .frozen a0.Balises),(46,I6 ((a0.Balises.length:Nat):Int)),(47,I6 x24)],[(43,.map (Yl x25))],[],[]⟩) (fun (_:Unit)=>⟨[],[],[],[]⟩) h ?_ ?_
 ·rintro ⟨x24,x25⟩ _ h;unfold Ml at h;refine w1 n0 (.e (.c (.i 0 (.e .s)) .z)) ?_;intro x27 h;refine zR 3 (Jd3 (m:=x25) (k:=x27.Id) false 43 kr kr (w1 n0 (.e (.c (.e .z) .s)) ?_));intro h;exact zR 3 (Jgh (m:=x25) (k:=x27.Id) (v:=true) 43 kr kr kr (w1 n0 (.e (.e .z)) t0))
 intro _ s' h hs;exact w1 n0 (.e .z) t0⟩
def Xo (a0:Ja):Option Int :=
 (Mk a0).bind fun r1 =>
 bif (!r1) then (
  some 2
 ) else (
  (Im a0).bind fun r2 =>
  bif (!(decide (r2=0))) then (
   some r2
  ) else (
   (Yp a0).bind fun r3 =>
   ((bif (!r3) then some true else (
    (Fm a0).bind fun r5 =>
    some (!r5)
   )):Option Bool).bind fun b4 =>
   bif b4 then (
    some 1
   ) else (
    (Ot a0).bind fun r6 =>
    bif (!(decide (r6.2=0))) then (
     some r6.2
    ) else (
     (Fl a0 r6.1).bind fun r7 =>
     bif (!(decide (r7=0))) then (
      some r7
     ) else (
      (Fr a0).bind fun r8 =>
      some r8
     )
    )
   )
  )
 )
instance Jy3 (a0:Ja):Ct Tryz.prog GlS (Xo a0) 70 [Enc.pv a0] Enc.pv:=⟨fun r h=>by
 unfold Xo at h;refine zC Tryz.func70 Tryz.ntmps70 ?_;refine w1 n0 (.e (.p 1 (.e (.c (.e .z) (.p 1 (.e (.e (.c (.e .z) (.p 1 (.b 2 4 22 (.g 0 .z (.p 1 .z)) (.e (.c (.e .z) .x)))))))))))) ?_;intro _ _ _ _ r6 h6 h;refine zR 1 (zP (Jd2 _ r6 h6) ?_);exact w1 n0 (.e (.e (.c (.e .z) (.p 2 (.e (.e (.c (.e .z) (.p 1 (.e .z))))))))) t0⟩
def Yo (a0:Int) (a1:Int) (a2:Int):Option Int :=
 some (max a1 (min a0 a2))
instance Kgy (a0:Int) (a1:Int) (a2:Int):Ct Tryz.prog GlS (Yo a0 a1 a2) 209 [Enc.pv a0,Enc.pv a1,Enc.pv a2] Enc.pv:=⟨fun r h=>by
 unfold Yo at h;refine zC Tryz.func209 Tryz.ntmps209 ?_;exact w1 n0 (.e (.e .z)) t0⟩
def Xb (a0:Kr):Option Kr :=
 (Yo a0.Id 1 99).bind fun r1 =>
 (Yo a0.Length 1 50000).bind fun r2 =>
 (Yo a0.Speed 1 10000).bind fun r3 =>
 (Yo a0.Accel 1 200).bind fun r4 =>
 (Yo a0.Service 1 200).bind fun r5 =>
 (Yo a0.Emergency a0.Service 200).bind fun r6 =>
 (Yo a0.Delay 0 5).bind fun r7 =>
 (Yo a0.Const 0 500).bind fun r8 =>
 (Yo a0.Rate 0 100).bind fun r9 =>
 some (Kr.mk r1 a0.Name r2 r3 r4 r5 r6 r7 r8 r9)
instance Jzo (a0:Kr):Ct Tryz.prog GlS (Xb a0) 145 [Enc.pv a0] Enc.pv:=⟨fun r h=>by
 unfold Xb at h;refine zC Tryz.func145 Tryz.ntmps145 ?_;exact w1 n0 (.e (.p 2 (.p 4 (.p 2 (.p 2 (.p 2 (.p 4 (.p 2 (.p 2 (.p 2 (.e .z))))))))))) t0⟩
def Jbm (a0:Kr):Option Int :=
 (Tm a0.Name).bind fun r1 =>
 bif (!r1) then (
  some 3
 ) else (
  (Xb a0).bind fun r2 =>
  bif (!(Jmu a0 r2)) then (
   some 1
  ) else (
   some 0
  )
 )
instance Kbk (a0:Kr):Ct Tryz.prog GlS (Jbm a0) 71 [Enc.pv a0] Enc.pv:=⟨fun r h=>by
 unfold Jbm at h;refine zC Tryz.func71 Tryz.ntmps71 ?_;exact w1 n0 (.e (.p 2 (.e (.c (.e .z) (.p 2 (.e (.c (.e .z) (.e .z)))))))) t0⟩
def Nr (a0:Ja):Option Ja :=
 some a0
instance Jy8 (a0:Ja):Ct Tryz.prog GlS (Nr a0) 210 [Enc.pv a0] (fun r=>.fn 263 [.cptr (cellsOf r)]):=⟨fun r h=>by
 unfold Nr at h;refine zC Tryz.func210 Tryz.ntmps210 ?_;refine w1 n0 (.e (.e .S)) ?_;intro h;refine Jo (Jui 1 [] (cs:=cellsOf a0) (cs':=cellsOf a0) kr kr kr kr (Wf ?_));cases h;exact zQ⟩
def Zt (a0:Ja) (a1:Int):Option Bool :=
 ((bif decide (0<=a1) then (
  some (decide (a1<((a0.Elements.length:Nat):Int)))
 ) else some false):Option Bool).bind fun b1 =>
 some b1
instance Kbb (a0:Ja) (a1:Int):Ct Tryz.prog GlS (Zt a0 a1) 149 [Enc.pv a0,Enc.pv a1] Enc.pv:=⟨fun r h=>by
 unfold Zt at h;refine zC Tryz.func149 Tryz.ntmps149 ?_;exact w1 a0.Elements (.e (.b 3 6 13 (.g 0 (.l 3 .z) .z) (.e .z))) t0⟩
def Ra (a0:Int) (a1:Int) (a2:Int):Int->Option (Int⊕(Unit⊕(Int×Bool))):=fun x2 =>
 bif decide (x2<10) then (
  (ixO Qh x2).bind fun x4 =>
  bif (((decide (x4.kind_=a0))&&(decide (x4.in_=a1)))&&(decide (x4.out_=a2))) then (
   some (.inr (.inr (x4.need_,true)))
  ) else (
   some (.inl (w64 (x2+1)))
  )
 ) else (
  some (.inr (.inl ()))
 )
def Na (a0:Int) (a1:Int) (a2:Int):Option (Int×Bool) :=
 onInl (Js (Ra a0 a1 a2) 0) fun _ =>
 some (0,false)
instance Kgh (a0:Int) (a1:Int) (a2:Int):Ct Tryz.prog GlS (Na a0 a1 a2) 241 [Enc.pv a0,Enc.pv a1,Enc.pv a2] (fun r=>.tup [Enc.pv r.1,Enc.pv r.2]):=⟨fun r h=>by
 unfold Na at h;refine zC Tryz.func241 Tryz.ntmps241 ?_;refine w1 n0 (.e (.e .s)) ?_;intro h;refine yN 33 0 [11] (fun x2=>⟨[(0,I6 a0),(1,I6 a1),(2,I6 a2),(10,.agg (Qh.flatMap cellsOf)),(11,I6 x2)],[],[],[]⟩) h ?_ ?_
 ·intro x2 _ h;unfold Ra at h;refine w1 n0 (.e (.c .x .z)) ?_;intro _ h7 h;exact Klz (tab:=Qh) h7 true 10 4 kr kr kr kr (w1 n0 (.e (.o 5 5 23 1 (.o 1 5 29 0 (.e (.c (.e .z) (.e .z)))))) t0)
 intro _ s' h hs;exact w1 n0 (.e .z) t0⟩
def Et (a0:Ja) (a1:Jb):Option (Int×Bool) :=
 (Zt a0 a1.El).bind fun r1 =>
 bif (!r1) then (
  some (0,false)
 ) else (
  (ixO a0.Elements a1.El).bind fun x2 =>
  (Na x2.Kind a1.In a1.Out).bind fun r3 =>
  some (r3.1,r3.2)
 )
instance Jv7 (a0:Ja) (a1:Jb):Ct Tryz.prog GlS (Et a0 a1) 211 [Enc.pv a0,Enc.pv a1] (fun r=>.tup [Enc.pv r.1,Enc.pv r.2]):=⟨fun r h=>by
 unfold Et at h;refine zC Tryz.func211 Tryz.ntmps211 ?_;exact w1 n0 (.e (.p 3 (.e (.c (.e .z) (.i 4 (.p 6 (.e .z))))))) t0⟩
def Gg (a0:Ja) (a1:Je):Int->Option (Int⊕(Unit⊕(Je×Bool))):=fun x2 =>
 bif decide (x2<((a0.Joints.length:Nat):Int)) then (
  (ixO a0.Joints x2).bind fun x4 =>
  bif Kb x4.A a1 then (
   some (.inr (.inr (x4.B,true)))
  ) else (
   bif Kb x4.B a1 then (
    some (.inr (.inr (x4.A,true)))
   ) else (
    some (.inl (w64 (x2+1)))
   )
  )
 ) else (
  some (.inr (.inl ()))
 )
def Ex (a0:Ja) (a1:Je):Option (Je×Bool) :=
 onInl (Js (Gg a0 a1) 0) fun _ =>
 some ((Je.mk 0 0),false)
instance Jwm (a0:Ja) (a1:Je):Ct Tryz.prog GlS (Ex a0 a1) 264 [Enc.pv a0,Enc.pv a1] (fun r=>.tup [Enc.pv r.1,Enc.pv r.2]):=⟨fun r h=>by
 unfold Ex at h;refine zC Tryz.func264 Tryz.ntmps264 ?_;refine w1 a0.Joints (.e (.l 2 (.e .s))) ?_;intro h;refine yN 29 0 [11] (fun x2=>⟨[(3,.ref 3 0),(4,.ref 4 0),(9,Jh .frozen a0.Joints),(10,I6 ((a0.Joints.length:Nat):Int)),(11,I6 x2)],[(3,.cells (cellsOf a1)),(4,.cells ([I6 0,I6 0]))],[],[]⟩) h ?_ ?_
 ·intro x2 _ h;unfold Gg at h;exact w1 n0 (.e (.c (.i 0 (.e (.e (.c (.e .z) (.e (.c (.e .z) (.e .z))))))) .z)) t0
 intro _ s' h hs;exact w1 n0 (.e .z) t0⟩
def Dh (a0:Jb) (c0:Ja):Option (Je×Bool) :=
 (Ex c0 (Je.mk a0.El a0.Out)).bind fun r1 =>
 some (r1.1,r1.2)
instance Jv4 (a0:Jb) (c0:Ja):Ct Tryz.prog GlS (Dh a0 c0) 263 [Enc.pv a0,.cptr (cellsOf c0)] (fun r=>.tup [Enc.pv r.1,Enc.pv r.2]):=⟨fun r h=>by
 unfold Dh at h;refine zC Tryz.func263 Tryz.ntmps263 ?_;exact w1 n0 (.e (.p 6 (.e .z))) t0⟩
def Hb (x49:Jb) (x51:(List Jb)):Int->Option (Int⊕(Unit⊕(Unit⊕(Int⊕(Unit⊕Bool))))):=fun x53 =>
 bif decide (x53<((x51.length:Nat):Int)) then (
  (ixO x51 x53).bind fun x55 =>
  bif decide (x55.El=x49.El) then (
   some (.inr (.inr (.inr (.inr (.inr false)))))
  ) else (
   some (.inl (w64 (x53+1)))
  )
 ) else (
  some (.inr (.inl ()))
 )
def Og (a0:Ja) (a1:(List Jb)) (r2:Ja):Int->Option (Int⊕(Unit⊕Bool)):=fun x21 =>
 bif decide (x21<((a1.length:Nat):Int)) then (
  onInl (α:=Unit) (β:=(Int⊕(Unit⊕Bool))) (
   (ixO a1 x21).bind fun x49 =>
   (Et a0 x49).bind fun r50 =>
   bif (!r50.2) then (
    some (.inr (.inr (.inr false)))
   ) else (
    (slO a1 none (some x21) none).bind fun x51 =>
    onInl (Js (Hb x49 x51) 0) fun _ =>
    bif decide (x21=0) then (
     some (.inl ())
    ) else (
     (ixO a1 (w64 (x21 - 1))).bind fun x56 =>
     (Dh x56 r2).bind fun r57 =>
     bif (((!r57.2)||(!(decide (r57.1.El=x49.El))))||(!(decide (r57.1.Side=x49.In)))) then (
      some (.inr (.inr (.inr false)))
     ) else (
      some (.inl ())
     )
    )
   )
  ) fun _ =>
  some (.inl (w64 (x21+1)))
 ) else (
  some (.inr (.inl ()))
 )
def Cg (a0:Ja) (a1:(List Jb)):Option Bool :=
 ((bif decide (((a1.length:Nat):Int)=0) then some true else (
  some (decide (64<((a1.length:Nat):Int)))
 )):Option Bool).bind fun b1 =>
 bif b1 then (
  some false
 ) else (
  (Nr a0).bind fun r2 =>
  onInl (Js (Og a0 a1 r2) 0) fun _ =>
  some true
 )
instance Kc5 (a0:Ja) (a1:(List Jb)):Ct Tryz.prog GlS (Cg a0 a1) 146 [Enc.pv a0,Enc.pv a1] Enc.pv:=⟨fun r h=>by
 unfold Cg at h;refine zC Tryz.func146 Tryz.ntmps146 ?_;refine w1 a1 (.e (.l 1 (.b 2 4 21 (.g 0 .z (.l 1 .z)) (.e (.c (.e .z) (.p 1 (.e (.l 1 (.e .s))))))))) ?_;intro _ r2 h;refine yN 82 0 [26] (fun x21=>⟨[(1,Jh .frozen a1),(2,.ref 2 0),(5,.fn 263 [.cptr (cellsOf r2)]),(24,Jh .frozen a1),(25,I6 ((a1.length:Nat):Int)),(26,I6 x21)],[(2,.cells (cellsOf a0))],[],[]⟩) h ?_ ?_
 ·intro x21 _ h;unfold Og at h;refine w1 n0 (.e (.c .s .z)) ?_;intro h;refine yJ 82 (fun (_:Unit)=>⟨[(1,Jh .frozen a1),(2,.ref 2 0),(5,.fn 263 [.cptr (cellsOf r2)]),(24,Jh .frozen a1),(25,I6 ((a1.length:Nat):Int)),(26,I6 x21)],[(2,.cells (cellsOf a0))],[],[]⟩) h ?_ ?_
  ·intro _ h;refine w1 n0 (.i 1 (.e (.p 2 (.e (.e (.c (.e .z) .x)))))) ?_;intro x49 _ x51 h127 h;refine zR 2 (Ke8 h127 .frozen kr kr kr (w1 x51 (.l 0 (.e .s)) ?_));intro h;refine yN 82 2 [43] (fun x53=>⟨[(1,Jh .frozen a1),(2,.ref 2 0),(5,.fn 263 [.cptr (cellsOf r2)]),(6,I6 x21),(7,.ref 7 0),(24,Jh .frozen a1),(25,I6 ((a1.length:Nat):Int)),(26,I6 x21),(41,Jh .frozen x51),(42,I6 ((x51.length:Nat):Int)),(43,I6 x53)],[(2,.cells (cellsOf a0)),(7,.cells (cellsOf x49))],[],[]⟩) h ?_ ?_
   ·intro x53 _ h;unfold Hb at h;exact w1 n0 (.e (.c (.i 0 (.e (.e (.c (.e .z) (.e .z))))) .z)) t0
   intro _ s' h hs;exact w1 n0 (.e (.c .z (.i 4 (.p 1 (.e (.o 3 6 73 1 (.o 1 6 80 0 (.e (.c (.e .z) .z))))))))) t0
  intro _ h;exact w1 n0 (.e .z) t0
 intro _ s' h hs;exact w1 n0 (.e .z) t0⟩
def Jdl (a0:Uo):Option Jb :=
 (ixO a0.Steps (w64 (((a0.Steps.length:Nat):Int) - 1))).bind fun x1 =>
 some x1
instance Kec (a0:Uo):Ct Tryz.prog GlS (Jdl a0) 147 [Enc.pv a0] Enc.pv:=⟨fun r h=>by
 unfold Jdl at h;refine zC Tryz.func147 Tryz.ntmps147 ?_;exact w1 a0.Steps (.e (.l 4 (.i 1 (.e .z)))) t0⟩
def En (a0:Ja) (a1:(List Jb)):(Int×Int)->Option ((Int×Int)⊕(Int⊕Int)):=fun (x8,x9) =>
 bif decide (x9<((a1.length:Nat):Int)) then (
  onInl (α:=Int) (β:=((Int×Int)⊕(Int⊕Int))) (
   (ixO a1 x9).bind fun x22 =>
   (Zt a0 x22.El).bind fun r23 =>
   bif r23 then (
    (ixO a0.Elements x22.El).bind fun x24 =>
    some (.inl (w64 (x8+x24.Length)))
   ) else (
    some (.inl x8)
   )
  ) fun x21 =>
  some (.inl (x21,w64 (x9+1)))
 ) else (
  some (.inr (.inl x8))
 )
def Cs (a0:Ja) (a1:(List Jb)):Option Int :=
 onInl (Js (En a0 a1) (0,0)) fun x17 =>
 some x17
instance Kay (a0:Ja) (a1:(List Jb)):Ct Tryz.prog GlS (Cs a0 a1) 74 [Enc.pv a0,Enc.pv a1] Enc.pv:=⟨fun r h=>by
 unfold Cs at h;refine zC Tryz.func74 Tryz.ntmps74 ?_;refine w1 a1 (.e (.e (.l 1 (.e .s)))) ?_;intro h;refine yL 29 0 (fun (x8,x9)=>⟨[(2,.ref 2 0),(5,I6 x8),(8,Jh .frozen a1),(9,I6 ((a1.length:Nat):Int)),(10,I6 x9)],[(2,.cells (cellsOf a0))],[],[]⟩) (fun x17=>⟨[(5,I6 x17)],[],[],[]⟩) h ?_ ?_
 ·rintro ⟨x8,x9⟩ _ h;unfold En at h;refine w1 n0 (.e (.c .s .z)) ?_;intro h;refine yJ 29 (fun x21=>⟨[(2,.ref 2 0),(5,I6 x21),(8,Jh .frozen a1),(9,I6 ((a1.length:Nat):Int)),(10,I6 x9)],[(2,.cells (cellsOf a0))],[],[]⟩) h ?_ ?_
  ·intro _ h;exact w1 n0 (.i 0 (.e (.p 3 (.e (.c (.i 5 (.e .z)) .z))))) t0
  intro x21 h;exact w1 n0 (.e .z) t0
 intro x17 s' h hs;exact w1 n0 (.e .z) t0⟩
def Xp (a0:Ja) (a1:Uo):Option Int :=
 (slO a1.Steps none (some (w64 (((a1.Steps.length:Nat):Int) - 1))) none).bind fun x1 =>
 (Cs a0 x1).bind fun r2 =>
 some (w64 ((w64 (r2+a1.Head)) - a1.Length))
instance Jz1 (a0:Ja) (a1:Uo):Ct Tryz.prog GlS (Xp a0 a1) 148 [Enc.pv a0,Enc.pv a1] Enc.pv:=⟨fun r h=>by
 unfold Xp at h;refine zC Tryz.func148 Tryz.ntmps148 ?_;refine w1 a1.Steps (.e (.l 5 .x)) ?_;intro _ h1 h;refine zR 1 (Ke8 h1 .frozen kr kr kr ?_);exact w1 n0 (.p 0 (.e (.e .z))) t0⟩
def Jb9 (a0:Ja) (a1:Uo):Option Int :=
 (Cg a0 a1.Steps).bind fun r1 =>
 ((bif ((((!r1)||(decide (a1.Length<1)))||(decide (1000000<a1.Length)))||(decide (a1.Head<1))) then some true else (
  (Jdl a1).bind fun r3 =>
  (ixO a0.Elements r3.El).bind fun x4 =>
  some (decide (x4.Length<a1.Head))
 )):Option Bool).bind fun b2 =>
 bif b2 then (
  some 1
 ) else (
  (Xp a0 a1).bind fun r5 =>
  ((bif decide (r5<0) then some true else (
   ((bif decide (1<((a1.Steps.length:Nat):Int)) then (
    (ixO a1.Steps 0).bind fun x8 =>
    (ixO a0.Elements x8.El).bind fun x9 =>
    some (decide (x9.Length<=r5))
   ) else some false):Option Bool).bind fun b7 =>
   some b7
  )):Option Bool).bind fun b6 =>
  bif b6 then (
   some 10
  ) else (
   some 0
  )
 )
instance Kc7 (a0:Ja) (a1:Uo):Ct Tryz.prog GlS (Jb9 a0 a1) 72 [Enc.pv a0,Enc.pv a1] Enc.pv:=⟨fun r h=>by
 unfold Jb9 at h;refine zC Tryz.func72 Tryz.ntmps72 ?_;exact w1 a1.Steps (.e (.p 3 (.o 2 4 15 2 (.o 1 4 20 1 (.o 1 4 25 0 (.b 1 12 38 (.g 0 .z (.p 5 (.i 1 .z))) (.e (.c (.e .z) (.p 2 (.e (.b 3 19 63 (.g 0 .z (.l 2 (.b 2 13 62 (.g 0 (.i 5 (.i 2 .z)) .z) .z))) (.e (.c (.e .z) (.e .z)))))))))))))) t0⟩
def Fa (a0:Ja) (a1:Jb):Option Int :=
 (Cs a0 [a1]).bind fun r1 =>
 some r1
instance Jym (a0:Ja) (a1:Jb):Ct Tryz.prog GlS (Fa a0 a1) 75 [Enc.pv a0,Enc.pv a1] Enc.pv:=⟨fun r h=>by
 unfold Fa at h;refine zC Tryz.func75 Tryz.ntmps75 ?_;exact w1 n0 (.e (.p 3 (.e .z))) t0⟩
def Kz (a0:(List Jb)):Option (List Jb) :=
 (Uq ([]:(List Jb)) a0).bind fun x1 =>
 some x1
instance Jab (a0:(List Jb)):Ct Tryz.prog GlS (Kz a0) 76 [Enc.pv a0] (fun r=>Jh (.own 7) r):=⟨fun r h=>by
 unfold Kz at h;refine zC Tryz.func76 Tryz.ntmps76 ?_;refine w1 n0 (.e (.e .S)) ?_;intro h;refine Jo ?_;refine Tq (e:=(a0.map cellsOf).isEmpty) kr (fun hub=>?_) ?_
 ·have hN:=Tx (Jjc hub) h;refine w1 n0 (.e .S) ?_;intro h;refine Jo (Zh 2 7 3 24 kr kr (Wf (Za ?_)));cases hN;exact zQ
 obtain ⟨x1,h1,h⟩:=Ka h;refine Ve (Jo (Kj (Wj (zR 2 (Jbe (tk:=7) h1 kr ?_)))));exact w1 n0 (.e .z) t0⟩
theorem Xv (a0:(List Jb)) (r:(List Jb)) (h:Kz a0=some r):Yy Tryz.prog GlS 76 [Enc.pv a0] (Enc.pv r) :=
 ((Jab a0).ok r h).freeze kr kr kr
def Xj (a0:Ja) (a1:Kr) (a2:Uo):Option (Jg×Int) :=
 (Xo a0).bind fun r1 =>
 ((bif (!(decide (r1=0))) then some true else (
  (Jbm a1).bind fun r3 =>
  some (!(decide (r3=0)))
 )):Option Bool).bind fun b2 =>
 ((bif b2 then some true else (
  (Jb9 a0 a2).bind fun r5 =>
  some (!(decide (r5=0)))
 )):Option Bool).bind fun b4 =>
 ((bif (b4||(!(decide (a2.Length=a1.Length)))) then some true else (
  some (decide (((a2.Steps.length:Nat):Int)=0))
 )):Option Bool).bind fun b6 =>
 bif b6 then (
  some ((Jg.mk 0 0 0 0 [] [] [] [] [] 0 0 0 0 0),1)
 ) else (
  (ixO a2.Steps (w64 (((a2.Steps.length:Nat):Int) - 1))).bind fun x7 =>
  (Lo a0 (Je.mk x7.El x7.Out)).bind fun r8 =>
  bif decide (r8<0) then (
   some ((Jg.mk 0 0 0 0 [] [] [] [] [] 0 0 0 0 0),9)
  ) else (
   (slO a2.Steps none (some (w64 (((a2.Steps.length:Nat):Int) - 1))) none).bind fun x9 =>
   (Cs a0 x9).bind fun r10 =>
   (Fa a0 x7).bind fun r11 =>
   (Kz a2.Steps).bind fun r12 =>
   some ((Jg.mk a1.Id (w64 ((w64 (0 - r10)) - a2.Head)) r8 (w64 (r11 - a2.Head)) r12 [] [] [] [] 0 0 0 0 0),0)
  )
 )
instance Jzm (a0:Ja) (a1:Kr) (a2:Uo):Ct Tryz.prog GlS (Xj a0 a1 a2) 30 [Enc.pv a0,Enc.pv a1,Enc.pv a2] (fun r=>.tup [Enc.pv r.1,Enc.pv r.2]):=⟨fun r h=>by
 unfold Xj at h;refine zC Tryz.func30 Tryz.ntmps30 ?_;refine w1 a2.Steps (.e (.p 1 (.b 2 4 18 (.g 0 .z (.p 1 .z)) (.b 1 5 24 (.g 0 .z (.p 2 .z)) (.o 1 6 31 0 (.b 1 5 37 (.g 0 .z (.l 2 .z)) (.e (.c (.e .z) (.l 2 (.e (.i 3 (.e (.p 6 (.e (.e (.c (.e .z) .x)))))))))))))))) ?_;intro _ _ _ _ _ _ _ h9 h;refine zR 6 (Ke8 h9 .frozen kr kr kr (w1 n0 (.p 0 (.p 7 .x)) ?_));intro _ _ r12 h12 h;refine zR 5 (zP (Xv _ r12 h12) ?_);exact w1 n0 (.e .z) t0⟩
def Jbi (a0:Int) (a1:Int):Option Jl :=
 some (Jl.mk a0 0 0 a1)
instance Ka4 (a0:Int) (a1:Int):Ct Tryz.prog GlS (Jbi a0 a1) 31 [Enc.pv a0,Enc.pv a1] Enc.pv:=⟨fun r h=>by
 unfold Jbi at h;refine zC Tryz.func31 Tryz.ntmps31 ?_;exact w1 n0 (.e (.e .z)) t0⟩
def Jzb (a0:Ja) (a1:(List Jb)):(Int×(List (Int×Bool))×(List Int))->Option ((Int×(List (Int×Bool))×(List Int))⊕((List Int)⊕(List Int))):=fun (x23,x24,x25) =>
 bif decide (x23<((a1.length:Nat):Int)) then (
  onInl (α:=((List Int)×(List (Int×Bool)))) (β:=((Int×(List (Int×Bool))×(List Int))⊕((List Int)⊕(List Int)))) (
   (ixO a1 x23).bind fun x43 =>
   (Zt a0 x43.El).bind fun r44 =>
   bif (!r44) then (
    some (.inl (x25,x24))
   ) else (
    (ixO a0.Elements x43.El).bind fun x45 =>
    bif (!((Vt (x24:(List (Int×Bool))) x45.Section).getD false)) then (
     (Uq x25 [x45.Section]).bind fun x46 =>
     some (.inl (x46,(Gw x45.Section true x24)))
    ) else (
     some (.inl (x25,x24))
    )
   )
  ) fun (x41,x42) =>
  some (.inl (w64 (x23+1),x42,x41))
 ) else (
  some (.inr (.inl x25))
 )
def Th (a0:Ja) (a1:(List Jb)):(Int×(List (Int×Bool))×(List Int))->Option ((Int×(List (Int×Bool))×(List Int))⊕((List Int)⊕(List Int))):=fun (x23,x24,x25) =>
 bif decide (x23<((a1.length:Nat):Int)) then (
  onInl (α:=((List Int)×(List (Int×Bool)))) (β:=((Int×(List (Int×Bool))×(List Int))⊕((List Int)⊕(List Int)))) (
   (ixO a1 x23).bind fun x43 =>
   (Zt a0 x43.El).bind fun r44 =>
   bif (!r44) then (
    some (.inl (x25,x24))
   ) else (
    (ixO a0.Elements x43.El).bind fun x45 =>
    bif (!((Vt (x24:(List (Int×Bool))) x45.Section).getD false)) then (
     (Uq x25 [x45.Section]).bind fun x46 =>
     some (.inl (x46,(Gw x45.Section true x24)))
    ) else (
     some (.inl (x25,x24))
    )
   )
  ) fun (x41,x42) =>
  some (.inl (w64 (x23+1),x42,x41))
 ) else (
  some (.inr (.inl x25))
 )
def Oy (a0:Ja) (a1:(List Jb)):Option (List Int) :=
 onInl (Js (Th a0 a1) (0,[],[])) fun x36 =>
 some x36
theorem Jfm (a0:Ja) (a1:(List Jb)) (r:(List Int)) (h:Oy a0 a1=some r):Jnd Tryz.prog GlS 77 [Enc.pv a0,Enc.pv a1] 1 8 (r.map cellsOf):=by
 unfold Oy at h;refine Jbk Tryz.func77 (by rfl) rfl Tryz.ntmps77 (by rfl) rfl ?_;refine w1 a1 (.e (.e (.e (.l 1 (.e .S))))) ?_;intro h;refine Jo (Kq (Qx (Jhd 5 100005 1 8 kr kr) ?_));refine yL 41 0 (fun (x23,x24,x25)=>⟨[(2,.ref 2 0),(5,.ex 100005 1 8 ((x25.map cellsOf).length) 0 ((x25.map cellsOf).length)),(6,.mp 10),(11,Jh .frozen a1),(12,I6 ((a1.length:Nat):Int)),(13,I6 x23)],[(2,.cells (cellsOf a0)),(10,.map (Yl x24))],[(100005,((x25.map cellsOf).length,0))],[(100005,(1,(8,x25.map cellsOf)))]⟩) (fun x36=>⟨[(5,.ex 100005 1 8 ((x36.map cellsOf).length) 0 ((x36.map cellsOf).length))],[],[(100005,((x36.map cellsOf).length,0))],[(100005,(1,(8,x36.map cellsOf)))]⟩) h ?_ ?_
 ·rintro ⟨x23,x24,x25⟩ _ h;unfold Th at h;refine w1 n0 (.e (.c .s .z)) ?_;intro h;refine yJ 41 (fun (x41,x42)=>⟨[(2,.ref 2 0),(5,.ex 100005 1 8 ((x41.map cellsOf).length) 0 ((x41.map cellsOf).length)),(6,.mp 10),(11,Jh .frozen a1),(12,I6 ((a1.length:Nat):Int)),(13,I6 x23)],[(2,.cells (cellsOf a0)),(10,.map (Yl x42))],[(100005,((x41.map cellsOf).length,0))],[(100005,(1,(8,x41.map cellsOf)))]⟩) h ?_ ?_
  ·intro _ h;refine w1 n0 (.i 0 (.e (.p 3 (.e (.c .z (.i 4 (.e .s))))))) ?_;intro _ _ x45 h;refine zR 2 (Jd3 (m:=x24) (k:=x45.Section) false 10 kr kr (w1 n0 (.e (.c .s .z)) ?_));intro h;refine zR 2 (Jgh (m:=x24) (k:=x45.Section) (v:=true) 10 kr kr kr (w1 n0 (.e .x) ?_));intro _ h38 h;exact zR 3 (Jww (tk:=100005) (N:=(x25.map cellsOf).length) h38 kr kr kr (w1 n0 (.e .z) t0))
  rintro ⟨x41,x42⟩ h;exact w1 n0 (.e .z) t0
 intro x36 s' h hs;refine w1 n0 (.e .S) ?_;intro h;refine Jo (Wf ?_);have hq:=Option.some.inj h;subst hq;exact Jl6 100005 ((x36.map cellsOf).length) kr
def Jaq (a0:(List Int)):Option (List Int):=some (a0.mergeSort fun x y=>decide (x<=y))
theorem Jeo (a0:(List Int)) (r:(List Int)) (h:Jaq a0=some r):Ry Tryz.prog GlS 78 1 8 (a0.map cellsOf) [] none (r.map cellsOf):=by
 cases h;exact Jvf Tryz.sort78 ⟨_,Tryz.func78,rfl,rfl⟩ a0
def Ta (a0:Ja) (a1:Uo):Option (List Int) :=
 (Oy a0 a1.Steps).bind fun r1 =>
 (Jaq r1).bind fun r2 =>
 some r2
instance Jxr (a0:Ja) (a1:Uo):Ct Tryz.prog GlS (Ta a0 a1) 32 [Enc.pv a0,Enc.pv a1] Enc.pv:=⟨fun r h=>by
 unfold Ta at h;refine zC Tryz.func32 Tryz.ntmps32 ?_;refine w1 n0 (.e .x) ?_;intro r1 h1 h;refine zR 3 (Jla (α:=Int) 9 (Jfm _ _ r1 h1) kr kr (w1 n0 (.e .x) ?_));intro r2 h2 h;refine zR 1 (Hp (t:=9) (L:=r1) (L':=r2) (N:=(r1.map cellsOf).length) kr kr kr (Jeo _ r2 h2) (w1 n0 (.e (.e .S)) ?_));intro h;refine Jo (Qx (Hv (xss:=r2.map cellsOf) 9 1 8 ((r1.map cellsOf).length) [4,5,9,10,12] [] kr kr kr kr) ?_);exact w1 n0 .z t0⟩
def Jkc (a1:(List Kr)):Int->Option (Int⊕(Unit⊕(Jn×Int))):=fun x4 =>
 bif decide (x4<((a1.length:Nat):Int)) then (
  (ixO a1 (w64 (x4 - 1))).bind fun x7 =>
  (ixO a1 x4).bind fun x8 =>
  bif decide (x8.Id<=x7.Id) then (
   some (.inr (.inr ((Jn.mk [] []),7)))
  ) else (
   some (.inl (w64 (x4+1)))
  )
 ) else (
  some (.inr (.inl ()))
 )
def Jj1 (a0:Ja) (a1:(List Kr)) (a2:(List Uo)):(Int×(List Jg)×(List Jl))->Option ((Int×(List Jg)×(List Jl))⊕(((List Jg)×(List Jl))⊕(Jn×Int))):=fun (x22,x23,x24) =>
 bif decide (x22<((a1.length:Nat):Int)) then (
  (ixO a1 x22).bind fun x33 =>
  (ixO a2 x22).bind fun x34 =>
  (Xj a0 x33 x34).bind fun r35 =>
  bif (!(decide (r35.2=0))) then (
   some (.inr (.inr ((Jn.mk [] []),r35.2)))
  ) else (
   (Uq x23 [r35.1]).bind fun x36 =>
   (Jbi x33.Id 0).bind fun r37 =>
   (Uq x24 [r37]).bind fun x38 =>
   some (.inl (w64 (x22+1),x36,x38))
  )
 ) else (
  some (.inr (.inl (x23,x24)))
 )
def Jjt (r58:(List Int)):(Int×(List (Int×Bool)))->Option ((Int×(List (Int×Bool)))⊕((List (Int×Bool))⊕((Int×(List (Int×Bool)))⊕(Unit⊕(Jn×Int))))):=fun (x60,x61) =>
 bif decide (x60<((r58.length:Nat):Int)) then (
  (ixO r58 x60).bind fun x64 =>
  bif ((Vt (x61:(List (Int×Bool))) x64).getD false) then (
   some (.inr (.inr (.inr (.inr ((Jn.mk [] []),10)))))
  ) else (
   some (.inl (w64 (x60+1),(Gw x64 true x61)))
  )
 ) else (
  some (.inr (.inl x61))
 )
def Jjz (a0:Ja) (a2:(List Uo)):(Int×(List (Int×Bool)))->Option ((Int×(List (Int×Bool)))⊕(Unit⊕(Jn×Int))):=fun (x47,x48) =>
 bif decide (x47<((a2.length:Nat):Int)) then (
  (ixO a2 x47).bind fun x57 =>
  (Ta a0 x57).bind fun r58 =>
  onInl (Js (Jjt r58) (0,x48)) fun x63 =>
  some (.inl (w64 (x47+1),x63))
 ) else (
  some (.inr (.inl ()))
 )
def Jiv (a0:Ja) (a1:(List Kr)) (a2:(List Uo)):Option (Jn×Int) :=
 ((bif ((decide (((a1.length:Nat):Int)=0))||(decide (6<((a1.length:Nat):Int)))) then some true else (
  some (!(decide (((a2.length:Nat):Int)=((a1.length:Nat):Int))))
 )):Option Bool).bind fun b1 =>
 bif b1 then (
  some ((Jn.mk [] []),1)
 ) else (
  onInl (Js (Jkc a1) 1) fun _ =>
  onInl (Js (Jj1 a0 a1 a2) (0,[],[])) fun (x31,x32) =>
  onInl (Js (Jjz a0 a2) (0,[])) fun _ =>
  some ((Jn.mk x31 x32),0)
 )
instance Khx (a0:Ja) (a1:(List Kr)) (a2:(List Uo)):Ct Tryz.prog GlS (Jiv a0 a1 a2) 10 [Enc.pv a0,Enc.pv a1,Enc.pv a2] (fun r=>.tup [Enc.pv r.1,Enc.pv r.2]):=⟨fun r h=>by
 unfold Jiv at h;refine zC Tryz.func10 Tryz.ntmps10 ?_;refine w6 a1 (.e (.l 1 (.e (.o 3 3 27 0 (.b 1 5 33 (.g 0 .z .s) (.e (.c (.e .z) (.e .s)))))))) ?_ ?_ t0 t0 t0 t0
 ·intro _ h;exact yl 1 a2 (w1 n0 .z t0)
 intro _ h;refine yN 113 0 [9] (fun x4=>⟨[(1,Jh .frozen a1),(2,Jh .frozen a2),(3,.ref 3 0),(6,.ref 6 0),(8,I6 ((a1.length:Nat):Int)),(9,I6 x4)],[(3,.cells (cellsOf a0)),(6,.cells ([.nil,.nil]))],[],[]⟩) h ?_ ?_
 ·intro x4 _ h;unfold Jkc at h;exact w1 n0 (.e (.c (.i 3 (.i 4 (.e (.c (.e .z) (.e .z))))) .z)) t0
 intro _ s' h hs;refine w1 a1 (.e (.l 1 (.e .S))) ?_;intro h;refine Jo (Kq (Qx (Pa 10 0 201000 14 192 (cs:=[.nil,.nil]) kr kr kr) (Qx (Pa 10 1 201001 4 32 (cs:=[Jh (.own 201000) (([]:(List Jg)):(List Jg)),.nil]) kr kr kr) ?_)));refine yM 113 2 [55] (fun (x22,x23,x24)=>⟨[(2,Jh .frozen a2),(3,.ref 3 0),(6,.ref 6 0),(10,.ref 10 0),(53,Jh .frozen a1),(54,I6 ((a1.length:Nat):Int)),(55,I6 x22)],[(3,.cells (cellsOf a0)),(6,.cells ([.nil,.nil])),(10,.cells ([Jh (.own 201000) x23,Jh (.own 201001) x24]))],[(201000,(((x23).map cellsOf).length,14)),(201001,(((x24).map cellsOf).length,4))],[]⟩) h ?_ ?_
 ·rintro ⟨x22,x23,x24⟩ _ h;unfold Jj1 at h;exact w1 n0 (.e (.c (.i 1 (.e (.i 4 (.p 1 (.e (.e (.c (.e .z) (.w 4 (.e (.p 4 (.w 1 (.e (.e .z))))))))))))) .z)) t0
 rintro ⟨x31,x32⟩ s' h hs;refine w1 a2 (.e (.l 1 (.e .s))) ?_;intro h;refine yL 113 4 (fun (x47,x48)=>⟨[(3,.ref 3 0),(6,.ref 6 0),(10,.ref 10 0),(15,.mp 89),(90,Jh .frozen a2),(91,I6 ((a2.length:Nat):Int)),(92,I6 x47)],[(3,.cells (cellsOf a0)),(6,.cells ([.nil,.nil])),(10,.cells ([Jh (.own 201000) x31,Jh (.own 201001) x32])),(89,.map (Yl x48))],[(201000,(((x31).map cellsOf).length,14)),(201001,(((x32).map cellsOf).length,4))],[]⟩) (fun (_:Unit)=>⟨[(6,.ref 6 0),(10,.ref 10 0)],[(6,.cells ([.nil,.nil])),(10,.cells ([Jh (.own 201000) x31,Jh (.own 201001) x32]))],[(201000,(((x31).map cellsOf).length,14)),(201001,(((x32).map cellsOf).length,4))],[]⟩) h ?_ ?_
 ·rintro ⟨x47,x48⟩ _ h;unfold Jjz at h;refine w1 n0 (.e (.c (.i 0 (.e (.p 2 .s))) .z)) ?_;intro _ r58 h;refine yl 0 r58 (w1 n0 (.e .s) ?_);intro h;refine yM 113 6 [100] (fun (x60,x61)=>⟨[(3,.ref 3 0),(6,.ref 6 0),(10,.ref 10 0),(15,.mp 89),(90,Jh .frozen a2),(91,I6 ((a2.length:Nat):Int)),(92,I6 x47),(98,Jh .frozen r58),(99,I6 ((r58.length:Nat):Int)),(100,I6 x60)],[(3,.cells (cellsOf a0)),(6,.cells ([.nil,.nil])),(10,.cells ([Jh (.own 201000) x31,Jh (.own 201001) x32])),(89,.map (Yl x61))],[(201000,(((x31).map cellsOf).length,14)),(201001,(((x32).map cellsOf).length,4))],[]⟩) h ?_ ?_
  ·rintro ⟨x60,x61⟩ _ h;unfold Jjt at h;refine w1 n0 (.e (.c (.i 0 (.e .s)) .z)) ?_;intro x64 h;refine zR 2 (Jd3 (m:=x61) (k:=x64) false 89 kr kr (w1 n0 (.e (.c (.e .z) .s)) ?_));intro h;exact zR 2 (Jgh (m:=x61) (k:=x64) (v:=true) 89 kr kr kr (w1 n0 (.e (.e .z)) t0))
  intro x63 s' h hs;exact w1 n0 (.e .z) t0
 intro _ s' h hs;exact w1 n0 (.e .z) t0⟩
def Jy (a0:(List Int)):Option (List Int) :=
 (Uq ([]:(List Int)) a0).bind fun x1 =>
 some x1
instance Jsw (a0:(List Int)):Ct Tryz.prog GlS (Jy a0) 91 [Enc.pv a0] (fun r=>Jh (.own 7) r):=⟨fun r h=>by
 unfold Jy at h;refine zC Tryz.func91 Tryz.ntmps91 ?_;refine w1 n0 (.e (.e .S)) ?_;intro h;refine Jo ?_;refine Tq (e:=(a0.map cellsOf).isEmpty) kr (fun hub=>?_) ?_
 ·have hN:=Tx (Jjc hub) h;refine w1 n0 (.e .S) ?_;intro h;refine Jo (Zh 2 7 1 8 kr kr (Wf (Za ?_)));cases hN;exact zQ
 obtain ⟨x1,h1,h⟩:=Ka h;refine Ve (Jo (Kj (Wj (zR 2 (Jbe (tk:=7) h1 kr ?_)))));exact w1 n0 (.e .z) t0⟩
def Bj (a0:(List Jl)):Option (List Jl) :=
 (Uq ([]:(List Jl)) a0).bind fun x1 =>
 some x1
instance Jj3 (a0:(List Jl)):Ct Tryz.prog GlS (Bj a0) 92 [Enc.pv a0] (fun r=>Jh (.own 7) r):=⟨fun r h=>by
 unfold Bj at h;refine zC Tryz.func92 Tryz.ntmps92 ?_;refine w1 n0 (.e (.e .S)) ?_;intro h;refine Jo ?_;refine Tq (e:=(a0.map cellsOf).isEmpty) kr (fun hub=>?_) ?_
 ·have hN:=Tx (Jjc hub) h;refine w1 n0 (.e .S) ?_;intro h;refine Jo (Zh 2 7 4 32 kr kr (Wf (Za ?_)));cases hN;exact zQ
 obtain ⟨x1,h1,h⟩:=Ka h;refine Ve (Jo (Kj (Wj (zR 2 (Jbe (tk:=7) h1 kr ?_)))));exact w1 n0 (.e .z) t0⟩
def Cy (a0:Jn):Option Bool :=
 some (decide (((a0.Tracks.length:Nat):Int)=((a0.Sessions.length:Nat):Int)))
instance Jgz (a0:Jn):Ct Tryz.prog GlS (Cy a0) 41 [Enc.pv a0] Enc.pv:=⟨fun r h=>by
 unfold Cy at h;refine zC Tryz.func41 Tryz.ntmps41 ?_;refine w1 a0.Tracks (.e (.l 2 .s)) ?_;intro h;refine yl 2 a0.Sessions ?_;exact w1 n0 (.e .z) t0⟩
def Yq (a0:(List Int)):Option (List Int) :=
 (Uq ([]:(List Int)) a0).bind fun x1 =>
 some x1
theorem Jct (a0:(List Int)) (r:(List Int)) (h:Yq a0=some r):Jnd Tryz.prog GlS 91 [Enc.pv a0] 1 8 (r.map cellsOf):=by
 unfold Yq at h;refine Jbk Tryz.func91 (by rfl) rfl Tryz.ntmps91 (by rfl) rfl ?_;refine w1 n0 (.e (.e .S)) ?_;intro h;refine Jo ?_;refine Tq (e:=(a0.map cellsOf).isEmpty) kr (fun hub=>?_) ?_
 ·have hN:=Tx (Jjc hub) h;refine w1 n0 (.e .S) ?_;intro h;refine Jo (Qx (Jhd 2 100002 1 8 kr kr) (Wf (Za ?_)));have hq:=Option.some.inj hN;subst hq;exact Jl6 100002 (((([]:(List Int)):(List Int)).map cellsOf).length) kr
 obtain ⟨x1,h1,h⟩:=Ka h;refine Ve (Jo (Kj (Wj (zR 2 (Jz0 (tk:=7) (x:=.lst .full 1 8 []) h1 (.inr ⟨_,_,rfl⟩) kr kr (w1 n0 (.e .S) ?_))))));intro h;refine Jo (Wf ?_);have hq:=Option.some.inj h;subst hq;exact Jl6 7 ((x1.map cellsOf).length) kr
def Wl (a0:Int) (c0:Kd):Option Bool :=
 ((bif decide (a0<0) then some true else (
  some (decide (((c0.Routes.length:Nat):Int)<=a0))
 )):Option Bool).bind fun b1 =>
 bif b1 then (
  some true
 ) else (
  (ixO c0.Routes a0).bind fun x2 =>
  some ((!(decide (x2.State=3)))&&(!(decide (x2.State=4))))
 )
instance Js0 (a0:Int) (c0:Kd):Ct Tryz.prog GlS (Wl a0 c0) 95 [Enc.pv a0,.cptr (cellsOf c0)] Enc.pv:=⟨fun r h=>by
 unfold Wl at h;refine zC Tryz.func95 Tryz.ntmps95 ?_;exact w1 c0.Routes (.e (.b 3 6 13 (.g 0 .z (.l 3 .z)) (.e (.c (.e .z) (.i 3 (.e (.o 3 3 25 0 (.e .z)))))))) t0⟩
def Yn (a0:(List Int)) (a1_0:Kd):Int->Option (Int⊕(Unit⊕Int)):=fun x3 =>
 bif decide (x3<((a0.length:Nat):Int)) then (
  (ixO a0 x3).bind fun x6 =>
  (Wl x6 a1_0).bind fun r7 =>
  bif r7 then (
   some (.inr (.inr x3))
  ) else (
   some (.inl (w64 (x3+1)))
  )
 ) else (
  some (.inr (.inl ()))
 )
def Uh (a0:(List Int)) (a1_0:Kd):Option Int :=
 onInl (Js (Yn a0 a1_0) 0) fun _ =>
 some (-1)
instance Du (a0:(List Int)) (a1_0:Kd):Ct Tryz.prog GlS (Uh a0 a1_0) 166 [Enc.pv a0,.fn 95 [.cptr (cellsOf a1_0)]] Enc.pv:=⟨fun r h=>by
 unfold Uh at h;refine zC Tryz.func166 Tryz.ntmps166 ?_;refine w1 a0 (.e (.l 1 (.e .s))) ?_;intro h;refine yN 19 0 [8] (fun x3=>⟨[(0,Jh .frozen a0),(1,.fn 95 [.cptr (cellsOf a1_0)]),(7,I6 ((a0.length:Nat):Int)),(8,I6 x3)],[],[],[]⟩) h ?_ ?_
 ·intro x3 _ h;unfold Yn at h;exact w1 n0 (.e (.c (.e (.i 3 (.p 1 (.e (.c (.e .z) (.e .z)))))) .z)) t0
 intro _ s' h hs;exact w1 n0 (.e .z) t0⟩
def Yg (a0:(List Int)) (a1_0:Kd):(Int×Int×(List Int))->Option ((Int×Int×(List Int))⊕(((List Int)×Int)⊕((List Int)×Nat))):=fun (x14,x15,x16) =>
 bif decide (x15<((((a0:(List Int)).map cellsOf).length:Nat):Int)) then (
  onInl (α:=((List Int)×Int)) (β:=((Int×Int×(List Int))⊕(((List Int)×Int)⊕((List Int)×Nat)))) (
   (Wt 0 (((a0:(List Int)).map cellsOf).length) x15).bind fun j38 =>
   (Vi x16 (((a0:(List Int)).map cellsOf).length) j38).bind fun x39 =>
   (Wl x39 a1_0).bind fun r40 =>
   bif (!r40) then (
    (Wt 0 (((a0:(List Int)).map cellsOf).length) x14).bind fun j41 =>
    (Vi x16 (((a0:(List Int)).map cellsOf).length) j41).bind fun x42 =>
    some (.inl ((x16.set j41 x39),w64 (x14+1)))
   ) else (
    some (.inl (x16,x14))
   )
  ) fun (x36,x37) =>
  some (.inl (x37,w64 (x15+1),x36))
 ) else (
  some (.inr (.inl (x16,x14)))
 )
def Qj (a0:(List Int)) (a1_0:Kd):Option ((List Int)×Nat) :=
 (Uh a0 a1_0).bind fun r1 =>
 bif decide (r1=(-1)) then (
  some (a0,((a0:(List Int)).map cellsOf).length)
 ) else (
  onInl (Js (Yg a0 a1_0) (r1,w64 (r1+1),a0)) fun (x29,x30) =>
  (Jxx (((a0:(List Int)).map cellsOf).length) (some x30) none).bind fun p43 =>
  (Jtk x29 (((a0:(List Int)).map cellsOf).length) (0+p43.1) (p43.2 - p43.1) (0:Int)).bind fun x44 =>
  (Juu (((a0:(List Int)).map cellsOf).length) x30).bind fun m45 =>
  some (x44,m45)
 )
theorem Dk (a0:(List Int)) (a1_0:Kd) (r:((List Int)×Nat)) (h:Qj a0 a1_0=some r):Ry Tryz.prog GlS 94 1 8 (a0.map cellsOf) [.fn 95 [.cptr (cellsOf a1_0)]] (some r.2) (r.1.map cellsOf):=by
 unfold Qj at h;refine Cu Tryz.func94 (by rfl) rfl Tryz.ntmps94 (by rfl) rfl ?_;refine w1 n0 (.e .x) ?_;intro r1 h1 h;refine zR 2 (Fv [1000000000] ((Du _ _).ok r1 h1) kr kr kr ?_);refine w6 n0 (.e (.e (.c (.e .s) (.e .s)))) ?_ ?_ t0 t0 t0 t0
 ·intro h;cases h;exact Jat kr
 intro h;refine yL 42 0 (fun (x14,x15,x16)=>⟨[(0,.ex 1000000000 1 8 ((a0.map cellsOf).length) 0 ((a0.map cellsOf).length)),(1,.fn 95 [.cptr (cellsOf a1_0)]),(5,I6 x14),(6,I6 x15)],[],[(1000000000,((a0.map cellsOf).length,0))],[(1000000000,(1,(8,x16.map cellsOf)))]⟩) (fun (x29,x30)=>⟨[(0,.ex 1000000000 1 8 ((a0.map cellsOf).length) 0 ((a0.map cellsOf).length)),(5,I6 x30)],[],[(1000000000,((a0.map cellsOf).length,0))],[(1000000000,(1,(8,x29.map cellsOf)))]⟩) h ?_ ?_
 ·rintro ⟨x14,x15,x16⟩ _ h;unfold Yg at h;refine w1 n0 (.e (.c .s .z)) ?_;intro h;refine yJ 42 (fun (x36,x37)=>⟨[(0,.ex 1000000000 1 8 ((a0.map cellsOf).length) 0 ((a0.map cellsOf).length)),(1,.fn 95 [.cptr (cellsOf a1_0)]),(5,I6 x37),(6,I6 x15)],[],[(1000000000,((a0.map cellsOf).length,0))],[(1000000000,(1,(8,x36.map cellsOf)))]⟩) h ?_ ?_
  ·intro _ h;obtain ⟨j38,h32,h⟩:=Ka h;refine Kq (Kj (Wj (zR 2 (Uz (tk:=1000000000) (k:=1) (N:=(a0.map cellsOf).length) h32 kr ?_))));obtain ⟨x39,h33,h⟩:=Ka h;refine Vw (L:=x16) (N:=(a0.map cellsOf).length) (j:=j38) (y:=x39) (v:=I6 x39) h33 false 1 0 kr kr (w1 n0 (.e (.p 2 (.e (.c .x .z)))) ?_);intro _ j41 h35 h;refine zR 3 (Uz (tk:=1000000000) (k:=1) (N:=(a0.map cellsOf).length) h35 kr ?_);obtain ⟨x42,h36,h⟩:=Ka h;exact Ox (L:=x16) (tk:=1000000000) (N:=(a0.map cellsOf).length) (j:=j41) (y:=x42) (y':=x39) h36 0 1 [I6 x39] kr kr (w1 n0 (.e (.e .z)) t0)
  rintro ⟨x36,x37⟩ h;exact w1 n0 (.e .z) t0
 rintro ⟨x29,x30⟩ s' h hs;obtain ⟨p43,h37,h⟩:=Ka h;refine Ui (Jo (Qx hs (Kj (Wj (zR 2 (Kjq (tk:=1000000000) (k:=1) (b:=8) (N:=(a0.map cellsOf).length) (o:=0) (lo:=(some x30)) (hi:=none) h37 kr ?_))))));obtain ⟨x44,h38,h⟩:=Ka h;refine Klv (L:=x29) (tk:=1000000000) (N:=(a0.map cellsOf).length) (z:=(0:Int)) h38 kr kr kr rfl (w1 n0 (.e .x) ?_);intro _ h39 h;refine zR 2 (Kke (tk:=1000000000) (k:=1) (b:=8) (N:=(a0.map cellsOf).length) (o:=0) h39 kr (w1 n0 (.e .s) ?_));intro h;cases h;exact Jat kr
def Ca (a0:Jg) (a1:Kd):Option Jg :=
 Option.bind (α:=((List Int)×(List Jb)×(List Int)×(List Int)×(List Int))) (
  (Kz a0.Steps).bind fun r11 =>
  (Jy a0.Routes).bind fun r12 =>
  (Jy a0.Starts).bind fun r13 =>
  (Jy a0.Ends).bind fun r14 =>
  (Yq a0.Done).bind fun r15 =>
  some (r15,r11,r12,r13,r14)
 ) fun (x6,x7,x8,x9,x10) =>
 (Qj x6 a1).bind fun r16 =>
 some (Jg.mk a0.Id a0.Origin a0.End a0.At x7 x8 x9 x10 (r16.1.take r16.2) a0.Min a0.Sent a0.Accepted a0.Cut a0.CutSeq)
set_option maxRecDepth 100000 in
instance Jyc (a0:Jg) (a1:Kd):Ct Tryz.prog GlS (Ca a0 a1) 42 [Enc.pv a0,Enc.pv a1] Enc.pv:=⟨fun r h=>by
 unfold Ca at h;refine zC Tryz.func42 Tryz.ntmps42 ?_;refine w1 n0 (.e .S) ?_;intro h;refine Jo (Kj (Jiw (So 0 1 (w1 n0 (.e .S) ?_))));intro h;refine Fq 1 ⟨[(2,.ref 1002 0),(3,.ref 1003 0),(4,.ref 1004 0),(5,Enc.pv a0)],[(1002,.cells (cellsOf a0)),(1003,.cells (cellsOf a1)),(1004,.cells ([I6 0,I6 0,I6 0,I6 0,.nil,.nil,.nil,.nil,.nil,I6 0,I6 0,I6 0,I6 0,I6 0]))],[],[]⟩ 13 kr kr kr ?_;obtain ⟨o6,h6,h⟩:=Ka h;refine Jqg (f:=93) (asx:=[Enc.pv a0]) kr Tryz.func93 (by rfl) rfl Tryz.ntmps93 (by rfl) ?_;refine Je8 o6 1300037 (fun (x6,x7,x8,x9,x10)=>⟨[(2,.ref 2 0),(26,.ref 1002 0),(27,.ref 1003 0),(28,.ref 1004 0)],[(2,.cells ([I6 a0.Id,I6 a0.Origin,I6 a0.End,I6 a0.At,Jh (.own 5007) x7,Jh (.own 9007) x8,Jh (.own 13007) x9,Jh (.own 17007) x10,.ex 21 1 8 ((x6.map cellsOf).length) 0 ((x6.map cellsOf).length),I6 a0.Min,I6 a0.Sent,I6 a0.Accepted,I6 a0.Cut,I6 a0.CutSeq])),(1002,.cells (cellsOf a0)),(1003,.cells (cellsOf a1)),(1004,.cells ([I6 0,I6 0,I6 0,I6 0,.nil,.nil,.nil,.nil,.nil,I6 0,I6 0,I6 0,I6 0,I6 0]))],[(5007,(((x7).map cellsOf).length,3)),(9007,(((x8).map cellsOf).length,1)),(13007,(((x9).map cellsOf).length,1)),(17007,(((x10).map cellsOf).length,1)),(21,((x6.map cellsOf).length,0))],[(21,(1,(8,x6.map cellsOf)))]⟩) ?_ ?_
 ·have h:=h6;refine w1 n0 (.e (.p 2 (.e (.p 2 (.e (.p 2 (.e (.p 2 (.e .x))))))))) ?_;intro _ _ _ _ r15 h11 h;refine zR 2 (Jla (α:=Int) 21 (Jct _ r15 h11) kr kr (w1 n0 (.e (.e .s)) ?_));intro h;cases h;exact Jx5 kr kr
 obtain ⟨x6,x7,x8,x9,x10⟩:=o6;refine Jp8 (r:=.agg [I6 a0.Id,I6 a0.Origin,I6 a0.End,I6 a0.At,Jh (.own 5007) x7,Jh (.own 9007) x8,Jh (.own 13007) x9,Jh (.own 17007) x10,.ex 21 1 8 ((x6.map cellsOf).length) 0 ((x6.map cellsOf).length),I6 a0.Min,I6 a0.Sent,I6 a0.Accepted,I6 a0.Cut,I6 a0.CutSeq]) kr (Fq 2 ⟨[(2,.ref 1002 0),(3,.ref 1003 0),(4,.ref 1004 0),(6,.agg [I6 a0.Id,I6 a0.Origin,I6 a0.End,I6 a0.At,Jh (.own 2005007) x7,Jh (.own 2009007) x8,Jh (.own 2013007) x9,Jh (.own 2017007) x10,.ex 2000021 1 8 ((x6.map cellsOf).length) 0 ((x6.map cellsOf).length),I6 a0.Min,I6 a0.Sent,I6 a0.Accepted,I6 a0.Cut,I6 a0.CutSeq])],[(1002,.cells (cellsOf a0)),(1003,.cells (cellsOf a1)),(1004,.cells ([I6 0,I6 0,I6 0,I6 0,.nil,.nil,.nil,.nil,.nil,I6 0,I6 0,I6 0,I6 0,I6 0]))],[(2005007,(((x7).map cellsOf).length,3)),(2009007,(((x8).map cellsOf).length,1)),(2013007,(((x9).map cellsOf).length,1)),(2017007,(((x10).map cellsOf).length,1)),(2000021,((x6.map cellsOf).length,0))],[(2000021,(1,(8,x6.map cellsOf)))]⟩ 13 kr kr kr ?_);refine Fq 1 ⟨[(2,.ref 2 0),(3,.ref 3 0),(4,.ref 4 0),(6,.agg [I6 a0.Id,I6 a0.Origin,I6 a0.End,I6 a0.At,Jh (.own 2005007) x7,Jh (.own 2009007) x8,Jh (.own 2013007) x9,Jh (.own 2017007) x10,.ex 2000021 1 8 ((x6.map cellsOf).length) 0 ((x6.map cellsOf).length),I6 a0.Min,I6 a0.Sent,I6 a0.Accepted,I6 a0.Cut,I6 a0.CutSeq])],[(2,.cells (cellsOf a0)),(3,.cells (cellsOf a1)),(4,.cells ([I6 0,I6 0,I6 0,I6 0,.nil,.nil,.nil,.nil,.nil,I6 0,I6 0,I6 0,I6 0,I6 0]))],[(2005007,(((x7).map cellsOf).length,3)),(2009007,(((x8).map cellsOf).length,1)),(2013007,(((x9).map cellsOf).length,1)),(2017007,(((x10).map cellsOf).length,1)),(2000021,((x6.map cellsOf).length,0))],[(2000021,(1,(8,x6.map cellsOf)))]⟩ 13 kr kr kr (So 2 1 (w1 n0 (.e .S) ?_));intro h;refine Jid (Jo (Kj (Jui 3 [2,4] (cs:=cellsOf a1) (cs':=cellsOf a1) kr kr kr kr ?_)));obtain ⟨r16,h12,h⟩:=Ka h;refine Wj (zR 3 (Ke0 (t:=2000021) (L:=x6) (L':=r16.1) (m:=r16.2) (N:=(x6.map cellsOf).length) kr kr kr (Dk _ _ r16 h12) ?_));exact w1 n0 (.e (.e .z)) t0⟩
def Cp (a0:(List Int)) (a1:Int):Int->Option (Int⊕(Unit⊕Int)):=fun x2 =>
 bif decide (x2<((a0.length:Nat):Int)) then (
  (ixO a0 x2).bind fun x4 =>
  bif decide (a1=x4) then (
   some (.inr (.inr x2))
  ) else (
   some (.inl (w64 (x2+1)))
  )
 ) else (
  some (.inr (.inl ()))
 )
def Ea (a0:(List Int)) (a1:Int):Option Int :=
 onInl (Js (Cp a0 a1) 0) fun _ =>
 some (-1)
instance Jsy (a0:(List Int)) (a1:Int):Ct Tryz.prog GlS (Ea a0 a1) 190 [Enc.pv a0,Enc.pv a1] Enc.pv:=⟨fun r h=>by
 unfold Ea at h;refine zC Tryz.func190 Tryz.ntmps190 ?_;refine w1 a0 (.e (.l 1 (.e .s))) ?_;intro h;refine yN 19 0 [8] (fun x2=>⟨[(0,Jh .frozen a0),(1,I6 a1),(7,I6 ((a0.length:Nat):Int)),(8,I6 x2)],[],[],[]⟩) h ?_ ?_
 ·intro x2 _ h;unfold Cp at h;exact w1 n0 (.e (.c (.e (.i 3 (.e (.c (.e .z) (.e .z))))) .z)) t0
 intro _ s' h hs;exact w1 n0 (.e .z) t0⟩
def Wb (a0:(List Int)) (a1:Int):Option Bool :=
 (Ea a0 a1).bind fun r1 =>
 some (decide (0<=r1))
instance Jon (a0:(List Int)) (a1:Int):Ct Tryz.prog GlS (Wb a0 a1) 115 [Enc.pv a0,Enc.pv a1] Enc.pv:=⟨fun r h=>by
 unfold Wb at h;refine zC Tryz.func115 Tryz.ntmps115 ?_;exact w1 n0 (.e (.p 2 (.e .z))) t0⟩
def Pc (a0:Jg) (c0:Int):Option Bool :=
 (Wb a0.Routes c0).bind fun r1 =>
 some r1
instance Jzs (a0:Jg) (c0:Int):Ct Tryz.prog GlS (Pc a0 c0) 168 [Enc.pv a0,.cptr (cellsOf c0)] Enc.pv:=⟨fun r h=>by
 unfold Pc at h;refine zC Tryz.func168 Tryz.ntmps168 ?_;exact w1 n0 (.e (.p 3 (.e .z))) t0⟩
def Vm (a0:(List Jg)) (a1_0:Int):Int->Option (Int⊕(Unit⊕Int)):=fun x3 =>
 bif decide (x3<((a0.length:Nat):Int)) then (
  (ixO a0 x3).bind fun x6 =>
  (Pc x6 a1_0).bind fun r7 =>
  bif r7 then (
   some (.inr (.inr x3))
  ) else (
   some (.inl (w64 (x3+1)))
  )
 ) else (
  some (.inr (.inl ()))
 )
def Ub (a0:(List Jg)) (a1_0:Int):Option Int :=
 onInl (Js (Vm a0 a1_0) 0) fun _ =>
 some (-1)
instance Jbn (a0:(List Jg)) (a1_0:Int):Ct Tryz.prog GlS (Ub a0 a1_0) 232 [Enc.pv a0,.fn 168 [.cptr ([I6 a1_0])]] Enc.pv:=⟨fun r h=>by
 unfold Ub at h;refine zC Tryz.func232 Tryz.ntmps232 ?_;refine w1 a0 (.e (.l 1 (.e .s))) ?_;intro h;refine yN 19 0 [8] (fun x3=>⟨[(0,Jh .frozen a0),(1,.fn 168 [.cptr ([I6 a1_0])]),(7,I6 ((a0.length:Nat):Int)),(8,I6 x3)],[],[],[]⟩) h ?_ ?_
 ·intro x3 _ h;unfold Vm at h;exact w1 n0 (.e (.c (.e (.i 3 (.p 1 (.e (.c (.e .z) (.e .z)))))) .z)) t0
 intro _ s' h hs;exact w1 n0 (.e .z) t0⟩
def Qb (a0:(List Jg)) (a1_0:Int):Option Bool :=
 (Ub a0 a1_0).bind fun r1 =>
 some (decide (0<=r1))
instance Jai (a0:(List Jg)) (a1_0:Int):Ct Tryz.prog GlS (Qb a0 a1_0) 167 [Enc.pv a0,.fn 168 [.cptr ([I6 a1_0])]] Enc.pv:=⟨fun r h=>by
 unfold Qb at h;refine zC Tryz.func167 Tryz.ntmps167 ?_;exact w1 n0 (.e (.p 2 (.e .z))) t0⟩
end
end PM
