/-
 Plain functions for the program's functions, and the proofs that the program does them. Printed by den.py.
-/
import Derived.Test.YtfpoeepcomnjhaaGreatDoorDen2
namespace PM
noncomputable section
open Go Go.RowKit Go.Proofs
attribute [local irreducible] Kl pwp
def Yn (a0:Jd):Int→Option (Int⊕(Unit⊕Int)):=fun x8 =>
 bif decide (x8<((a0.Balises.length:Nat):Int)) then (
  (ixO a0.Balises x8).bind fun x16 =>
  (Qj x16.Id 1 1073741824).bind fun r17 =>
  ((bif (!r17) then some true else (
   (Qj x16.El 0 (w64 (((a0.Elements.length:Nat):Int) - 1))).bind fun r19 =>
   some (!r19)
  )):Option Bool).bind fun b18 =>
  ((bif b18 then some true else (
   (ixO a0.Elements x16.El).bind fun x21 =>
   (Qj x16.Offset 0 x21.Length).bind fun r22 =>
   some (!r22)
  )):Option Bool).bind fun b20 =>
  bif b20 then (
   some (.inr (.inr 1))
  ) else (
   some (.inl (w64 (x8+1)))
  )
 ) else (
  some (.inr (.inl ()))
 )
def Yf (a0:Jd):(Int×(List (Int×Bool)))→Option ((Int×(List (Int×Bool)))⊕(Unit⊕Int)):=fun (x24,x25) =>
 bif decide (x24<((a0.Balises.length:Nat):Int)) then (
  (ixO a0.Balises x24).bind fun x27 =>
  bif ((Uo (x25:(List (Int×Bool))) x27.Id).getD false) then (
   some (.inr (.inr 8))
  ) else (
   some (.inl (w64 (x24+1),(Dj x27.Id true x25)))
  )
 ) else (
  some (.inr (.inl ()))
 )
def Vo (a0:Jd):Option Int :=
 onInl (α:=Unit) (β:=Int) (Ki (Yn a0) 0) fun _ =>
 onInl (α:=Unit) (β:=Int) (Ki (Yf a0) (0,([]:(List (Int×Bool))))) fun _ =>
 some 0
theorem Ja1 (a0:Jd) (r:Int) (h:Vo a0=some r):Kg Tryz.prog GlS 143 [Enc.pv a0] (Enc.pv r):=by
 unfold Vo at h;refine zC Tryz.func143 Tryz.ntmps143 ?_;refine Ja (Jc (zE (Jb (Ja (Ja (Jc (zR 2 ?_)))))));refine zL (L:=a0.Balises) ?_;refine zE (Jb (Jl ?_));obtain ⟨o18,h18,h⟩:=Kf h;refine zA 59 0 (fun x8=>⟨[(1,.ref 1 0),(9,Jk .frozen a0.Balises),(10,I6 ((a0.Balises.length:Nat):Int)),(11,I6 x8)],[(1,.cells (cellsOf a0))],[],[]⟩) (fun (_:Unit)=>⟨[(1,.ref 1 0)],[(1,.cells (cellsOf a0))],[],[]⟩) h18 ?_ ?_
 ·rintro x8 oh17 h17;unfold Yn at h17;refine Ja (Jc (zE (Jb (Ja ?_))));rcases Ji h17 with ⟨hb,h17⟩|⟨hb,h17⟩
  ·refine zT hb (Jg (Jb (Ja (Jl (Ja (Jc ?_))))));obtain ⟨x16,h19,h17⟩:=Je h17;refine zI h19 (zE (Jb (Ja (zD (zR 2 ?_)))));obtain ⟨r17,h20,h17⟩:=Je h17;refine zP (Qk _ _ _ r17 h20) ?_;obtain ⟨b18,h21,h17⟩:=Je h17;refine zR 2 ?_;refine Ko 9 28 (.bool b18) ?_ ?_
   ·rcases Ji h21 with ⟨hb,h21⟩|⟨hb,h21⟩
    ·refine zS 19 hb ?_;cases h21;exact zF
    refine zS 19 hb (zR 4 ?_);refine zL (L:=a0.Elements) ?_;refine zR 1 ?_;obtain ⟨r19,h22,h21⟩:=Je h21;refine zP (Qk _ _ _ r19 h22) ?_;cases h21;exact zF
   obtain ⟨b20,h23,h17⟩:=Je h17;refine zR 1 ?_;refine Ko 12 41 (.bool b20) ?_ ?_
   ·rcases Ji h23 with ⟨hb,h23⟩|⟨hb,h23⟩
    ·refine zS 29 hb ?_;cases h23;exact zF
    refine zS 29 hb (zR 6 ?_);obtain ⟨x21,h24,h23⟩:=Je h23;refine zI h24 (zR 2 ?_);obtain ⟨r22,h25,h23⟩:=Je h23;refine zP (Qk _ _ _ r22 h25) ?_;cases h23;exact zF
   refine zN (Jb ?_);rcases Ji h17 with ⟨hb,h17⟩|⟨hb,h17⟩
   ·refine zT hb (Ja (Jc (zE (Jb (Jm (Jp (Jj ?_)))))));cases h17;refine Kc fun he=>?_;subst he;have h26:=Km h;refine Jp (Jj ?_);cases h26;exact zQ
   refine zU hb (Jg (Jx (Jb (Jc (zE ?_)))));cases h17;exact zB
  refine zU hb (Jv (Jt ?_));cases h17;exact zX
 rintro _ s' rfl hs;have h:=Ka h;refine Jr (Jb (Jy hs (Ja (Jc (zE (Jb (Ja (Ja (Jc (zR 2 ?_))))))))));refine zL (L:=a0.Balises) ?_;refine zE (Jb (Jl ?_));obtain ⟨o32,h32,h⟩:=Kf h;refine zA 59 2 (fun (x24,x25)=>⟨[(5,.mp 43),(45,Jk .frozen a0.Balises),(46,I6 ((a0.Balises.length:Nat):Int)),(47,I6 x24)],[(43,.map (Wc x25))],[],[]⟩) (fun (_:Unit)=>⟨[],[],[],[]⟩) h32 ?_ ?_
 ·rintro ⟨x24,x25⟩ oh31 h31;unfold Yf at h31;refine Ja (Jc (zE (Jb (Ja ?_))));rcases Ji h31 with ⟨hb,h31⟩|⟨hb,h31⟩
  ·refine zT hb (Jg (Jb (Ja (Jl (Ja (Jc ?_))))));obtain ⟨x27,h33,h31⟩:=Je h31;refine zI h33 (zE (Jb (Ja (Ja (Jc (zR 3 ?_))))));refine Jdz (m:=x25) (k:=x27.Id) false 43 (by kernel_rfl) (by kernel_rfl) ?_;refine zN (Jb ?_);rcases Ji h31 with ⟨hb,h31⟩|⟨hb,h31⟩
   ·refine zT hb (Ja (Jc (zE (Jb (Jm (Jj (Jp (Jj ?_))))))));cases h31;refine Kc fun he=>?_;subst he;have h34:=Km h;refine Jp (Jj ?_);cases h34;exact zQ
   refine zU hb (Jg (Jb (Jc (zR 3 ?_))));refine Jg6 (m:=x25) (k:=x27.Id) (v:=true) 43 (by kernel_rfl) (by kernel_rfl) (by kernel_rfl) ?_;refine zN (Jx (Jb (Jc (zE ?_))));cases h31;exact zB
  refine zU hb (Jv (Jt ?_));cases h31;exact zX
 rintro _ s' rfl hs;have h:=Ka h;refine Jr (Jb (Jy hs (Ja (Jc (zE (Jb (Jm ?_)))))));cases h;exact zQ
def Df (a0:Jd):Option Int :=
 (Zv a0).bind fun r1 =>
 bif (!r1) then (
  some 2
 ) else (
  (Za a0).bind fun r2 =>
  bif (!(decide (r2=0))) then (
   some r2
  ) else (
   (Vw a0).bind fun r3 =>
   ((bif (!r3) then some true else (
    (Ws a0).bind fun r5 =>
    some (!r5)
   )):Option Bool).bind fun b4 =>
   bif b4 then (
    some 1
   ) else (
    (Bw a0).bind fun r6 =>
    bif (!(decide (r6.2=0))) then (
     some r6.2
    ) else (
     (Vm a0 r6.1).bind fun r7 =>
     bif (!(decide (r7=0))) then (
      some r7
     ) else (
      (Vo a0).bind fun r8 =>
      some r8
     )
    )
   )
  )
 )
theorem Jh0 (a0:Jd) (r:Int) (h:Df a0=some r):Kg Tryz.prog GlS 70 [Enc.pv a0] (Enc.pv r):=by
 unfold Df at h;refine zC Tryz.func70 Tryz.ntmps70 ?_;refine Ja (Jc (zE (Jb (Ja (Ja (Jc (zR 1 ?_)))))));obtain ⟨r1,h1,h⟩:=Je h;refine zP (Jdv _ r1 h1) (zE (Jb ?_));rcases Ji h with ⟨hb,h⟩|⟨hb,h⟩
 ·refine zT hb (Ja (Jc (zE (Jb (Jm (Jj ?_))))));cases h;exact zQ
 refine zU hb (Jg (Jb (Ja (Ja (Jc (zR 1 ?_))))));obtain ⟨r2,h2,h⟩:=Je h;refine zP (Jcl _ r2 h2) (zE (Jb (Ja (Jc (zE (Jb ?_))))));rcases Ji h with ⟨hb,h⟩|⟨hb,h⟩
 ·refine zT hb (Ja (Jc (zE (Jb (Jm (Jj ?_))))));cases h;exact zQ
 refine zU hb (Jg (Jb (Ja (Ja (Jc (zR 1 ?_))))));obtain ⟨r3,h3,h⟩:=Je h;refine zP (Jbw _ r3 h3) ?_;obtain ⟨b4,h4,h⟩:=Je h;refine zR 2 ?_;refine Ko 4 22 (.bool b4) ?_ ?_
 ·rcases Ji h4 with ⟨hb,h4⟩|⟨hb,h4⟩
  ·refine zS 18 hb ?_;cases h4;exact zF
  refine zS 18 hb (zR 1 ?_);obtain ⟨r5,h5,h4⟩:=Je h4;refine zP (Jat _ r5 h5) ?_;cases h4;exact zF
 refine zN (Jb ?_);rcases Ji h with ⟨hb,h⟩|⟨hb,h⟩
 ·refine zT hb (Ja (Jc (zE (Jb (Jm (Jj ?_))))));cases h;exact zQ
 refine zU hb (Jg (Jb (Ja (Jc (zR 1 ?_)))));obtain ⟨r6,h6,h⟩:=Je h;refine zP (Jfm _ r6 h6) (zE (Jb (Ja (Ja (Jc (zE (Jb ?_)))))));rcases Ji h with ⟨hb,h⟩|⟨hb,h⟩
 ·refine zT hb (Ja (Jc (zE (Jb (Jm (Jj ?_))))));cases h;exact zQ
 refine zU hb (Jg (Jb (Ja (Ja (Jc (zR 2 ?_))))));obtain ⟨r7,h7,h⟩:=Je h;refine zP (Ja4 _ _ r7 h7) (zE (Jb (Ja (Jc (zE (Jb ?_))))));rcases Ji h with ⟨hb,h⟩|⟨hb,h⟩
 ·refine zT hb (Ja (Jc (zE (Jb (Jm (Jj ?_))))));cases h;exact zQ
 refine zU hb (Jg (Jb (Ja (Jc (zR 1 ?_)))));obtain ⟨r8,h8,h⟩:=Je h;refine zP (Ja1 _ r8 h8) (zE (Jb (Jm ?_)));cases h;exact zQ
def Wk (a0:Int) (a1:Int) (a2:Int):Option Int :=
 some (max a1 (min a0 a2))
theorem Wa (a0:Int) (a1:Int) (a2:Int) (r:Int) (h:Wk a0 a1 a2=some r):Kg Tryz.prog GlS 209 [Enc.pv a0,Enc.pv a1,Enc.pv a2] (Enc.pv r):=by
 unfold Wk at h;refine zC Tryz.func209 Tryz.ntmps209 ?_;refine Ja (Jc (zE (Jb (Ja (Jc (zE (Jb (Jm ?_))))))));cases h;exact zQ
def Mg (a0:Kk):Option Kk :=
 (Wk a0.Id 1 99).bind fun r1 =>
 (Wk a0.Length 1 50000).bind fun r2 =>
 (Wk a0.Speed 1 10000).bind fun r3 =>
 (Wk a0.Accel 1 200).bind fun r4 =>
 (Wk a0.Service 1 200).bind fun r5 =>
 (Wk a0.Emergency a0.Service 200).bind fun r6 =>
 (Wk a0.Delay 0 5).bind fun r7 =>
 (Wk a0.Const 0 500).bind fun r8 =>
 (Wk a0.Rate 0 100).bind fun r9 =>
 some (Kk.mk r1 a0.Name r2 r3 r4 r5 r6 r7 r8 r9)
theorem Ji5 (a0:Kk) (r:Kk) (h:Mg a0=some r):Kg Tryz.prog GlS 145 [Enc.pv a0] (Enc.pv r):=by
 unfold Mg at h;refine zC Tryz.func145 Tryz.ntmps145 ?_;refine Ja (Jc (zE (Jb (Ja (zD (zR 2 ?_))))));obtain ⟨r1,h1,h⟩:=Je h;refine zP (Wa _ _ _ r1 h1) (zR 4 ?_);obtain ⟨r2,h2,h⟩:=Je h;refine zP (Wa _ _ _ r2 h2) (zR 2 ?_);obtain ⟨r3,h3,h⟩:=Je h;refine zP (Wa _ _ _ r3 h3) (zR 2 ?_);obtain ⟨r4,h4,h⟩:=Je h;refine zP (Wa _ _ _ r4 h4) (zR 2 ?_);obtain ⟨r5,h5,h⟩:=Je h;refine zP (Wa _ _ _ r5 h5) (zR 4 ?_);obtain ⟨r6,h6,h⟩:=Je h;refine zP (Wa _ _ _ r6 h6) (zR 2 ?_);obtain ⟨r7,h7,h⟩:=Je h;refine zP (Wa _ _ _ r7 h7) (zR 2 ?_);obtain ⟨r8,h8,h⟩:=Je h;refine zP (Wa _ _ _ r8 h8) (zR 2 ?_);obtain ⟨r9,h9,h⟩:=Je h;refine zP (Wa _ _ _ r9 h9) (zE (Jb (Jm ?_)));cases h;exact zQ
def Ev (a0:Kk):Option Int :=
 (Gk a0.Name).bind fun r1 =>
 bif (!r1) then (
  some 3
 ) else (
  (Mg a0).bind fun r2 =>
  bif (!(Jes a0 r2)) then (
   some 1
  ) else (
   some 0
  )
 )
theorem Jjt (a0:Kk) (r:Int) (h:Ev a0=some r):Kg Tryz.prog GlS 71 [Enc.pv a0] (Enc.pv r):=by
 unfold Ev at h;refine zC Tryz.func71 Tryz.ntmps71 ?_;refine Ja (Jc (zE (Jb (Ja (Ja (Jc (zR 2 ?_)))))));obtain ⟨r1,h1,h⟩:=Je h;refine zP (Jda _ r1 h1) (zE (Jb ?_));rcases Ji h with ⟨hb,h⟩|⟨hb,h⟩
 ·refine zT hb (Ja (Jc (zE (Jb (Jm (Jj ?_))))));cases h;exact zQ
 refine zU hb (Jg (Jb (Ja (Ja (zD (zR 2 ?_))))));obtain ⟨r2,h2,h⟩:=Je h;refine zP (Ji5 _ r2 h2) (zE (Jb ?_));rcases Ji h with ⟨hb,h⟩|⟨hb,h⟩
 ·refine zT hb (Ja (Jc (zE (Jb (Jm (Jj ?_))))));cases h;exact zQ
 refine zU hb (Jg (Jb (Ja (Jc (zE (Jb (Jm ?_)))))));cases h;exact zQ
def Mq (a0:Jd):Option Jd :=
 some a0
theorem Jir (a0:Jd) (r:Jd) (h:Mq a0=some r):Kg Tryz.prog GlS 210 [Enc.pv a0] (.fn 263 [.cptr (cellsOf r)]):=by
 unfold Mq at h;refine zC Tryz.func210 Tryz.ntmps210 ?_;refine Ja (Jc (zE (Jb (Ja (Jc (zE (Jb ?_)))))));refine Jt6 1 [] (cs:=cellsOf a0) (cs':=cellsOf a0) (by kernel_rfl) (by kernel_rfl) (by kernel_rfl) (by kernel_rfl) ?_;refine Jm ?_;cases h;exact zQ
def Zh (a0:Jd) (a1:Int):Option Bool :=
 ((bif decide (0≤a1) then (
  some (decide (a1<((a0.Elements.length:Nat):Int)))
 ) else some false):Option Bool).bind fun b1 =>
 some b1
theorem Og (a0:Jd) (a1:Int) (r:Bool) (h:Zh a0 a1=some r):Kg Tryz.prog GlS 149 [Enc.pv a0,Enc.pv a1] (Enc.pv r):=by
 unfold Zh at h;refine zC Tryz.func149 Tryz.ntmps149 ?_;refine Ja (Jc (zE (Jb (Ja (Jc ?_)))));obtain ⟨b1,h1,h⟩:=Je h;refine zR 3 ?_;refine Ko 6 13 (.bool b1) ?_ ?_
 ·rcases Ji h1 with ⟨hb,h1⟩|⟨hb,h1⟩
  ·refine zS 7 hb (zR 3 ?_);refine zL (L:=a0.Elements) ?_;cases h1;exact zF
  refine zS 7 hb ?_;cases h1;exact zF
 refine zE (Jb (Jm ?_));cases h;exact zQ
def Ow (a0:Int) (a1:Int) (a2:Int):Int→Option (Int⊕(Unit⊕(Int×Bool))):=fun x2 =>
 bif decide (x2<10) then (
  (ixO Qn x2).bind fun x4 =>
  bif (((decide (x4.kind_=a0))&&(decide (x4.in_=a1)))&&(decide (x4.out_=a2))) then (
   some (.inr (.inr (x4.need_,true)))
  ) else (
   some (.inl (w64 (x2+1)))
  )
 ) else (
  some (.inr (.inl ()))
 )
def Mb (a0:Int) (a1:Int) (a2:Int):Option (Int×Bool) :=
 onInl (α:=Unit) (β:=(Int×Bool)) (Ki (Ow a0 a1 a2) 0) fun _ =>
 some (0,false)
theorem Jfk (a0:Int) (a1:Int) (a2:Int) (r:(Int×Bool)) (h:Mb a0 a1 a2=some r):Kg Tryz.prog GlS 241 [Enc.pv a0,Enc.pv a1,Enc.pv a2] (.tup [Enc.pv r.1,Enc.pv r.2]):=by
 unfold Mb at h;refine zC Tryz.func241 Tryz.ntmps241 ?_;refine Ja (Jc (zE (Jb (Ja (Ja (Jc (zE (Jb (Jl ?_)))))))));obtain ⟨o6,h6,h⟩:=Kf h;refine zA 33 0 (fun x2=>⟨[(0,I6 a0),(1,I6 a1),(2,I6 a2),(10,.agg (Qn.flatMap cellsOf)),(11,I6 x2)],[],[],[]⟩) (fun (_:Unit)=>⟨[],[],[],[]⟩) h6 ?_ ?_
 ·rintro x2 oh5 h5;unfold Ow at h5;refine Ja (Jc (zE (Jb (Ja ?_))));rcases Ji h5 with ⟨hb,h5⟩|⟨hb,h5⟩
  ·refine zT hb (Jg (Jb (Ja (Jl (Ja (Jc ?_))))));obtain ⟨x4,h7,h5⟩:=Je h5;refine Kdv (tab:=Qn) h7 true 10 4 (by kernel_rfl) (by kernel_rfl) (by kernel_rfl) (by kernel_rfl) ?_;refine zE (Jb (Ja (Jc (zR 5 ?_))));refine Ks 5 23 ((decide (x4.kind_=a0))&&(decide (x4.in_=a1))) (fun x hx=>?_) ?_
   ·rcases Vz hx with ⟨hb,hx⟩|⟨hb,hx⟩
    ·refine zS 18 hb ?_;subst hx;exact zF
    refine zS 18 hb ?_;subst hx;exact zF
   refine zR 1 ?_;refine Ks 5 29 (((decide (x4.kind_=a0))&&(decide (x4.in_=a1)))&&(decide (x4.out_=a2))) (fun x hx=>?_) ?_
   ·rcases Vz hx with ⟨hb,hx⟩|⟨hb,hx⟩
    ·refine zS 24 hb ?_;subst hx;exact zF
    refine zS 24 hb ?_;subst hx;exact zF
   refine zN (Jb ?_);rcases Ji h5 with ⟨hb,h5⟩|⟨hb,h5⟩
   ·refine zT hb (Ja (Jc (zE (Jb (Jm (Jp (Jj ?_)))))));cases h5;refine Kc fun he=>?_;subst he;have h8:=Km h;refine Jp (Jj ?_);cases h8;exact zQ
   refine zU hb (Jg (Jx (Jb (Jc (zE ?_)))));cases h5;exact zB
  refine zU hb (Jv (Jt ?_));cases h5;exact zX
 rintro _ s' rfl hs;have h:=Ka h;refine Jr (Jb (Jy hs (Ja (Jc (zE (Jb (Jm ?_)))))));cases h;exact zQ
def Ef (a0:Jd) (a1:Jh):Option (Int×Bool) :=
 (Zh a0 a1.El).bind fun r1 =>
 bif (!r1) then (
  some (0,false)
 ) else (
  (ixO a0.Elements a1.El).bind fun x2 =>
  (Mb x2.Kind a1.In a1.Out).bind fun r3 =>
  some (r3.1,r3.2)
 )
theorem Jhg (a0:Jd) (a1:Jh) (r:(Int×Bool)) (h:Ef a0 a1=some r):Kg Tryz.prog GlS 211 [Enc.pv a0,Enc.pv a1] (.tup [Enc.pv r.1,Enc.pv r.2]):=by
 unfold Ef at h;refine zC Tryz.func211 Tryz.ntmps211 ?_;refine Ja (Jc (zE (Jb (Ja (Ja (Jc (zR 3 ?_)))))));obtain ⟨r1,h1,h⟩:=Je h;refine zP (Og _ _ r1 h1) (zE (Jb ?_));rcases Ji h with ⟨hb,h⟩|⟨hb,h⟩
 ·refine zT hb (Ja (Jc (zE (Jb (Jm (Jj ?_))))));cases h;exact zQ
 refine zU hb (Jg (Jb (Ja (zD (zR 4 ?_)))));obtain ⟨x2,h2,h⟩:=Je h;refine zI h2 (zR 6 ?_);obtain ⟨r3,h3,h⟩:=Je h;refine zP (Jfk _ _ _ r3 h3) (zE (Jb (Jm ?_)));cases h;exact zQ
def Fd (a0:Jd) (a1:Jo):Int→Option (Int⊕(Unit⊕(Jo×Bool))):=fun x2 =>
 bif decide (x2<((a0.Joints.length:Nat):Int)) then (
  (ixO a0.Joints x2).bind fun x4 =>
  bif Kj x4.A a1 then (
   some (.inr (.inr (x4.B,true)))
  ) else (
   bif Kj x4.B a1 then (
    some (.inr (.inr (x4.A,true)))
   ) else (
    some (.inl (w64 (x2+1)))
   )
  )
 ) else (
  some (.inr (.inl ()))
 )
def Eg (a0:Jd) (a1:Jo):Option (Jo×Bool) :=
 onInl (α:=Unit) (β:=(Jo×Bool)) (Ki (Fd a0 a1) 0) fun _ =>
 some ((Jo.mk 0 0),false)
theorem Jg5 (a0:Jd) (a1:Jo) (r:(Jo×Bool)) (h:Eg a0 a1=some r):Kg Tryz.prog GlS 264 [Enc.pv a0,Enc.pv a1] (.tup [Enc.pv r.1,Enc.pv r.2]):=by
 unfold Eg at h;refine zC Tryz.func264 Tryz.ntmps264 ?_;refine Ja (Jc (zE (Jb (Ja (Ja (Jc (zR 2 ?_)))))));refine zL (L:=a0.Joints) ?_;refine zE (Jb (Jl ?_));obtain ⟨o8,h8,h⟩:=Kf h;refine zA 29 0 (fun x2=>⟨[(3,.ref 3 0),(4,.ref 4 0),(9,Jk .frozen a0.Joints),(10,I6 ((a0.Joints.length:Nat):Int)),(11,I6 x2)],[(3,.cells (cellsOf a1)),(4,.cells ([I6 0,I6 0]))],[],[]⟩) (fun (_:Unit)=>⟨[(4,.ref 4 0)],[(4,.cells ([I6 0,I6 0]))],[],[]⟩) h8 ?_ ?_
 ·rintro x2 oh7 h7;unfold Fd at h7;refine Ja (Jc (zE (Jb (Ja ?_))));rcases Ji h7 with ⟨hb,h7⟩|⟨hb,h7⟩
  ·refine zT hb (Jg (Jb (Ja (Jl (Ja (Jc ?_))))));obtain ⟨x4,h9,h7⟩:=Je h7;refine zI h9 (zE (Jb (Ja (Ja (Jc (zE (Jb ?_)))))));rcases Ji h7 with ⟨hb,h7⟩|⟨hb,h7⟩
   ·refine zT hb (Ja (Jc (zE (Jb (Jm (Jj (Jp (Jj ?_))))))));cases h7;refine Kc fun he=>?_;subst he;have h10:=Km h;refine Jp (Jj ?_);cases h10;exact zQ
   refine zU hb (Jg (Jb (Ja (Jc (zE (Jb ?_))))));rcases Ji h7 with ⟨hb,h7⟩|⟨hb,h7⟩
   ·refine zT hb (Ja (Jc (zE (Jb (Jm (Jp (Jj ?_)))))));cases h7;refine Kc fun he=>?_;subst he;have h11:=Km h;refine Jp (Jj ?_);cases h11;exact zQ
   refine zU hb (Jg (Jx (Jb (Jc (zE ?_)))));cases h7;exact zB
  refine zU hb (Jv (Jt ?_));cases h7;exact zX
 rintro _ s' rfl hs;have h:=Ka h;refine Jr (Jb (Jy hs (Ja (Jc (zE (Jb (Jm ?_)))))));cases h;exact zQ
def Cy (a0:Jh) (c0:Jd):Option (Jo×Bool) :=
 (Eg c0 (Jo.mk a0.El a0.Out)).bind fun r1 =>
 some (r1.1,r1.2)
theorem Jf3 (a0:Jh) (c0:Jd) (r:(Jo×Bool)) (h:Cy a0 c0=some r):Kg Tryz.prog GlS 263 [Enc.pv a0,.cptr (cellsOf c0)] (.tup [Enc.pv r.1,Enc.pv r.2]):=by
 unfold Cy at h;refine zC Tryz.func263 Tryz.ntmps263 ?_;refine Ja (Jc (zE (Jb (Ja (Jc (zR 6 ?_))))));obtain ⟨r1,h1,h⟩:=Je h;refine zP (Jg5 _ _ r1 h1) (zE (Jb (Jm ?_)));cases h;exact zQ
def Ga (x49:Jh) (x51:(List Jh)):Int→Option (Int⊕(Unit⊕(Unit⊕(Int⊕(Unit⊕Bool))))):=fun x53 =>
 bif decide (x53<((x51.length:Nat):Int)) then (
  (ixO x51 x53).bind fun x55 =>
  bif decide (x55.El=x49.El) then (
   some (.inr (.inr (.inr (.inr (.inr false)))))
  ) else (
   some (.inl (w64 (x53+1)))
  )
 ) else (
  some (.inr (.inl ()))
 )
def Nc (a0:Jd) (a1:(List Jh)) (r2:Jd):Int→Option (Int⊕(Unit⊕Bool)):=fun x21 =>
 bif decide (x21<((a1.length:Nat):Int)) then (
  onInl (α:=Unit) (β:=(Int⊕(Unit⊕Bool))) (
   (ixO a1 x21).bind fun x49 =>
   (Ef a0 x49).bind fun r50 =>
   bif (!r50.2) then (
    some (.inr (.inr (.inr false)))
   ) else (
    (slO a1 none (some x21) none).bind fun x51 =>
    onInl (α:=Unit) (β:=(Unit⊕(Int⊕(Unit⊕Bool)))) (Ki (Ga x49 x51) 0) fun _ =>
    bif decide (x21=0) then (
     some (.inl ())
    ) else (
     (ixO a1 (w64 (x21 - 1))).bind fun x56 =>
     (Cy x56 r2).bind fun r57 =>
     bif (((!r57.2)||(!(decide (r57.1.El=x49.El))))||(!(decide (r57.1.Side=x49.In)))) then (
      some (.inr (.inr (.inr false)))
     ) else (
      some (.inl ())
     )
    )
   )
  ) fun _ =>
  some (.inl (w64 (x21+1)))
 ) else (
  some (.inr (.inl ()))
 )
def Cf (a0:Jd) (a1:(List Jh)):Option Bool :=
 ((bif decide (((a1.length:Nat):Int)=0) then some true else (
  some (decide (64<((a1.length:Nat):Int)))
 )):Option Bool).bind fun b1 =>
 bif b1 then (
  some false
 ) else (
  (Mq a0).bind fun r2 =>
  onInl (α:=Unit) (β:=Bool) (Ki (Nc a0 a1 r2) 0) fun _ =>
  some true
 )
theorem Ii (a0:Jd) (a1:(List Jh)) (r:Bool) (h:Cf a0 a1=some r):Kg Tryz.prog GlS 146 [Enc.pv a0,Enc.pv a1] (Enc.pv r):=by
 unfold Cf at h;refine zC Tryz.func146 Tryz.ntmps146 ?_;refine Ja (Jc (zE (Jb (Ja (Ja (Jc (zR 1 ?_)))))));refine zL (L:=a1) ?_;obtain ⟨b1,h1,h⟩:=Je h;refine zR 2 ?_;refine Ko 4 21 (.bool b1) ?_ ?_
 ·rcases Ji h1 with ⟨hb,h1⟩|⟨hb,h1⟩
  ·refine zS 17 hb ?_;cases h1;exact zF
  refine zS 17 hb (zR 1 ?_);refine zL (L:=a1) ?_;cases h1;exact zF
 refine zN (Jb ?_);rcases Ji h with ⟨hb,h⟩|⟨hb,h⟩
 ·refine zT hb (Ja (Jc (zE (Jb (Jm (Jj ?_))))));cases h;exact zQ
 refine zU hb (Jg (Jb (Ja (Jc (zR 1 ?_)))));obtain ⟨r2,h2,h⟩:=Je h;refine zP (Jir _ r2 h2) (zE (Jb (Ja (Ja (Jc (zR 1 ?_))))));refine zL (L:=a1) ?_;refine zE (Jb (Jl ?_));obtain ⟨o98,h98,h⟩:=Kf h;refine zA 82 0 (fun x21=>⟨[(1,Jk .frozen a1),(2,.ref 2 0),(5,.fn 263 [.cptr (cellsOf r2)]),(24,Jk .frozen a1),(25,I6 ((a1.length:Nat):Int)),(26,I6 x21)],[(2,.cells (cellsOf a0))],[],[]⟩) (fun (_:Unit)=>⟨[],[],[],[]⟩) h98 ?_ ?_
 ·rintro x21 oh97 h97;unfold Nc at h97;refine Ja (Jc (zE (Jb (Ja ?_))));rcases Ji h97 with ⟨hb,h97⟩|⟨hb,h97⟩
  ·refine zT hb (Jg (Jb ?_));obtain ⟨o122,h122,h97⟩:=Kf h97;refine Qm (o:=o122) 82 (fun (_:Unit)=>⟨[(1,Jk .frozen a1),(2,.ref 2 0),(5,.fn 263 [.cptr (cellsOf r2)]),(24,Jk .frozen a1),(25,I6 ((a1.length:Nat):Int)),(26,I6 x21)],[(2,.cells (cellsOf a0))],[],[]⟩) ?_ ?_
   ·refine Jl (Ja (Jc (zR 1 ?_)));obtain ⟨x49,h123,h122⟩:=Je h122;refine zI h123 (zE (Jb (Ja (Ja (Jc (zR 2 ?_))))));obtain ⟨r50,h124,h122⟩:=Je h122;refine zP (Jhg _ _ r50 h124) (zE (Jb (Ja (Jc (zE (Jb ?_))))));rcases Ji h122 with ⟨hb,h122⟩|⟨hb,h122⟩
    ·refine zT hb (Ja (Jc (zE (Jb (Jm (Jj (Jp ?_)))))));cases h122;refine Oc ?_;have h125:=Km h97;cases h125;refine Kc fun he=>?_;subst he;have h126:=Km h;refine Jp (Jj ?_);cases h126;exact zQ
    refine zU hb (Jg (Jb (Ja (Ja (Jc (zR 2 ?_))))));obtain ⟨x51,h127,h122⟩:=Je h122;refine Jzi h127 .frozen (by kernel_rfl) (by kernel_rfl) (by kernel_rfl) ?_;refine zL (L:=x51) ?_;refine zE (Jb (Jl ?_));obtain ⟨o137,h137,h122⟩:=Kf h122;refine zA 82 2 (fun x53=>⟨[(1,Jk .frozen a1),(2,.ref 2 0),(5,.fn 263 [.cptr (cellsOf r2)]),(6,I6 x21),(7,.ref 7 0),(24,Jk .frozen a1),(25,I6 ((a1.length:Nat):Int)),(26,I6 x21),(41,Jk .frozen x51),(42,I6 ((x51.length:Nat):Int)),(43,I6 x53)],[(2,.cells (cellsOf a0)),(7,.cells (cellsOf x49))],[],[]⟩) (fun (_:Unit)=>⟨[(1,Jk .frozen a1),(2,.ref 2 0),(5,.fn 263 [.cptr (cellsOf r2)]),(6,I6 x21),(7,.ref 7 0),(24,Jk .frozen a1),(25,I6 ((a1.length:Nat):Int)),(26,I6 x21)],[(2,.cells (cellsOf a0)),(7,.cells (cellsOf x49))],[],[]⟩) h137 ?_ ?_
    ·rintro x53 oh136 h136;unfold Ga at h136;refine Ja (Jc (zE (Jb (Ja ?_))));rcases Ji h136 with ⟨hb,h136⟩|⟨hb,h136⟩
     ·refine zT hb (Jg (Jb (Ja (Jl (Ja (Jc ?_))))));obtain ⟨x55,h138,h136⟩:=Je h136;refine zI h138 (zE (Jb (Ja (Jc (zE (Jb ?_))))));rcases Ji h136 with ⟨hb,h136⟩|⟨hb,h136⟩
      ·refine zT hb (Ja (Jc (zE (Jb (Jm (Jp (Jj ?_)))))));cases h136;refine Kc fun he=>?_;subst he;have h139:=Km h122;refine Jp (Jj (Jp ?_));cases h139;refine Oc ?_;have h140:=Km h97;cases h140;refine Kc fun he=>?_;subst he;have h141:=Km h;refine Jp (Jj ?_);cases h141;exact zQ
      refine zU hb (Jg (Jx (Jb (Jc (zE ?_)))));cases h136;exact zB
     refine zU hb (Jv (Jt ?_));cases h136;exact zX
    rintro _ s' rfl hs;have h122:=Ka h122;refine Jr (Jb (Jy hs (Ja (Ja (Jc (zE (Jb ?_)))))));rcases Ji h122 with ⟨hb,h122⟩|⟨hb,h122⟩
    ·refine zT hb (Jv (Jt (Jr ?_)));cases h122;exact zJ
    refine zU hb (Jg (Jb (Ja (Jc (zR 4 ?_)))));obtain ⟨x56,h142,h122⟩:=Je h122;refine zI h142 (zR 1 ?_);obtain ⟨r57,h143,h122⟩:=Je h122;refine zP (Jf3 _ _ r57 h143) (zE (Jb (Ja (Jc (zR 3 ?_)))));refine Ks 6 73 ((!r57.2)||(!(decide (r57.1.El=x49.El)))) (fun x hx=>?_) ?_
    ·rcases Vi hx with ⟨hb,hx⟩|⟨hb,hx⟩
     ·refine zS 67 hb ?_;subst hx;exact zF
     refine zS 67 hb ?_;subst hx;exact zF
    refine zR 1 ?_;refine Ks 6 80 (((!r57.2)||(!(decide (r57.1.El=x49.El))))||(!(decide (r57.1.Side=x49.In)))) (fun x hx=>?_) ?_
    ·rcases Vi hx with ⟨hb,hx⟩|⟨hb,hx⟩
     ·refine zS 74 hb ?_;subst hx;exact zF
     refine zS 74 hb ?_;subst hx;exact zF
    refine zN (Jb ?_);rcases Ji h122 with ⟨hb,h122⟩|⟨hb,h122⟩
    ·refine zT hb (Ja (Jc (zE (Jb (Jm (Jp ?_))))));cases h122;refine Oc ?_;have h144:=Km h97;cases h144;refine Kc fun he=>?_;subst he;have h145:=Km h;refine Jp (Jj ?_);cases h145;exact zQ
    refine zU hb (Jg (Jx ?_));cases h122;exact zJ
   rintro _ rfl;have h97:=Ka h97;refine Jc (zE ?_);cases h97;exact zB
  refine zU hb (Jv (Jt ?_));cases h97;exact zX
 rintro _ s' rfl hs;have h:=Ka h;refine Jr (Jb (Jy hs (Ja (Jc (zE (Jb (Jm ?_)))))));cases h;exact zQ
def Xu (a0:Kh):Option Jh :=
 (ixO a0.Steps (w64 (((a0.Steps.length:Nat):Int) - 1))).bind fun x1 =>
 some x1
theorem Jnj (a0:Kh) (r:Jh) (h:Xu a0=some r):Kg Tryz.prog GlS 147 [Enc.pv a0] (Enc.pv r):=by
 unfold Xu at h;refine zC Tryz.func147 Tryz.ntmps147 ?_;refine Ja (Jc (zE (Jb (Ja (Jc (zR 4 ?_))))));refine zL (L:=a0.Steps) ?_;refine zR 1 ?_;obtain ⟨x1,h1,h⟩:=Je h;refine zI h1 (zE (Jb (Jm ?_)));cases h;exact zQ
def Ei (a0:Jd) (a1:(List Jh)):(Int×Int)→Option ((Int×Int)⊕(Int⊕Int)):=fun (x8,x9) =>
 bif decide (x9<((a1.length:Nat):Int)) then (
  onInl (α:=Int) (β:=((Int×Int)⊕(Int⊕Int))) (
   (ixO a1 x9).bind fun x22 =>
   (Zh a0 x22.El).bind fun r23 =>
   bif r23 then (
    (ixO a0.Elements x22.El).bind fun x24 =>
    some (.inl (w64 (x8+x24.Length)))
   ) else (
    some (.inl x8)
   )
  ) fun x21 =>
  some (.inl (x21,w64 (x9+1)))
 ) else (
  some (.inr (.inl x8))
 )
def Cm (a0:Jd) (a1:(List Jh)):Option Int :=
 onInl (α:=Int) (β:=Int) (Ki (Ei a0 a1) (0,0)) fun x17 =>
 some x17
theorem Om (a0:Jd) (a1:(List Jh)) (r:Int) (h:Cm a0 a1=some r):Kg Tryz.prog GlS 74 [Enc.pv a0,Enc.pv a1] (Enc.pv r):=by
 unfold Cm at h;refine zC Tryz.func74 Tryz.ntmps74 ?_;refine Ja (Jc (zE (Jb (Ja (Jc (zE (Jb (Ja (Ja (Jc (zR 1 ?_)))))))))));refine zL (L:=a1) ?_;refine zE (Jb (Jl ?_));obtain ⟨o16,h16,h⟩:=Kf h;refine zA 29 0 (fun (x8,x9)=>⟨[(2,.ref 2 0),(5,I6 x8),(8,Jk .frozen a1),(9,I6 ((a1.length:Nat):Int)),(10,I6 x9)],[(2,.cells (cellsOf a0))],[],[]⟩) (fun x17=>⟨[(5,I6 x17)],[],[],[]⟩) h16 ?_ ?_
 ·rintro ⟨x8,x9⟩ oh15 h15;unfold Ei at h15;refine Ja (Jc (zE (Jb (Ja ?_))));rcases Ji h15 with ⟨hb,h15⟩|⟨hb,h15⟩
  ·refine zT hb (Jg (Jb ?_));obtain ⟨o20,h20,h15⟩:=Kf h15;refine Qm (o:=o20) 29 (fun x21=>⟨[(2,.ref 2 0),(5,I6 x21),(8,Jk .frozen a1),(9,I6 ((a1.length:Nat):Int)),(10,I6 x9)],[(2,.cells (cellsOf a0))],[],[]⟩) ?_ ?_
   ·refine Jl (Ja (Jc ?_));obtain ⟨x22,h21,h20⟩:=Je h20;refine zI h21 (zE (Jb (Ja (Jc (zR 3 ?_)))));obtain ⟨r23,h22,h20⟩:=Je h20;refine zP (Og _ _ r23 h22) (zN (Jb ?_));rcases Ji h20 with ⟨hb,h20⟩|⟨hb,h20⟩
    ·refine zT hb (Jc (zR 5 ?_));obtain ⟨x24,h23,h20⟩:=Je h20;refine zI h23 (zE (Jx ?_));cases h20;exact zJ
    refine zU hb (Jg (Jx ?_));cases h20;exact zJ
   rintro x21 rfl;have h15:=Ka h15;refine Jc (zE ?_);cases h15;exact zB
  refine zU hb (Jv (Jt ?_));cases h15;exact zX
 rintro x17 s' rfl hs;have h:=Ka h;refine Jr (Jb (Jy hs (Ja (Jc (zE (Jb (Jm ?_)))))));cases h;exact zQ
def Fr (a0:Jd) (a1:Kh):Option Int :=
 (slO a1.Steps none (some (w64 (((a1.Steps.length:Nat):Int) - 1))) none).bind fun x1 =>
 (Cm a0 x1).bind fun r2 =>
 some (w64 ((w64 (r2+a1.Head)) - a1.Length))
theorem Ji1 (a0:Jd) (a1:Kh) (r:Int) (h:Fr a0 a1=some r):Kg Tryz.prog GlS 148 [Enc.pv a0,Enc.pv a1] (Enc.pv r):=by
 unfold Fr at h;refine zC Tryz.func148 Tryz.ntmps148 ?_;refine Ja (Jc (zE (Jb (Ja (zD (zR 5 ?_))))));refine zL (L:=a1.Steps) ?_;refine zR 1 ?_;obtain ⟨x1,h1,h⟩:=Je h;refine Jzi h1 .frozen (by kernel_rfl) (by kernel_rfl) (by kernel_rfl) ?_;obtain ⟨r2,h2,h⟩:=Je h;refine zP (Om _ _ r2 h2) (zE (Jb (Ja (Jc (zE (Jb (Jm ?_)))))));cases h;exact zQ
def Gx (a0:Jd) (a1:Kh):Option Int :=
 (Cf a0 a1.Steps).bind fun r1 =>
 ((bif ((((!r1)||(decide (a1.Length<1)))||(decide (1000000<a1.Length)))||(decide (a1.Head<1))) then some true else (
  (Xu a1).bind fun r3 =>
  (ixO a0.Elements r3.El).bind fun x4 =>
  some (decide (x4.Length<a1.Head))
 )):Option Bool).bind fun b2 =>
 bif b2 then (
  some 1
 ) else (
  (Fr a0 a1).bind fun r5 =>
  ((bif decide (r5<0) then some true else (
   ((bif decide (1<((a1.Steps.length:Nat):Int)) then (
    (ixO a1.Steps 0).bind fun x8 =>
    (ixO a0.Elements x8.El).bind fun x9 =>
    some (decide (x9.Length≤r5))
   ) else some false):Option Bool).bind fun b7 =>
   some b7
  )):Option Bool).bind fun b6 =>
  bif b6 then (
   some 10
  ) else (
   some 0
  )
 )
theorem Jlv (a0:Jd) (a1:Kh) (r:Int) (h:Gx a0 a1=some r):Kg Tryz.prog GlS 72 [Enc.pv a0,Enc.pv a1] (Enc.pv r):=by
 unfold Gx at h;refine zC Tryz.func72 Tryz.ntmps72 ?_;refine Ja (Jc (zE (Jb (Ja (Ja (zD (zR 3 ?_)))))));obtain ⟨r1,h1,h⟩:=Je h;refine zP (Ii _ _ r1 h1) (zR 2 ?_);refine Ks 4 15 ((!r1)||(decide (a1.Length<1))) (fun x hx=>?_) ?_
 ·rcases Vi hx with ⟨hb,hx⟩|⟨hb,hx⟩
  ·refine zS 11 hb ?_;subst hx;exact zF
  refine zS 11 hb ?_;subst hx;exact zF
 refine zR 1 ?_;refine Ks 4 20 (((!r1)||(decide (a1.Length<1)))||(decide (1000000<a1.Length))) (fun x hx=>?_) ?_
 ·rcases Vi hx with ⟨hb,hx⟩|⟨hb,hx⟩
  ·refine zS 16 hb ?_;subst hx;exact zF
  refine zS 16 hb ?_;subst hx;exact zF
 refine zR 1 ?_;refine Ks 4 25 ((((!r1)||(decide (a1.Length<1)))||(decide (1000000<a1.Length)))||(decide (a1.Head<1))) (fun x hx=>?_) ?_
 ·rcases Vi hx with ⟨hb,hx⟩|⟨hb,hx⟩
  ·refine zS 21 hb ?_;subst hx;exact zF
  refine zS 21 hb ?_;subst hx;exact zF
 obtain ⟨b2,h2,h⟩:=Je h;refine zR 1 ?_;refine Ko 12 38 (.bool b2) ?_ ?_
 ·rcases Ji h2 with ⟨hb,h2⟩|⟨hb,h2⟩
  ·refine zS 26 hb ?_;cases h2;exact zF
  refine zS 26 hb (zR 5 ?_);obtain ⟨r3,h3,h2⟩:=Je h2;refine zP (Jnj _ r3 h3) (zR 1 ?_);obtain ⟨x4,h4,h2⟩:=Je h2;refine zI h4 ?_;cases h2;exact zF
 refine zN (Jb ?_);rcases Ji h with ⟨hb,h⟩|⟨hb,h⟩
 ·refine zT hb (Ja (Jc (zE (Jb (Jm (Jj ?_))))));cases h;exact zQ
 refine zU hb (Jg (Jb (Ja (Jc (zR 2 ?_)))));obtain ⟨r5,h5,h⟩:=Je h;refine zP (Ji1 _ _ r5 h5) (zE (Jb (Ja (Ja (zD ?_)))));obtain ⟨b6,h6,h⟩:=Je h;refine zR 3 ?_;refine Ko 19 63 (.bool b6) ?_ ?_
 ·rcases Ji h6 with ⟨hb,h6⟩|⟨hb,h6⟩
  ·refine zS 44 hb ?_;cases h6;exact zF
  refine zS 44 hb (zR 2 ?_);refine zL (L:=a1.Steps) ?_;obtain ⟨b7,h7,h6⟩:=Je h6;refine zR 2 ?_;refine Js8 13 62 (.bool b7) ?_ ?_
  ·rcases Ji h7 with ⟨hb,h7⟩|⟨hb,h7⟩
   ·refine zS 49 hb (zR 5 ?_);obtain ⟨x8,h8,h7⟩:=Je h7;refine zI h8 (zR 2 ?_);obtain ⟨x9,h9,h7⟩:=Je h7;refine zI h9 ?_;cases h7;exact zF
   refine zS 49 hb ?_;cases h7;exact zF
  cases h6;exact zF
 refine zN (Jb ?_);rcases Ji h with ⟨hb,h⟩|⟨hb,h⟩
 ·refine zT hb (Ja (Jc (zE (Jb (Jm (Jj ?_))))));cases h;exact zQ
 refine zU hb (Jg (Jb (Ja (Jc (zE (Jb (Jm ?_)))))));cases h;exact zQ
def Ec (a0:Jd) (a1:Jh):Option Int :=
 (Cm a0 [a1]).bind fun r1 =>
 some r1
theorem Tx (a0:Jd) (a1:Jh) (r:Int) (h:Ec a0 a1=some r):Kg Tryz.prog GlS 75 [Enc.pv a0,Enc.pv a1] (Enc.pv r):=by
 unfold Ec at h;refine zC Tryz.func75 Tryz.ntmps75 ?_;refine Ja (Jc (zE (Jb (Ja (Jc (zR 3 ?_))))));obtain ⟨r1,h1,h⟩:=Je h;refine zP (Om _ _ r1 h1) (zE (Jb (Jm ?_)));cases h;exact zQ
def Ql (a0:(List Jh)):Option (List Jh) :=
 (Ul ([]:(List Jh)) a0).bind fun x1 =>
 some x1
theorem Uj (a0:(List Jh)) (r:(List Jh)) (h:Ql a0=some r):Kg Tryz.prog GlS 76 [Enc.pv a0] (Jk (.own 7) r):=by
 unfold Ql at h;refine zC Tryz.func76 Tryz.ntmps76 ?_;refine Ja (Jc (zE (Jb (Ja (Ja (Jc (zE (Jb ?_))))))));refine Sz (e:=(a0.map cellsOf).isEmpty) (by kernel_rfl) (fun hub=>?_) ?_
 ·have hN:=Sy (Jkk hub) h;refine Ja (Jc (zE (Jb (Yz 2 7 3 24 (by kernel_rfl) (by kernel_rfl) (Jm (Jj ?_))))));cases hN;exact zQ
 refine Jg (Jb (Ja (Jc (zR 2 ?_))));obtain ⟨x1,h1,h⟩:=Je h;refine Tj (tk:=7) h1 (by kernel_rfl) ?_;refine zE (Jb (Jm ?_));cases h;exact zQ
theorem Tf (a0:(List Jh)) (r:(List Jh)) (h:Ql a0=some r):Kg Tryz.prog GlS 76 [Enc.pv a0] (Enc.pv r) :=
 (Uj a0 r h).freeze (by kernel_rfl) (by kernel_rfl) (by kernel_rfl)
def Ye (a0:Jd) (a1:Kk) (a2:Kh):Option (Jq×Int) :=
 (Df a0).bind fun r1 =>
 ((bif (!(decide (r1=0))) then some true else (
  (Ev a1).bind fun r3 =>
  some (!(decide (r3=0)))
 )):Option Bool).bind fun b2 =>
 ((bif b2 then some true else (
  (Gx a0 a2).bind fun r5 =>
  some (!(decide (r5=0)))
 )):Option Bool).bind fun b4 =>
 ((bif (b4||(!(decide (a2.Length=a1.Length)))) then some true else (
  some (decide (((a2.Steps.length:Nat):Int)=0))
 )):Option Bool).bind fun b6 =>
 bif b6 then (
  some ((Jq.mk 0 0 0 0 [] [] [] [] [] 0 0 0 0 0),1)
 ) else (
  (ixO a2.Steps (w64 (((a2.Steps.length:Nat):Int) - 1))).bind fun x7 =>
  (Yu a0 (Jo.mk x7.El x7.Out)).bind fun r8 =>
  bif decide (r8<0) then (
   some ((Jq.mk 0 0 0 0 [] [] [] [] [] 0 0 0 0 0),9)
  ) else (
   (slO a2.Steps none (some (w64 (((a2.Steps.length:Nat):Int) - 1))) none).bind fun x9 =>
   (Cm a0 x9).bind fun r10 =>
   (Ec a0 x7).bind fun r11 =>
   (Ql a2.Steps).bind fun r12 =>
   some ((Jq.mk a1.Id (w64 ((w64 (0 - r10)) - a2.Head)) r8 (w64 (r11 - a2.Head)) r12 [] [] [] [] 0 0 0 0 0),0)
  )
 )
theorem Jit (a0:Jd) (a1:Kk) (a2:Kh) (r:(Jq×Int)) (h:Ye a0 a1 a2=some r):Kg Tryz.prog GlS 30 [Enc.pv a0,Enc.pv a1,Enc.pv a2] (.tup [Enc.pv r.1,Enc.pv r.2]):=by
 unfold Ye at h;refine zC Tryz.func30 Tryz.ntmps30 ?_;refine Ja (Jc (zE (Jb (Ja (Ja (Jc (zR 1 ?_)))))));obtain ⟨r1,h1,h⟩:=Je h;refine zP (Jh0 _ r1 h1) ?_;obtain ⟨b2,h2,h⟩:=Je h;refine zR 2 ?_;refine Ko 4 18 (.bool b2) ?_ ?_
 ·rcases Ji h2 with ⟨hb,h2⟩|⟨hb,h2⟩
  ·refine zS 14 hb ?_;cases h2;exact zF
  refine zS 14 hb (zR 1 ?_);obtain ⟨r3,h3,h2⟩:=Je h2;refine zP (Jjt _ r3 h3) ?_;cases h2;exact zF
 obtain ⟨b4,h4,h⟩:=Je h;refine zR 1 ?_;refine Ko 5 24 (.bool b4) ?_ ?_
 ·rcases Ji h4 with ⟨hb,h4⟩|⟨hb,h4⟩
  ·refine zS 19 hb ?_;cases h4;exact zF
  refine zS 19 hb (zR 2 ?_);obtain ⟨r5,h5,h4⟩:=Je h4;refine zP (Jlv _ _ r5 h5) ?_;cases h4;exact zF
 refine zR 1 ?_;refine Ks 6 31 (b4||(!(decide (a2.Length=a1.Length)))) (fun x hx=>?_) ?_
 ·rcases Vi hx with ⟨hb,hx⟩|⟨hb,hx⟩
  ·refine zS 25 hb ?_;subst hx;exact zF
  refine zS 25 hb ?_;subst hx;exact zF
 obtain ⟨b6,h6,h⟩:=Je h;refine zR 1 ?_;refine Ko 5 37 (.bool b6) ?_ ?_
 ·rcases Ji h6 with ⟨hb,h6⟩|⟨hb,h6⟩
  ·refine zS 32 hb ?_;cases h6;exact zF
  refine zS 32 hb (zR 2 ?_);refine zL (L:=a2.Steps) ?_;cases h6;exact zF
 refine zN (Jb ?_);rcases Ji h with ⟨hb,h⟩|⟨hb,h⟩
 ·refine zT hb (Ja (Jc (zE (Jb (Jm (Jj ?_))))));cases h;exact zQ
 refine zU hb (Jg (Jb (Ja (Jc (zR 2 ?_)))));refine zL (L:=a2.Steps) ?_;refine zE (Jb (Ja (Jc (zR 3 ?_))));obtain ⟨x7,h7,h⟩:=Je h;refine zI h7 (zE (Jb (Ja (Jc (zR 6 ?_)))));obtain ⟨r8,h8,h⟩:=Je h;refine zP (Td _ _ r8 h8) (zE (Jb (Ja (Ja (Jc (zE (Jb ?_)))))));rcases Ji h with ⟨hb,h⟩|⟨hb,h⟩
 ·refine zT hb (Ja (Jc (zE (Jb (Jm (Jj ?_))))));cases h;exact zQ
 refine zU hb (Jg (Jb (Ja (zD (zR 6 ?_)))));obtain ⟨x9,h9,h⟩:=Je h;refine Jzi h9 .frozen (by kernel_rfl) (by kernel_rfl) (by kernel_rfl) ?_;obtain ⟨r10,h10,h⟩:=Je h;refine zP (Om _ _ r10 h10) (zR 7 ?_);obtain ⟨r11,h11,h⟩:=Je h;refine zP (Tx _ _ r11 h11) (zR 5 ?_);obtain ⟨r12,h12,h⟩:=Je h;refine zP (Tf _ r12 h12) (zE (Jb (Jm ?_)));cases h;exact zQ
def Hx (a0:Int) (a1:Int):Option Kb :=
 some (Kb.mk a0 0 0 a1)
theorem Jjs (a0:Int) (a1:Int) (r:Kb) (h:Hx a0 a1=some r):Kg Tryz.prog GlS 31 [Enc.pv a0,Enc.pv a1] (Enc.pv r):=by
 unfold Hx at h;refine zC Tryz.func31 Tryz.ntmps31 ?_;refine Ja (Jc (zE (Jb (Ja (Jc (zE (Jb (Jm ?_))))))));cases h;exact zQ
def Fh (a0:Jd) (a1:(List Jh)):(Int×(List (Int×Bool))×(List Int))→Option ((Int×(List (Int×Bool))×(List Int))⊕((List Int)⊕(List Int))):=fun (x23,x24,x25) =>
 bif decide (x23<((a1.length:Nat):Int)) then (
  onInl (α:=((List Int)×(List (Int×Bool)))) (β:=((Int×(List (Int×Bool))×(List Int))⊕((List Int)⊕(List Int)))) (
   (ixO a1 x23).bind fun x43 =>
   (Zh a0 x43.El).bind fun r44 =>
   bif (!r44) then (
    some (.inl (x25,x24))
   ) else (
    (ixO a0.Elements x43.El).bind fun x45 =>
    bif (!((Uo (x24:(List (Int×Bool))) x45.Section).getD false)) then (
     (Ul x25 [x45.Section]).bind fun x46 =>
     some (.inl (x46,(Dj x45.Section true x24)))
    ) else (
     some (.inl (x25,x24))
    )
   )
  ) fun (x41,x42) =>
  some (.inl (w64 (x23+1),x42,x41))
 ) else (
  some (.inr (.inl x25))
 )
def Jc1 (a0:Jd) (a1:(List Jh)):Option (List Int) :=
 onInl (α:=(List Int)) (β:=(List Int)) (Ki (Fh a0 a1) (0,([]:(List (Int×Bool))),([]:(List Int)))) fun x36 =>
 some x36
def Sg (a0:Jd) (a1:(List Jh)):(Int×(List (Int×Bool))×(List Int))→Option ((Int×(List (Int×Bool))×(List Int))⊕((List Int)⊕(List Int))):=fun (x23,x24,x25) =>
 bif decide (x23<((a1.length:Nat):Int)) then (
  onInl (α:=((List Int)×(List (Int×Bool)))) (β:=((Int×(List (Int×Bool))×(List Int))⊕((List Int)⊕(List Int)))) (
   (ixO a1 x23).bind fun x43 =>
   (Zh a0 x43.El).bind fun r44 =>
   bif (!r44) then (
    some (.inl (x25,x24))
   ) else (
    (ixO a0.Elements x43.El).bind fun x45 =>
    bif (!((Uo (x24:(List (Int×Bool))) x45.Section).getD false)) then (
     (Ul x25 [x45.Section]).bind fun x46 =>
     some (.inl (x46,(Dj x45.Section true x24)))
    ) else (
     some (.inl (x25,x24))
    )
   )
  ) fun (x41,x42) =>
  some (.inl (w64 (x23+1),x42,x41))
 ) else (
  some (.inr (.inl x25))
 )
def Fe (a0:Jd) (a1:(List Jh)):Option (List Int) :=
 onInl (α:=(List Int)) (β:=(List Int)) (Ki (Sg a0 a1) (0,([]:(List (Int×Bool))),([]:(List Int)))) fun x36 =>
 some x36
theorem Jf7 (a0:Jd) (a1:(List Jh)) (r:(List Int)) (h:Fe a0 a1=some r):Jmi Tryz.prog GlS 77 [Enc.pv a0,Enc.pv a1] 1 8 (r.map cellsOf):=by
 unfold Fe at h;refine Jaz Tryz.func77 (by rfl) rfl Tryz.ntmps77 (by rfl) rfl ?_;refine Ja (Jc (zE (Jb (Ja (Jc (zE (Jb (Ja (Jc (zE (Jb (Ja (Ja (Jc (zR 1 ?_)))))))))))))));refine zL (L:=a1) ?_;refine zE (Jb (Jl (Jy (Jh8 5 100005 1 8 (by kernel_rfl) (by kernel_rfl)) ?_)));obtain ⟨o29,h29,h⟩:=Kf h;refine zA 41 0 (fun (x23,x24,x25)=>⟨[(2,.ref 2 0),(5,.ex 100005 1 8 ((x25.map cellsOf).length) 0 ((x25.map cellsOf).length)),(6,.mp 10),(11,Jk .frozen a1),(12,I6 ((a1.length:Nat):Int)),(13,I6 x23)],[(2,.cells (cellsOf a0)),(10,.map (Wc x24))],[(100005,((x25.map cellsOf).length,0))],[(100005,(1,(8,x25.map cellsOf)))]⟩) (fun x36=>⟨[(5,.ex 100005 1 8 ((x36.map cellsOf).length) 0 ((x36.map cellsOf).length))],[],[(100005,((x36.map cellsOf).length,0))],[(100005,(1,(8,x36.map cellsOf)))]⟩) h29 ?_ ?_
 ·rintro ⟨x23,x24,x25⟩ oh28 h28;unfold Sg at h28;refine Ja (Jc (zE (Jb (Ja ?_))));rcases Ji h28 with ⟨hb,h28⟩|⟨hb,h28⟩
  ·refine zT hb (Jg (Jb ?_));obtain ⟨o34,h34,h28⟩:=Kf h28;refine Qm (o:=o34) 41 (fun (x41,x42)=>⟨[(2,.ref 2 0),(5,.ex 100005 1 8 ((x41.map cellsOf).length) 0 ((x41.map cellsOf).length)),(6,.mp 10),(11,Jk .frozen a1),(12,I6 ((a1.length:Nat):Int)),(13,I6 x23)],[(2,.cells (cellsOf a0)),(10,.map (Wc x42))],[(100005,((x41.map cellsOf).length,0))],[(100005,(1,(8,x41.map cellsOf)))]⟩) ?_ ?_
   ·refine Jl (Ja (Jc ?_));obtain ⟨x43,h35,h34⟩:=Je h34;refine zI h35 (zE (Jb (Ja (Ja (Jc (zR 3 ?_))))));obtain ⟨r44,h36,h34⟩:=Je h34;refine zP (Og _ _ r44 h36) (zE (Jb ?_));rcases Ji h34 with ⟨hb,h34⟩|⟨hb,h34⟩
    ·refine zT hb (Jv (Jt (Jr ?_)));cases h34;exact zJ
    refine zU hb (Jg (Jb (Ja (Jc (zR 4 ?_)))));obtain ⟨x45,h37,h34⟩:=Je h34;refine zI h37 (zE (Jb (Ja (Jc (zR 2 ?_)))));refine Jdz (m:=x24) (k:=x45.Section) false 10 (by kernel_rfl) (by kernel_rfl) ?_;refine zE (Jb ?_);rcases Ji h34 with ⟨hb,h34⟩|⟨hb,h34⟩
    ·refine zT hb (Ja (Jc (zR 2 ?_)));refine Jg6 (m:=x24) (k:=x45.Section) (v:=true) 10 (by kernel_rfl) (by kernel_rfl) (by kernel_rfl) ?_;refine zN (Jb (Jc (zR 3 ?_)));obtain ⟨x46,h38,h34⟩:=Je h34;refine Juq (tk:=100005) (N:=(x25.map cellsOf).length) h38 (by kernel_rfl) (by kernel_rfl) (by kernel_rfl) ?_;refine zE (Jx ?_);cases h34;exact zJ
    refine zU hb (Jg (Jx ?_));cases h34;exact zJ
   rintro ⟨x41,x42⟩ rfl;have h28:=Ka h28;refine Jc (zE ?_);cases h28;exact zB
  refine zU hb (Jv (Jt ?_));cases h28;exact zX
 rintro x36 s' rfl hs;have h:=Ka h;refine Jr (Jb (Jy hs (Ja (Jc (zE (Jb (Jm ?_)))))));have hq:=Option.some.inj h;subst hq;exact Jnl 100005 ((x36.map cellsOf).length) (by kernel_rfl)
def Nq (a0:(List Int)):Option (List Int):=some (a0.mergeSort fun x y=>decide (x≤y))
theorem Jer (a0:(List Int)) (r:(List Int)) (h:Nq a0=some r):Pl Tryz.prog GlS 78 1 8 (a0.map cellsOf) [] none (r.map cellsOf):=by
 cases h;exact Jth Tryz.sort78 ⟨_,Tryz.func78,rfl,rfl⟩ a0
def Ed (a0:Jd) (a1:Kh):Option (List Int) :=
 (Fe a0 a1.Steps).bind fun r1 =>
 (Nq r1).bind fun r2 =>
 some r2
theorem Jgr (a0:Jd) (a1:Kh) (r:(List Int)) (h:Ed a0 a1=some r):Kg Tryz.prog GlS 32 [Enc.pv a0,Enc.pv a1] (Enc.pv r):=by
 unfold Ed at h;refine zC Tryz.func32 Tryz.ntmps32 ?_;refine Ja (Jc (zE (Jb (Ja (Jc (zR 3 ?_))))));obtain ⟨r1,h1,h⟩:=Je h;refine Jmg (α:=Int) 9 (Jf7 _ _ r1 h1) (by kernel_rfl) (by kernel_rfl) ?_;refine zE (Jb (Ja (Jc (zR 1 ?_))));obtain ⟨r2,h2,h⟩:=Je h;refine Gr (t:=9) (L:=r1) (L':=r2) (N:=(r1.map cellsOf).length) (by kernel_rfl) (by kernel_rfl) (by kernel_rfl) (Jer _ r2 h2) ?_;refine zN (Jb (Ja (Jc (zE (Jb ?_)))));refine Jy (Gt (xss:=r2.map cellsOf) 9 1 8 ((r1.map cellsOf).length) [4,5,9,10,12] [] (by kernel_rfl) (by kernel_rfl) (by kernel_rfl) (by kernel_rfl)) ?_;refine Jm ?_;cases h;exact zQ
def Ft (a1:(List Kk)):Int→Option (Int⊕(Unit⊕(Jz×Int))):=fun x4 =>
 bif decide (x4<((a1.length:Nat):Int)) then (
  (ixO a1 (w64 (x4 - 1))).bind fun x7 =>
  (ixO a1 x4).bind fun x8 =>
  bif decide (x8.Id≤x7.Id) then (
   some (.inr (.inr ((Jz.mk [] []),7)))
  ) else (
   some (.inl (w64 (x4+1)))
  )
 ) else (
  some (.inr (.inl ()))
 )
def Fy (a0:Jd) (a1:(List Kk)) (a2:(List Kh)):(Int×(List Jq)×(List Kb))→Option ((Int×(List Jq)×(List Kb))⊕(((List Jq)×(List Kb))⊕(Jz×Int))):=fun (x22,x23,x24) =>
 bif decide (x22<((a1.length:Nat):Int)) then (
  (ixO a1 x22).bind fun x33 =>
  (ixO a2 x22).bind fun x34 =>
  (Ye a0 x33 x34).bind fun r35 =>
  bif (!(decide (r35.2=0))) then (
   some (.inr (.inr ((Jz.mk [] []),r35.2)))
  ) else (
   (Ul x23 [r35.1]).bind fun x36 =>
   (Hx x33.Id 0).bind fun r37 =>
   (Ul x24 [r37]).bind fun x38 =>
   some (.inl (w64 (x22+1),x36,x38))
  )
 ) else (
  some (.inr (.inl (x23,x24)))
 )
def Xs (r58:(List Int)):(Int×(List (Int×Bool)))→Option ((Int×(List (Int×Bool)))⊕((List (Int×Bool))⊕((Int×(List (Int×Bool)))⊕(Unit⊕(Jz×Int))))):=fun (x60,x61) =>
 bif decide (x60<((r58.length:Nat):Int)) then (
  (ixO r58 x60).bind fun x64 =>
  bif ((Uo (x61:(List (Int×Bool))) x64).getD false) then (
   some (.inr (.inr (.inr (.inr ((Jz.mk [] []),10)))))
  ) else (
   some (.inl (w64 (x60+1),(Dj x64 true x61)))
  )
 ) else (
  some (.inr (.inl x61))
 )
def Lo (a0:Jd) (a2:(List Kh)):(Int×(List (Int×Bool)))→Option ((Int×(List (Int×Bool)))⊕(Unit⊕(Jz×Int))):=fun (x47,x48) =>
 bif decide (x47<((a2.length:Nat):Int)) then (
  (ixO a2 x47).bind fun x57 =>
  (Ed a0 x57).bind fun r58 =>
  onInl (α:=(List (Int×Bool))) (β:=((Int×(List (Int×Bool)))⊕(Unit⊕(Jz×Int)))) (Ki (Xs r58) (0,x48)) fun x63 =>
  some (.inl (w64 (x47+1),x63))
 ) else (
  some (.inr (.inl ()))
 )
def Sx (a0:Jd) (a1:(List Kk)) (a2:(List Kh)):Option (Jz×Int) :=
 ((bif ((decide (((a1.length:Nat):Int)=0))||(decide (6<((a1.length:Nat):Int)))) then some true else (
  some (!(decide (((a2.length:Nat):Int)=((a1.length:Nat):Int))))
 )):Option Bool).bind fun b1 =>
 bif b1 then (
  some ((Jz.mk [] []),1)
 ) else (
  onInl (α:=Unit) (β:=(Jz×Int)) (Ki (Ft a1) 1) fun _ =>
  onInl (α:=((List Jq)×(List Kb))) (β:=(Jz×Int)) (Ki (Fy a0 a1 a2) (0,([]:(List Jq)),([]:(List Kb)))) fun (x31,x32) =>
  onInl (α:=Unit) (β:=(Jz×Int)) (Ki (Lo a0 a2) (0,([]:(List (Int×Bool))))) fun _ =>
  some ((Jz.mk x31 x32),0)
 )
theorem Jiu (a0:Jd) (a1:(List Kk)) (a2:(List Kh)) (r:(Jz×Int)) (h:Sx a0 a1 a2=some r):Kg Tryz.prog GlS 10 [Enc.pv a0,Enc.pv a1,Enc.pv a2] (.tup [Enc.pv r.1,Enc.pv r.2]):=by
 unfold Sx at h;refine zC Tryz.func10 Tryz.ntmps10 ?_;refine Ja (Jc (zE (Jb (Ja (Jc (zR 1 ?_))))));refine zL (L:=a1) ?_;refine zE (Jb (Ja (Ja (Jc (zR 3 ?_)))));refine Ks 3 27 ((decide (((a1.length:Nat):Int)=0))||(decide (6<((a1.length:Nat):Int)))) (fun x hx=>?_) ?_
 ·rcases Vi hx with ⟨hb,hx⟩|⟨hb,hx⟩
  ·refine zS 24 hb ?_;subst hx;exact zF
  refine zS 24 hb ?_;subst hx;exact zF
 obtain ⟨b1,h1,h⟩:=Je h;refine zR 1 ?_;refine Ko 5 33 (.bool b1) ?_ ?_
 ·rcases Ji h1 with ⟨hb,h1⟩|⟨hb,h1⟩
  ·refine zS 28 hb ?_;cases h1;exact zF
  refine zS 28 hb (zR 1 ?_);refine zL (L:=a2) ?_;cases h1;exact zF
 refine zN (Jb ?_);rcases Ji h with ⟨hb,h⟩|⟨hb,h⟩
 ·refine zT hb (Ja (Jc (zE (Jb (Jm (Jj ?_))))));cases h;exact zQ
 refine zU hb (Jg (Jb (Ja (Ja (Jc (zE (Jb (Jl ?_))))))));obtain ⟨o9,h9,h⟩:=Kf h;refine zA 113 0 (fun x4=>⟨[(1,Jk .frozen a1),(2,Jk .frozen a2),(3,.ref 3 0),(6,.ref 6 0),(8,I6 ((a1.length:Nat):Int)),(9,I6 x4)],[(3,.cells (cellsOf a0)),(6,.cells ([.nil,.nil]))],[],[]⟩) (fun (_:Unit)=>⟨[(1,Jk .frozen a1),(2,Jk .frozen a2),(3,.ref 3 0),(6,.ref 6 0)],[(3,.cells (cellsOf a0)),(6,.cells ([.nil,.nil]))],[],[]⟩) h9 ?_ ?_
 ·rintro x4 oh8 h8;unfold Ft at h8;refine Ja (Ja (Jc (zE (Jb ?_))));rcases Ji h8 with ⟨hb,h8⟩|⟨hb,h8⟩
  ·refine zT hb (Jg (Jb (Ja (Jl (Ja (zD (zR 3 ?_)))))));obtain ⟨x7,h10,h8⟩:=Je h8;refine zI h10 (zR 4 ?_);obtain ⟨x8,h11,h8⟩:=Je h8;refine zI h11 (zE (Jb ?_));rcases Ji h8 with ⟨hb,h8⟩|⟨hb,h8⟩
   ·refine zT hb (Ja (Jc (zE (Jb (Jm (Jp (Jj ?_)))))));cases h8;refine Kc fun he=>?_;subst he;have h12:=Km h;refine Jp (Jj ?_);cases h12;exact zQ
   refine zU hb (Jg (Jx (Jb (Jc (zE ?_)))));cases h8;exact zB
  refine zU hb (Jv (Jt ?_));cases h8;exact zX
 rintro _ s' rfl hs;have h:=Ka h;refine Jr (Jb (Jy hs (Ja (Jc (zE (Jb (Ja (Ja (Jc (zR 1 ?_))))))))));refine zL (L:=a1) ?_;refine zE (Jb (Jl ?_));refine Jy (Fp 10 0 201000 14 192 (cs:=[.nil,.nil]) (by kernel_rfl) (by kernel_rfl) (by kernel_rfl)) ?_;refine Jy (Fp 10 1 201001 4 32 (cs:=[Jk (.own 201000) (([]:(List Jq)):(List Jq)),.nil]) (by kernel_rfl) (by kernel_rfl) (by kernel_rfl)) ?_;obtain ⟨o35,h35,h⟩:=Kf h;refine zA 113 2 (fun (x22,x23,x24)=>⟨[(2,Jk .frozen a2),(3,.ref 3 0),(6,.ref 6 0),(10,.ref 10 0),(53,Jk .frozen a1),(54,I6 ((a1.length:Nat):Int)),(55,I6 x22)],[(3,.cells (cellsOf a0)),(6,.cells ([.nil,.nil])),(10,.cells ([Jk (.own 201000) x23,Jk (.own 201001) x24]))],[(201000,(((x23).map cellsOf).length,14)),(201001,(((x24).map cellsOf).length,4))],[]⟩) (fun (x31,x32)=>⟨[(2,Jk .frozen a2),(3,.ref 3 0),(6,.ref 6 0),(10,.ref 10 0)],[(3,.cells (cellsOf a0)),(6,.cells ([.nil,.nil])),(10,.cells ([Jk (.own 201000) x31,Jk (.own 201001) x32]))],[(201000,(((x31).map cellsOf).length,14)),(201001,(((x32).map cellsOf).length,4))],[]⟩) h35 ?_ ?_
 ·rintro ⟨x22,x23,x24⟩ oh34 h34;unfold Fy at h34;refine Ja (Jc (zE (Jb (Ja ?_))));rcases Ji h34 with ⟨hb,h34⟩|⟨hb,h34⟩
  ·refine zT hb (Jg (Jb (Ja (Jl (Ja (Jc (zR 1 ?_)))))));obtain ⟨x33,h36,h34⟩:=Je h34;refine zI h36 (zE (Jb (Ja (zD (zR 4 ?_)))));obtain ⟨x34,h37,h34⟩:=Je h34;refine zI h37 (zR 1 ?_);obtain ⟨r35,h38,h34⟩:=Je h34;refine zP (Jit _ _ _ r35 h38) (zE (Jb (Ja (Ja (Jc (zE (Jb ?_)))))));rcases Ji h34 with ⟨hb,h34⟩|⟨hb,h34⟩
   ·refine zT hb (Ja (Jc (zE (Jb (Jm (Jj (Jp (Jj ?_))))))));cases h34;refine Kc fun he=>?_;subst he;have h39:=Km h;refine Jp (Jj ?_);cases h39;exact zQ
   refine zU hb (Jg (Jb (Ja (Jc (zR 4 ?_)))));obtain ⟨x36,h40,h34⟩:=Je h34;refine zW (tk:=201000) h40 ?_;refine zE (Jb (zD (zR 4 ?_)));obtain ⟨r37,h41,h34⟩:=Je h34;refine zP (Jjs _ _ r37 h41) (zR 1 ?_);obtain ⟨x38,h42,h34⟩:=Je h34;refine zW (tk:=201001) h42 ?_;refine zE (Jx (Jb (Jc (zE ?_))));cases h34;exact zB
  refine zU hb (Jv (Jt ?_));cases h34;exact zX
 rintro ⟨x31,x32⟩ s' rfl hs;have h:=Ka h;refine Jr (Jb (Jy hs (Ja (Jc (zE (Jb (Ja (Ja (Jc (zR 1 ?_))))))))));refine zL (L:=a2) ?_;refine zE (Jb (Jl ?_));obtain ⟨o70,h70,h⟩:=Kf h;refine zA 113 4 (fun (x47,x48)=>⟨[(3,.ref 3 0),(6,.ref 6 0),(10,.ref 10 0),(15,.mp 89),(90,Jk .frozen a2),(91,I6 ((a2.length:Nat):Int)),(92,I6 x47)],[(3,.cells (cellsOf a0)),(6,.cells ([.nil,.nil])),(10,.cells ([Jk (.own 201000) x31,Jk (.own 201001) x32])),(89,.map (Wc x48))],[(201000,(((x31).map cellsOf).length,14)),(201001,(((x32).map cellsOf).length,4))],[]⟩) (fun (_:Unit)=>⟨[(6,.ref 6 0),(10,.ref 10 0)],[(6,.cells ([.nil,.nil])),(10,.cells ([Jk (.own 201000) x31,Jk (.own 201001) x32]))],[(201000,(((x31).map cellsOf).length,14)),(201001,(((x32).map cellsOf).length,4))],[]⟩) h70 ?_ ?_
 ·rintro ⟨x47,x48⟩ oh69 h69;unfold Lo at h69;refine Ja (Jc (zE (Jb (Ja ?_))));rcases Ji h69 with ⟨hb,h69⟩|⟨hb,h69⟩
  ·refine zT hb (Jg (Jb (Ja (Jl (Ja (Jc ?_))))));obtain ⟨x57,h71,h69⟩:=Je h69;refine zI h71 (zE (Jb (Ja (Jc (zR 2 ?_)))));obtain ⟨r58,h72,h69⟩:=Je h69;refine zP (Jgr _ _ r58 h72) ?_;refine zL (L:=r58) ?_;refine zE (Jb (Jl ?_));obtain ⟨o80,h80,h69⟩:=Kf h69;refine zA 113 6 (fun (x60,x61)=>⟨[(3,.ref 3 0),(6,.ref 6 0),(10,.ref 10 0),(15,.mp 89),(90,Jk .frozen a2),(91,I6 ((a2.length:Nat):Int)),(92,I6 x47),(98,Jk .frozen r58),(99,I6 ((r58.length:Nat):Int)),(100,I6 x60)],[(3,.cells (cellsOf a0)),(6,.cells ([.nil,.nil])),(10,.cells ([Jk (.own 201000) x31,Jk (.own 201001) x32])),(89,.map (Wc x61))],[(201000,(((x31).map cellsOf).length,14)),(201001,(((x32).map cellsOf).length,4))],[]⟩) (fun x63=>⟨[(3,.ref 3 0),(6,.ref 6 0),(10,.ref 10 0),(15,.mp 89),(90,Jk .frozen a2),(91,I6 ((a2.length:Nat):Int)),(92,I6 x47)],[(3,.cells (cellsOf a0)),(6,.cells ([.nil,.nil])),(10,.cells ([Jk (.own 201000) x31,Jk (.own 201001) x32])),(89,.map (Wc x63))],[(201000,(((x31).map cellsOf).length,14)),(201001,(((x32).map cellsOf).length,4))],[]⟩) h80 ?_ ?_
   ·rintro ⟨x60,x61⟩ oh79 h79;unfold Xs at h79;refine Ja (Jc (zE (Jb (Ja ?_))));rcases Ji h79 with ⟨hb,h79⟩|⟨hb,h79⟩
    ·refine zT hb (Jg (Jb (Ja (Jl (Ja (Jc ?_))))));obtain ⟨x64,h81,h79⟩:=Je h79;refine zI h81 (zE (Jb (Ja (Ja (Jc (zR 2 ?_))))));refine Jdz (m:=x61) (k:=x64) false 89 (by kernel_rfl) (by kernel_rfl) ?_;refine zN (Jb ?_);rcases Ji h79 with ⟨hb,h79⟩|⟨hb,h79⟩
     ·refine zT hb (Ja (Jc (zE (Jb (Jm (Jj (Jp (Jj ?_))))))));cases h79;refine Kc fun he=>?_;subst he;have h82:=Km h69;refine Jp (Jp (Jj ?_));cases h82;refine Kc fun he=>?_;subst he;have h83:=Km h;refine Jp (Jj ?_);cases h83;exact zQ
     refine zU hb (Jg (Jb (Jc (zR 2 ?_))));refine Jg6 (m:=x61) (k:=x64) (v:=true) 89 (by kernel_rfl) (by kernel_rfl) (by kernel_rfl) ?_;refine zN (Jx (Jb (Jc (zE ?_))));cases h79;exact zB
    refine zU hb (Jv (Jt ?_));cases h79;exact zX
   rintro x63 s' rfl hs;have h69:=Ka h69;refine Jr (Jx (Jb (Jy hs (Jc (zE ?_)))));cases h69;exact zB
  refine zU hb (Jv (Jt ?_));cases h69;exact zX
 rintro _ s' rfl hs;have h:=Ka h;refine Jr (Jb (Jy hs (Ja (Jc (zE (Jb (Jm ?_)))))));cases h;exact zQ
def Kw (a0:(List Int)):Option (List Int) :=
 (Ul ([]:(List Int)) a0).bind fun x1 =>
 some x1
theorem Ku (a0:(List Int)) (r:(List Int)) (h:Kw a0=some r):Kg Tryz.prog GlS 91 [Enc.pv a0] (Jk (.own 7) r):=by
 unfold Kw at h;refine zC Tryz.func91 Tryz.ntmps91 ?_;refine Ja (Jc (zE (Jb (Ja (Ja (Jc (zE (Jb ?_))))))));refine Sz (e:=(a0.map cellsOf).isEmpty) (by kernel_rfl) (fun hub=>?_) ?_
 ·have hN:=Sy (Jkk hub) h;refine Ja (Jc (zE (Jb (Yz 2 7 1 8 (by kernel_rfl) (by kernel_rfl) (Jm (Jj ?_))))));cases hN;exact zQ
 refine Jg (Jb (Ja (Jc (zR 2 ?_))));obtain ⟨x1,h1,h⟩:=Je h;refine Tj (tk:=7) h1 (by kernel_rfl) ?_;refine zE (Jb (Jm ?_));cases h;exact zQ
def Zw (a0:(List Kb)):Option (List Kb) :=
 (Ul ([]:(List Kb)) a0).bind fun x1 =>
 some x1
theorem Po (a0:(List Kb)) (r:(List Kb)) (h:Zw a0=some r):Kg Tryz.prog GlS 92 [Enc.pv a0] (Jk (.own 7) r):=by
 unfold Zw at h;refine zC Tryz.func92 Tryz.ntmps92 ?_;refine Ja (Jc (zE (Jb (Ja (Ja (Jc (zE (Jb ?_))))))));refine Sz (e:=(a0.map cellsOf).isEmpty) (by kernel_rfl) (fun hub=>?_) ?_
 ·have hN:=Sy (Jkk hub) h;refine Ja (Jc (zE (Jb (Yz 2 7 4 32 (by kernel_rfl) (by kernel_rfl) (Jm (Jj ?_))))));cases hN;exact zQ
 refine Jg (Jb (Ja (Jc (zR 2 ?_))));obtain ⟨x1,h1,h⟩:=Je h;refine Tj (tk:=7) h1 (by kernel_rfl) ?_;refine zE (Jb (Jm ?_));cases h;exact zQ
def Ge (a0:Jz):Option Bool :=
 some (decide (((a0.Tracks.length:Nat):Int)=((a0.Sessions.length:Nat):Int)))
theorem Nk (a0:Jz) (r:Bool) (h:Ge a0=some r):Kg Tryz.prog GlS 41 [Enc.pv a0] (Enc.pv r):=by
 unfold Ge at h;refine zC Tryz.func41 Tryz.ntmps41 ?_;refine Ja (Jc (zE (Jb (Ja (Jc (zR 2 ?_))))));refine zL (L:=a0.Tracks) ?_;refine zR 2 ?_;refine zL (L:=a0.Sessions) ?_;refine zE (Jb (Jm ?_));cases h;exact zQ
def Fs (a0:(List Int)):Option (List Int) :=
 (Ul ([]:(List Int)) a0).bind fun x1 =>
 some x1
theorem Jcs (a0:(List Int)) (r:(List Int)) (h:Fs a0=some r):Jmi Tryz.prog GlS 91 [Enc.pv a0] 1 8 (r.map cellsOf):=by
 unfold Fs at h;refine Jaz Tryz.func91 (by rfl) rfl Tryz.ntmps91 (by rfl) rfl ?_;refine Ja (Jc (zE (Jb (Ja (Ja (Jc (zE (Jb ?_))))))));refine Sz (e:=(a0.map cellsOf).isEmpty) (by kernel_rfl) (fun hub=>?_) ?_
 ·have hN:=Sy (Jkk hub) h;refine Ja (Jc (zE (Jb (Jy (Jh8 2 100002 1 8 (by kernel_rfl) (by kernel_rfl)) (Jm (Jj ?_))))));have hq:=Option.some.inj hN;subst hq;exact Jnl 100002 (((([]:(List Int)):(List Int)).map cellsOf).length) (by kernel_rfl)
 refine Jg (Jb (Ja (Jc (zR 2 ?_))));obtain ⟨x1,h1,h⟩:=Je h;refine Jwm (tk:=7) (x:=.lst .full 1 8 []) h1 (.inr ⟨_,_,rfl⟩) (by kernel_rfl) (by kernel_rfl) ?_;refine zE (Jb (Jm ?_));have hq:=Option.some.inj h;subst hq;exact Jnl 7 ((x1.map cellsOf).length) (by kernel_rfl)
def Eb (a0:Int) (c0:Qs):Option Bool :=
 ((bif decide (a0<0) then some true else (
  some (decide (((c0.Routes.length:Nat):Int)≤a0))
 )):Option Bool).bind fun b1 =>
 bif b1 then (
  some true
 ) else (
  (ixO c0.Routes a0).bind fun x2 =>
  some ((!(decide (x2.State=3)))&&(!(decide (x2.State=4))))
 )
theorem Nx (a0:Int) (c0:Qs) (r:Bool) (h:Eb a0 c0=some r):Kg Tryz.prog GlS 95 [Enc.pv a0,.cptr (cellsOf c0)] (Enc.pv r):=by
 unfold Eb at h;refine zC Tryz.func95 Tryz.ntmps95 ?_;refine Ja (Jc (zE (Jb (Ja (Ja (Jc ?_))))));obtain ⟨b1,h1,h⟩:=Je h;refine zR 3 ?_;refine Ko 6 13 (.bool b1) ?_ ?_
 ·rcases Ji h1 with ⟨hb,h1⟩|⟨hb,h1⟩
  ·refine zS 7 hb ?_;cases h1;exact zF
  refine zS 7 hb (zR 3 ?_);refine zL (L:=c0.Routes) ?_;cases h1;exact zF
 refine zN (Jb ?_);rcases Ji h with ⟨hb,h⟩|⟨hb,h⟩
 ·refine zT hb (Ja (Jc (zE (Jb (Jm (Jj ?_))))));cases h;exact zQ
 refine zU hb (Jg (Jb (Ja (Jc (zR 3 ?_)))));obtain ⟨x2,h2,h⟩:=Je h;refine zI h2 (zE (Jb (Ja (Jc (zR 3 ?_)))));refine Ks 3 25 ((!(decide (x2.State=3)))&&(!(decide (x2.State=4)))) (fun x hx=>?_) ?_
 ·rcases Vz hx with ⟨hb,hx⟩|⟨hb,hx⟩
  ·refine zS 22 hb ?_;subst hx;exact zF
  refine zS 22 hb ?_;subst hx;exact zF
 refine zE (Jb (Jm ?_));cases h;exact zQ
def Ho (a0:(List Int)) (a1_0:Qs):Int→Option (Int⊕(Unit⊕Int)):=fun x3 =>
 bif decide (x3<((a0.length:Nat):Int)) then (
  (ixO a0 x3).bind fun x6 =>
  (Eb x6 a1_0).bind fun r7 =>
  bif r7 then (
   some (.inr (.inr x3))
  ) else (
   some (.inl (w64 (x3+1)))
  )
 ) else (
  some (.inr (.inl ()))
 )
def Vb (a0:(List Int)) (a1_0:Qs):Option Int :=
 onInl (α:=Unit) (β:=Int) (Ki (Ho a0 a1_0) 0) fun _ =>
 some (-1)
theorem Di (a0:(List Int)) (a1_0:Qs) (r:Int) (h:Vb a0 a1_0=some r):Kg Tryz.prog GlS 166 [Enc.pv a0,.fn 95 [.cptr (cellsOf a1_0)]] (Enc.pv r):=by
 unfold Vb at h;refine zC Tryz.func166 Tryz.ntmps166 ?_;refine Ja (Jc (zE (Jb (Ja (Ja (Jc (zR 1 ?_)))))));refine zL (L:=a0) ?_;refine zE (Jb (Jl ?_));obtain ⟨o8,h8,h⟩:=Kf h;refine zA 19 0 (fun x3=>⟨[(0,Jk .frozen a0),(1,.fn 95 [.cptr (cellsOf a1_0)]),(7,I6 ((a0.length:Nat):Int)),(8,I6 x3)],[],[],[]⟩) (fun (_:Unit)=>⟨[],[],[],[]⟩) h8 ?_ ?_
 ·rintro x3 oh7 h7;unfold Ho at h7;refine Ja (Jc (zE (Jb (Ja ?_))));rcases Ji h7 with ⟨hb,h7⟩|⟨hb,h7⟩
  ·refine zT hb (Jg (Jb (Ja (Jl (Ja (Jc (zE (Jb (Ja (Jc (zR 3 ?_)))))))))));obtain ⟨x6,h9,h7⟩:=Je h7;refine zI h9 (zR 1 ?_);obtain ⟨r7,h10,h7⟩:=Je h7;refine zP (Nx _ _ r7 h10) (zN (Jb ?_));rcases Ji h7 with ⟨hb,h7⟩|⟨hb,h7⟩
   ·refine zT hb (Ja (Jc (zE (Jb (Jm (Jp (Jj ?_)))))));cases h7;refine Kc fun he=>?_;subst he;have h11:=Km h;refine Jp (Jj ?_);cases h11;exact zQ
   refine zU hb (Jg (Jx (Jb (Jc (zE ?_)))));cases h7;exact zB
  refine zU hb (Jv (Jt ?_));cases h7;exact zX
 rintro _ s' rfl hs;have h:=Ka h;refine Jr (Jb (Jy hs (Ja (Jc (zE (Jb (Jm ?_)))))));cases h;exact zQ
def Hc (a0:(List Int)) (a1_0:Qs):(Int×Int×(List Int))→Option ((Int×Int×(List Int))⊕(((List Int)×Int)⊕((List Int)×Nat))):=fun (x14,x15,x16) =>
 bif decide (x15<((((a0:(List Int)).map cellsOf).length:Nat):Int)) then (
  onInl (α:=((List Int)×Int)) (β:=((Int×Int×(List Int))⊕(((List Int)×Int)⊕((List Int)×Nat)))) (
   (Zp 0 (((a0:(List Int)).map cellsOf).length) x15).bind fun j38 =>
   (Wl x16 (((a0:(List Int)).map cellsOf).length) j38).bind fun x39 =>
   (Eb x39 a1_0).bind fun r40 =>
   bif (!r40) then (
    (Zp 0 (((a0:(List Int)).map cellsOf).length) x14).bind fun j41 =>
    (Wl x16 (((a0:(List Int)).map cellsOf).length) j41).bind fun x42 =>
    some (.inl ((x16.set j41 x39),w64 (x14+1)))
   ) else (
    some (.inl (x16,x14))
   )
  ) fun (x36,x37) =>
  some (.inl (x37,w64 (x15+1),x36))
 ) else (
  some (.inr (.inl (x16,x14)))
 )
def Uw (a0:(List Int)) (a1_0:Qs):Option ((List Int)×Nat) :=
 (Vb a0 a1_0).bind fun r1 =>
 bif decide (r1=(-1)) then (
  some (a0,((a0:(List Int)).map cellsOf).length)
 ) else (
  onInl (α:=((List Int)×Int)) (β:=((List Int)×Nat)) (Ki (Hc a0 a1_0) (r1,w64 (r1+1),a0)) fun (x29,x30) =>
  (Jys (((a0:(List Int)).map cellsOf).length) (some x30) none).bind fun p43 =>
  (Jz5 x29 (((a0:(List Int)).map cellsOf).length) (0+p43.1) (p43.2 - p43.1) (0:Int)).bind fun x44 =>
  (Jxu (((a0:(List Int)).map cellsOf).length) x30).bind fun m45 =>
  some (x44,m45)
 )
theorem Dh (a0:(List Int)) (a1_0:Qs) (r:((List Int)×Nat)) (h:Uw a0 a1_0=some r):Pl Tryz.prog GlS 94 1 8 (a0.map cellsOf) [.fn 95 [.cptr (cellsOf a1_0)]] (some r.2) (r.1.map cellsOf):=by
 unfold Uw at h;refine Ch Tryz.func94 (by rfl) rfl Tryz.ntmps94 (by rfl) rfl ?_;refine Ja (Jc (zE (Jb (Ja (Jc (zR 2 ?_))))));obtain ⟨r1,h1,h⟩:=Je h;refine Fc [1000000000] (Di _ _ r1 h1) (by kernel_rfl) (by kernel_rfl) (by kernel_rfl) ?_;refine zE (Jb (Ja (Ja (Jc (zE (Jb ?_))))));rcases Ji h with ⟨hb,h⟩|⟨hb,h⟩
 ·refine zT hb (Ja (Jc (zE (Jb (Jm (Jj ?_))))));cases h;exact Xr (by kernel_rfl)
 refine zU hb (Jg (Jb (Ja (Ja (Jc (zE (Jb (Jl ?_))))))));obtain ⟨o25,h25,h⟩:=Kf h;refine zA 42 0 (fun (x14,x15,x16)=>⟨[(0,.ex 1000000000 1 8 ((a0.map cellsOf).length) 0 ((a0.map cellsOf).length)),(1,.fn 95 [.cptr (cellsOf a1_0)]),(5,I6 x14),(6,I6 x15)],[],[(1000000000,((a0.map cellsOf).length,0))],[(1000000000,(1,(8,x16.map cellsOf)))]⟩) (fun (x29,x30)=>⟨[(0,.ex 1000000000 1 8 ((a0.map cellsOf).length) 0 ((a0.map cellsOf).length)),(5,I6 x30)],[],[(1000000000,((a0.map cellsOf).length,0))],[(1000000000,(1,(8,x29.map cellsOf)))]⟩) h25 ?_ ?_
 ·rintro ⟨x14,x15,x16⟩ oh24 h24;unfold Hc at h24;refine Ja (Ja (Jc (zE (Jb ?_))));rcases Ji h24 with ⟨hb,h24⟩|⟨hb,h24⟩
  ·refine zT hb (Jg (Jb ?_));obtain ⟨o31,h31,h24⟩:=Kf h24;refine Qm (o:=o31) 42 (fun (x36,x37)=>⟨[(0,.ex 1000000000 1 8 ((a0.map cellsOf).length) 0 ((a0.map cellsOf).length)),(1,.fn 95 [.cptr (cellsOf a1_0)]),(5,I6 x37),(6,I6 x15)],[],[(1000000000,((a0.map cellsOf).length,0))],[(1000000000,(1,(8,x36.map cellsOf)))]⟩) ?_ ?_
   ·refine Jl (Ja (Jc (zR 2 ?_)));obtain ⟨j38,h32,h31⟩:=Je h31;refine Uz (tk:=1000000000) (k:=1) (N:=(a0.map cellsOf).length) h32 (by kernel_rfl) ?_;obtain ⟨x39,h33,h31⟩:=Je h31;refine Vk (L:=x16) (N:=(a0.map cellsOf).length) (j:=j38) (y:=x39) (v:=I6 x39) h33 false 1 0 (by kernel_rfl) (by kernel_rfl) ?_;refine zE (Jb (Ja (Jc (zR 2 ?_))));obtain ⟨r40,h34,h31⟩:=Je h31;refine zP (Nx _ _ r40 h34) (zE (Jb ?_));rcases Ji h31 with ⟨hb,h31⟩|⟨hb,h31⟩
    ·refine zT hb (Ja (Jc (zR 3 ?_)));obtain ⟨j41,h35,h31⟩:=Je h31;refine Uz (tk:=1000000000) (k:=1) (N:=(a0.map cellsOf).length) h35 (by kernel_rfl) ?_;obtain ⟨x42,h36,h31⟩:=Je h31;refine Mr (L:=x16) (tk:=1000000000) (N:=(a0.map cellsOf).length) (j:=j41) (y:=x42) (y':=x39) h36 0 1 [I6 x39] (by kernel_rfl) (by kernel_rfl) ?_;refine zN (Jb (Jc (zE (Jx ?_))));cases h31;exact zJ
    refine zU hb (Jg (Jx ?_));cases h31;exact zJ
   rintro ⟨x36,x37⟩ rfl;have h24:=Ka h24;refine Jc (zE ?_);cases h24;exact zB
  refine zU hb (Jv (Jt ?_));cases h24;exact zX
 rintro ⟨x29,x30⟩ s' rfl hs;have h:=Ka h;refine Jr (Jb (Jy hs (Ja (Jc (zR 2 ?_)))));obtain ⟨p43,h37,h⟩:=Je h;refine Kb1 (tk:=1000000000) (k:=1) (b:=8) (N:=(a0.map cellsOf).length) (o:=0) (lo:=(some x30)) (hi:=none) h37 (by kernel_rfl) ?_;obtain ⟨x44,h38,h⟩:=Je h;refine Kcs (L:=x29) (tk:=1000000000) (N:=(a0.map cellsOf).length) (z:=(0:Int)) h38 (by kernel_rfl) (by kernel_rfl) (by kernel_rfl) rfl ?_;refine zN (Jb (Ja (Jc (zR 2 ?_))));obtain ⟨m45,h39,h⟩:=Je h;refine Kcr (tk:=1000000000) (k:=1) (b:=8) (N:=(a0.map cellsOf).length) (o:=0) h39 (by kernel_rfl) ?_;refine zE (Jb (Jm ?_));cases h;exact Xr (by kernel_rfl)
def Sc (a0:Jq) (a1:Qs):Option Jq :=
 Option.bind (α:=((List Int)×(List Jh)×(List Int)×(List Int)×(List Int))) (
  (Ql a0.Steps).bind fun r11 =>
  (Kw a0.Routes).bind fun r12 =>
  (Kw a0.Starts).bind fun r13 =>
  (Kw a0.Ends).bind fun r14 =>
  (Fs a0.Done).bind fun r15 =>
  some (r15,r11,r12,r13,r14)
 ) fun (x6,x7,x8,x9,x10) =>
 (Uw x6 a1).bind fun r16 =>
 some (Jq.mk a0.Id a0.Origin a0.End a0.At x7 x8 x9 x10 (r16.1.take r16.2) a0.Min a0.Sent a0.Accepted a0.Cut a0.CutSeq)
set_option maxRecDepth 100000 in
theorem Jhj (a0:Jq) (a1:Qs) (r:Jq) (h:Sc a0 a1=some r):Kg Tryz.prog GlS 42 [Enc.pv a0,Enc.pv a1] (Enc.pv r):=by
 unfold Sc at h;refine zC Tryz.func42 Tryz.ntmps42 ?_;refine Ja (Jc (zE (Jb (Ja (Jkf (Rw 0 1 (zE ?_)))))));refine Ez 1 ⟨[(2,.ref 1002 0),(3,.ref 1003 0),(4,.ref 1004 0),(5,Enc.pv a0)],[(1002,.cells (cellsOf a0)),(1003,.cells (cellsOf a1)),(1004,.cells ([I6 0,I6 0,I6 0,I6 0,.nil,.nil,.nil,.nil,.nil,I6 0,I6 0,I6 0,I6 0,I6 0]))],[],[]⟩ 13 (by kernel_rfl) (by kernel_rfl) (by kernel_rfl) ?_;obtain ⟨o6,h6,h⟩:=Je h;refine Jpv (f:=93) (asx:=[Enc.pv a0]) (by kernel_rfl) Tryz.func93 (by rfl) rfl Tryz.ntmps93 (by rfl) ?_;refine Jfu o6 1300037 (fun (x6,x7,x8,x9,x10)=>⟨[(2,.ref 2 0),(26,.ref 1002 0),(27,.ref 1003 0),(28,.ref 1004 0)],[(2,.cells ([I6 a0.Id,I6 a0.Origin,I6 a0.End,I6 a0.At,Jk (.own 5007) x7,Jk (.own 9007) x8,Jk (.own 13007) x9,Jk (.own 17007) x10,.ex 21 1 8 ((x6.map cellsOf).length) 0 ((x6.map cellsOf).length),I6 a0.Min,I6 a0.Sent,I6 a0.Accepted,I6 a0.Cut,I6 a0.CutSeq])),(1002,.cells (cellsOf a0)),(1003,.cells (cellsOf a1)),(1004,.cells ([I6 0,I6 0,I6 0,I6 0,.nil,.nil,.nil,.nil,.nil,I6 0,I6 0,I6 0,I6 0,I6 0]))],[(5007,(((x7).map cellsOf).length,3)),(9007,(((x8).map cellsOf).length,1)),(13007,(((x9).map cellsOf).length,1)),(17007,(((x10).map cellsOf).length,1)),(21,((x6.map cellsOf).length,0))],[(21,(1,(8,x6.map cellsOf)))]⟩) ?_ ?_
 ·refine Ja (Jc (zE (Jb (Ja (Jc (zR 2 ?_))))));obtain ⟨r11,h7,h6⟩:=Je h6;refine zP (Uj _ r11 h7) (zE (Jb (Ja (Jc (zR 2 ?_)))));obtain ⟨r12,h8,h6⟩:=Je h6;refine zP (Ku _ r12 h8) (zE (Jb (Ja (Jc (zR 2 ?_)))));obtain ⟨r13,h9,h6⟩:=Je h6;refine zP (Ku _ r13 h9) (zE (Jb (Ja (Jc (zR 2 ?_)))));obtain ⟨r14,h10,h6⟩:=Je h6;refine zP (Ku _ r14 h10) (zE (Jb (Ja (Jc (zR 2 ?_)))));obtain ⟨r15,h11,h6⟩:=Je h6;refine Jmg (α:=Int) 21 (Jcs _ r15 h11) (by kernel_rfl) (by kernel_rfl) ?_;refine zE (Jb (Ja (Jc (zE (Jb (Jm ?_))))));cases h6;exact Jvm (by kernel_rfl) (by kernel_rfl)
 obtain ⟨x6,x7,x8,x9,x10⟩:=o6;refine Jqs (r:=.agg [I6 a0.Id,I6 a0.Origin,I6 a0.End,I6 a0.At,Jk (.own 5007) x7,Jk (.own 9007) x8,Jk (.own 13007) x9,Jk (.own 17007) x10,.ex 21 1 8 ((x6.map cellsOf).length) 0 ((x6.map cellsOf).length),I6 a0.Min,I6 a0.Sent,I6 a0.Accepted,I6 a0.Cut,I6 a0.CutSeq]) (by kernel_rfl) ?_;refine Ez 2 ⟨[(2,.ref 1002 0),(3,.ref 1003 0),(4,.ref 1004 0),(6,.agg [I6 a0.Id,I6 a0.Origin,I6 a0.End,I6 a0.At,Jk (.own 2005007) x7,Jk (.own 2009007) x8,Jk (.own 2013007) x9,Jk (.own 2017007) x10,.ex 2000021 1 8 ((x6.map cellsOf).length) 0 ((x6.map cellsOf).length),I6 a0.Min,I6 a0.Sent,I6 a0.Accepted,I6 a0.Cut,I6 a0.CutSeq])],[(1002,.cells (cellsOf a0)),(1003,.cells (cellsOf a1)),(1004,.cells ([I6 0,I6 0,I6 0,I6 0,.nil,.nil,.nil,.nil,.nil,I6 0,I6 0,I6 0,I6 0,I6 0]))],[(2005007,(((x7).map cellsOf).length,3)),(2009007,(((x8).map cellsOf).length,1)),(2013007,(((x9).map cellsOf).length,1)),(2017007,(((x10).map cellsOf).length,1)),(2000021,((x6.map cellsOf).length,0))],[(2000021,(1,(8,x6.map cellsOf)))]⟩ 13 (by kernel_rfl) (by kernel_rfl) (by kernel_rfl) ?_;refine Ez 1 ⟨[(2,.ref 2 0),(3,.ref 3 0),(4,.ref 4 0),(6,.agg [I6 a0.Id,I6 a0.Origin,I6 a0.End,I6 a0.At,Jk (.own 2005007) x7,Jk (.own 2009007) x8,Jk (.own 2013007) x9,Jk (.own 2017007) x10,.ex 2000021 1 8 ((x6.map cellsOf).length) 0 ((x6.map cellsOf).length),I6 a0.Min,I6 a0.Sent,I6 a0.Accepted,I6 a0.Cut,I6 a0.CutSeq])],[(2,.cells (cellsOf a0)),(3,.cells (cellsOf a1)),(4,.cells ([I6 0,I6 0,I6 0,I6 0,.nil,.nil,.nil,.nil,.nil,I6 0,I6 0,I6 0,I6 0,I6 0]))],[(2005007,(((x7).map cellsOf).length,3)),(2009007,(((x8).map cellsOf).length,1)),(2013007,(((x9).map cellsOf).length,1)),(2017007,(((x10).map cellsOf).length,1)),(2000021,((x6.map cellsOf).length,0))],[(2000021,(1,(8,x6.map cellsOf)))]⟩ 13 (by kernel_rfl) (by kernel_rfl) (by kernel_rfl) ?_;refine Rw 2 1 (zE (Jkj (Jb (Ja ?_))));refine Jt6 3 [2,4] (cs:=cellsOf a1) (cs':=cellsOf a1) (by kernel_rfl) (by kernel_rfl) (by kernel_rfl) (by kernel_rfl) ?_;refine Jc (zR 3 ?_);obtain ⟨r16,h12,h⟩:=Je h;refine Kac (t:=2000021) (L:=x6) (L':=r16.1) (m:=r16.2) (N:=(x6.map cellsOf).length) (by kernel_rfl) (by kernel_rfl) (by kernel_rfl) (Dh _ _ r16 h12) ?_;refine zE (Jb (Ja (Jc (zE (Jb (Jm ?_))))));cases h;exact zQ
def Pt (a0:(List Int)) (a1:Int):Int→Option (Int⊕(Unit⊕Int)):=fun x2 =>
 bif decide (x2<((a0.length:Nat):Int)) then (
  (ixO a0 x2).bind fun x4 =>
  bif decide (a1=x4) then (
   some (.inr (.inr x2))
  ) else (
   some (.inl (w64 (x2+1)))
  )
 ) else (
  some (.inr (.inl ()))
 )
def Li (a0:(List Int)) (a1:Int):Option Int :=
 onInl (α:=Unit) (β:=Int) (Ki (Pt a0 a1) 0) fun _ =>
 some (-1)
theorem Jds (a0:(List Int)) (a1:Int) (r:Int) (h:Li a0 a1=some r):Kg Tryz.prog GlS 190 [Enc.pv a0,Enc.pv a1] (Enc.pv r):=by
 unfold Li at h;refine zC Tryz.func190 Tryz.ntmps190 ?_;refine Ja (Jc (zE (Jb (Ja (Ja (Jc (zR 1 ?_)))))));refine zL (L:=a0) ?_;refine zE (Jb (Jl ?_));obtain ⟨o6,h6,h⟩:=Kf h;refine zA 19 0 (fun x2=>⟨[(0,Jk .frozen a0),(1,I6 a1),(7,I6 ((a0.length:Nat):Int)),(8,I6 x2)],[],[],[]⟩) (fun (_:Unit)=>⟨[],[],[],[]⟩) h6 ?_ ?_
 ·rintro x2 oh5 h5;unfold Pt at h5;refine Ja (Jc (zE (Jb (Ja ?_))));rcases Ji h5 with ⟨hb,h5⟩|⟨hb,h5⟩
  ·refine zT hb (Jg (Jb (Ja (Jl (Ja (Jc (zE (Jb (Ja (Jc (zR 3 ?_)))))))))));obtain ⟨x4,h7,h5⟩:=Je h5;refine zI h7 (zE (Jb ?_));rcases Ji h5 with ⟨hb,h5⟩|⟨hb,h5⟩
   ·refine zT hb (Ja (Jc (zE (Jb (Jm (Jp (Jj ?_)))))));cases h5;refine Kc fun he=>?_;subst he;have h8:=Km h;refine Jp (Jj ?_);cases h8;exact zQ
   refine zU hb (Jg (Jx (Jb (Jc (zE ?_)))));cases h5;exact zB
  refine zU hb (Jv (Jt ?_));cases h5;exact zX
 rintro _ s' rfl hs;have h:=Ka h;refine Jr (Jb (Jy hs (Ja (Jc (zE (Jb (Jm ?_)))))));cases h;exact zQ
def Bg (a0:(List Int)) (a1:Int):Option Bool :=
 (Li a0 a1).bind fun r1 =>
 some (decide (0≤r1))
theorem Hu (a0:(List Int)) (a1:Int) (r:Bool) (h:Bg a0 a1=some r):Kg Tryz.prog GlS 115 [Enc.pv a0,Enc.pv a1] (Enc.pv r):=by
 unfold Bg at h;refine zC Tryz.func115 Tryz.ntmps115 ?_;refine Ja (Jc (zE (Jb (Ja (Jc (zR 2 ?_))))));obtain ⟨r1,h1,h⟩:=Je h;refine zP (Jds _ _ r1 h1) (zE (Jb (Jm ?_)));cases h;exact zQ
def Tu (a0:Jq) (c0:Int):Option Bool :=
 (Bg a0.Routes c0).bind fun r1 =>
 some r1
theorem Jhy (a0:Jq) (c0:Int) (r:Bool) (h:Tu a0 c0=some r):Kg Tryz.prog GlS 168 [Enc.pv a0,.cptr (cellsOf c0)] (Enc.pv r):=by
 unfold Tu at h;refine zC Tryz.func168 Tryz.ntmps168 ?_;refine Ja (Jc (zE (Jb (Ja (Jc (zR 3 ?_))))));obtain ⟨r1,h1,h⟩:=Je h;refine zP (Hu _ _ r1 h1) (zE (Jb (Jm ?_)));cases h;exact zQ
def Dg (a0:(List Jq)) (a1_0:Int):Int→Option (Int⊕(Unit⊕Int)):=fun x3 =>
 bif decide (x3<((a0.length:Nat):Int)) then (
  (ixO a0 x3).bind fun x6 =>
  (Tu x6 a1_0).bind fun r7 =>
  bif r7 then (
   some (.inr (.inr x3))
  ) else (
   some (.inl (w64 (x3+1)))
  )
 ) else (
  some (.inr (.inl ()))
 )
def Ur (a0:(List Jq)) (a1_0:Int):Option Int :=
 onInl (α:=Unit) (β:=Int) (Ki (Dg a0 a1_0) 0) fun _ =>
 some (-1)
theorem Cp (a0:(List Jq)) (a1_0:Int) (r:Int) (h:Ur a0 a1_0=some r):Kg Tryz.prog GlS 232 [Enc.pv a0,.fn 168 [.cptr ([I6 a1_0])]] (Enc.pv r):=by
 unfold Ur at h;refine zC Tryz.func232 Tryz.ntmps232 ?_;refine Ja (Jc (zE (Jb (Ja (Ja (Jc (zR 1 ?_)))))));refine zL (L:=a0) ?_;refine zE (Jb (Jl ?_));obtain ⟨o8,h8,h⟩:=Kf h;refine zA 19 0 (fun x3=>⟨[(0,Jk .frozen a0),(1,.fn 168 [.cptr ([I6 a1_0])]),(7,I6 ((a0.length:Nat):Int)),(8,I6 x3)],[],[],[]⟩) (fun (_:Unit)=>⟨[],[],[],[]⟩) h8 ?_ ?_
 ·rintro x3 oh7 h7;unfold Dg at h7;refine Ja (Jc (zE (Jb (Ja ?_))));rcases Ji h7 with ⟨hb,h7⟩|⟨hb,h7⟩
  ·refine zT hb (Jg (Jb (Ja (Jl (Ja (Jc (zE (Jb (Ja (Jc (zR 3 ?_)))))))))));obtain ⟨x6,h9,h7⟩:=Je h7;refine zI h9 (zR 1 ?_);obtain ⟨r7,h10,h7⟩:=Je h7;refine zP (Jhy _ _ r7 h10) (zN (Jb ?_));rcases Ji h7 with ⟨hb,h7⟩|⟨hb,h7⟩
   ·refine zT hb (Ja (Jc (zE (Jb (Jm (Jp (Jj ?_)))))));cases h7;refine Kc fun he=>?_;subst he;have h11:=Km h;refine Jp (Jj ?_);cases h11;exact zQ
   refine zU hb (Jg (Jx (Jb (Jc (zE ?_)))));cases h7;exact zB
  refine zU hb (Jv (Jt ?_));cases h7;exact zX
 rintro _ s' rfl hs;have h:=Ka h;refine Jr (Jb (Jy hs (Ja (Jc (zE (Jb (Jm ?_)))))));cases h;exact zQ
def Ug (a0:(List Jq)) (a1_0:Int):Option Bool :=
 (Ur a0 a1_0).bind fun r1 =>
 some (decide (0≤r1))
theorem Bm (a0:(List Jq)) (a1_0:Int) (r:Bool) (h:Ug a0 a1_0=some r):Kg Tryz.prog GlS 167 [Enc.pv a0,.fn 168 [.cptr ([I6 a1_0])]] (Enc.pv r):=by
 unfold Ug at h;refine zC Tryz.func167 Tryz.ntmps167 ?_;refine Ja (Jc (zE (Jb (Ja (Jc (zR 2 ?_))))));obtain ⟨r1,h1,h⟩:=Je h;refine zP (Cp _ _ r1 h1) (zE (Jb (Jm ?_)));cases h;exact zQ
end
end PM
