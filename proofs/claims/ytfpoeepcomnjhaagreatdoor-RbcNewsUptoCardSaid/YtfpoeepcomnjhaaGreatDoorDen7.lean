/-
 Plain functions for the program's functions, and the proofs that the program does them. Printed by den.py.
-/
import Derived.Test.YtfpoeepcomnjhaaGreatDoorDen6
namespace PM
noncomputable section
open Go Go.RowKit Go.Proofs
attribute [local irreducible] Kl pwp
def Hz (a0:Jd) (a1:Kk) (a2:Kh):Option (Jq×Int) :=
 (Ci a0).bind fun r1 =>
 ((bif (!(decide (r1=0))) then some true else (
  (Er a1).bind fun r3 =>
  some (!(decide (r3=0)))
 )):Option Bool).bind fun b2 =>
 ((bif b2 then some true else (
  (Ew a0 a2).bind fun r5 =>
  some (!(decide (r5=0)))
 )):Option Bool).bind fun b4 =>
 bif (b4||(!(decide (a2.Length=a1.Length)))) then (
  some ((Jq.mk 0 0 0 0 [] [] [] [] [] 0 0 0 0 0),1)
 ) else (
  (ixO a2.Steps (w64 (((a2.Steps.length:Nat):Int) - 1))).bind fun x6 =>
  (Db a0 (Jo.mk x6.El x6.Out)).bind fun r7 =>
  bif decide (r7<0) then (
   some ((Jq.mk 0 0 0 0 [] [] [] [] [] 0 0 0 0 0),9)
  ) else (
   (ixO a0.Elements x6.El).bind fun x8 =>
   (Zx a0 a2.Steps).bind fun r9 =>
   (Ul ([]:(List Jh)) a2.Steps).bind fun x10 =>
   some ((Jq.mk a1.Id (w64 ((w64 (x8.Length - r9)) - a2.Head)) r7 (w64 (x8.Length - a2.Head)) x10 [] [] [] [] 0 0 0 0 0),0)
  )
 )
theorem Jjk (a0:Jd) (a1:Kk) (a2:Kh) (r:(Jq×Int)) (h:Hz a0 a1 a2=some r):Kg Tryz.prog GlS 33 [Enc.pv a0,Enc.pv a1,Enc.pv a2] (.tup [Enc.pv r.1,Enc.pv r.2]):=by
 unfold Hz at h;refine zC Tryz.func33 Tryz.ntmps33 ?_;refine Ja (Jc (zE (Jb (Ja (Ja (Jc (zR 1 ?_)))))));obtain ⟨r1,h1,h⟩:=Je h;refine zP (Jbn _ r1 h1) ?_;obtain ⟨b2,h2,h⟩:=Je h;refine zR 2 ?_;refine Ko 4 19 (.bool b2) ?_ ?_
 ·rcases Ji h2 with ⟨hb,h2⟩|⟨hb,h2⟩
  ·refine zS 15 hb ?_;cases h2;exact zF
  refine zS 15 hb (zR 1 ?_);obtain ⟨r3,h3,h2⟩:=Je h2;refine zP (Jjo _ r3 h3) ?_;cases h2;exact zF
 obtain ⟨b4,h4,h⟩:=Je h;refine zR 1 ?_;refine Ko 5 25 (.bool b4) ?_ ?_
 ·rcases Ji h4 with ⟨hb,h4⟩|⟨hb,h4⟩
  ·refine zS 20 hb ?_;cases h4;exact zF
  refine zS 20 hb (zR 2 ?_);obtain ⟨r5,h5,h4⟩:=Je h4;refine zP (Jkr _ _ r5 h5) ?_;cases h4;exact zF
 refine zR 1 ?_;refine Ks 6 32 (b4||(!(decide (a2.Length=a1.Length)))) (fun x hx=>?_) ?_
 ·rcases Vi hx with ⟨hb,hx⟩|⟨hb,hx⟩
  ·refine zS 26 hb ?_;subst hx;exact zF
  refine zS 26 hb ?_;subst hx;exact zF
 refine zN (Jb ?_);rcases Ji h with ⟨hb,h⟩|⟨hb,h⟩
 ·refine zT hb (Ja (Jc (zE (Jb (Jm (Jj ?_))))));cases h;exact zQ
 refine zU hb (Jg (Jb (Ja (Jc (zR 4 ?_)))));refine zL (L:=a2.Steps) ?_;refine zR 1 ?_;obtain ⟨x6,h6,h⟩:=Je h;refine zI h6 (zE (Jb (Ja (Jc (zR 6 ?_)))));obtain ⟨r7,h7,h⟩:=Je h;refine zP (Mj _ _ r7 h7) (zE (Jb (Ja (Ja (Jc (zE (Jb ?_)))))));rcases Ji h with ⟨hb,h⟩|⟨hb,h⟩
 ·refine zT hb (Ja (Jc (zE (Jb (Jm (Jj ?_))))));cases h;exact zQ
 refine zU hb (Jg (Jb (Ja (Jc (zR 4 ?_)))));obtain ⟨x8,h8,h⟩:=Je h;refine zI h8 (zE (Jb (Ja (zD (zR 11 ?_)))));obtain ⟨r9,h9,h⟩:=Je h;refine zP (Na _ _ r9 h9) (zE (Jb (Ja (Jc (zR 4 ?_)))));obtain ⟨x10,h10,h⟩:=Je h;refine Tj (tk:=80) h10 (by kernel_rfl) ?_;refine zE (Jb (Ja (Jc (zE (Jb (Jm ?_))))));cases h;exact zQ
def Jac (a0:Int) (a1:Int):Option Kb :=
 some (Kb.mk a0 0 0 a1)
theorem Jn9 (a0:Int) (a1:Int) (r:Kb) (h:Jac a0 a1=some r):Kg Tryz.prog GlS 34 [Enc.pv a0,Enc.pv a1] (Enc.pv r):=by
 unfold Jac at h;refine zC Tryz.func34 Tryz.ntmps34 ?_;refine Ja (Jc (zE (Jb (Ja (Jc (zE (Jb (Jm ?_))))))));cases h;exact zQ
def Dw (a0:Jd) (a1:Kh):(Int×(List Int))→Option ((Int×(List Int))⊕((List Int)⊕(List Int))):=fun (x16,x17) =>
 bif decide (x16<((a1.Steps.length:Nat):Int)) then (
  onInl (α:=(List Int)) (β:=((Int×(List Int))⊕((List Int)⊕(List Int)))) (
   (ixO a1.Steps x16).bind fun x30 =>
   (Vf a0 x30.El).bind fun r31 =>
   bif decide (0≤r31) then (
    (Ul x17 [r31]).bind fun x32 =>
    some (.inl x32)
   ) else (
    some (.inl x17)
   )
  ) fun x29 =>
  some (.inl (w64 (x16+1),x29))
 ) else (
  some (.inr (.inl x17))
 )
def Zo (a0:Jd) (a1:Kh):Option (List Int) :=
 onInl (α:=(List Int)) (β:=(List Int)) (Ki (Dw a0 a1) (0,([]:(List Int)))) fun x25 =>
 (Gh x25).bind fun r33 =>
 some r33
theorem Sf (a0:Jd) (a1:Kh) (r:(List Int)) (h:Zo a0 a1=some r):Kg Tryz.prog GlS 84 [Enc.pv a0,Enc.pv a1] (Enc.pv r):=by
 unfold Zo at h;refine zC Tryz.func84 Tryz.ntmps84 ?_;refine Ja (Jc (zE (Jb (Ja (Jc (zE (Jb (Ja (Ja (Jc (zE (Jb (Jl ?_)))))))))))));refine Yz 5 100005 1 8 (by kernel_rfl) (by kernel_rfl) ?_;obtain ⟨o23,h23,h⟩:=Kf h;refine zA 31 0 (fun (x16,x17)=>⟨[(2,.ref 2 0),(3,.ref 3 0),(5,Jk (.own 100005) x17),(6,I6 x16)],[(2,.cells (cellsOf a0)),(3,.cells (cellsOf a1))],[(100005,(((x17).map cellsOf).length,1))],[]⟩) (fun x25=>⟨[(5,Jk (.own 100005) x25)],[],[(100005,(((x25).map cellsOf).length,1))],[]⟩) h23 ?_ ?_
 ·rintro ⟨x16,x17⟩ oh22 h22;unfold Dw at h22;refine Ja (Ja (Jc (zR 3 ?_)));refine zL (L:=a1.Steps) ?_;refine zE (Jb ?_);rcases Ji h22 with ⟨hb,h22⟩|⟨hb,h22⟩
  ·refine zT hb (Jg (Jb ?_));obtain ⟨o27,h27,h22⟩:=Kf h22;refine Qm (o:=o27) 31 (fun x29=>⟨[(2,.ref 2 0),(3,.ref 3 0),(5,Jk (.own 100005) x29),(6,I6 x16)],[(2,.cells (cellsOf a0)),(3,.cells (cellsOf a1))],[(100005,(((x29).map cellsOf).length,1))],[]⟩) ?_ ?_
   ·refine Jl (Ja (zD (zR 4 ?_)));obtain ⟨x30,h28,h27⟩:=Je h27;refine zI h28 (zR 2 ?_);obtain ⟨r31,h29,h27⟩:=Je h27;refine zP (Wu _ _ r31 h29) (zE (Jb (Ja (Jc (zE (Jb ?_))))));rcases Ji h27 with ⟨hb,h27⟩|⟨hb,h27⟩
    ·refine zT hb (Jc (zR 3 ?_));obtain ⟨x32,h30,h27⟩:=Je h27;refine zW (tk:=100005) h30 ?_;refine zE (Jx ?_);cases h27;exact zJ
    refine zU hb (Jg (Jx ?_));cases h27;exact zJ
   rintro x29 rfl;have h22:=Ka h22;refine Jc (zE ?_);cases h22;exact zB
  refine zU hb (Jv (Jt ?_));cases h22;exact zX
 rintro x25 s' rfl hs;have h:=Ka h;refine Jr (Jb (Jy hs (Ja (Jc (zR 1 ?_)))));obtain ⟨r33,h31,h⟩:=Je h;refine zP (Jc2 _ r33 h31) (zE (Jb (Jm ?_)));cases h;exact zQ
def Gn (a0:(List Int)) (a1:(List Int)) (a2:Bool):(Int×(List Int))→Option ((Int×(List Int))⊕((List Int)⊕(List Int))):=fun (x20,x21) =>
 bif decide (x20<((a0.length:Nat):Int)) then (
  onInl (α:=(List Int)) (β:=((Int×(List Int))⊕((List Int)⊕(List Int)))) (
   (ixO a0 x20).bind fun x37 =>
   (Ll a1 x37).bind fun r38 =>
   bif (r38 == a2) then (
    (ixO a0 x20).bind fun x39 =>
    (Zy x21 x39).bind fun r40 =>
    some (.inl r40)
   ) else (
    some (.inl x21)
   )
  ) fun x36 =>
  some (.inl (w64 (x20+1),x36))
 ) else (
  some (.inr (.inl x21))
 )
def Mh (a0:(List Int)) (a1:(List Int)) (a2:Bool):Option (List Int) :=
 onInl (α:=(List Int)) (β:=(List Int)) (Ki (Gn a0 a1 a2) (0,([]:(List Int)))) fun x31 =>
 some x31
theorem Jht (a0:(List Int)) (a1:(List Int)) (a2:Bool) (r:(List Int)) (h:Mh a0 a1 a2=some r):Kg Tryz.prog GlS 160 [Enc.pv a0,Enc.pv a1,Enc.pv a2] (Enc.pv r):=by
 unfold Mh at h;refine zC Tryz.func160 Tryz.ntmps160 ?_;refine Ja (Jc (zE (Jb (Ja (Jc (zE (Jb (Ja (Ja (Jc (zE (Jb (Jl ?_)))))))))))));obtain ⟨o29,h29,h⟩:=Kf h;refine zA 30 0 (fun (x20,x21)=>⟨[(0,Jk .frozen a0),(1,Jk .frozen a1),(2,.bool a2),(7,Jk .frozen x21),(8,I6 x20)],[],[],[]⟩) (fun x31=>⟨[(7,Jk .frozen x31)],[],[],[]⟩) h29 ?_ ?_
 ·rintro ⟨x20,x21⟩ oh28 h28;unfold Gn at h28;refine Ja (Ja (Jc (zR 2 ?_)));refine zL (L:=a0) ?_;refine zE (Jb ?_);rcases Ji h28 with ⟨hb,h28⟩|⟨hb,h28⟩
  ·refine zT hb (Jg (Jb ?_));obtain ⟨o34,h34,h28⟩:=Kf h28;refine Qm (o:=o34) 30 (fun x36=>⟨[(0,Jk .frozen a0),(1,Jk .frozen a1),(2,.bool a2),(7,Jk .frozen x36),(8,I6 x20)],[],[],[]⟩) ?_ ?_
   ·refine Jl (Ja (Jc (zR 3 ?_)));obtain ⟨x37,h35,h34⟩:=Je h34;refine zI h35 (zR 1 ?_);obtain ⟨r38,h36,h34⟩:=Je h34;refine zP (Jfi _ _ r38 h36) (zE (Jb ?_));rcases Ji h34 with ⟨hb,h34⟩|⟨hb,h34⟩
    ·refine zT hb (Jc (zR 3 ?_));obtain ⟨x39,h37,h34⟩:=Je h34;refine zI h37 (zR 1 ?_);obtain ⟨r40,h38,h34⟩:=Je h34;refine zP (Ms _ _ r40 h38) (zE (Jx ?_));cases h34;exact zJ
    refine zU hb (Jg (Jx ?_));cases h34;exact zJ
   rintro x36 rfl;have h28:=Ka h28;refine Jc (zE ?_);cases h28;exact zB
  refine zU hb (Jv (Jt ?_));cases h28;exact zX
 rintro x31 s' rfl hs;have h:=Ka h;refine Jr (Jb (Jy hs (Ja (Jc (zE (Jb (Jm ?_)))))));cases h;exact zQ
def Gc (a0:(List Int)) (a1:(List Int)):Option (List Int) :=
 (Mh a0 a1 true).bind fun r1 =>
 some r1
theorem Jhs (a0:(List Int)) (a1:(List Int)) (r:(List Int)) (h:Gc a0 a1=some r):Kg Tryz.prog GlS 83 [Enc.pv a0,Enc.pv a1] (Enc.pv r):=by
 unfold Gc at h;refine zC Tryz.func83 Tryz.ntmps83 ?_;refine Ja (Jc (zE (Jb (Ja (Jc (zR 2 ?_))))));obtain ⟨r1,h1,h⟩:=Je h;refine zP (Jht _ _ _ r1 h1) (zE (Jb (Jm ?_)));cases h;exact zQ
def Iw (a0:Jd) (a1:(List Kh)) (x17:Int):Int→Option (Int⊕(Unit⊕(Int⊕(Unit⊕Bool)))):=fun x39 =>
 bif decide (x39<x17) then (
  (ixO a1 x17).bind fun x45 =>
  (Zo a0 x45).bind fun r46 =>
  (ixO a1 x39).bind fun x47 =>
  (Zo a0 x47).bind fun r48 =>
  (Gc r46 r48).bind fun r49 =>
  bif decide (0<((r49.length:Nat):Int)) then (
   some (.inr (.inr (.inr (.inr false))))
  ) else (
   some (.inl (w64 (x39+1)))
  )
 ) else (
  some (.inr (.inl ()))
 )
def Ik (a0:Jd) (a1:(List Kh)):Int→Option (Int⊕(Unit⊕Bool)):=fun x17 =>
 bif decide (x17<((a1.length:Nat):Int)) then (
  onInl (α:=Unit) (β:=(Int⊕(Unit⊕Bool))) (Ki (Iw a0 a1 x17) 0) fun _ =>
  some (.inl (w64 (x17+1)))
 ) else (
  some (.inr (.inl ()))
 )
def En (a0:Jd) (a1:(List Kh)):Option Bool :=
 onInl (α:=Unit) (β:=Bool) (Ki (Ik a0 a1) 0) fun _ =>
 some true
theorem Jkq (a0:Jd) (a1:(List Kh)) (r:Bool) (h:En a0 a1=some r):Kg Tryz.prog GlS 35 [Enc.pv a0,Enc.pv a1] (Enc.pv r):=by
 unfold En at h;refine zC Tryz.func35 Tryz.ntmps35 ?_;refine Ja (Jc (zE (Jb (Ja (Ja (Jc (zE (Jb (Jl ?_)))))))));obtain ⟨o48,h48,h⟩:=Kf h;refine zA 33 0 (fun x17=>⟨[(1,Jk .frozen a1),(2,.ref 2 0),(5,I6 x17)],[(2,.cells (cellsOf a0))],[],[]⟩) (fun (_:Unit)=>⟨[],[],[],[]⟩) h48 ?_ ?_
 ·rintro x17 oh47 h47;unfold Ik at h47;refine Ja (Ja (Jc (zR 2 ?_)));refine zL (L:=a1) ?_;refine zE (Jb ?_);rcases Ji h47 with ⟨hb,h47⟩|⟨hb,h47⟩
  ·refine zT hb (Jg (Jb (Ja (Jl (Ja (Jc (zE (Jb (Jl ?_)))))))));obtain ⟨o64,h64,h47⟩:=Kf h47;refine zA 33 2 (fun x39=>⟨[(1,Jk .frozen a1),(2,.ref 2 0),(5,I6 x17),(6,I6 x39)],[(2,.cells (cellsOf a0))],[],[]⟩) (fun (_:Unit)=>⟨[(1,Jk .frozen a1),(2,.ref 2 0),(5,I6 x17)],[(2,.cells (cellsOf a0))],[],[]⟩) h64 ?_ ?_
   ·rintro x39 oh63 h63;unfold Iw at h63;refine Ja (Ja (Jc (zE (Jb ?_))));rcases Ji h63 with ⟨hb,h63⟩|⟨hb,h63⟩
    ·refine zT hb (Jg (Jb (Ja (Jl (Ja (zD (zR 3 ?_)))))));obtain ⟨x45,h65,h63⟩:=Je h63;refine zI h65 (zR 1 ?_);obtain ⟨r46,h66,h63⟩:=Je h63;refine zP (Sf _ _ r46 h66) (zR 3 ?_);obtain ⟨x47,h67,h63⟩:=Je h63;refine zI h67 (zR 1 ?_);obtain ⟨r48,h68,h63⟩:=Je h63;refine zP (Sf _ _ r48 h68) ?_;obtain ⟨r49,h69,h63⟩:=Je h63;refine zP (Jhs _ _ r49 h69) ?_;refine zL (L:=r49) ?_;refine zE (Jb ?_);rcases Ji h63 with ⟨hb,h63⟩|⟨hb,h63⟩
     ·refine zT hb (Ja (Jc (zE (Jb (Jm (Jp (Jj ?_)))))));cases h63;refine Kc fun he=>?_;subst he;have h70:=Km h47;refine Jp (Jp (Jj ?_));cases h70;refine Kc fun he=>?_;subst he;have h71:=Km h;refine Jp (Jj ?_);cases h71;exact zQ
     refine zU hb (Jg (Jx (Jb (Jc (zE ?_)))));cases h63;exact zB
    refine zU hb (Jv (Jt ?_));cases h63;exact zX
   rintro _ s' rfl hs;have h47:=Ka h47;refine Jr (Jx (Jb (Jy hs (Jc (zE ?_)))));cases h47;exact zB
  refine zU hb (Jv (Jt ?_));cases h47;exact zX
 rintro _ s' rfl hs;have h:=Ka h;refine Jr (Jb (Jy hs (Ja (Jc (zE (Jb (Jm ?_)))))));cases h;exact zQ
def Pi (a1:(List Kk)):Int→Option (Int⊕(Unit⊕(Jz×Int))):=fun x5 =>
 bif decide (x5<((a1.length:Nat):Int)) then (
  (ixO a1 x5).bind fun x8 =>
  (ixO a1 (w64 (x5 - 1))).bind fun x9 =>
  bif decide (x8.Id≤x9.Id) then (
   some (.inr (.inr ((Jz.mk [] []),7)))
  ) else (
   some (.inl (w64 (x5+1)))
  )
 ) else (
  some (.inr (.inl ()))
 )
def Pb (a0:Jd) (a1:(List Kk)) (a2:(List Kh)):(Int×(List Jq)×(List Kb))→Option ((Int×(List Jq)×(List Kb))⊕(((List Jq)×(List Kb))⊕(Jz×Int))):=fun (x25,x26,x27) =>
 bif decide (x25<((a1.length:Nat):Int)) then (
  (ixO a1 x25).bind fun x37 =>
  (ixO a2 x25).bind fun x38 =>
  (Hz a0 x37 x38).bind fun r39 =>
  bif (!(decide (r39.2=0))) then (
   some (.inr (.inr ((Jz.mk [] []),r39.2)))
  ) else (
   (Ul x26 [r39.1]).bind fun x40 =>
   (ixO a1 x25).bind fun x41 =>
   (Jac x41.Id 0).bind fun r42 =>
   (Ul x27 [r42]).bind fun x43 =>
   some (.inl (w64 (x25+1),x40,x43))
  )
 ) else (
  some (.inr (.inl (x26,x27)))
 )
def Pq (a0:Jd) (a1:(List Kk)) (a2:(List Kh)):Option (Jz×Int) :=
 ((bif decide (((a1.length:Nat):Int)<1) then some true else (
  some (decide (6<((a1.length:Nat):Int)))
 )):Option Bool).bind fun b1 =>
 ((bif b1 then some true else (
  some (!(decide (((a2.length:Nat):Int)=((a1.length:Nat):Int))))
 )):Option Bool).bind fun b2 =>
 bif b2 then (
  some ((Jz.mk [] []),1)
 ) else (
  onInl (α:=Unit) (β:=(Jz×Int)) (Ki (Pi a1) 1) fun _ =>
  onInl (α:=((List Jq)×(List Kb))) (β:=(Jz×Int)) (Ki (Pb a0 a1 a2) (0,([]:(List Jq)),([]:(List Kb)))) fun (x35,x36) =>
  (En a0 a2).bind fun r44 =>
  bif (!r44) then (
   some ((Jz.mk [] []),10)
  ) else (
   some ((Jz.mk x35 x36),0)
  )
 )
theorem Jmj (a0:Jd) (a1:(List Kk)) (a2:(List Kh)) (r:(Jz×Int)) (h:Pq a0 a1 a2=some r):Kg Tryz.prog GlS 11 [Enc.pv a0,Enc.pv a1,Enc.pv a2] (.tup [Enc.pv r.1,Enc.pv r.2]):=by
 unfold Pq at h;refine zC Tryz.func11 Tryz.ntmps11 ?_;refine Ja (Jc (zE (Jb (Ja (Ja (Jc (zR 1 ?_)))))));refine zL (L:=a1) ?_;obtain ⟨b1,h1,h⟩:=Je h;refine zR 2 ?_;refine Ko 4 20 (.bool b1) ?_ ?_
 ·rcases Ji h1 with ⟨hb,h1⟩|⟨hb,h1⟩
  ·refine zS 16 hb ?_;cases h1;exact zF
  refine zS 16 hb (zR 1 ?_);refine zL (L:=a1) ?_;cases h1;exact zF
 obtain ⟨b2,h2,h⟩:=Je h;refine zR 1 ?_;refine Ko 6 27 (.bool b2) ?_ ?_
 ·rcases Ji h2 with ⟨hb,h2⟩|⟨hb,h2⟩
  ·refine zS 21 hb ?_;cases h2;exact zF
  refine zS 21 hb (zR 1 ?_);refine zL (L:=a2) ?_;refine zR 1 ?_;refine zL (L:=a1) ?_;cases h2;exact zF
 refine zN (Jb ?_);rcases Ji h with ⟨hb,h⟩|⟨hb,h⟩
 ·refine zT hb (Ja (Jc (zE (Jb (Jm (Jj ?_))))));cases h;exact zQ
 refine zU hb (Jg (Jb (Ja (Ja (Jc (zE (Jb (Jl ?_))))))));obtain ⟨o10,h10,h⟩:=Kf h;refine zA 94 0 (fun x5=>⟨[(1,Jk .frozen a1),(2,Jk .frozen a2),(3,.ref 3 0),(6,.ref 6 0),(8,I6 x5)],[(3,.cells (cellsOf a0)),(6,.cells ([.nil,.nil]))],[],[]⟩) (fun (_:Unit)=>⟨[(1,Jk .frozen a1),(2,Jk .frozen a2),(3,.ref 3 0),(6,.ref 6 0)],[(3,.cells (cellsOf a0)),(6,.cells ([.nil,.nil]))],[],[]⟩) h10 ?_ ?_
 ·rintro x5 oh9 h9;unfold Pi at h9;refine Ja (Ja (Jc (zR 2 ?_)));refine zL (L:=a1) ?_;refine zE (Jb ?_);rcases Ji h9 with ⟨hb,h9⟩|⟨hb,h9⟩
  ·refine zT hb (Jg (Jb (Ja (Jl (Ja (zD (zR 2 ?_)))))));obtain ⟨x8,h11,h9⟩:=Je h9;refine zI h11 (zR 5 ?_);obtain ⟨x9,h12,h9⟩:=Je h9;refine zI h12 (zE (Jb ?_));rcases Ji h9 with ⟨hb,h9⟩|⟨hb,h9⟩
   ·refine zT hb (Ja (Jc (zE (Jb (Jm (Jp (Jj ?_)))))));cases h9;refine Kc fun he=>?_;subst he;have h13:=Km h;refine Jp (Jj ?_);cases h13;exact zQ
   refine zU hb (Jg (Jx (Jb (Jc (zE ?_)))));cases h9;exact zB
  refine zU hb (Jv (Jt ?_));cases h9;exact zX
 rintro _ s' rfl hs;have h:=Ka h;refine Jr (Jb (Jy hs (Ja (Jc (zE (Jb (Ja (Ja (Jc (zE (Jb (Jl ?_))))))))))));refine Jy (Fp 9 0 200900 14 192 (cs:=[.nil,.nil]) (by kernel_rfl) (by kernel_rfl) (by kernel_rfl)) ?_;refine Jy (Fp 9 1 200901 4 32 (cs:=[Jk (.own 200900) (([]:(List Jq)):(List Jq)),.nil]) (by kernel_rfl) (by kernel_rfl) (by kernel_rfl)) ?_;obtain ⟨o39,h39,h⟩:=Kf h;refine zA 94 2 (fun (x25,x26,x27)=>⟨[(1,Jk .frozen a1),(2,Jk .frozen a2),(3,.ref 3 0),(6,.ref 6 0),(9,.ref 9 0),(10,I6 x25)],[(3,.cells (cellsOf a0)),(6,.cells ([.nil,.nil])),(9,.cells ([Jk (.own 200900) x26,Jk (.own 200901) x27]))],[(200900,(((x26).map cellsOf).length,14)),(200901,(((x27).map cellsOf).length,4))],[]⟩) (fun (x35,x36)=>⟨[(2,Jk .frozen a2),(3,.ref 3 0),(6,.ref 6 0),(9,.ref 9 0)],[(3,.cells (cellsOf a0)),(6,.cells ([.nil,.nil])),(9,.cells ([Jk (.own 200900) x35,Jk (.own 200901) x36]))],[(200900,(((x35).map cellsOf).length,14)),(200901,(((x36).map cellsOf).length,4))],[]⟩) h39 ?_ ?_
 ·rintro ⟨x25,x26,x27⟩ oh38 h38;unfold Pb at h38;refine Ja (Ja (Jc (zR 2 ?_)));refine zL (L:=a1) ?_;refine zE (Jb ?_);rcases Ji h38 with ⟨hb,h38⟩|⟨hb,h38⟩
  ·refine zT hb (Jg (Jb (Ja (Jl (Ja (zD (zR 3 ?_)))))));obtain ⟨x37,h40,h38⟩:=Je h38;refine zI h40 (zR 3 ?_);obtain ⟨x38,h41,h38⟩:=Je h38;refine zI h41 (zR 1 ?_);obtain ⟨r39,h42,h38⟩:=Je h38;refine zP (Jjk _ _ _ r39 h42) (zE (Jb (Ja (Ja (Jc (zE (Jb ?_)))))));rcases Ji h38 with ⟨hb,h38⟩|⟨hb,h38⟩
   ·refine zT hb (Ja (Jc (zE (Jb (Jm (Jj (Jp (Jj ?_))))))));cases h38;refine Kc fun he=>?_;subst he;have h43:=Km h;refine Jp (Jj ?_);cases h43;exact zQ
   refine zU hb (Jg (Jb (Ja (Jc (zR 4 ?_)))));obtain ⟨x40,h44,h38⟩:=Je h38;refine zW (tk:=200900) h44 ?_;refine zE (Jb (zD (zR 4 ?_)));obtain ⟨x41,h45,h38⟩:=Je h38;refine zI h45 (zR 2 ?_);obtain ⟨r42,h46,h38⟩:=Je h38;refine zP (Jn9 _ _ r42 h46) (zR 1 ?_);obtain ⟨x43,h47,h38⟩:=Je h38;refine zW (tk:=200901) h47 ?_;refine zE (Jx (Jb (Jc (zE ?_))));cases h38;exact zB
  refine zU hb (Jv (Jt ?_));cases h38;exact zX
 rintro ⟨x35,x36⟩ s' rfl hs;have h:=Ka h;refine Jr (Jb (Jy hs (Ja (Ja (Jc (zR 2 ?_))))));obtain ⟨r44,h48,h⟩:=Je h;refine zP (Jkq _ _ r44 h48) (zE (Jb ?_));rcases Ji h with ⟨hb,h⟩|⟨hb,h⟩
 ·refine zT hb (Ja (Jc (zE (Jb (Jm (Jj ?_))))));cases h;exact zQ
 refine zU hb (Jg (Jb (Ja (Jc (zE (Jb (Jm ?_)))))));cases h;exact zQ
def Sd (a0:(List Jh)) (a1:(List Jh)):Int→Option (Int⊕(Unit⊕Bool)):=fun x3 =>
 bif decide (x3<((a0.length:Nat):Int)) then (
  (ixO a0 x3).bind fun x6 =>
  (ixO a1 x3).bind fun x7 =>
  bif (!(Ja0 x6 x7)) then (
   some (.inr (.inr false))
  ) else (
   some (.inl (w64 (x3+1)))
  )
 ) else (
  some (.inr (.inl ()))
 )
def Ce (a0:(List Jh)) (a1:(List Jh)):Option Bool :=
 bif (!(decide (((a0.length:Nat):Int)=((a1.length:Nat):Int)))) then (
  some false
 ) else (
  onInl (α:=Unit) (β:=Bool) (Ki (Sd a0 a1) 0) fun _ =>
  some true
 )
theorem Jed (a0:(List Jh)) (a1:(List Jh)) (r:Bool) (h:Ce a0 a1=some r):Kg Tryz.prog GlS 85 [Enc.pv a0,Enc.pv a1] (Enc.pv r):=by
 unfold Ce at h;refine zC Tryz.func85 Tryz.ntmps85 ?_;refine Ja (Jc (zE (Jb (Ja (Ja (Jc (zR 1 ?_)))))));refine zL (L:=a0) ?_;refine zR 1 ?_;refine zL (L:=a1) ?_;refine zE (Jb ?_);rcases Ji h with ⟨hb,h⟩|⟨hb,h⟩
 ·refine zT hb (Ja (Jc (zE (Jb (Jm (Jj ?_))))));cases h;exact zQ
 refine zU hb (Jg (Jb (Ja (Ja (Jc (zE (Jb (Jl ?_))))))));obtain ⟨o8,h8,h⟩:=Kf h;refine zA 26 0 (fun x3=>⟨[(0,Jk .frozen a0),(1,Jk .frozen a1),(5,I6 x3)],[],[],[]⟩) (fun (_:Unit)=>⟨[],[],[],[]⟩) h8 ?_ ?_
 ·rintro x3 oh7 h7;unfold Sd at h7;refine Ja (Ja (Jc (zR 2 ?_)));refine zL (L:=a0) ?_;refine zE (Jb ?_);rcases Ji h7 with ⟨hb,h7⟩|⟨hb,h7⟩
  ·refine zT hb (Jg (Jb (Ja (Jl (Ja (zD (zR 2 ?_)))))));obtain ⟨x6,h9,h7⟩:=Je h7;refine zI h9 (zR 3 ?_);obtain ⟨x7,h10,h7⟩:=Je h7;refine zI h10 (zE (Jb ?_));rcases Ji h7 with ⟨hb,h7⟩|⟨hb,h7⟩
   ·refine zT hb (Ja (Jc (zE (Jb (Jm (Jp (Jj ?_)))))));cases h7;refine Kc fun he=>?_;subst he;have h11:=Km h;refine Jp (Jj ?_);cases h11;exact zQ
   refine zU hb (Jg (Jx (Jb (Jc (zE ?_)))));cases h7;exact zB
  refine zU hb (Jv (Jt ?_));cases h7;exact zX
 rintro _ s' rfl hs;have h:=Ka h;refine Jr (Jb (Jy hs (Ja (Jc (zE (Jb (Jm ?_)))))));cases h;exact zQ
def Tr (a0:(List Int)) (a1:(List Int)):Int→Option (Int⊕(Unit⊕Bool)):=fun x3 =>
 bif decide (x3<((a0.length:Nat):Int)) then (
  (ixO a0 x3).bind fun x6 =>
  (ixO a1 x3).bind fun x7 =>
  bif (!(decide (x6=x7))) then (
   some (.inr (.inr false))
  ) else (
   some (.inl (w64 (x3+1)))
  )
 ) else (
  some (.inr (.inl ()))
 )
def Vx (a0:(List Int)) (a1:(List Int)):Option Bool :=
 bif (!(decide (((a0.length:Nat):Int)=((a1.length:Nat):Int)))) then (
  some false
 ) else (
  onInl (α:=Unit) (β:=Bool) (Ki (Tr a0 a1) 0) fun _ =>
  some true
 )
theorem Cq (a0:(List Int)) (a1:(List Int)) (r:Bool) (h:Vx a0 a1=some r):Kg Tryz.prog GlS 86 [Enc.pv a0,Enc.pv a1] (Enc.pv r):=by
 unfold Vx at h;refine zC Tryz.func86 Tryz.ntmps86 ?_;refine Ja (Jc (zE (Jb (Ja (Ja (Jc (zR 1 ?_)))))));refine zL (L:=a0) ?_;refine zR 1 ?_;refine zL (L:=a1) ?_;refine zE (Jb ?_);rcases Ji h with ⟨hb,h⟩|⟨hb,h⟩
 ·refine zT hb (Ja (Jc (zE (Jb (Jm (Jj ?_))))));cases h;exact zQ
 refine zU hb (Jg (Jb (Ja (Ja (Jc (zR 1 ?_))))));refine zL (L:=a0) ?_;refine zE (Jb (Jl ?_));obtain ⟨o8,h8,h⟩:=Kf h;refine zA 26 0 (fun x3=>⟨[(0,Jk .frozen a0),(1,Jk .frozen a1),(12,I6 ((a0.length:Nat):Int)),(13,I6 x3)],[],[],[]⟩) (fun (_:Unit)=>⟨[],[],[],[]⟩) h8 ?_ ?_
 ·rintro x3 oh7 h7;unfold Tr at h7;refine Ja (Jc (zE (Jb (Ja ?_))));rcases Ji h7 with ⟨hb,h7⟩|⟨hb,h7⟩
  ·refine zT hb (Jg (Jb (Ja (Jl (Ja (Jc (zE (Jb (Ja (zD (zR 2 ?_)))))))))));obtain ⟨x6,h9,h7⟩:=Je h7;refine zI h9 (zR 3 ?_);obtain ⟨x7,h10,h7⟩:=Je h7;refine zI h10 (zE (Jb ?_));rcases Ji h7 with ⟨hb,h7⟩|⟨hb,h7⟩
   ·refine zT hb (Ja (Jc (zE (Jb (Jm (Jp (Jj ?_)))))));cases h7;refine Kc fun he=>?_;subst he;have h11:=Km h;refine Jp (Jj ?_);cases h11;exact zQ
   refine zU hb (Jg (Jx (Jb (Jc (zE ?_)))));cases h7;exact zB
  refine zU hb (Jv (Jt ?_));cases h7;exact zX
 rintro _ s' rfl hs;have h:=Ka h;refine Jr (Jb (Jy hs (Ja (Jc (zE (Jb (Jm ?_)))))));cases h;exact zQ
def Mt (a0:Jq) (a1:Jq):Option Bool :=
 ((bif (((((((((!(decide (a0.Id=a1.Id)))||(!(decide (a0.Origin=a1.Origin))))||(!(decide (a0.End=a1.End))))||(!(decide (a0.At=a1.At))))||(!(decide (a0.Min=a1.Min))))||(!(decide (a0.Sent=a1.Sent))))||(!(decide (a0.Accepted=a1.Accepted))))||(!(decide (a0.Cut=a1.Cut))))||(!(decide (a0.CutSeq=a1.CutSeq)))) then some true else (
  (Ce a0.Steps a1.Steps).bind fun r2 =>
  some (!r2)
 )):Option Bool).bind fun b1 =>
 bif b1 then (
  some false
 ) else (
  (Vx a0.Routes a1.Routes).bind fun r3 =>
  ((bif r3 then (
   (Vx a0.Starts a1.Starts).bind fun r5 =>
   some r5
  ) else some false):Option Bool).bind fun b4 =>
  ((bif b4 then (
   (Vx a0.Ends a1.Ends).bind fun r7 =>
   some r7
  ) else some false):Option Bool).bind fun b6 =>
  ((bif b6 then (
   (Vx a0.Done a1.Done).bind fun r9 =>
   some r9
  ) else some false):Option Bool).bind fun b8 =>
  some b8
 )
theorem Jls (a0:Jq) (a1:Jq) (r:Bool) (h:Mt a0 a1=some r):Kg Tryz.prog GlS 36 [Enc.pv a0,Enc.pv a1] (Enc.pv r):=by
 unfold Mt at h;refine zC Tryz.func36 Tryz.ntmps36 ?_;refine Ja (Jc (zE (Jb (Ja (Ja (Jc (zR 6 ?_)))))));refine Ks 6 16 ((!(decide (a0.Id=a1.Id)))||(!(decide (a0.Origin=a1.Origin)))) (fun x hx=>?_) ?_
 ·rcases Vi hx with ⟨hb,hx⟩|⟨hb,hx⟩
  ·refine zS 10 hb ?_;subst hx;exact zF
  refine zS 10 hb ?_;subst hx;exact zF
 refine zR 1 ?_;refine Ks 6 23 (((!(decide (a0.Id=a1.Id)))||(!(decide (a0.Origin=a1.Origin))))||(!(decide (a0.End=a1.End)))) (fun x hx=>?_) ?_
 ·rcases Vi hx with ⟨hb,hx⟩|⟨hb,hx⟩
  ·refine zS 17 hb ?_;subst hx;exact zF
  refine zS 17 hb ?_;subst hx;exact zF
 refine zR 1 ?_;refine Ks 6 30 ((((!(decide (a0.Id=a1.Id)))||(!(decide (a0.Origin=a1.Origin))))||(!(decide (a0.End=a1.End))))||(!(decide (a0.At=a1.At)))) (fun x hx=>?_) ?_
 ·rcases Vi hx with ⟨hb,hx⟩|⟨hb,hx⟩
  ·refine zS 24 hb ?_;subst hx;exact zF
  refine zS 24 hb ?_;subst hx;exact zF
 refine zR 1 ?_;refine Ks 6 37 (((((!(decide (a0.Id=a1.Id)))||(!(decide (a0.Origin=a1.Origin))))||(!(decide (a0.End=a1.End))))||(!(decide (a0.At=a1.At))))||(!(decide (a0.Min=a1.Min)))) (fun x hx=>?_) ?_
 ·rcases Vi hx with ⟨hb,hx⟩|⟨hb,hx⟩
  ·refine zS 31 hb ?_;subst hx;exact zF
  refine zS 31 hb ?_;subst hx;exact zF
 refine zR 1 ?_;refine Ks 6 44 ((((((!(decide (a0.Id=a1.Id)))||(!(decide (a0.Origin=a1.Origin))))||(!(decide (a0.End=a1.End))))||(!(decide (a0.At=a1.At))))||(!(decide (a0.Min=a1.Min))))||(!(decide (a0.Sent=a1.Sent)))) (fun x hx=>?_) ?_
 ·rcases Vi hx with ⟨hb,hx⟩|⟨hb,hx⟩
  ·refine zS 38 hb ?_;subst hx;exact zF
  refine zS 38 hb ?_;subst hx;exact zF
 refine zR 1 ?_;refine Ks 6 51 (((((((!(decide (a0.Id=a1.Id)))||(!(decide (a0.Origin=a1.Origin))))||(!(decide (a0.End=a1.End))))||(!(decide (a0.At=a1.At))))||(!(decide (a0.Min=a1.Min))))||(!(decide (a0.Sent=a1.Sent))))||(!(decide (a0.Accepted=a1.Accepted)))) (fun x hx=>?_) ?_
 ·rcases Vi hx with ⟨hb,hx⟩|⟨hb,hx⟩
  ·refine zS 45 hb ?_;subst hx;exact zF
  refine zS 45 hb ?_;subst hx;exact zF
 refine zR 1 ?_;refine Ks 6 58 ((((((((!(decide (a0.Id=a1.Id)))||(!(decide (a0.Origin=a1.Origin))))||(!(decide (a0.End=a1.End))))||(!(decide (a0.At=a1.At))))||(!(decide (a0.Min=a1.Min))))||(!(decide (a0.Sent=a1.Sent))))||(!(decide (a0.Accepted=a1.Accepted))))||(!(decide (a0.Cut=a1.Cut)))) (fun x hx=>?_) ?_
 ·rcases Vi hx with ⟨hb,hx⟩|⟨hb,hx⟩
  ·refine zS 52 hb ?_;subst hx;exact zF
  refine zS 52 hb ?_;subst hx;exact zF
 refine zR 1 ?_;refine Ks 6 65 (((((((((!(decide (a0.Id=a1.Id)))||(!(decide (a0.Origin=a1.Origin))))||(!(decide (a0.End=a1.End))))||(!(decide (a0.At=a1.At))))||(!(decide (a0.Min=a1.Min))))||(!(decide (a0.Sent=a1.Sent))))||(!(decide (a0.Accepted=a1.Accepted))))||(!(decide (a0.Cut=a1.Cut))))||(!(decide (a0.CutSeq=a1.CutSeq)))) (fun x hx=>?_) ?_
 ·rcases Vi hx with ⟨hb,hx⟩|⟨hb,hx⟩
  ·refine zS 59 hb ?_;subst hx;exact zF
  refine zS 59 hb ?_;subst hx;exact zF
 obtain ⟨b1,h1,h⟩:=Je h;refine zR 1 ?_;refine Ko 7 73 (.bool b1) ?_ ?_
 ·rcases Ji h1 with ⟨hb,h1⟩|⟨hb,h1⟩
  ·refine zS 66 hb ?_;cases h1;exact zF
  refine zS 66 hb (zR 4 ?_);obtain ⟨r2,h2,h1⟩:=Je h1;refine zP (Jed _ _ r2 h2) ?_;cases h1;exact zF
 refine zN (Jb ?_);rcases Ji h with ⟨hb,h⟩|⟨hb,h⟩
 ·refine zT hb (Ja (Jc (zE (Jb (Jm (Jj ?_))))));cases h;exact zQ
 refine zU hb (Jg (Jb (Ja (Jc (zR 4 ?_)))));obtain ⟨r3,h3,h⟩:=Je h;refine zP (Cq _ _ r3 h3) ?_;obtain ⟨b4,h4,h⟩:=Je h;refine zR 1 ?_;refine Ko 6 85 (.bool b4) ?_ ?_
 ·rcases Ji h4 with ⟨hb,h4⟩|⟨hb,h4⟩
  ·refine zS 79 hb (zR 4 ?_);obtain ⟨r5,h5,h4⟩:=Je h4;refine zP (Cq _ _ r5 h5) ?_;cases h4;exact zF
  refine zS 79 hb ?_;cases h4;exact zF
 obtain ⟨b6,h6,h⟩:=Je h;refine zR 1 ?_;refine Ko 6 92 (.bool b6) ?_ ?_
 ·rcases Ji h6 with ⟨hb,h6⟩|⟨hb,h6⟩
  ·refine zS 86 hb (zR 4 ?_);obtain ⟨r7,h7,h6⟩:=Je h6;refine zP (Cq _ _ r7 h7) ?_;cases h6;exact zF
  refine zS 86 hb ?_;cases h6;exact zF
 obtain ⟨b8,h8,h⟩:=Je h;refine zR 1 ?_;refine Ko 6 99 (.bool b8) ?_ ?_
 ·rcases Ji h8 with ⟨hb,h8⟩|⟨hb,h8⟩
  ·refine zS 93 hb (zR 4 ?_);obtain ⟨r9,h9,h8⟩:=Je h8;refine zP (Cq _ _ r9 h9) ?_;cases h8;exact zF
  refine zS 93 hb ?_;cases h8;exact zF
 refine zE (Jb (Jm ?_));cases h;exact zQ
def Mw (a0:Jz) (a1:Jz):Int→Option (Int⊕(Unit⊕Bool)):=fun x5 =>
 bif decide (x5<((a0.Tracks.length:Nat):Int)) then (
  (ixO a0.Tracks x5).bind fun x9 =>
  (ixO a1.Tracks x5).bind fun x10 =>
  (Mt x9 x10).bind fun r11 =>
  bif (!r11) then (
   some (.inr (.inr false))
  ) else (
   some (.inl (w64 (x5+1)))
  )
 ) else (
  some (.inr (.inl ()))
 )
def My (a0:Jz) (a1:Jz):Int→Option (Int⊕(Unit⊕Bool)):=fun x14 =>
 bif decide (x14<((a0.Sessions.length:Nat):Int)) then (
  (ixO a0.Sessions x14).bind fun x17 =>
  (ixO a1.Sessions x14).bind fun x18 =>
  bif (!(Ov x17 x18)) then (
   some (.inr (.inr false))
  ) else (
   some (.inl (w64 (x14+1)))
  )
 ) else (
  some (.inr (.inl ()))
 )
def Gs (a0:Jz) (a1:Jz):Option Bool :=
 ((bif (!(decide (((a0.Tracks.length:Nat):Int)=((a1.Tracks.length:Nat):Int)))) then some true else (
  some (!(decide (((a0.Sessions.length:Nat):Int)=((a1.Sessions.length:Nat):Int))))
 )):Option Bool).bind fun b1 =>
 bif b1 then (
  some false
 ) else (
  onInl (α:=Unit) (β:=Bool) (Ki (Mw a0 a1) 0) fun _ =>
  onInl (α:=Unit) (β:=Bool) (Ki (My a0 a1) 0) fun _ =>
  some true
 )
theorem Jlg (a0:Jz) (a1:Jz) (r:Bool) (h:Gs a0 a1=some r):Kg Tryz.prog GlS 12 [Enc.pv a0,Enc.pv a1] (Enc.pv r):=by
 unfold Gs at h;refine zC Tryz.func12 Tryz.ntmps12 ?_;refine Ja (Jc (zE (Jb (Ja (Ja (Jc (zR 2 ?_)))))));refine zL (L:=a0.Tracks) ?_;refine zR 2 ?_;refine zL (L:=a1.Tracks) ?_;obtain ⟨b1,h1,h⟩:=Je h;refine zR 2 ?_;refine Ko 8 22 (.bool b1) ?_ ?_
 ·rcases Ji h1 with ⟨hb,h1⟩|⟨hb,h1⟩
  ·refine zS 14 hb ?_;cases h1;exact zF
  refine zS 14 hb (zR 2 ?_);refine zL (L:=a0.Sessions) ?_;refine zR 2 ?_;refine zL (L:=a1.Sessions) ?_;cases h1;exact zF
 refine zN (Jb ?_);rcases Ji h with ⟨hb,h⟩|⟨hb,h⟩
 ·refine zT hb (Ja (Jc (zE (Jb (Jm (Jj ?_))))));cases h;exact zQ
 refine zU hb (Jg (Jb (Ja (Ja (Jc (zE (Jb (Jl ?_))))))));obtain ⟨o11,h11,h⟩:=Kf h;refine zA 60 0 (fun x5=>⟨[(2,.ref 2 0),(3,.ref 3 0),(5,I6 x5)],[(2,.cells (cellsOf a0)),(3,.cells (cellsOf a1))],[],[]⟩) (fun (_:Unit)=>⟨[(2,.ref 2 0),(3,.ref 3 0)],[(2,.cells (cellsOf a0)),(3,.cells (cellsOf a1))],[],[]⟩) h11 ?_ ?_
 ·rintro x5 oh10 h10;unfold Mw at h10;refine Ja (Ja (Jc (zR 3 ?_)));refine zL (L:=a0.Tracks) ?_;refine zE (Jb ?_);rcases Ji h10 with ⟨hb,h10⟩|⟨hb,h10⟩
  ·refine zT hb (Jg (Jb (Ja (Jl (Ja (zD (zR 3 ?_)))))));obtain ⟨x9,h12,h10⟩:=Je h10;refine zI h12 (zR 4 ?_);obtain ⟨x10,h13,h10⟩:=Je h10;refine zI h13 (zR 1 ?_);obtain ⟨r11,h14,h10⟩:=Je h10;refine zP (Jls _ _ r11 h14) (zE (Jb ?_));rcases Ji h10 with ⟨hb,h10⟩|⟨hb,h10⟩
   ·refine zT hb (Ja (Jc (zE (Jb (Jm (Jp (Jj ?_)))))));cases h10;refine Kc fun he=>?_;subst he;have h15:=Km h;refine Jp (Jj ?_);cases h15;exact zQ
   refine zU hb (Jg (Jx (Jb (Jc (zE ?_)))));cases h10;exact zB
  refine zU hb (Jv (Jt ?_));cases h10;exact zX
 rintro _ s' rfl hs;have h:=Ka h;refine Jr (Jb (Jy hs (Ja (Ja (Jc (zE (Jb (Jl ?_))))))));obtain ⟨o23,h23,h⟩:=Kf h;refine zA 60 2 (fun x14=>⟨[(2,.ref 2 0),(3,.ref 3 0),(6,I6 x14)],[(2,.cells (cellsOf a0)),(3,.cells (cellsOf a1))],[],[]⟩) (fun (_:Unit)=>⟨[],[],[],[]⟩) h23 ?_ ?_
 ·rintro x14 oh22 h22;unfold My at h22;refine Ja (Ja (Jc (zR 3 ?_)));refine zL (L:=a0.Sessions) ?_;refine zE (Jb ?_);rcases Ji h22 with ⟨hb,h22⟩|⟨hb,h22⟩
  ·refine zT hb (Jg (Jb (Ja (Jl (Ja (zD (zR 3 ?_)))))));obtain ⟨x17,h24,h22⟩:=Je h22;refine zI h24 (zR 4 ?_);obtain ⟨x18,h25,h22⟩:=Je h22;refine zI h25 (zE (Jb ?_));rcases Ji h22 with ⟨hb,h22⟩|⟨hb,h22⟩
   ·refine zT hb (Ja (Jc (zE (Jb (Jm (Jp (Jj ?_)))))));cases h22;refine Kc fun he=>?_;subst he;have h26:=Km h;refine Jp (Jj ?_);cases h26;exact zQ
   refine zU hb (Jg (Jx (Jb (Jc (zE ?_)))));cases h22;exact zB
  refine zU hb (Jv (Jt ?_));cases h22;exact zX
 rintro _ s' rfl hs;have h:=Ka h;refine Jr (Jb (Jy hs (Ja (Jc (zE (Jb (Jm ?_)))))));cases h;exact zQ
def Ff (a2:(List Kh)):Int→Option (Int⊕(Unit⊕Bool)):=fun x7 =>
 bif decide (x7<((a2.length:Nat):Int)) then (
  (ixO a2 x7).bind fun x10 =>
  bif decide (100<((x10.Steps.length:Nat):Int)) then (
   (Ep ).bind fun r11 =>
   some (.inr (.inr r11))
  ) else (
   some (.inl (w64 (x7+1)))
  )
 ) else (
  some (.inr (.inl ()))
 )
def Bt (a0:Jd) (a1:(List Kk)) (a2:(List Kh)):Option Bool :=
 (Pg a0).bind fun r1 =>
 ((bif (!r1) then some true else (
  some (decide (10<((a1.length:Nat):Int)))
 )):Option Bool).bind fun b2 =>
 ((bif b2 then some true else (
  some (decide (10<((a2.length:Nat):Int)))
 )):Option Bool).bind fun b3 =>
 bif b3 then (
  (Ep ).bind fun r4 =>
  some r4
 ) else (
  onInl (α:=Unit) (β:=Bool) (Ki (Ff a2) 0) fun _ =>
  (Sx a0 a1 a2).bind fun r12 =>
  (Pq a0 a1 a2).bind fun r13 =>
  (Gs r12.1 r13.1).bind fun r14 =>
  ((bif (r14&&(decide (r12.2=r13.2))) then (
   (Ep ).bind fun r16 =>
   some r16
  ) else some false):Option Bool).bind fun b15 =>
  some b15
 )
theorem Jhq (a0:Jd) (a1:(List Kk)) (a2:(List Kh)) (r:Bool) (h:Bt a0 a1 a2=some r):Kg Tryz.prog GlS 3 [Enc.pv a0,Enc.pv a1,Enc.pv a2] (Enc.pv r):=by
 unfold Bt at h;refine zC Tryz.func3 Tryz.ntmps3 ?_;refine Ja (Jc (zE (Jb (Ja (Ja (Jc (zR 1 ?_)))))));obtain ⟨r1,h1,h⟩:=Je h;refine zP (Jjh _ r1 h1) ?_;obtain ⟨b2,h2,h⟩:=Je h;refine zR 2 ?_;refine Ko 4 19 (.bool b2) ?_ ?_
 ·rcases Ji h2 with ⟨hb,h2⟩|⟨hb,h2⟩
  ·refine zS 15 hb ?_;cases h2;exact zF
  refine zS 15 hb (zR 1 ?_);refine zL (L:=a1) ?_;cases h2;exact zF
 obtain ⟨b3,h3,h⟩:=Je h;refine zR 1 ?_;refine Ko 4 24 (.bool b3) ?_ ?_
 ·rcases Ji h3 with ⟨hb,h3⟩|⟨hb,h3⟩
  ·refine zS 20 hb ?_;cases h3;exact zF
  refine zS 20 hb (zR 1 ?_);refine zL (L:=a2) ?_;cases h3;exact zF
 refine zN (Jb ?_);rcases Ji h with ⟨hb,h⟩|⟨hb,h⟩
 ·refine zT hb (Ja (Jc ?_));obtain ⟨r4,h4,h⟩:=Je h;refine zP (Ou  r4 h4) (zE (Jb (Jm (Jj ?_))));cases h;exact zQ
 refine zU hb (Jg (Jb (Ja (Ja (Jc (zR 1 ?_))))));refine zL (L:=a2) ?_;refine zE (Jb (Jl ?_));obtain ⟨o12,h12,h⟩:=Kf h;refine zA 65 0 (fun x7=>⟨[(1,Jk .frozen a1),(2,Jk .frozen a2),(3,.ref 3 0),(27,I6 ((a2.length:Nat):Int)),(28,I6 x7)],[(3,.cells (cellsOf a0))],[],[]⟩) (fun (_:Unit)=>⟨[(1,Jk .frozen a1),(2,Jk .frozen a2),(3,.ref 3 0)],[(3,.cells (cellsOf a0))],[],[]⟩) h12 ?_ ?_
 ·rintro x7 oh11 h11;unfold Ff at h11;refine Ja (Jc (zE (Jb (Ja ?_))));rcases Ji h11 with ⟨hb,h11⟩|⟨hb,h11⟩
  ·refine zT hb (Jg (Jb (Ja (Jl (Ja (Jc (zE (Jb (Ja (Jc (zR 2 ?_)))))))))));obtain ⟨x10,h13,h11⟩:=Je h11;refine zI h13 (zR 2 ?_);refine zL (L:=x10.Steps) ?_;refine zE (Jb ?_);rcases Ji h11 with ⟨hb,h11⟩|⟨hb,h11⟩
   ·refine zT hb (Ja (Jc ?_));obtain ⟨r11,h14,h11⟩:=Je h11;refine zP (Ou  r11 h14) (zE (Jb (Jm (Jp (Jj ?_)))));cases h11;refine Kc fun he=>?_;subst he;have h15:=Km h;refine Jp (Jj ?_);cases h15;exact zQ
   refine zU hb (Jg (Jx (Jb (Jc (zE ?_)))));cases h11;exact zB
  refine zU hb (Jv (Jt ?_));cases h11;exact zX
 rintro _ s' rfl hs;have h:=Ka h;refine Jr (Jb (Jy hs (Ja (Jc (zR 3 ?_)))));obtain ⟨r12,h16,h⟩:=Je h;refine zP (Jiu _ _ _ r12 h16) (zE (Jb (Ja (Jc (zR 3 ?_)))));obtain ⟨r13,h17,h⟩:=Je h;refine zP (Jmj _ _ _ r13 h17) (zE (Jb (Ja (Jc (zR 2 ?_)))));obtain ⟨r14,h18,h⟩:=Je h;refine zP (Jlg _ _ r14 h18) (zR 1 ?_);refine Ks 4 61 (r14&&(decide (r12.2=r13.2))) (fun x hx=>?_) ?_
 ·rcases Vz hx with ⟨hb,hx⟩|⟨hb,hx⟩
  ·refine zS 57 hb ?_;subst hx;exact zF
  refine zS 57 hb ?_;subst hx;exact zF
 obtain ⟨b15,h19,h⟩:=Je h;refine zR 1 ?_;refine Ko 2 64 (.bool b15) ?_ ?_
 ·rcases Ji h19 with ⟨hb,h19⟩|⟨hb,h19⟩
  ·refine zS 62 hb ?_;obtain ⟨r16,h20,h19⟩:=Je h19;refine zP (Ou  r16 h20) ?_;cases h19;exact zF
  refine zS 62 hb ?_;cases h19;exact zF
 refine zE (Jb (Jm ?_));cases h;exact zQ
end
end PM
