/-
 Plain functions for the program's functions, and the proofs that the program does them. Printed by den.py.
-/
import Derived.Test.YtfpoeepcomnjhaaGreatDoorDen1
namespace PM
noncomputable section
open Go Go.RowKit Go.Proofs
attribute [local irreducible] Kl pwp
def Jbj (a0:Jd) (a1:Jw):(Int×Int×Int)→Option ((Int×Int×Int)⊕(Unit⊕(Js×Int×Bool))):=fun (x13,x14,x15) =>
 bif decide (x13<4) then (
  (Wf a0 (Jo.mk x14 x15)).bind fun r28 =>
  bif (!r28.2) then (
   some (.inr (.inr ((Js.mk 0 0),(-1),true)))
  ) else (
   (Db a0 r28.1).bind fun r29 =>
   bif decide (0≤r29) then (
    some (.inr (.inr ((Js.mk 0 0),r29,true)))
   ) else (
    (Sl a1.Path r28.1.El).bind fun r30 =>
    ((bif r30 then some true else (
     (Sl a1.Over r28.1.El).bind fun r32 =>
     some r32
    )):Option Bool).bind fun b31 =>
    bif b31 then (
     some (.inr (.inr ((Js.mk 0 0),(-1),true)))
    ) else (
     ((bif decide (r28.1.El<0) then some true else (
      some (decide (((a0.Elements.length:Nat):Int)≤r28.1.El))
     )):Option Bool).bind fun b33 =>
     ((bif b33 then some true else (
      (ixO a0.Elements r28.1.El).bind fun x35 =>
      some ((decide (x35.Kind=2))&&(decide (r28.1.Side=0)))
     )):Option Bool).bind fun b34 =>
     bif b34 then (
      some (.inr (.inr ((Js.mk 0 0),(-1),false)))
     ) else (
      (ixO a0.Elements r28.1.El).bind fun x36 =>
      bif decide (x36.Kind=2) then (
       (Jd5 a1 r28.1).bind fun r37 =>
       some (.inr (.inr (r37.1,r37.2.1,r37.2.2)))
      ) else (
       (ixO a0.Elements r28.1.El).bind fun x38 =>
       (Je6 x38.Kind r28.1.Side 0).bind fun r39 =>
       some (.inl (w64 (x13+1),r28.1.El,r39.1))
      )
     )
    )
   )
  )
 ) else (
  some (.inr (.inl ()))
 )
def Xh (a0:Jd) (a1:Jw) (a2:Jo):Option (Js×Int×Bool) :=
 onInl (α:=Unit) (β:=(Js×Int×Bool)) (Ki (Jbj a0 a1) (0,a2.El,a2.Side)) fun _ =>
 some ((Js.mk 0 0),(-1),false)
theorem Ji6 (a0:Jd) (a1:Jw) (a2:Jo) (r:(Js×Int×Bool)) (h:Xh a0 a1 a2=some r):Kg Tryz.prog GlS 127 [Enc.pv a0,Enc.pv a1,Enc.pv a2] (.tup [Enc.pv r.1,Enc.pv r.2.1,Enc.pv r.2.2]):=by
 unfold Xh at h;refine zC Tryz.func127 Tryz.ntmps127 ?_;refine Ja (Jc (zE (Jb (Ja (Ja (Jc (zE (Jb (Jl ?_)))))))));obtain ⟨o36,h36,h⟩:=Kf h;refine zA 107 0 (fun (x13,x14,x15)=>⟨[(3,.ref 3 0),(4,.ref 4 0),(5,.ref 5 0),(6,.ref 6 0),(9,I6 x13)],[(3,.cells (cellsOf a0)),(4,.cells (cellsOf a1)),(5,.cells ([I6 x14,I6 x15])),(6,.cells ([I6 0,I6 0]))],[],[]⟩) (fun (_:Unit)=>⟨[(6,.ref 6 0)],[(6,.cells ([I6 0,I6 0]))],[],[]⟩) h36 ?_ ?_
 ·rintro ⟨x13,x14,x15⟩ oh35 h35;unfold Jbj at h35;refine Ja (Ja (Jc (zE (Jb ?_))));rcases Ji h35 with ⟨hb,h35⟩|⟨hb,h35⟩
  ·refine zT hb (Jg (Jb (Ja (Jl (Ja (Jc (zR 2 ?_)))))));obtain ⟨r28,h37,h35⟩:=Je h35;refine zP (Cg _ _ r28 h37) (zE (Jb (Ja (Ja (Jc (zE (Jb ?_)))))));rcases Ji h35 with ⟨hb,h35⟩|⟨hb,h35⟩
   ·refine zT hb (Ja (Jc (zE (Jb (Jm (Jj (Jp (Jj ?_))))))));cases h35;refine Kc fun he=>?_;subst he;have h38:=Km h;refine Jp (Jj ?_);cases h38;exact zQ
   refine zU hb (Jg (Jb (Ja (Jc (zR 2 ?_)))));obtain ⟨r29,h39,h35⟩:=Je h35;refine zP (Mj _ _ r29 h39) (zE (Jb (Ja (Ja (Jc (zE (Jb ?_)))))));rcases Ji h35 with ⟨hb,h35⟩|⟨hb,h35⟩
   ·refine zT hb (Ja (Jc (zE (Jb (Jm (Jj (Jp (Jj ?_))))))));cases h35;refine Kc fun he=>?_;subst he;have h40:=Km h;refine Jp (Jj ?_);cases h40;exact zQ
   refine zU hb (Jg (Jb (Ja (Ja (Jc (zR 4 ?_))))));obtain ⟨r30,h41,h35⟩:=Je h35;refine zP (Jdm _ _ r30 h41) ?_;obtain ⟨b31,h42,h35⟩:=Je h35;refine zR 1 ?_;refine Ko 6 46 (.bool b31) ?_ ?_
   ·rcases Ji h42 with ⟨hb,h42⟩|⟨hb,h42⟩
    ·refine zS 40 hb ?_;cases h42;exact zF
    refine zS 40 hb (zR 4 ?_);obtain ⟨r32,h43,h42⟩:=Je h42;refine zP (Jdm _ _ r32 h43) ?_;cases h42;exact zF
   refine zN (Jb ?_);rcases Ji h35 with ⟨hb,h35⟩|⟨hb,h35⟩
   ·refine zT hb (Ja (Jc (zE (Jb (Jm (Jj (Jp (Jj ?_))))))));cases h35;refine Kc fun he=>?_;subst he;have h44:=Km h;refine Jp (Jj ?_);cases h44;exact zQ
   refine zU hb (Jg (Jb (Ja (Ja (Jc ?_)))));obtain ⟨b33,h45,h35⟩:=Je h35;refine zR 4 ?_;refine Ko 7 58 (.bool b33) ?_ ?_
   ·rcases Ji h45 with ⟨hb,h45⟩|⟨hb,h45⟩
    ·refine zS 51 hb ?_;cases h45;exact zF
    refine zS 51 hb (zR 4 ?_);refine zL (L:=a0.Elements) ?_;cases h45;exact zF
   obtain ⟨b34,h46,h35⟩:=Je h35;refine zR 1 ?_;refine Ko 14 73 (.bool b34) ?_ ?_
   ·rcases Ji h46 with ⟨hb,h46⟩|⟨hb,h46⟩
    ·refine zS 59 hb ?_;cases h46;exact zF
    refine zS 59 hb (zR 4 ?_);obtain ⟨x35,h47,h46⟩:=Je h46;refine zI h47 (zR 4 ?_);refine Tb 4 72 ((decide (x35.Kind=2))&&(decide (r28.1.Side=0))) (fun x hx=>?_) ?_
    ·rcases Vz hx with ⟨hb,hx⟩|⟨hb,hx⟩
     ·refine zS 68 hb ?_;subst hx;exact zF
     refine zS 68 hb ?_;subst hx;exact zF
    cases h46;exact zF
   refine zN (Jb ?_);rcases Ji h35 with ⟨hb,h35⟩|⟨hb,h35⟩
   ·refine zT hb (Ja (Jc (zE (Jb (Jm (Jj (Jp (Jj ?_))))))));cases h35;refine Kc fun he=>?_;subst he;have h48:=Km h;refine Jp (Jj ?_);cases h48;exact zQ
   refine zU hb (Jg (Jb (Ja (Ja (Jc (zR 4 ?_))))));obtain ⟨x36,h49,h35⟩:=Je h35;refine zI h49 (zE (Jb ?_));rcases Ji h35 with ⟨hb,h35⟩|⟨hb,h35⟩
   ·refine zT hb (Ja (Jc (zR 2 ?_)));obtain ⟨r37,h50,h35⟩:=Je h35;refine zP (Jo3 _ _ r37 h50) (zE (Jb (Jm (Jj (Jp (Jj ?_))))));cases h35;refine Kc fun he=>?_;subst he;have h51:=Km h;refine Jp (Jj ?_);cases h51;exact zQ
   refine zU hb (Jg (Jb (Ja (zD (zR 4 ?_)))));obtain ⟨x38,h52,h35⟩:=Je h35;refine zI h52 (zR 4 ?_);obtain ⟨r39,h53,h35⟩:=Je h35;refine zP (Jnn _ _ _ r39 h53) (zE (Jb (Jc (zE (Jx (Jb (Jc (zE ?_))))))));cases h35;exact zB
  refine zU hb (Jv (Jt ?_));cases h35;exact zX
 rintro _ s' rfl hs;have h:=Ka h;refine Jr (Jb (Jy hs (Ja (Jc (zE (Jb (Jm ?_)))))));cases h;exact zQ
def Jgm (a0:(List Js)) (a1:Js):(Bool×Int×(List Js))→Option ((Bool×Int×(List Js))⊕(((List Js)×Bool)⊕(List Js))):=fun (x24,x25,x26) =>
 bif decide (x25<((a0.length:Nat):Int)) then (
  onInl (α:=((List Js)×Bool)) (β:=((Bool×Int×(List Js))⊕(((List Js)×Bool)⊕(List Js)))) (
   ((bif (!x24) then (
    (ixO a0 x25).bind fun x45 =>
    some (decide (a1.El<x45.El))
   ) else some false):Option Bool).bind fun b44 =>
   bif b44 then (
    (Ul x26 [a1]).bind fun x46 =>
    some (.inl (x46,true))
   ) else (
    some (.inl (x26,x24))
   )
  ) fun (x42,x43) =>
  (ixO a0 x25).bind fun x47 =>
  (Ul x42 [x47]).bind fun x48 =>
  some (.inl (x43,w64 (x25+1),x48))
 ) else (
  some (.inr (.inl (x26,x24)))
 )
def Jd3 (a0:(List Js)) (a1:Js):Option (List Js) :=
 (Lv a0 a1).bind fun r1 =>
 bif r1 then (
  some a0
 ) else (
  onInl (α:=((List Js)×Bool)) (β:=(List Js)) (Ki (Jgm a0 a1) (false,0,([]:(List Js)))) fun (x37,x38) =>
  onInl (α:=(List Js)) (β:=(List Js)) (
   bif (!x38) then (
    (Ul x37 [a1]).bind fun x51 =>
    some (.inl x51)
   ) else (
    some (.inl x37)
   )
  ) fun x50 =>
  some x50
 )
theorem Jo5 (a0:(List Js)) (a1:Js) (r:(List Js)) (h:Jd3 a0 a1=some r):Kg Tryz.prog GlS 128 [Enc.pv a0,Enc.pv a1] (Enc.pv r):=by
 unfold Jd3 at h;refine zC Tryz.func128 Tryz.ntmps128 ?_;refine Ja (Jc (zE (Jb (Ja (Ja (Jc (zR 2 ?_)))))));obtain ⟨r1,h1,h⟩:=Je h;refine zP (Ni _ _ r1 h1) (zN (Jb ?_));rcases Ji h with ⟨hb,h⟩|⟨hb,h⟩
 ·refine zT hb (Ja (Jc (zE (Jb (Jm (Jj ?_))))));cases h;exact zQ
 refine zU hb (Jg (Jb (Ja (Jc (zE (Jb (Ja (Jc (zE (Jb (Ja (Ja (Jc (zE ?_))))))))))))));refine Jb (Jl (Yz 5 100005 2 16 (by kernel_rfl) (by kernel_rfl) ?_));obtain ⟨o30,h30,h⟩:=Kf h;refine zA 48 0 (fun (x24,x25,x26)=>⟨[(0,Jk .frozen a0),(3,.ref 3 0),(5,Jk (.own 100005) x26),(6,.bool x24),(7,I6 x25)],[(3,.cells (cellsOf a1))],[(100005,(((x26).map cellsOf).length,2))],[]⟩) (fun (x37,x38)=>⟨[(3,.ref 3 0),(5,Jk (.own 100005) x37),(6,.bool x38)],[(3,.cells (cellsOf a1))],[(100005,(((x37).map cellsOf).length,2))],[]⟩) h30 ?_ ?_
 ·rintro ⟨x24,x25,x26⟩ oh29 h29;unfold Jgm at h29;refine Ja (Ja (Jc (zR 2 ?_)));refine zL (L:=a0) ?_;refine zE (Jb ?_);rcases Ji h29 with ⟨hb,h29⟩|⟨hb,h29⟩
  ·refine zT hb (Jg (Jb (Ja (Jl ?_))));obtain ⟨o34,h34,h29⟩:=Kf h29;refine Qm (o:=o34) 48 (fun (x42,x43)=>⟨[(0,Jk .frozen a0),(3,.ref 3 0),(5,Jk (.own 100005) x42),(6,.bool x43),(7,I6 x25)],[(3,.cells (cellsOf a1))],[(100005,(((x42).map cellsOf).length,2))],[]⟩) ?_ ?_
   ·refine Ja (zD ?_);obtain ⟨b44,h35,h34⟩:=Je h34;refine zR 3 ?_;refine Ko 9 29 (.bool b44) ?_ ?_
    ·rcases Ji h35 with ⟨hb,h35⟩|⟨hb,h35⟩
     ·refine zS 20 hb (zR 2 ?_);obtain ⟨x45,h36,h35⟩:=Je h35;refine zI h36 ?_;cases h35;exact zF
     refine zS 20 hb ?_;cases h35;exact zF
    refine zN (Jb ?_);rcases Ji h34 with ⟨hb,h34⟩|⟨hb,h34⟩
    ·refine zT hb (Ja (Jc (zR 3 ?_)));obtain ⟨x46,h37,h34⟩:=Je h34;refine zW (tk:=100005) h37 ?_;refine zE (Jb (Jc (zE ?_)));cases h34;exact zJ
    refine zU hb (Jg ?_);cases h34;exact zJ
   rintro ⟨x42,x43⟩ rfl;have h29:=Ka h29;refine Jc (zR 3 ?_);obtain ⟨x47,h38,h29⟩:=Je h29;refine zI h38 (zR 2 ?_);obtain ⟨x48,h39,h29⟩:=Je h29;refine zW (tk:=100005) h39 ?_;refine zE (Jx (Jb (Jc (zE ?_))));cases h29;exact zB
  refine zU hb (Jv (Jt ?_));cases h29;exact zX
 rintro ⟨x37,x38⟩ s' rfl hs;have h:=Ka h;refine Jr (Jb (Jy hs ?_));obtain ⟨o41,h41,h⟩:=Kf h;refine Qm (o:=o41) 48 (fun x50=>⟨[(5,Jk (.own 100005) x50)],[],[(100005,(((x50).map cellsOf).length,2))],[]⟩) ?_ ?_
 ·refine Ja (Jc (zE (Jb ?_)));rcases Ji h41 with ⟨hb,h41⟩|⟨hb,h41⟩
  ·refine zT hb (Jc (zR 3 ?_));obtain ⟨x51,h42,h41⟩:=Je h41;refine zW (tk:=100005) h42 ?_;refine zE ?_;cases h41;exact zJ
  refine zU hb (Jg ?_);cases h41;exact zJ
 rintro x50 rfl;have h:=Ka h;refine Ja (Jc (zE (Jb (Jm ?_))));cases h;exact zQ
def Pe (a0:(List Int)) (a1:Int):Int→Option (Int⊕(Unit⊕Bool)):=fun x2 =>
 bif decide (x2<((a0.length:Nat):Int)) then (
  (ixO a0 x2).bind fun x4 =>
  bif decide (x4=a1) then (
   some (.inr (.inr true))
  ) else (
   some (.inl (w64 (x2+1)))
  )
 ) else (
  some (.inr (.inl ()))
 )
def Ll (a0:(List Int)) (a1:Int):Option Bool :=
 onInl (α:=Unit) (β:=Bool) (Ki (Pe a0 a1) 0) fun _ =>
 some false
theorem Jfi (a0:(List Int)) (a1:Int) (r:Bool) (h:Ll a0 a1=some r):Kg Tryz.prog GlS 186 [Enc.pv a0,Enc.pv a1] (Enc.pv r):=by
 unfold Ll at h;refine zC Tryz.func186 Tryz.ntmps186 ?_;refine Ja (Jc (zE (Jb (Ja (Ja (Jc (zE (Jb (Jl ?_)))))))));obtain ⟨o6,h6,h⟩:=Kf h;refine zA 18 0 (fun x2=>⟨[(0,Jk .frozen a0),(1,I6 a1),(5,I6 x2)],[],[],[]⟩) (fun (_:Unit)=>⟨[],[],[],[]⟩) h6 ?_ ?_
 ·rintro x2 oh5 h5;unfold Pe at h5;refine Ja (Ja (Jc (zR 2 ?_)));refine zL (L:=a0) ?_;refine zE (Jb ?_);rcases Ji h5 with ⟨hb,h5⟩|⟨hb,h5⟩
  ·refine zT hb (Jg (Jb (Ja (Jl (Ja (Jc (zR 2 ?_)))))));obtain ⟨x4,h7,h5⟩:=Je h5;refine zI h7 (zE (Jb ?_));rcases Ji h5 with ⟨hb,h5⟩|⟨hb,h5⟩
   ·refine zT hb (Ja (Jc (zE (Jb (Jm (Jp (Jj ?_)))))));cases h5;refine Kc fun he=>?_;subst he;have h8:=Km h;refine Jp (Jj ?_);cases h8;exact zQ
   refine zU hb (Jg (Jx (Jb (Jc (zE ?_)))));cases h5;exact zB
  refine zU hb (Jv (Jt ?_));cases h5;exact zX
 rintro _ s' rfl hs;have h:=Ka h;refine Jr (Jb (Jy hs (Ja (Jc (zE (Jb (Jm ?_)))))));cases h;exact zQ
def Gu (a0:(List Int)) (a1:Int):(Bool×Int×(List Int))→Option ((Bool×Int×(List Int))⊕(((List Int)×Bool)⊕(List Int))):=fun (x24,x25,x26) =>
 bif decide (x25<((a0.length:Nat):Int)) then (
  onInl (α:=((List Int)×Bool)) (β:=((Bool×Int×(List Int))⊕(((List Int)×Bool)⊕(List Int)))) (
   ((bif (!x24) then (
    (ixO a0 x25).bind fun x45 =>
    some (decide (a1<x45))
   ) else some false):Option Bool).bind fun b44 =>
   bif b44 then (
    (Ul x26 [a1]).bind fun x46 =>
    some (.inl (x46,true))
   ) else (
    some (.inl (x26,x24))
   )
  ) fun (x42,x43) =>
  (ixO a0 x25).bind fun x47 =>
  (Ul x42 [x47]).bind fun x48 =>
  some (.inl (x43,w64 (x25+1),x48))
 ) else (
  some (.inr (.inl (x26,x24)))
 )
def Zy (a0:(List Int)) (a1:Int):Option (List Int) :=
 (Ll a0 a1).bind fun r1 =>
 bif r1 then (
  some a0
 ) else (
  onInl (α:=((List Int)×Bool)) (β:=(List Int)) (Ki (Gu a0 a1) (false,0,([]:(List Int)))) fun (x37,x38) =>
  onInl (α:=(List Int)) (β:=(List Int)) (
   bif (!x38) then (
    (Ul x37 [a1]).bind fun x51 =>
    some (.inl x51)
   ) else (
    some (.inl x37)
   )
  ) fun x50 =>
  some x50
 )
theorem Ms (a0:(List Int)) (a1:Int) (r:(List Int)) (h:Zy a0 a1=some r):Kg Tryz.prog GlS 108 [Enc.pv a0,Enc.pv a1] (Enc.pv r):=by
 unfold Zy at h;refine zC Tryz.func108 Tryz.ntmps108 ?_;refine Ja (Jc (zE (Jb (Ja (Ja (Jc (zR 2 ?_)))))));obtain ⟨r1,h1,h⟩:=Je h;refine zP (Jfi _ _ r1 h1) (zN (Jb ?_));rcases Ji h with ⟨hb,h⟩|⟨hb,h⟩
 ·refine zT hb (Ja (Jc (zE (Jb (Jm (Jj ?_))))));cases h;exact zQ
 refine zU hb (Jg (Jb (Ja (Jc (zE (Jb (Ja (Jc (zE (Jb (Ja (Ja (Jc (zE ?_))))))))))))));refine Jb (Jl (Yz 5 100005 1 8 (by kernel_rfl) (by kernel_rfl) ?_));obtain ⟨o30,h30,h⟩:=Kf h;refine zA 46 0 (fun (x24,x25,x26)=>⟨[(0,Jk .frozen a0),(1,I6 a1),(5,Jk (.own 100005) x26),(6,.bool x24),(7,I6 x25)],[],[(100005,(((x26).map cellsOf).length,1))],[]⟩) (fun (x37,x38)=>⟨[(1,I6 a1),(5,Jk (.own 100005) x37),(6,.bool x38)],[],[(100005,(((x37).map cellsOf).length,1))],[]⟩) h30 ?_ ?_
 ·rintro ⟨x24,x25,x26⟩ oh29 h29;unfold Gu at h29;refine Ja (Ja (Jc (zR 2 ?_)));refine zL (L:=a0) ?_;refine zE (Jb ?_);rcases Ji h29 with ⟨hb,h29⟩|⟨hb,h29⟩
  ·refine zT hb (Jg (Jb (Ja (Jl ?_))));obtain ⟨o34,h34,h29⟩:=Kf h29;refine Qm (o:=o34) 46 (fun (x42,x43)=>⟨[(0,Jk .frozen a0),(1,I6 a1),(5,Jk (.own 100005) x42),(6,.bool x43),(7,I6 x25)],[],[(100005,(((x42).map cellsOf).length,1))],[]⟩) ?_ ?_
   ·refine Ja (Jc ?_);obtain ⟨b44,h35,h34⟩:=Je h34;refine zR 3 ?_;refine Ko 7 27 (.bool b44) ?_ ?_
    ·rcases Ji h35 with ⟨hb,h35⟩|⟨hb,h35⟩
     ·refine zS 20 hb (zR 2 ?_);obtain ⟨x45,h36,h35⟩:=Je h35;refine zI h36 ?_;cases h35;exact zF
     refine zS 20 hb ?_;cases h35;exact zF
    refine zN (Jb ?_);rcases Ji h34 with ⟨hb,h34⟩|⟨hb,h34⟩
    ·refine zT hb (Ja (Jc (zR 3 ?_)));obtain ⟨x46,h37,h34⟩:=Je h34;refine zW (tk:=100005) h37 ?_;refine zE (Jb (Jc (zE ?_)));cases h34;exact zJ
    refine zU hb (Jg ?_);cases h34;exact zJ
   rintro ⟨x42,x43⟩ rfl;have h29:=Ka h29;refine Jc (zR 3 ?_);obtain ⟨x47,h38,h29⟩:=Je h29;refine zI h38 (zR 2 ?_);obtain ⟨x48,h39,h29⟩:=Je h29;refine zW (tk:=100005) h39 ?_;refine zE (Jx (Jb (Jc (zE ?_))));cases h29;exact zB
  refine zU hb (Jv (Jt ?_));cases h29;exact zX
 rintro ⟨x37,x38⟩ s' rfl hs;have h:=Ka h;refine Jr (Jb (Jy hs ?_));obtain ⟨o41,h41,h⟩:=Kf h;refine Qm (o:=o41) 46 (fun x50=>⟨[(5,Jk (.own 100005) x50)],[],[(100005,(((x50).map cellsOf).length,1))],[]⟩) ?_ ?_
 ·refine Ja (Jc (zE (Jb ?_)));rcases Ji h41 with ⟨hb,h41⟩|⟨hb,h41⟩
  ·refine zT hb (Jc (zR 3 ?_));obtain ⟨x51,h42,h41⟩:=Je h41;refine zW (tk:=100005) h42 ?_;refine zE ?_;cases h41;exact zJ
  refine zU hb (Jg ?_);cases h41;exact zJ
 rintro x50 rfl;have h:=Ka h;refine Ja (Jc (zE (Jb (Jm ?_))));cases h;exact zQ
def Nm (a0:(List Int)):(Int×(List Int))→Option ((Int×(List Int))⊕((List Int)⊕(List Int))):=fun (x6,x7) =>
 bif decide (x6<((a0.length:Nat):Int)) then (
  (ixO a0 x6).bind fun x11 =>
  (Zy x7 x11).bind fun r12 =>
  some (.inl (w64 (x6+1),r12))
 ) else (
  some (.inr (.inl x7))
 )
def Gh (a0:(List Int)):Option (List Int) :=
 onInl (α:=(List Int)) (β:=(List Int)) (Ki (Nm a0) (0,([]:(List Int)))) fun x10 =>
 some x10
theorem Jc2 (a0:(List Int)) (r:(List Int)) (h:Gh a0=some r):Kg Tryz.prog GlS 56 [Enc.pv a0] (Enc.pv r):=by
 unfold Gh at h;refine zC Tryz.func56 Tryz.ntmps56 ?_;refine Ja (Jc (zE (Jb (Ja (Jc (zE (Jb (Ja (Ja (Jc (zE (Jb (Jl ?_)))))))))))));obtain ⟨o8,h8,h⟩:=Kf h;refine zA 18 0 (fun (x6,x7)=>⟨[(0,Jk .frozen a0),(3,Jk .frozen x7),(4,I6 x6)],[],[],[]⟩) (fun x10=>⟨[(3,Jk .frozen x10)],[],[],[]⟩) h8 ?_ ?_
 ·rintro ⟨x6,x7⟩ oh7 h7;unfold Nm at h7;refine Ja (Ja (Jc (zR 2 ?_)));refine zL (L:=a0) ?_;refine zE (Jb ?_);rcases Ji h7 with ⟨hb,h7⟩|⟨hb,h7⟩
  ·refine zT hb (Jg (Jb (Ja (Jl (Jc (zR 3 ?_))))));obtain ⟨x11,h9,h7⟩:=Je h7;refine zI h9 (zR 1 ?_);obtain ⟨r12,h10,h7⟩:=Je h7;refine zP (Ms _ _ r12 h10) (zE (Jx (Jb (Jc (zE ?_)))));cases h7;exact zB
  refine zU hb (Jv (Jt ?_));cases h7;exact zX
 rintro x10 s' rfl hs;have h:=Ka h;refine Jr (Jb (Jy hs (Ja (Jc (zE (Jb (Jm ?_)))))));cases h;exact zQ
def Jc6 (a1:(List Int)):((List Int)×Int)→Option (((List Int)×Int)⊕((List Int)⊕(List Int))):=fun (x4,x5) =>
 bif decide (x5<((a1.length:Nat):Int)) then (
  (ixO a1 x5).bind fun x9 =>
  (Zy x4 x9).bind fun r10 =>
  some (.inl (r10,w64 (x5+1)))
 ) else (
  some (.inr (.inl x4))
 )
def Jao (a0:(List Int)) (a1:(List Int)):Option (List Int) :=
 (Gh a0).bind fun r1 =>
 onInl (α:=(List Int)) (β:=(List Int)) (Ki (Jc6 a1) (r1,0)) fun x8 =>
 some x8
theorem Jji (a0:(List Int)) (a1:(List Int)) (r:(List Int)) (h:Jao a0 a1=some r):Kg Tryz.prog GlS 129 [Enc.pv a0,Enc.pv a1] (Enc.pv r):=by
 unfold Jao at h;refine zC Tryz.func129 Tryz.ntmps129 ?_;refine Ja (Jc (zE (Jb (Ja (Jc (zR 1 ?_))))));obtain ⟨r1,h1,h⟩:=Je h;refine zP (Jc2 _ r1 h1) (zE (Jb (Ja (Ja (Jc (zE (Jb (Jl ?_))))))));obtain ⟨o7,h7,h⟩:=Kf h;refine zA 22 0 (fun (x4,x5)=>⟨[(1,Jk .frozen a1),(5,Jk .frozen x4),(6,I6 x5)],[],[],[]⟩) (fun x8=>⟨[(5,Jk .frozen x8)],[],[],[]⟩) h7 ?_ ?_
 ·rintro ⟨x4,x5⟩ oh6 h6;unfold Jc6 at h6;refine Ja (Ja (Jc (zR 2 ?_)));refine zL (L:=a1) ?_;refine zE (Jb ?_);rcases Ji h6 with ⟨hb,h6⟩|⟨hb,h6⟩
  ·refine zT hb (Jg (Jb (Ja (Jl (Jc (zR 3 ?_))))));obtain ⟨x9,h8,h6⟩:=Je h6;refine zI h8 (zR 1 ?_);obtain ⟨r10,h9,h6⟩:=Je h6;refine zP (Ms _ _ r10 h9) (zE (Jx (Jb (Jc (zE ?_)))));cases h6;exact zB
  refine zU hb (Jv (Jt ?_));cases h6;exact zX
 rintro x8 s' rfl hs;have h:=Ka h;refine Jr (Jb (Jy hs (Ja (Jc (zE (Jb (Jm ?_)))))));cases h;exact zQ
def Jff (a0:Jd) (a1:Jw) (r1:(List Jo)):(Int×(List Js)×(List Int)×(List Jo))→Option ((Int×(List Js)×(List Int)×(List Jo))⊕(((List Js)×(List Int)×(List Jo))⊕Jw)):=fun (x55,x56,x57,x58) =>
 bif decide (x55<((r1.length:Nat):Int)) then (
  onInl (α:=((List Js)×(List Int)×(List Jo))) (β:=((Int×(List Js)×(List Int)×(List Jo))⊕(((List Js)×(List Int)×(List Jo))⊕Jw))) (
   (ixO r1 x55).bind fun x101 =>
   (Xh a0 (Jw.mk a1.Name a1.Entry a1.Exit a1.Path a1.Points a1.Sections a1.Approach a1.Length a1.Over a1.OverPoints a1.OverSections x56 x57 x58) x101).bind fun r102 =>
   onInl (α:=(List Jo)) (β:=(((List Js)×(List Int)×(List Jo))⊕((Int×(List Js)×(List Int)×(List Jo))⊕(((List Js)×(List Int)×(List Jo))⊕Jw)))) (
    bif (!r102.2.2) then (
     (ixO r1 x55).bind fun x106 =>
     (Ul x58 [x106]).bind fun x107 =>
     some (.inl x107)
    ) else (
     some (.inl x58)
    )
   ) fun x105 =>
   onInl (α:=(List Js)) (β:=(((List Js)×(List Int)×(List Jo))⊕((Int×(List Js)×(List Int)×(List Jo))⊕(((List Js)×(List Int)×(List Jo))⊕Jw)))) (
    bif (!(decide (r102.1.Pos=0))) then (
     (Jd3 x56 r102.1).bind fun r110 =>
     some (.inl r110)
    ) else (
     some (.inl x56)
    )
   ) fun x109 =>
   bif decide (0≤r102.2.1) then (
    (Jao x57 [r102.2.1]).bind fun r111 =>
    some (.inl (x109,r111,x105))
   ) else (
    some (.inl (x109,x57,x105))
   )
  ) fun (x98,x99,x100) =>
  some (.inl (w64 (x55+1),x98,x99,x100))
 ) else (
  some (.inr (.inl (x56,x57,x58)))
 )
def Jb6 (a0:Jd) (a1:Jw):Option Jw :=
 (Jan a0 (Jw.mk a1.Name a1.Entry a1.Exit a1.Path a1.Points a1.Sections a1.Approach a1.Length a1.Over a1.OverPoints a1.OverSections [] [] [])).bind fun r1 =>
 onInl (α:=((List Js)×(List Int)×(List Jo))) (β:=Jw) (Ki (Jff a0 a1 r1) (0,([]:(List Js)),([]:(List Int)),([]:(List Jo)))) fun (x84,x85,x86) =>
 some (Jw.mk a1.Name a1.Entry a1.Exit a1.Path a1.Points a1.Sections a1.Approach a1.Length a1.Over a1.OverPoints a1.OverSections x84 x85 x86)
theorem Jly (a0:Jd) (a1:Jw) (r:Jw) (h:Jb6 a0 a1=some r):Kg Tryz.prog GlS 67 [Enc.pv a0,Enc.pv a1] (Enc.pv r):=by
 unfold Jb6 at h;refine zC Tryz.func67 Tryz.ntmps67 ?_;refine Ja (Jc (zE (Jb (Ja (Jc (zE (Jb (Ja (Jc (zE (Jb (Ja (Jc (zE ?_))))))))))))));refine Jb (Ja (Jc (zR 2 ?_)));obtain ⟨r1,h1,h⟩:=Je h;refine zP (Jkl _ _ r1 h1) (zE (Jb (Ja (Ja (Jc (zE (Jb (Jl ?_))))))));refine Jy (Fp 3 13 200313 2 16 (cs:=[.str a1.Name,I6 a1.Entry,I6 a1.Exit,Jk .frozen a1.Path,Jk .frozen a1.Points,Jk .frozen a1.Sections,I6 a1.Approach,I6 a1.Length,Jk .frozen a1.Over,Jk .frozen a1.OverPoints,Jk .frozen a1.OverSections,.nil,.nil,.nil]) (by kernel_rfl) (by kernel_rfl) (by kernel_rfl)) ?_;obtain ⟨o72,h72,h⟩:=Kf h;refine zA 61 0 (fun (x55,x56,x57,x58)=>⟨[(2,.ref 2 0),(3,.ref 3 0),(4,.ref 4 0),(5,Jk (.own 115005) r1),(6,I6 x55)],[(2,.cells (cellsOf a0)),(3,.cells ([.str a1.Name,I6 a1.Entry,I6 a1.Exit,Jk .frozen a1.Path,Jk .frozen a1.Points,Jk .frozen a1.Sections,I6 a1.Approach,I6 a1.Length,Jk .frozen a1.Over,Jk .frozen a1.OverPoints,Jk .frozen a1.OverSections,Jk .frozen x56,Jk .frozen x57,Jk (.own 200313) x58])),(4,.cells ([.str ByteArray.empty,I6 0,I6 0,.nil,.nil,.nil,I6 0,I6 0,.nil,.nil,.nil,.nil,.nil,.nil]))],[(115005,(((r1).map cellsOf).length,2)),(200313,(((x58).map cellsOf).length,2))],[]⟩) (fun (x84,x85,x86)=>⟨[(3,.ref 3 0),(4,.ref 4 0)],[(3,.cells ([.str a1.Name,I6 a1.Entry,I6 a1.Exit,Jk .frozen a1.Path,Jk .frozen a1.Points,Jk .frozen a1.Sections,I6 a1.Approach,I6 a1.Length,Jk .frozen a1.Over,Jk .frozen a1.OverPoints,Jk .frozen a1.OverSections,Jk .frozen x84,Jk .frozen x85,Jk (.own 200313) x86])),(4,.cells ([.str ByteArray.empty,I6 0,I6 0,.nil,.nil,.nil,I6 0,I6 0,.nil,.nil,.nil,.nil,.nil,.nil]))],[(200313,(((x86).map cellsOf).length,2))],[]⟩) h72 ?_ ?_
 ·rintro ⟨x55,x56,x57,x58⟩ oh71 h71;unfold Jff at h71;refine Ja (Ja (Jc (zR 2 ?_)));refine zL (L:=r1) ?_;refine zE (Jb ?_);rcases Ji h71 with ⟨hb,h71⟩|⟨hb,h71⟩
  ·refine zT hb (Jg (Jb ?_));obtain ⟨o84,h84,h71⟩:=Kf h71;refine Qm (o:=o84) 61 (fun (x98,x99,x100)=>⟨[(2,.ref 2 0),(3,.ref 3 0),(4,.ref 4 0),(5,Jk (.own 115005) r1),(6,I6 x55)],[(2,.cells (cellsOf a0)),(3,.cells ([.str a1.Name,I6 a1.Entry,I6 a1.Exit,Jk .frozen a1.Path,Jk .frozen a1.Points,Jk .frozen a1.Sections,I6 a1.Approach,I6 a1.Length,Jk .frozen a1.Over,Jk .frozen a1.OverPoints,Jk .frozen a1.OverSections,Jk .frozen x98,Jk .frozen x99,Jk (.own 200313) x100])),(4,.cells ([.str ByteArray.empty,I6 0,I6 0,.nil,.nil,.nil,I6 0,I6 0,.nil,.nil,.nil,.nil,.nil,.nil]))],[(115005,(((r1).map cellsOf).length,2)),(200313,(((x100).map cellsOf).length,2))],[]⟩) ?_ ?_
   ·refine Jl (Ja (zD (zR 4 ?_)));obtain ⟨x101,h85,h84⟩:=Je h84;refine zI h85 (zR 1 ?_);obtain ⟨r102,h86,h84⟩:=Je h84;refine zP (Ji6 _ _ _ r102 h86) (zE (Jb ?_));obtain ⟨o89,h89,h84⟩:=Kf h84;refine Qm (o:=o89) 61 (fun x105=>⟨[(2,.ref 2 0),(3,.ref 3 0),(4,.ref 4 0),(5,Jk (.own 115005) r1),(6,I6 x55),(7,.ref 7 0),(8,I6 r102.2.1)],[(2,.cells (cellsOf a0)),(3,.cells ([.str a1.Name,I6 a1.Entry,I6 a1.Exit,Jk .frozen a1.Path,Jk .frozen a1.Points,Jk .frozen a1.Sections,I6 a1.Approach,I6 a1.Length,Jk .frozen a1.Over,Jk .frozen a1.OverPoints,Jk .frozen a1.OverSections,Jk .frozen x56,Jk .frozen x57,Jk (.own 200313) x105])),(4,.cells ([.str ByteArray.empty,I6 0,I6 0,.nil,.nil,.nil,I6 0,I6 0,.nil,.nil,.nil,.nil,.nil,.nil])),(7,.cells (cellsOf r102.1))],[(115005,(((r1).map cellsOf).length,2)),(200313,(((x105).map cellsOf).length,2))],[]⟩) ?_ ?_
    ·refine Ja (Jc (zE (Jb ?_)));rcases Ji h89 with ⟨hb,h89⟩|⟨hb,h89⟩
     ·refine zT hb (zD (zR 4 ?_));obtain ⟨x106,h90,h89⟩:=Je h89;refine zI h90 (zR 2 ?_);obtain ⟨x107,h91,h89⟩:=Je h89;refine zW (tk:=200313) h91 ?_;refine zE ?_;cases h89;exact zJ
     refine zU hb (Jg ?_);cases h89;exact zJ
    rintro x105 rfl;have h84:=Ka h84;obtain ⟨o93,h93,h84⟩:=Kf h84;refine Qm (o:=o93) 61 (fun x109=>⟨[(2,.ref 2 0),(3,.ref 3 0),(4,.ref 4 0),(5,Jk (.own 115005) r1),(6,I6 x55),(8,I6 r102.2.1)],[(2,.cells (cellsOf a0)),(3,.cells ([.str a1.Name,I6 a1.Entry,I6 a1.Exit,Jk .frozen a1.Path,Jk .frozen a1.Points,Jk .frozen a1.Sections,I6 a1.Approach,I6 a1.Length,Jk .frozen a1.Over,Jk .frozen a1.OverPoints,Jk .frozen a1.OverSections,Jk .frozen x109,Jk .frozen x57,Jk (.own 200313) x105])),(4,.cells ([.str ByteArray.empty,I6 0,I6 0,.nil,.nil,.nil,I6 0,I6 0,.nil,.nil,.nil,.nil,.nil,.nil]))],[(115005,(((r1).map cellsOf).length,2)),(200313,(((x105).map cellsOf).length,2))],[]⟩) ?_ ?_
    ·refine Ja (Jc (zE (Jb ?_)));rcases Ji h93 with ⟨hb,h93⟩|⟨hb,h93⟩
     ·refine zT hb (Jc (zR 3 ?_));obtain ⟨r110,h94,h93⟩:=Je h93;refine zP (Jo5 _ _ r110 h94) (zE ?_);cases h93;exact zJ
     refine zU hb (Jg ?_);cases h93;exact zJ
    rintro x109 rfl;have h84:=Ka h84;refine Ja (Jc (zE (Jb ?_)));rcases Ji h84 with ⟨hb,h84⟩|⟨hb,h84⟩
    ·refine zT hb (Jc (zR 4 ?_));obtain ⟨r111,h95,h84⟩:=Je h84;refine zP (Jji _ _ r111 h95) (zE (Jx ?_));cases h84;exact zJ
    refine zU hb (Jg (Jx ?_));cases h84;exact zJ
   rintro ⟨x98,x99,x100⟩ rfl;have h71:=Ka h71;refine Jc (zE ?_);cases h71;exact zB
  refine zU hb (Jv (Jt ?_));cases h71;exact zX
 rintro ⟨x84,x85,x86⟩ s' rfl hs;have h:=Ka h;refine Jr (Jb (Jy hs (Ja (Jc (zE (Jb (Jm ?_)))))));cases h;exact zQ
def Jdp (a0:Jd) (r1:((List Jw)×Int)):(Int×(List Jw))→Option ((Int×(List Jw))⊕((List Jw)⊕(Qo×Int))):=fun (x12,x13) =>
 bif decide (x12<((r1.1.length:Nat):Int)) then (
  (ixO r1.1 x12).bind fun x19 =>
  (Jbz a0 x19).bind fun r20 =>
  (Jb6 a0 r20).bind fun r21 =>
  (Ul x13 [r21]).bind fun x22 =>
  some (.inl (w64 (x12+1),x22))
 ) else (
  some (.inr (.inl x13))
 )
def Jc5 (a0:Jd) (r2:(List Int)):(Int×(List Int))→Option ((Int×(List Int))⊕((List Int)⊕(Qo×Int))):=fun (x30,x31) =>
 bif decide (x30<((r2.length:Nat):Int)) then (
  (ixO r2 x30).bind fun x36 =>
  (Vf a0 x36).bind fun r37 =>
  (Ul x31 [r37]).bind fun x38 =>
  some (.inl (w64 (x30+1),x38))
 ) else (
  some (.inr (.inl x31))
 )
def Jaq (a0:Jd):Option (Qo×Int) :=
 (Jex a0).bind fun r1 =>
 bif (!(decide (r1.2=0))) then (
  some ((Qo.mk [] [] [] 0 0),r1.2)
 ) else (
  (Mf a0).bind fun r2 =>
  onInl (α:=(List Jw)) (β:=(Qo×Int)) (Ki (Jdp a0 r1) (0,([]:(List Jw)))) fun x18 =>
  onInl (α:=(List Int)) (β:=(Qo×Int)) (Ki (Jc5 a0 r2) (0,([]:(List Int)))) fun x35 =>
  some ((Qo.mk x18 r2 x35 ((a0.Sections.length:Nat):Int) ((a0.Signals.length:Nat):Int)),0)
 )
theorem Jjr (a0:Jd) (r:(Qo×Int)) (h:Jaq a0=some r):Kg Tryz.prog GlS 28 [Enc.pv a0] (.tup [Enc.pv r.1,Enc.pv r.2]):=by
 unfold Jaq at h;refine zC Tryz.func28 Tryz.ntmps28 ?_;refine Ja (Jc (zE (Jb (Ja (Jc (zR 1 ?_))))));obtain ⟨r1,h1,h⟩:=Je h;refine zP (Joi _ r1 h1) (zE (Jb (Ja (Ja (Jc (zE (Jb ?_)))))));rcases Ji h with ⟨hb,h⟩|⟨hb,h⟩
 ·refine zT hb (Ja (Jc (zE (Jb (Jm (Jj ?_))))));cases h;exact zQ
 refine zU hb (Jg (Jb (Ja (zD (zR 1 ?_)))));obtain ⟨r2,h2,h⟩:=Je h;refine zP (Jiy _ r2 h2) (zR 2 ?_);refine zL (L:=a0.Sections) ?_;refine zR 2 ?_;refine zL (L:=a0.Signals) ?_;refine zE (Jb (Ja (Ja (Jc (zR 1 ?_)))));refine zL (L:=r1.1) ?_;refine zE (Jb (Jl ?_));refine Jy (Fp 6 0 200600 14 264 (cs:=[.nil,Jk .frozen r2,.nil,I6 ((a0.Sections.length:Nat):Int),I6 ((a0.Signals.length:Nat):Int)]) (by kernel_rfl) (by kernel_rfl) (by kernel_rfl)) ?_;obtain ⟨o16,h16,h⟩:=Kf h;refine zA 63 0 (fun (x12,x13)=>⟨[(1,.ref 1 0),(2,.ref 2 0),(6,.ref 6 0),(29,Jk .frozen r1.1),(30,I6 ((r1.1.length:Nat):Int)),(31,I6 x12)],[(1,.cells (cellsOf a0)),(2,.cells ([.nil,.nil,.nil,I6 0,I6 0])),(6,.cells ([Jk (.own 200600) x13,Jk .frozen r2,.nil,I6 ((a0.Sections.length:Nat):Int),I6 ((a0.Signals.length:Nat):Int)]))],[(200600,(((x13).map cellsOf).length,14))],[]⟩) (fun x18=>⟨[(1,.ref 1 0),(2,.ref 2 0),(6,.ref 6 0)],[(1,.cells (cellsOf a0)),(2,.cells ([.nil,.nil,.nil,I6 0,I6 0])),(6,.cells ([Jk (.own 200600) x18,Jk .frozen r2,.nil,I6 ((a0.Sections.length:Nat):Int),I6 ((a0.Signals.length:Nat):Int)]))],[(200600,(((x18).map cellsOf).length,14))],[]⟩) h16 ?_ ?_
 ·rintro ⟨x12,x13⟩ oh15 h15;unfold Jdp at h15;refine Ja (Jc (zE (Jb (Ja ?_))));rcases Ji h15 with ⟨hb,h15⟩|⟨hb,h15⟩
  ·refine zT hb (Jg (Jb (Ja (Jl (Ja (Jc ?_))))));obtain ⟨x19,h17,h15⟩:=Je h15;refine zI h17 (zE (Jb (zD (zR 5 ?_))));obtain ⟨r20,h18,h15⟩:=Je h15;refine zP (Jl2 _ _ r20 h18) ?_;obtain ⟨r21,h19,h15⟩:=Je h15;refine zP (Jly _ _ r21 h19) (zR 1 ?_);obtain ⟨x22,h20,h15⟩:=Je h15;refine zW (tk:=200600) h20 ?_;refine zE (Jx (Jb (Jc (zE ?_))));cases h15;exact zB
  refine zU hb (Jv (Jt ?_));cases h15;exact zX
 rintro x18 s' rfl hs;have h:=Ka h;refine Jr (Jb (Jy hs (Ja (Ja (Jc (zR 2 ?_))))));refine zL (L:=r2) ?_;refine zE (Jb (Jl ?_));refine Jy (Fp 6 2 200602 1 8 (cs:=[Jk (.own 200600) x18,Jk .frozen r2,.nil,I6 ((a0.Sections.length:Nat):Int),I6 ((a0.Signals.length:Nat):Int)]) (by kernel_rfl) (by kernel_rfl) (by kernel_rfl)) ?_;obtain ⟨o31,h31,h⟩:=Kf h;refine zA 63 2 (fun (x30,x31)=>⟨[(1,.ref 1 0),(2,.ref 2 0),(6,.ref 6 0),(47,Jk .frozen r2),(48,I6 ((r2.length:Nat):Int)),(49,I6 x30)],[(1,.cells (cellsOf a0)),(2,.cells ([.nil,.nil,.nil,I6 0,I6 0])),(6,.cells ([Jk (.own 200600) x18,Jk .frozen r2,Jk (.own 200602) x31,I6 ((a0.Sections.length:Nat):Int),I6 ((a0.Signals.length:Nat):Int)]))],[(200600,(((x18).map cellsOf).length,14)),(200602,(((x31).map cellsOf).length,1))],[]⟩) (fun x35=>⟨[(2,.ref 2 0),(6,.ref 6 0)],[(2,.cells ([.nil,.nil,.nil,I6 0,I6 0])),(6,.cells ([Jk (.own 200600) x18,Jk .frozen r2,Jk (.own 200602) x35,I6 ((a0.Sections.length:Nat):Int),I6 ((a0.Signals.length:Nat):Int)]))],[(200600,(((x18).map cellsOf).length,14)),(200602,(((x35).map cellsOf).length,1))],[]⟩) h31 ?_ ?_
 ·rintro ⟨x30,x31⟩ oh30 h30;unfold Jc5 at h30;refine Ja (Jc (zE (Jb (Ja ?_))));rcases Ji h30 with ⟨hb,h30⟩|⟨hb,h30⟩
  ·refine zT hb (Jg (Jb (Ja (Jl (Ja (Jc ?_))))));obtain ⟨x36,h32,h30⟩:=Je h30;refine zI h32 (zE (Jb (zD (zR 4 ?_))));obtain ⟨r37,h33,h30⟩:=Je h30;refine zP (Wu _ _ r37 h33) (zR 1 ?_);obtain ⟨x38,h34,h30⟩:=Je h30;refine zW (tk:=200602) h34 ?_;refine zE (Jx (Jb (Jc (zE ?_))));cases h30;exact zB
  refine zU hb (Jv (Jt ?_));cases h30;exact zX
 rintro x35 s' rfl hs;have h:=Ka h;refine Jr (Jb (Jy hs (Ja (Jc (zE (Jb (Jm ?_)))))));cases h;exact zQ
def Ja3 : Option (Kk×Kh) :=
 some ((Kk.mk 3 (ByteArray.mk #[105,99,101]) 5000 900 50 50 100 0 0 0),(Kh.mk [(Jh.mk 0 0 1)] 15000 5000))
theorem Jjn (r:(Kk×Kh)) (h:Ja3=some r):Kg Tryz.prog GlS 29 [] (.tup [Enc.pv r.1,Enc.pv r.2]):=by
 unfold Ja3 at h;refine zC Tryz.func29 Tryz.ntmps29 ?_;refine Ja (Jc (zE (Jb (Ja (Jc (zE (Jb (Jm ?_))))))));cases h;exact zQ
def Qj (a0:Int) (a1:Int) (a2:Int):Option Bool :=
 some ((decide (a1≤a0))&&(decide (a0≤a2)))
theorem Qk (a0:Int) (a1:Int) (a2:Int) (r:Bool) (h:Qj a0 a1 a2=some r):Kg Tryz.prog GlS 205 [Enc.pv a0,Enc.pv a1,Enc.pv a2] (Enc.pv r):=by
 unfold Qj at h;refine zC Tryz.func205 Tryz.ntmps205 ?_;refine Ja (Jc (zE (Jb (Ja (Jc (zR 4 ?_))))));refine Ks 4 14 ((decide (a1≤a0))&&(decide (a0≤a2))) (fun x hx=>?_) ?_
 ·rcases Vz hx with ⟨hb,hx⟩|⟨hb,hx⟩
  ·refine zS 10 hb ?_;subst hx;exact zF
  refine zS 10 hb ?_;subst hx;exact zF
 refine zE (Jb (Jm ?_));cases h;exact zQ
def Zv (a0:Jd):Option Bool :=
 (Qj ((a0.Elements.length:Nat):Int) 1 32).bind fun r1 =>
 ((bif r1 then (
  (Qj ((a0.Sections.length:Nat):Int) 1 24).bind fun r3 =>
  some r3
 ) else some false):Option Bool).bind fun b2 =>
 ((bif b2 then (
  some (decide (((a0.Signals.length:Nat):Int)≤20))
 ) else some false):Option Bool).bind fun b4 =>
 ((bif b4 then (
  some (decide (((a0.Balises.length:Nat):Int)≤24))
 ) else some false):Option Bool).bind fun b5 =>
 some b5
theorem Jdv (a0:Jd) (r:Bool) (h:Zv a0=some r):Kg Tryz.prog GlS 137 [Enc.pv a0] (Enc.pv r):=by
 unfold Zv at h;refine zC Tryz.func137 Tryz.ntmps137 ?_;refine Ja (Jc (zE (Jb (Ja (Jc (zR 2 ?_))))));refine zL (L:=a0.Elements) ?_;obtain ⟨r1,h1,h⟩:=Je h;refine zP (Qk _ _ _ r1 h1) ?_;obtain ⟨b2,h2,h⟩:=Je h;refine zR 1 ?_;refine Ko 5 12 (.bool b2) ?_ ?_
 ·rcases Ji h2 with ⟨hb,h2⟩|⟨hb,h2⟩
  ·refine zS 7 hb (zR 2 ?_);refine zL (L:=a0.Sections) ?_;obtain ⟨r3,h3,h2⟩:=Je h2;refine zP (Qk _ _ _ r3 h3) ?_;cases h2;exact zF
  refine zS 7 hb ?_;cases h2;exact zF
 obtain ⟨b4,h4,h⟩:=Je h;refine zR 1 ?_;refine Ko 5 18 (.bool b4) ?_ ?_
 ·rcases Ji h4 with ⟨hb,h4⟩|⟨hb,h4⟩
  ·refine zS 13 hb (zR 2 ?_);refine zL (L:=a0.Signals) ?_;cases h4;exact zF
  refine zS 13 hb ?_;cases h4;exact zF
 obtain ⟨b5,h5,h⟩:=Je h;refine zR 1 ?_;refine Ko 5 24 (.bool b5) ?_ ?_
 ·rcases Ji h5 with ⟨hb,h5⟩|⟨hb,h5⟩
  ·refine zS 19 hb (zR 2 ?_);refine zL (L:=a0.Balises) ?_;cases h5;exact zF
  refine zS 19 hb ?_;cases h5;exact zF
 refine zE (Jb (Jm ?_));cases h;exact zQ
def Ml (a0:ByteArray):Nat→Option (Nat⊕(Unit⊕Bool)):=fun x5 =>
 bif decide (x5<a0.size) then (
  bif ((((decide ((((Go.Utf8.decode a0 x5).1:Nat):Int)<97))||(decide (122<(((Go.Utf8.decode a0 x5).1:Nat):Int))))&&((decide ((((Go.Utf8.decode a0 x5).1:Nat):Int)<48))||(decide (57<(((Go.Utf8.decode a0 x5).1:Nat):Int)))))&&(!(decide ((((Go.Utf8.decode a0 x5).1:Nat):Int)=95)))) then (
   some (.inr (.inr false))
  ) else (
   some (.inl (x5+(Go.Utf8.decode a0 x5).2))
  )
 ) else (
  some (.inr (.inl ()))
 )
def Gk (a0:ByteArray):Option Bool :=
 ((bif ((decide (a0=ByteArray.empty))||(decide (12<((a0.size:Nat):Int)))) then some true else (
  (Jnv a0 0).bind fun x2 =>
  some (decide (x2<97))
 )):Option Bool).bind fun b1 =>
 ((bif b1 then some true else (
  (Jnv a0 0).bind fun x4 =>
  some (decide (122<x4))
 )):Option Bool).bind fun b3 =>
 bif b3 then (
  some false
 ) else (
  onInl (α:=Unit) (β:=Bool) (Ki (Ml a0) 0) fun _ =>
  some true
 )
theorem Jda (a0:ByteArray) (r:Bool) (h:Gk a0=some r):Kg Tryz.prog GlS 144 [Enc.pv a0] (Enc.pv r):=by
 unfold Gk at h;refine zC Tryz.func144 Tryz.ntmps144 ?_;refine Ja (Jc (zE (Jb (Ja (Ja (Jc (zR 3 ?_)))))));refine Ks 4 11 ((decide (a0=ByteArray.empty))||(decide (12<((a0.size:Nat):Int)))) (fun x hx=>?_) ?_
 ·rcases Vi hx with ⟨hb,hx⟩|⟨hb,hx⟩
  ·refine zS 7 hb ?_;subst hx;exact zF
  refine zS 7 hb ?_;subst hx;exact zF
 obtain ⟨b1,h1,h⟩:=Je h;refine zR 1 ?_;refine Ko 4 16 (.bool b1) ?_ ?_
 ·rcases Ji h1 with ⟨hb,h1⟩|⟨hb,h1⟩
  ·refine zS 12 hb ?_;cases h1;exact zF
  refine zS 12 hb (zR 1 ?_);obtain ⟨x2,h2,h1⟩:=Je h1;refine Joo h2 (by kernel_rfl) ?_;cases h1;exact zF
 obtain ⟨b3,h3,h⟩:=Je h;refine zR 1 ?_;refine Ko 4 21 (.bool b3) ?_ ?_
 ·rcases Ji h3 with ⟨hb,h3⟩|⟨hb,h3⟩
  ·refine zS 17 hb ?_;cases h3;exact zF
  refine zS 17 hb (zR 1 ?_);obtain ⟨x4,h4,h3⟩:=Je h3;refine Joo h4 (by kernel_rfl) ?_;cases h3;exact zF
 refine zN (Jb ?_);rcases Ji h with ⟨hb,h⟩|⟨hb,h⟩
 ·refine zT hb (Ja (Jc (zE (Jb (Jm (Jj ?_))))));cases h;exact zQ
 refine zU hb (Jg (Jb (Ja (Ja (Jc (zR 1 ?_))))));refine Kau (b:=a0) (l:=23) (by kernel_rfl) ?_;refine zN (Jb (Jl ?_));obtain ⟨o8,h8,h⟩:=Kf h;refine zA 45 0 (fun x5=>⟨[(23,.ref 23 0)],[(23,.iter a0 x5)],[],[]⟩) (fun (_:Unit)=>⟨[],[],[],[]⟩) h8 ?_ ?_
 ·rintro x5 oh7 h7;unfold Ml at h7;refine Ja (Jc ?_);rcases Ji h7 with ⟨hb,h7⟩|⟨hb,h7⟩
  ·refine Jyg (b:=a0) (pos:=x5) 23 (by kernel_rfl) hb (by kernel_rfl) ?_;refine zE (Jb (Ja ?_));refine Jbi (b:=true) rfl (by kernel_rfl) ?_;refine Jg (Jb (Jl (Ja (Jc (zE (Jb (Ja (Jc (zR 3 ?_)))))))));refine Ks 3 32 ((decide ((((Go.Utf8.decode a0 x5).1:Nat):Int)<97))||(decide (122<(((Go.Utf8.decode a0 x5).1:Nat):Int)))) (fun x hx=>?_) ?_
   ·rcases Vi hx with ⟨hb,hx⟩|⟨hb,hx⟩
    ·refine zS 29 hb ?_;subst hx;exact zF
    refine zS 29 hb ?_;subst hx;exact zF
   refine zR 1 ?_;refine Ks 7 40 (((decide ((((Go.Utf8.decode a0 x5).1:Nat):Int)<97))||(decide (122<(((Go.Utf8.decode a0 x5).1:Nat):Int))))&&((decide ((((Go.Utf8.decode a0 x5).1:Nat):Int)<48))||(decide (57<(((Go.Utf8.decode a0 x5).1:Nat):Int))))) (fun x hx=>?_) ?_
   ·rcases Vz hx with ⟨hb,hx⟩|⟨hb,hx⟩
    ·refine zS 33 hb (zR 3 ?_);refine Tb 3 39 ((decide ((((Go.Utf8.decode a0 x5).1:Nat):Int)<48))||(decide (57<(((Go.Utf8.decode a0 x5).1:Nat):Int)))) (fun x hx=>?_) ?_
     ·rcases Vi hx with ⟨hb,hx⟩|⟨hb,hx⟩
      ·refine zS 36 hb ?_;subst hx;exact zF
      refine zS 36 hb ?_;subst hx;exact zF
     subst hx;exact zF
    refine zS 33 hb ?_;subst hx;exact zF
   refine zR 1 ?_;refine Ks 3 44 ((((decide ((((Go.Utf8.decode a0 x5).1:Nat):Int)<97))||(decide (122<(((Go.Utf8.decode a0 x5).1:Nat):Int))))&&((decide ((((Go.Utf8.decode a0 x5).1:Nat):Int)<48))||(decide (57<(((Go.Utf8.decode a0 x5).1:Nat):Int)))))&&(!(decide ((((Go.Utf8.decode a0 x5).1:Nat):Int)=95)))) (fun x hx=>?_) ?_
   ·rcases Vz hx with ⟨hb,hx⟩|⟨hb,hx⟩
    ·refine zS 41 hb ?_;subst hx;exact zF
    refine zS 41 hb ?_;subst hx;exact zF
   refine zN (Jb ?_);rcases Ji h7 with ⟨hb,h7⟩|⟨hb,h7⟩
   ·refine zT hb (Ja (Jc (zE (Jb (Jm (Jp ?_))))));cases h7;refine Kc fun he=>?_;subst he;have h9:=Km h;refine Jp (Jj ?_);cases h9;exact zQ
   refine zU hb (Jg (Jx ?_));cases h7;exact zB
  refine Jzh (b:=a0) (pos:=x5) 23 (by kernel_rfl) hb (by kernel_rfl) ?_;refine zE (Jb (Ja ?_));refine Jbp (b:=false) rfl (by kernel_rfl) ?_;refine Jv (Jt ?_);cases h7;exact zX
 rintro _ s' rfl hs;have h:=Ka h;refine Jr (Jb (Jy hs (Ja (Jc (zE (Jb (Jm ?_)))))));cases h;exact zQ
def Bf (a0:Jd):((List ByteArray)×Int)→Option (((List ByteArray)×Int)⊕((List ByteArray)⊕Int)):=fun (x4,x5) =>
 bif decide (x5<((a0.Elements.length:Nat):Int)) then (
  (ixO a0.Elements x5).bind fun x9 =>
  (Ul x4 [x9.Name]).bind fun x10 =>
  some (.inl (x10,w64 (x5+1)))
 ) else (
  some (.inr (.inl x4))
 )
def Bi (a0:Jd):((List ByteArray)×Int)→Option (((List ByteArray)×Int)⊕((List ByteArray)⊕Int)):=fun (x14,x15) =>
 bif decide (x15<((a0.Signals.length:Nat):Int)) then (
  (ixO a0.Signals x15).bind fun x19 =>
  (Ul x14 [x19.Name]).bind fun x20 =>
  some (.inl (x20,w64 (x15+1)))
 ) else (
  some (.inr (.inl x14))
 )
def Wp (x38:(List ByteArray)):Int→Option (Int⊕(Unit⊕(Int⊕(Unit⊕Int)))):=fun x41 =>
 bif decide (x41<((x38.length:Nat):Int)) then (
  (ixO x38 x41).bind fun x44 =>
  (Gk x44).bind fun r45 =>
  bif (!r45) then (
   some (.inr (.inr (.inr (.inr 3))))
  ) else (
   some (.inl (w64 (x41+1)))
  )
 ) else (
  some (.inr (.inl ()))
 )
def Bh (a0:Jd) (x8:(List ByteArray)) (x18:(List ByteArray)):Int→Option (Int⊕(Unit⊕Int)):=fun x29 =>
 bif decide (x29<(([[a0.Name],a0.Sections,x8,x18].length:Nat):Int)) then (
  (ixO [[a0.Name],a0.Sections,x8,x18] x29).bind fun x38 =>
  onInl (α:=Unit) (β:=(Int⊕(Unit⊕Int))) (Ki (Wp x38) 0) fun _ =>
  some (.inl (w64 (x29+1)))
 ) else (
  some (.inr (.inl ()))
 )
def Wo (x59:(List ByteArray)):(Int×(List (ByteArray×Bool)))→Option ((Int×(List (ByteArray×Bool)))⊕(Unit⊕(Int⊕(Unit⊕Int)))):=fun (x61,x62) =>
 bif decide (x61<((x59.length:Nat):Int)) then (
  (ixO x59 x61).bind fun x64 =>
  bif ((Uo (x62:(List (ByteArray×Bool))) x64).getD false) then (
   some (.inr (.inr (.inr (.inr 8))))
  ) else (
   some (.inl (w64 (x61+1),(Dj x64 true x62)))
  )
 ) else (
  some (.inr (.inl ()))
 )
def Bj (a0:Jd) (x8:(List ByteArray)) (x18:(List ByteArray)):Int→Option (Int⊕(Unit⊕Int)):=fun x52 =>
 bif decide (x52<(([[a0.Name],a0.Sections,x8,x18].length:Nat):Int)) then (
  (ixO [[a0.Name],a0.Sections,x8,x18] x52).bind fun x59 =>
  onInl (α:=Unit) (β:=(Int⊕(Unit⊕Int))) (Ki (Wo x59) (0,([]:(List (ByteArray×Bool))))) fun _ =>
  some (.inl (w64 (x52+1)))
 ) else (
  some (.inr (.inl ()))
 )
def Za (a0:Jd):Option Int :=
 (mkO ByteArray ((a0.Elements.length:Nat):Int)).bind fun x1 =>
 onInl (α:=(List ByteArray)) (β:=Int) (Ki (Bf a0) (x1,0)) fun x8 =>
 (mkO ByteArray ((a0.Signals.length:Nat):Int)).bind fun x11 =>
 onInl (α:=(List ByteArray)) (β:=Int) (Ki (Bi a0) (x11,0)) fun x18 =>
 onInl (α:=Unit) (β:=Int) (Ki (Bh a0 x8 x18) 0) fun _ =>
 onInl (α:=Unit) (β:=Int) (Ki (Bj a0 x8 x18) 0) fun _ =>
 some 0
theorem Jcl (a0:Jd) (r:Int) (h:Za a0=some r):Kg Tryz.prog GlS 138 [Enc.pv a0] (Enc.pv r):=by
 unfold Za at h;refine zC Tryz.func138 Tryz.ntmps138 ?_;refine Ja (Jc (zE (Jb (Ja (Jc (zR 2 ?_))))));refine zL (L:=a0.Elements) ?_;obtain ⟨x1,h1,h⟩:=Je h;refine Kcb 22 h1 (by kernel_rfl) (zE (Jb (Ja (Ja (Jc (zR 2 ?_))))));refine zL (L:=a0.Elements) ?_;refine zE (Jb (Jl ?_));obtain ⟨o7,h7,h⟩:=Kf h;refine zA 98 0 (fun (x4,x5)=>⟨[(1,.ref 1 0),(3,Jk (.own 22) x4),(24,Jk .frozen a0.Elements),(25,I6 ((a0.Elements.length:Nat):Int)),(26,I6 x5)],[(1,.cells (cellsOf a0))],[(22,(((x4).map cellsOf).length,1))],[]⟩) (fun x8=>⟨[(1,.ref 1 0),(3,Jk (.own 22) x8)],[(1,.cells (cellsOf a0))],[(22,(((x8).map cellsOf).length,1))],[]⟩) h7 ?_ ?_
 ·rintro ⟨x4,x5⟩ oh6 h6;unfold Bf at h6;refine Ja (Jc (zE (Jb (Ja ?_))));rcases Ji h6 with ⟨hb,h6⟩|⟨hb,h6⟩
  ·refine zT hb (Jg (Jb (Ja (Jl (Ja (Jc ?_))))));obtain ⟨x9,h8,h6⟩:=Je h6;refine zI h8 (zE (Jb (Jc (zR 4 ?_))));obtain ⟨x10,h9,h6⟩:=Je h6;refine zW (tk:=22) h9 ?_;refine zE (Jx (Jb (Jc (zE ?_))));cases h6;exact zB
  refine zU hb (Jv (Jt ?_));cases h6;exact zX
 rintro x8 s' rfl hs;have h:=Ka h;refine Jr (Jb (Jy hs (Ja (Jc (zR 2 ?_)))));refine zL (L:=a0.Signals) ?_;obtain ⟨x11,h10,h⟩:=Je h;refine Kcb 39 h10 (by kernel_rfl) (zE (Jb (Ja (Ja (Jc (zR 2 ?_))))));refine zL (L:=a0.Signals) ?_;refine zE (Jb (Jl ?_));obtain ⟨o16,h16,h⟩:=Kf h;refine zA 98 2 (fun (x14,x15)=>⟨[(1,.ref 1 0),(3,Jk (.own 22) x8),(6,Jk (.own 39) x14),(41,Jk .frozen a0.Signals),(42,I6 ((a0.Signals.length:Nat):Int)),(43,I6 x15)],[(1,.cells (cellsOf a0))],[(22,(((x8).map cellsOf).length,1)),(39,(((x14).map cellsOf).length,1))],[]⟩) (fun x18=>⟨[(1,.ref 1 0),(3,Jk (.own 22) x8),(6,Jk (.own 39) x18)],[(1,.cells (cellsOf a0))],[(22,(((x8).map cellsOf).length,1)),(39,(((x18).map cellsOf).length,1))],[]⟩) h16 ?_ ?_
 ·rintro ⟨x14,x15⟩ oh15 h15;unfold Bi at h15;refine Ja (Jc (zE (Jb (Ja ?_))));rcases Ji h15 with ⟨hb,h15⟩|⟨hb,h15⟩
  ·refine zT hb (Jg (Jb (Ja (Jl (Ja (Jc ?_))))));obtain ⟨x19,h17,h15⟩:=Je h15;refine zI h17 (zE (Jb (Jc (zR 4 ?_))));obtain ⟨x20,h18,h15⟩:=Je h15;refine zW (tk:=39) h18 ?_;refine zE (Jx (Jb (Jc (zE ?_))));cases h15;exact zB
  refine zU hb (Jv (Jt ?_));cases h15;exact zX
 rintro x18 s' rfl hs;have h:=Ka h;refine Jr (Jb (Jy hs (Ja (Jc (zE (Jb (Ja (Ja (Jc (zR 1 ?_))))))))));refine zL (L:=([[a0.Name],a0.Sections,x8,x18]:(List (List ByteArray)))) ?_;refine zE (Jb (Jl ?_));obtain ⟨o50,h50,h⟩:=Kf h;refine zA 98 4 (fun x29=>⟨[(9,Jk .full ([[a0.Name],a0.Sections,x8,x18]:(List (List ByteArray)))),(61,Jk .full ([[a0.Name],a0.Sections,x8,x18]:(List (List ByteArray)))),(62,I6 (([[a0.Name],a0.Sections,x8,x18].length:Nat):Int)),(63,I6 x29)],[],[],[]⟩) (fun (_:Unit)=>⟨[(9,Jk .full ([[a0.Name],a0.Sections,x8,x18]:(List (List ByteArray))))],[],[],[]⟩) h50 ?_ ?_
 ·rintro x29 oh49 h49;unfold Bh at h49;refine Ja (Jc (zE (Jb (Ja ?_))));rcases Ji h49 with ⟨hb,h49⟩|⟨hb,h49⟩
  ·refine zT hb (Jg (Jb (Ja (Jl (Ja (Jc ?_))))));obtain ⟨x38,h51,h49⟩:=Je h49;refine zI h51 (zE (Jb (Ja (Jc (zR 1 ?_)))));refine zL (L:=x38) ?_;refine zE (Jb (Jl ?_));obtain ⟨o61,h61,h49⟩:=Kf h49;refine zA 98 6 (fun x41=>⟨[(9,Jk .full ([[a0.Name],a0.Sections,x8,x18]:(List (List ByteArray)))),(61,Jk .full ([[a0.Name],a0.Sections,x8,x18]:(List (List ByteArray)))),(62,I6 (([[a0.Name],a0.Sections,x8,x18].length:Nat):Int)),(63,I6 x29),(67,Jk .frozen x38),(68,I6 ((x38.length:Nat):Int)),(69,I6 x41)],[],[],[]⟩) (fun (_:Unit)=>⟨[(9,Jk .full ([[a0.Name],a0.Sections,x8,x18]:(List (List ByteArray)))),(61,Jk .full ([[a0.Name],a0.Sections,x8,x18]:(List (List ByteArray)))),(62,I6 (([[a0.Name],a0.Sections,x8,x18].length:Nat):Int)),(63,I6 x29)],[],[],[]⟩) h61 ?_ ?_
   ·rintro x41 oh60 h60;unfold Wp at h60;refine Ja (Jc (zE (Jb (Ja ?_))));rcases Ji h60 with ⟨hb,h60⟩|⟨hb,h60⟩
    ·refine zT hb (Jg (Jb (Ja (Jl (Ja (Jc ?_))))));obtain ⟨x44,h62,h60⟩:=Je h60;refine zI h62 (zE (Jb (Ja (Jc (zR 1 ?_)))));obtain ⟨r45,h63,h60⟩:=Je h60;refine zP (Jda _ r45 h63) (zE (Jb ?_));rcases Ji h60 with ⟨hb,h60⟩|⟨hb,h60⟩
     ·refine zT hb (Ja (Jc (zE (Jb (Jm (Jp (Jj ?_)))))));cases h60;refine Kc fun he=>?_;subst he;have h64:=Km h49;refine Jp (Jp (Jj ?_));cases h64;refine Kc fun he=>?_;subst he;have h65:=Km h;refine Jp (Jj ?_);cases h65;exact zQ
     refine zU hb (Jg (Jx (Jb (Jc (zE ?_)))));cases h60;exact zB
    refine zU hb (Jv (Jt ?_));cases h60;exact zX
   rintro _ s' rfl hs;have h49:=Ka h49;refine Jr (Jx (Jb (Jy hs (Jc (zE ?_)))));cases h49;exact zB
  refine zU hb (Jv (Jt ?_));cases h49;exact zX
 rintro _ s' rfl hs;have h:=Ka h;refine Jr (Jb (Jy hs (Ja (Ja (Jc (zR 1 ?_))))));refine zL (L:=([[a0.Name],a0.Sections,x8,x18]:(List (List ByteArray)))) ?_;refine zE (Jb (Jl ?_));obtain ⟨o91,h91,h⟩:=Kf h;refine zA 98 8 (fun x52=>⟨[(78,Jk .full ([[a0.Name],a0.Sections,x8,x18]:(List (List ByteArray)))),(79,I6 (([[a0.Name],a0.Sections,x8,x18].length:Nat):Int)),(80,I6 x52)],[],[],[]⟩) (fun (_:Unit)=>⟨[],[],[],[]⟩) h91 ?_ ?_
 ·rintro x52 oh90 h90;unfold Bj at h90;refine Ja (Jc (zE (Jb (Ja ?_))));rcases Ji h90 with ⟨hb,h90⟩|⟨hb,h90⟩
  ·refine zT hb (Jg (Jb (Ja (Jl (Ja (Jc ?_))))));obtain ⟨x59,h92,h90⟩:=Je h90;refine zI h92 (zE (Jb (Ja (Jc (zE (Jb (Ja (Jc (zR 1 ?_)))))))));refine zL (L:=x59) ?_;refine zE (Jb (Jl ?_));obtain ⟨o100,h100,h90⟩:=Kf h90;refine zA 98 10 (fun (x61,x62)=>⟨[(16,.mp 84),(78,Jk .full ([[a0.Name],a0.Sections,x8,x18]:(List (List ByteArray)))),(79,I6 (([[a0.Name],a0.Sections,x8,x18].length:Nat):Int)),(80,I6 x52),(85,Jk .frozen x59),(86,I6 ((x59.length:Nat):Int)),(87,I6 x61)],[(84,.map (Wc x62))],[],[]⟩) (fun (_:Unit)=>⟨[(78,Jk .full ([[a0.Name],a0.Sections,x8,x18]:(List (List ByteArray)))),(79,I6 (([[a0.Name],a0.Sections,x8,x18].length:Nat):Int)),(80,I6 x52)],[],[],[]⟩) h100 ?_ ?_
   ·rintro ⟨x61,x62⟩ oh99 h99;unfold Wo at h99;refine Ja (Jc (zE (Jb (Ja ?_))));rcases Ji h99 with ⟨hb,h99⟩|⟨hb,h99⟩
    ·refine zT hb (Jg (Jb (Ja (Jl (Ja (Jc ?_))))));obtain ⟨x64,h101,h99⟩:=Je h99;refine zI h101 (zE (Jb (Ja (Ja (Jc (zR 2 ?_))))));refine Jdz (m:=x62) (k:=x64) false 84 (by kernel_rfl) (by kernel_rfl) ?_;refine zN (Jb ?_);rcases Ji h99 with ⟨hb,h99⟩|⟨hb,h99⟩
     ·refine zT hb (Ja (Jc (zE (Jb (Jm (Jj (Jp (Jj ?_))))))));cases h99;refine Kc fun he=>?_;subst he;have h102:=Km h90;refine Jp (Jp (Jj ?_));cases h102;refine Kc fun he=>?_;subst he;have h103:=Km h;refine Jp (Jj ?_);cases h103;exact zQ
     refine zU hb (Jg (Jb (Jc (zR 2 ?_))));refine Jg6 (m:=x62) (k:=x64) (v:=true) 84 (by kernel_rfl) (by kernel_rfl) (by kernel_rfl) ?_;refine zN (Jx (Jb (Jc (zE ?_))));cases h99;exact zB
    refine zU hb (Jv (Jt ?_));cases h99;exact zX
   rintro _ s' rfl hs;have h90:=Ka h90;refine Jr (Jx (Jb (Jy hs (Jc (zE ?_)))));cases h90;exact zB
  refine zU hb (Jv (Jt ?_));cases h90;exact zX
 rintro _ s' rfl hs;have h:=Ka h;refine Jr (Jb (Jy hs (Ja (Jc (zE (Jb (Jm ?_)))))));cases h;exact zQ
def Zf (a0:Jd):Int→Option (Int⊕(Unit⊕Bool)):=fun x13 =>
 bif decide (x13<((a0.Elements.length:Nat):Int)) then (
  (ixO a0.Elements x13).bind fun x26 =>
  (Qj x26.Kind 1 3).bind fun r27 =>
  ((bif (!r27) then some true else (
   (Qj x26.Length 500 1000000).bind fun r29 =>
   some (!r29)
  )):Option Bool).bind fun b28 =>
  ((bif b28 then some true else (
   (Qj x26.Grade (-50) 50).bind fun r31 =>
   some (!r31)
  )):Option Bool).bind fun b30 =>
  ((bif b30 then some true else (
   (Qj x26.Speed 100 10000).bind fun r33 =>
   some (!r33)
  )):Option Bool).bind fun b32 =>
  ((bif b32 then some true else (
   (Qj x26.Section 0 (w64 (((a0.Sections.length:Nat):Int) - 1))).bind fun r35 =>
   some (!r35)
  )):Option Bool).bind fun b34 =>
  bif b34 then (
   some (.inr (.inr false))
  ) else (
   ((bif decide (x26.Kind=2) then (
    (Qj x26.Slow 100 x26.Speed).bind fun r37 =>
    some (!r37)
   ) else some false):Option Bool).bind fun b36 =>
   bif (b36||((!(decide (x26.Kind=2)))&&(!(decide (x26.Slow=0))))) then (
    some (.inr (.inr false))
   ) else (
    some (.inl (w64 (x13+1)))
   )
  )
 ) else (
  some (.inr (.inl ()))
 )
def Vw (a0:Jd):Option Bool :=
 onInl (α:=Unit) (β:=Bool) (Ki (Zf a0) 0) fun _ =>
 some true
theorem Jbw (a0:Jd) (r:Bool) (h:Vw a0=some r):Kg Tryz.prog GlS 139 [Enc.pv a0] (Enc.pv r):=by
 unfold Vw at h;refine zC Tryz.func139 Tryz.ntmps139 ?_;refine Ja (Jc (zE (Jb (Ja (Ja (Jc (zR 2 ?_)))))));refine zL (L:=a0.Elements) ?_;refine zE (Jb (Jl ?_));obtain ⟨o30,h30,h⟩:=Kf h;refine zA 66 0 (fun x13=>⟨[(1,.ref 1 0),(6,Jk .frozen a0.Elements),(7,I6 ((a0.Elements.length:Nat):Int)),(8,I6 x13)],[(1,.cells (cellsOf a0))],[],[]⟩) (fun (_:Unit)=>⟨[],[],[],[]⟩) h30 ?_ ?_
 ·rintro x13 oh29 h29;unfold Zf at h29;refine Ja (Jc (zE (Jb (Ja ?_))));rcases Ji h29 with ⟨hb,h29⟩|⟨hb,h29⟩
  ·refine zT hb (Jg (Jb (Ja (Jl (Ja (Jc ?_))))));obtain ⟨x26,h31,h29⟩:=Je h29;refine zI h31 (zE (Jb (Ja (Ja (Jc (zR 2 ?_))))));obtain ⟨r27,h32,h29⟩:=Je h29;refine zP (Qk _ _ _ r27 h32) ?_;obtain ⟨b28,h33,h29⟩:=Je h29;refine zR 2 ?_;refine Ko 5 21 (.bool b28) ?_ ?_
   ·rcases Ji h33 with ⟨hb,h33⟩|⟨hb,h33⟩
    ·refine zS 16 hb ?_;cases h33;exact zF
    refine zS 16 hb (zR 2 ?_);obtain ⟨r29,h34,h33⟩:=Je h33;refine zP (Qk _ _ _ r29 h34) ?_;cases h33;exact zF
   obtain ⟨b30,h35,h29⟩:=Je h29;refine zR 1 ?_;refine Ko 5 27 (.bool b30) ?_ ?_
   ·rcases Ji h35 with ⟨hb,h35⟩|⟨hb,h35⟩
    ·refine zS 22 hb ?_;cases h35;exact zF
    refine zS 22 hb (zR 2 ?_);obtain ⟨r31,h36,h35⟩:=Je h35;refine zP (Qk _ _ _ r31 h36) ?_;cases h35;exact zF
   obtain ⟨b32,h37,h29⟩:=Je h29;refine zR 1 ?_;refine Ko 5 33 (.bool b32) ?_ ?_
   ·rcases Ji h37 with ⟨hb,h37⟩|⟨hb,h37⟩
    ·refine zS 28 hb ?_;cases h37;exact zF
    refine zS 28 hb (zR 2 ?_);obtain ⟨r33,h38,h37⟩:=Je h37;refine zP (Qk _ _ _ r33 h38) ?_;cases h37;exact zF
   obtain ⟨b34,h39,h29⟩:=Je h29;refine zR 1 ?_;refine Ko 9 43 (.bool b34) ?_ ?_
   ·rcases Ji h39 with ⟨hb,h39⟩|⟨hb,h39⟩
    ·refine zS 34 hb ?_;cases h39;exact zF
    refine zS 34 hb (zR 4 ?_);refine zL (L:=a0.Sections) ?_;refine zR 1 ?_;obtain ⟨r35,h40,h39⟩:=Je h39;refine zP (Qk _ _ _ r35 h40) ?_;cases h39;exact zF
   refine zN (Jb ?_);rcases Ji h29 with ⟨hb,h29⟩|⟨hb,h29⟩
   ·refine zT hb (Ja (Jc (zE (Jb (Jm (Jj (Jp (Jj ?_))))))));cases h29;refine Kc fun he=>?_;subst he;have h41:=Km h;refine Jp (Jj ?_);cases h41;exact zQ
   refine zU hb (Jg (Jb (Ja (Jc ?_))));obtain ⟨b36,h42,h29⟩:=Je h29;refine zR 4 ?_;refine Ko 7 54 (.bool b36) ?_ ?_
   ·rcases Ji h42 with ⟨hb,h42⟩|⟨hb,h42⟩
    ·refine zS 47 hb (zR 4 ?_);obtain ⟨r37,h43,h42⟩:=Je h42;refine zP (Qk _ _ _ r37 h43) ?_;cases h42;exact zF
    refine zS 47 hb ?_;cases h42;exact zF
   refine zR 1 ?_;refine Ks 9 64 (b36||((!(decide (x26.Kind=2)))&&(!(decide (x26.Slow=0))))) (fun x hx=>?_) ?_
   ·rcases Vi hx with ⟨hb,hx⟩|⟨hb,hx⟩
    ·refine zS 55 hb ?_;subst hx;exact zF
    refine zS 55 hb (zR 4 ?_);refine Tb 4 63 ((!(decide (x26.Kind=2)))&&(!(decide (x26.Slow=0)))) (fun x hx=>?_) ?_
    ·rcases Vz hx with ⟨hb,hx⟩|⟨hb,hx⟩
     ·refine zS 59 hb ?_;subst hx;exact zF
     refine zS 59 hb ?_;subst hx;exact zF
    subst hx;exact zF
   refine zN (Jb ?_);rcases Ji h29 with ⟨hb,h29⟩|⟨hb,h29⟩
   ·refine zT hb (Ja (Jc (zE (Jb (Jm (Jp (Jj ?_)))))));cases h29;refine Kc fun he=>?_;subst he;have h44:=Km h;refine Jp (Jj ?_);cases h44;exact zQ
   refine zU hb (Jg (Jx (Jb (Jc (zE ?_)))));cases h29;exact zB
  refine zU hb (Jv (Jt ?_));cases h29;exact zX
 rintro _ s' rfl hs;have h:=Ka h;refine Jr (Jb (Jy hs (Ja (Jc (zE (Jb (Jm ?_)))))));cases h;exact zQ
def Dx (a0:Jd) (a1:Int):(Int×(List Int))→Option ((Int×(List Int))⊕((List Int)⊕(List Int))):=fun (x13,x14) =>
 bif decide (x13<((a0.Elements.length:Nat):Int)) then (
  onInl (α:=(List Int)) (β:=((Int×(List Int))⊕((List Int)⊕(List Int)))) (
   (ixO a0.Elements x13).bind fun x24 =>
   bif decide (x24.Section=a1) then (
    (Ul x14 [x13]).bind fun x25 =>
    some (.inl x25)
   ) else (
    some (.inl x14)
   )
  ) fun x23 =>
  some (.inl (w64 (x13+1),x23))
 ) else (
  some (.inr (.inl x14))
 )
def Zu (a0:Jd) (a1:Int):Option (List Int) :=
 ((bif decide (a1<0) then some true else (
  some (decide (((a0.Sections.length:Nat):Int)≤a1))
 )):Option Bool).bind fun b1 =>
 bif b1 then (
  some ([]:(List Int))
 ) else (
  onInl (α:=(List Int)) (β:=(List Int)) (Ki (Dx a0 a1) (0,([]:(List Int)))) fun x20 =>
  some x20
 )
theorem Jgc (a0:Jd) (a1:Int) (r:(List Int)) (h:Zu a0 a1=some r):Kg Tryz.prog GlS 206 [Enc.pv a0,Enc.pv a1] (Jk (.own 100005) r):=by
 unfold Zu at h;refine zC Tryz.func206 Tryz.ntmps206 ?_;refine Ja (Jc (zE (Jb (Ja (Ja (Jc ?_))))));obtain ⟨b1,h1,h⟩:=Je h;refine zR 3 ?_;refine Ko 6 16 (.bool b1) ?_ ?_
 ·rcases Ji h1 with ⟨hb,h1⟩|⟨hb,h1⟩
  ·refine zS 10 hb ?_;cases h1;exact zF
  refine zS 10 hb (zR 3 ?_);refine zL (L:=a0.Sections) ?_;cases h1;exact zF
 refine zN (Jb ?_);rcases Ji h with ⟨hb,h⟩|⟨hb,h⟩
 ·refine zT hb (Ja (Jc (zE (Jb (Yz 4 100005 1 8 (by kernel_rfl) (by kernel_rfl) (Jm (Jj ?_)))))));cases h;exact zQ
 refine zU hb (Jg (Jb (Ja (Jc (zE (Jb (Ja (Ja (Jc (zR 2 ?_))))))))));refine zL (L:=a0.Elements) ?_;refine zE (Jb (Jl (Yz 5 100005 1 8 (by kernel_rfl) (by kernel_rfl) ?_)));obtain ⟨o18,h18,h⟩:=Kf h;refine zA 35 0 (fun (x13,x14)=>⟨[(1,I6 a1),(5,Jk (.own 100005) x14),(18,Jk .frozen a0.Elements),(19,I6 ((a0.Elements.length:Nat):Int)),(20,I6 x13)],[],[(100005,(((x14).map cellsOf).length,1))],[]⟩) (fun x20=>⟨[(5,Jk (.own 100005) x20)],[],[(100005,(((x20).map cellsOf).length,1))],[]⟩) h18 ?_ ?_
 ·rintro ⟨x13,x14⟩ oh17 h17;unfold Dx at h17;refine Ja (Jc (zE (Jb (Ja ?_))));rcases Ji h17 with ⟨hb,h17⟩|⟨hb,h17⟩
  ·refine zT hb (Jg (Jb ?_));obtain ⟨o21,h21,h17⟩:=Kf h17;refine Qm (o:=o21) 35 (fun x23=>⟨[(1,I6 a1),(5,Jk (.own 100005) x23),(18,Jk .frozen a0.Elements),(19,I6 ((a0.Elements.length:Nat):Int)),(20,I6 x13)],[],[(100005,(((x23).map cellsOf).length,1))],[]⟩) ?_ ?_
   ·refine Jl (Ja (Jc (zR 1 ?_)));obtain ⟨x24,h22,h21⟩:=Je h21;refine zI h22 (zE (Jb (Ja (Jc (zE (Jb ?_))))));rcases Ji h21 with ⟨hb,h21⟩|⟨hb,h21⟩
    ·refine zT hb (Jc (zR 3 ?_));obtain ⟨x25,h23,h21⟩:=Je h21;refine zW (tk:=100005) h23 ?_;refine zE (Jx ?_);cases h21;exact zJ
    refine zU hb (Jg (Jx ?_));cases h21;exact zJ
   rintro x23 rfl;have h17:=Ka h17;refine Jc (zE ?_);cases h17;exact zB
  refine zU hb (Jv (Jt ?_));cases h17;exact zX
 rintro x20 s' rfl hs;have h:=Ka h;refine Jr (Jb (Jy hs (Ja (Jc (zE (Jb (Jm ?_)))))));cases h;exact zQ
def Yq (a0:Jd):Int→Option (Int⊕(Unit⊕Bool)):=fun x2 =>
 bif decide (x2<((a0.Sections.length:Nat):Int)) then (
  (Zu a0 x2).bind fun r4 =>
  bif decide (((r4.length:Nat):Int)=0) then (
   some (.inr (.inr false))
  ) else (
   some (.inl (w64 (x2+1)))
  )
 ) else (
  some (.inr (.inl ()))
 )
def Ws (a0:Jd):Option Bool :=
 onInl (α:=Unit) (β:=Bool) (Ki (Yq a0) 0) fun _ =>
 some true
theorem Jat (a0:Jd) (r:Bool) (h:Ws a0=some r):Kg Tryz.prog GlS 140 [Enc.pv a0] (Enc.pv r):=by
 unfold Ws at h;refine zC Tryz.func140 Tryz.ntmps140 ?_;refine Ja (Jc (zE (Jb (Ja (Ja (Jc (zR 2 ?_)))))));refine zL (L:=a0.Sections) ?_;refine zE (Jb (Jl ?_));obtain ⟨o6,h6,h⟩:=Kf h;refine zA 16 0 (fun x2=>⟨[(1,.ref 1 0),(6,I6 ((a0.Sections.length:Nat):Int)),(7,I6 x2)],[(1,.cells (cellsOf a0))],[],[]⟩) (fun (_:Unit)=>⟨[],[],[],[]⟩) h6 ?_ ?_
 ·rintro x2 oh5 h5;unfold Yq at h5;refine Ja (Jc (zE (Jb (Ja ?_))));rcases Ji h5 with ⟨hb,h5⟩|⟨hb,h5⟩
  ·refine zT hb (Jg (Jb (Ja (Jl (Ja (Jc (zE (Jb (Ja (Jc (zR 2 ?_)))))))))));obtain ⟨r4,h7,h5⟩:=Je h5;refine zP (Jgc _ _ r4 h7) ?_;refine zL (L:=r4) ?_;refine zE (Jb ?_);rcases Ji h5 with ⟨hb,h5⟩|⟨hb,h5⟩
   ·refine zT hb (Ja (Jc (zE (Jb (Jm (Jp (Jj ?_)))))));cases h5;refine Kc fun he=>?_;subst he;have h8:=Km h;refine Jp (Jj ?_);cases h8;exact zQ
   refine zU hb (Jg (Jx (Jb (Jc (zE ?_)))));cases h5;exact zB
  refine zU hb (Jv (Jt ?_));cases h5;exact zX
 rintro _ s' rfl hs;have h:=Ka h;refine Jr (Jb (Jy hs (Ja (Jc (zE (Jb (Jm ?_)))))));cases h;exact zQ
def Nd (a0:Int):Option Int :=
 bif ((decide (a0<0))||(decide (4≤a0))) then (
  some 0
 ) else (
  (ixO Fq a0).bind fun x1 =>
  some x1
 )
theorem Jl3 (a0:Int) (r:Int) (h:Nd a0=some r):Kg Tryz.prog GlS 262 [Enc.pv a0] (Enc.pv r):=by
 unfold Nd at h;refine zC Tryz.func262 Tryz.ntmps262 ?_;refine Ja (Jc (zE (Jb (Ja (Ja (Jc (zR 3 ?_)))))));refine Ks 3 8 ((decide (a0<0))||(decide (4≤a0))) (fun x hx=>?_) ?_
 ·rcases Vi hx with ⟨hb,hx⟩|⟨hb,hx⟩
  ·refine zS 5 hb ?_;subst hx;exact zF
  refine zS 5 hb ?_;subst hx;exact zF
 refine zN (Jb ?_);rcases Ji h with ⟨hb,h⟩|⟨hb,h⟩
 ·refine zT hb (Ja (Jc (zE (Jb (Jm (Jj ?_))))));cases h;exact zQ
 refine zU hb (Jg (Jb (Ja (Jc (zR 1 ?_)))));obtain ⟨x1,h1,h⟩:=Je h;refine Kdl h1 1 4 1 (by kernel_rfl) (by kernel_rfl) ?_;refine Kbp (tab:=Fq) h1 false 1 (by kernel_rfl) (by kernel_rfl) (by kernel_rfl) ?_;refine zE (Jb (Jm ?_));cases h;exact zQ
def Yt (a0:Jd) (a1:Jo):Option Bool :=
 (Qj a1.El 0 (w64 (((a0.Elements.length:Nat):Int) - 1))).bind fun r1 =>
 ((bif r1 then (
  (ixO a0.Elements a1.El).bind fun x3 =>
  (Nd x3.Kind).bind fun r4 =>
  (Qj a1.Side 0 (w64 (r4 - 1))).bind fun r5 =>
  some r5
 ) else some false):Option Bool).bind fun b2 =>
 some b2
theorem Iz (a0:Jd) (a1:Jo) (r:Bool) (h:Yt a0 a1=some r):Kg Tryz.prog GlS 207 [Enc.pv a0,Enc.pv a1] (Enc.pv r):=by
 unfold Yt at h;refine zC Tryz.func207 Tryz.ntmps207 ?_;refine Ja (Jc (zE (Jb (Ja (zD (zR 4 ?_))))));refine zL (L:=a0.Elements) ?_;refine zR 1 ?_;obtain ⟨r1,h1,h⟩:=Je h;refine zP (Qk _ _ _ r1 h1) ?_;obtain ⟨b2,h2,h⟩:=Je h;refine zR 1 ?_;refine Ko 13 25 (.bool b2) ?_ ?_
 ·rcases Ji h2 with ⟨hb,h2⟩|⟨hb,h2⟩
  ·refine zS 12 hb (zR 6 ?_);obtain ⟨x3,h3,h2⟩:=Je h2;refine zI h3 (zR 2 ?_);obtain ⟨r4,h4,h2⟩:=Je h2;refine zP (Jl3 _ r4 h4) (zR 1 ?_);obtain ⟨r5,h5,h2⟩:=Je h2;refine zP (Qk _ _ _ r5 h5) ?_;cases h2;exact zF
  refine zS 12 hb ?_;cases h2;exact zF
 refine zE (Jb (Jm ?_));cases h;exact zQ
def Cv (a0:Jd):Int→Option (Int⊕(Unit⊕((List (Jo×Jo))×Int))):=fun x5 =>
 bif decide (x5<((a0.Joints.length:Nat):Int)) then (
  (ixO a0.Joints x5).bind fun x10 =>
  (Yt a0 x10.A).bind fun r11 =>
  ((bif (!r11) then some true else (
   (Yt a0 x10.B).bind fun r13 =>
   some (!r13)
  )):Option Bool).bind fun b12 =>
  bif (b12||(Kj x10.A x10.B)) then (
   some (.inr (.inr (([]:(List (Jo×Jo))),1)))
  ) else (
   some (.inl (w64 (x5+1)))
  )
 ) else (
  some (.inr (.inl ()))
 )
def Cr (a0:Jd):(Int×(List (Jo×Jo)))→Option ((Int×(List (Jo×Jo)))⊕((List (Jo×Jo))⊕((List (Jo×Jo))×Int))):=fun (x15,x16) =>
 bif decide (x15<((a0.Joints.length:Nat):Int)) then (
  (ixO a0.Joints x15).bind fun x19 =>
  bif (((Uo (x16:(List (Jo×Jo))) x19.A).isSome)||((Uo (x16:(List (Jo×Jo))) x19.B).isSome)) then (
   some (.inr (.inr (([]:(List (Jo×Jo))),8)))
  ) else (
   some (.inl (w64 (x15+1),(Dj x19.B x19.A (Dj x19.A x19.B x16))))
  )
 ) else (
  some (.inr (.inl x16))
 )
def Bw (a0:Jd):Option ((List (Jo×Jo))×Int) :=
 onInl (α:=Unit) (β:=((List (Jo×Jo))×Int)) (Ki (Cv a0) 0) fun _ =>
 onInl (α:=(List (Jo×Jo))) (β:=((List (Jo×Jo))×Int)) (Ki (Cr a0) (0,([]:(List (Jo×Jo))))) fun x18 =>
 some (x18,0)
theorem Jfm (a0:Jd) (r:((List (Jo×Jo))×Int)) (h:Bw a0=some r):Kg Tryz.prog GlS 141 [Enc.pv a0] (.tup [Jt2 (r.1:(List (Jo×Jo))),Enc.pv r.2]):=by
 unfold Bw at h;refine zC Tryz.func141 Tryz.ntmps141 ?_;refine Ja (Jc (zE (Jb (Ja (Ja (Jc (zR 2 ?_)))))));refine zL (L:=a0.Joints) ?_;refine zE (Jb (Jl ?_));obtain ⟨o12,h12,h⟩:=Kf h;refine zA 78 0 (fun x5=>⟨[(1,.ref 1 0),(14,Jk .frozen a0.Joints),(15,I6 ((a0.Joints.length:Nat):Int)),(16,I6 x5)],[(1,.cells (cellsOf a0))],[],[]⟩) (fun (_:Unit)=>⟨[(1,.ref 1 0)],[(1,.cells (cellsOf a0))],[],[]⟩) h12 ?_ ?_
 ·rintro x5 oh11 h11;unfold Cv at h11;refine Ja (Jc (zE (Jb (Ja ?_))));rcases Ji h11 with ⟨hb,h11⟩|⟨hb,h11⟩
  ·refine zT hb (Jg (Jb (Ja (Jl (Ja (Jc ?_))))));obtain ⟨x10,h13,h11⟩:=Je h11;refine zI h13 (zE (Jb (Ja (Jc (zR 3 ?_)))));obtain ⟨r11,h14,h11⟩:=Je h11;refine zP (Iz _ _ r11 h14) ?_;obtain ⟨b12,h15,h11⟩:=Je h11;refine zR 2 ?_;refine Ko 6 31 (.bool b12) ?_ ?_
   ·rcases Ji h15 with ⟨hb,h15⟩|⟨hb,h15⟩
    ·refine zS 25 hb ?_;cases h15;exact zF
    refine zS 25 hb (zR 3 ?_);obtain ⟨r13,h16,h15⟩:=Je h15;refine zP (Iz _ _ r13 h16) ?_;cases h15;exact zF
   refine zR 1 ?_;refine Ks 6 38 (b12||(Kj x10.A x10.B)) (fun x hx=>?_) ?_
   ·rcases Vi hx with ⟨hb,hx⟩|⟨hb,hx⟩
    ·refine zS 32 hb ?_;subst hx;exact zF
    refine zS 32 hb ?_;subst hx;exact zF
   refine zN (Jb ?_);rcases Ji h11 with ⟨hb,h11⟩|⟨hb,h11⟩
   ·refine zT hb (Ja (Jc (zE (Jb (Jm (Jp (Jj ?_)))))));cases h11;refine Kc fun he=>?_;subst he;have h17:=Km h;refine Jp (Jj ?_);cases h17;exact zQ
   refine zU hb (Jg (Jx (Jb (Jc (zE ?_)))));cases h11;exact zB
  refine zU hb (Jv (Jt ?_));cases h11;exact zX
 rintro _ s' rfl hs;have h:=Ka h;refine Jr (Jb (Jy hs (Ja (Jc (zE (Jb (Ja (Ja (Jc (zR 2 ?_))))))))));refine zL (L:=a0.Joints) ?_;refine zE (Jb (Jl ?_));obtain ⟨o23,h23,h⟩:=Kf h;refine zA 78 2 (fun (x15,x16)=>⟨[(6,.mp 40),(42,Jk .frozen a0.Joints),(43,I6 ((a0.Joints.length:Nat):Int)),(44,I6 x15)],[(40,.map (Wc x16))],[],[]⟩) (fun x18=>⟨[(6,.mp 40)],[(40,.map (Wc x18))],[],[]⟩) h23 ?_ ?_
 ·rintro ⟨x15,x16⟩ oh22 h22;unfold Cr at h22;refine Ja (Jc (zE (Jb (Ja ?_))));rcases Ji h22 with ⟨hb,h22⟩|⟨hb,h22⟩
  ·refine zT hb (Jg (Jb (Ja (Jl (Ja (Jc ?_))))));obtain ⟨x19,h24,h22⟩:=Je h22;refine zI h24 (zE (Jb (Ja (Jc (zR 3 ?_)))));refine Jjf (m:=x16) (k:=x19.A) (Jo.mk 0 0) 40 (by kernel_rfl) (by kernel_rfl) ?_;refine zE (Jb (Ja (Jc (zR 3 ?_))));refine Jjf (m:=x16) (k:=x19.B) (Jo.mk 0 0) 40 (by kernel_rfl) (by kernel_rfl) ?_;refine zE (Jb (Ja (Ja (Jc (zR 2 ?_)))));refine Ks 2 65 (((Uo x16 x19.A).isSome)||((Uo x16 x19.B).isSome)) (fun x hx=>?_) ?_
   ·rcases Vi hx with ⟨hb,hx⟩|⟨hb,hx⟩
    ·refine zS 63 hb ?_;subst hx;exact zF
    refine zS 63 hb ?_;subst hx;exact zF
   refine zN (Jb ?_);rcases Ji h22 with ⟨hb,h22⟩|⟨hb,h22⟩
   ·refine zT hb (Ja (Jc (zE (Jb (Jm (Jj (Jp (Jj ?_))))))));cases h22;refine Kc fun he=>?_;subst he;have h25:=Km h;refine Jp (Jj ?_);cases h25;exact zQ
   refine zU hb (Jg (Jb (zD (zR 10 ?_))));refine Jg6 (m:=x16) (k:=x19.A) (v:=x19.B) 40 (by kernel_rfl) (by kernel_rfl) (by kernel_rfl) ?_;refine Jg6 (m:=((Dj x19.A x19.B x16):(List (Jo×Jo)))) (k:=x19.B) (v:=x19.A) 40 (by kernel_rfl) (by kernel_rfl) (by kernel_rfl) ?_;refine zN (Jx (Jb (Jc (zE ?_))));cases h22;exact zB
  refine zU hb (Jv (Jt ?_));cases h22;exact zX
 rintro x18 s' rfl hs;have h:=Ka h;refine Jr (Jb (Jy hs (Ja (Jc (zE (Jb ?_))))));refine Kb8 40 [] x18 (by kernel_rfl) (by kernel_rfl) (by kernel_rfl) ?_;refine Jm ?_;cases h;exact zQ
def Fm (a0:Jd) (a1:Jo):Int→Option (Int⊕(Unit⊕Int)):=fun x2 =>
 bif decide (x2<((a0.Signals.length:Nat):Int)) then (
  (ixO a0.Signals x2).bind fun x4 =>
  bif Kj x4.At a1 then (
   some (.inr (.inr x2))
  ) else (
   some (.inl (w64 (x2+1)))
  )
 ) else (
  some (.inr (.inl ()))
 )
def Yu (a0:Jd) (a1:Jo):Option Int :=
 onInl (α:=Unit) (β:=Int) (Ki (Fm a0 a1) 0) fun _ =>
 some (-1)
theorem Td (a0:Jd) (a1:Jo) (r:Int) (h:Yu a0 a1=some r):Kg Tryz.prog GlS 73 [Enc.pv a0,Enc.pv a1] (Enc.pv r):=by
 unfold Yu at h;refine zC Tryz.func73 Tryz.ntmps73 ?_;refine Ja (Jc (zE (Jb (Ja (Ja (Jc (zR 2 ?_)))))));refine zL (L:=a0.Signals) ?_;refine zE (Jb (Jl ?_));obtain ⟨o6,h6,h⟩:=Kf h;refine zA 21 0 (fun x2=>⟨[(3,.ref 3 0),(8,Jk .frozen a0.Signals),(9,I6 ((a0.Signals.length:Nat):Int)),(10,I6 x2)],[(3,.cells (cellsOf a1))],[],[]⟩) (fun (_:Unit)=>⟨[],[],[],[]⟩) h6 ?_ ?_
 ·rintro x2 oh5 h5;unfold Fm at h5;refine Ja (Jc (zE (Jb (Ja ?_))));rcases Ji h5 with ⟨hb,h5⟩|⟨hb,h5⟩
  ·refine zT hb (Jg (Jb (Ja (Jl (Ja (Jc (zR 1 ?_)))))));obtain ⟨x4,h7,h5⟩:=Je h5;refine zI h7 (zE (Jb (Ja (Jc (zE (Jb ?_))))));rcases Ji h5 with ⟨hb,h5⟩|⟨hb,h5⟩
   ·refine zT hb (Ja (Jc (zE (Jb (Jm (Jp (Jj ?_)))))));cases h5;refine Kc fun he=>?_;subst he;have h8:=Km h;refine Jp (Jj ?_);cases h8;exact zQ
   refine zU hb (Jg (Jx (Jb (Jc (zE ?_)))));cases h5;exact zB
  refine zU hb (Jv (Jt ?_));cases h5;exact zX
 rintro _ s' rfl hs;have h:=Ka h;refine Jr (Jb (Jy hs (Ja (Jc (zE (Jb (Jm ?_)))))));cases h;exact zQ
def Wv (a0:Jd) (a1:Int):Option Int :=
 ((bif decide (a1<0) then some true else (
  some (decide (((a0.Elements.length:Nat):Int)≤a1))
 )):Option Bool).bind fun b1 =>
 bif b1 then (
  some (-1)
 ) else (
  (ixO a0.Elements a1).bind fun x2 =>
  some x2.Section
 )
theorem Hg (a0:Jd) (a1:Int) (r:Int) (h:Wv a0 a1=some r):Kg Tryz.prog GlS 208 [Enc.pv a0,Enc.pv a1] (Enc.pv r):=by
 unfold Wv at h;refine zC Tryz.func208 Tryz.ntmps208 ?_;refine Ja (Jc (zE (Jb (Ja (Ja (Jc ?_))))));obtain ⟨b1,h1,h⟩:=Je h;refine zR 3 ?_;refine Ko 6 13 (.bool b1) ?_ ?_
 ·rcases Ji h1 with ⟨hb,h1⟩|⟨hb,h1⟩
  ·refine zS 7 hb ?_;cases h1;exact zF
  refine zS 7 hb (zR 3 ?_);refine zL (L:=a0.Elements) ?_;cases h1;exact zF
 refine zN (Jb ?_);rcases Ji h with ⟨hb,h⟩|⟨hb,h⟩
 ·refine zT hb (Ja (Jc (zE (Jb (Jm (Jj ?_))))));cases h;exact zQ
 refine zU hb (Jg (Jb (Ja (Jc (zR 3 ?_)))));obtain ⟨x2,h2,h⟩:=Je h;refine zI h2 (zE (Jb (Jm ?_)));cases h;exact zQ
def Yh (a0:Jd):Int→Option (Int⊕(Unit⊕Int)):=fun x5 =>
 bif decide (x5<((a0.Signals.length:Nat):Int)) then (
  (ixO a0.Signals x5).bind fun x10 =>
  (Yt a0 x10.At).bind fun r11 =>
  ((bif (!r11) then some true else (
   (Qj x10.Overlap 0 1000000).bind fun r13 =>
   some (!r13)
  )):Option Bool).bind fun b12 =>
  bif b12 then (
   some (.inr (.inr 1))
  ) else (
   some (.inl (w64 (x5+1)))
  )
 ) else (
  some (.inr (.inl ()))
 )
def Yp (a0:Jd):Int→Option (Int⊕(Unit⊕Int)):=fun x16 =>
 bif decide (x16<((a0.Signals.length:Nat):Int)) then (
  (ixO a0.Signals x16).bind fun x19 =>
  (Yu a0 x19.At).bind fun r20 =>
  bif (!(decide (r20=x16))) then (
   some (.inr (.inr 8))
  ) else (
   some (.inl (w64 (x16+1)))
  )
 ) else (
  some (.inr (.inl ()))
 )
def Yk (a0:Jd) (a1:(List (Jo×Jo))):Int→Option (Int⊕(Unit⊕Int)):=fun x25 =>
 bif decide (x25<((a0.Signals.length:Nat):Int)) then (
  (ixO a0.Signals x25).bind fun x30 =>
  ((bif (!((Uo (a1:(List (Jo×Jo))) x30.At).isSome)) then some true else (
   (Wv a0 (((Uo (a1:(List (Jo×Jo))) x30.At).getD (Jo.mk 0 0)).El)).bind fun r32 =>
   (Wv a0 x30.At.El).bind fun r33 =>
   some (decide (r32=r33))
  )):Option Bool).bind fun b31 =>
  bif b31 then (
   some (.inr (.inr 14))
  ) else (
   some (.inl (w64 (x25+1)))
  )
 ) else (
  some (.inr (.inl ()))
 )
def Vm (a0:Jd) (a1:(List (Jo×Jo))):Option Int :=
 onInl (α:=Unit) (β:=Int) (Ki (Yh a0) 0) fun _ =>
 onInl (α:=Unit) (β:=Int) (Ki (Yp a0) 0) fun _ =>
 onInl (α:=Unit) (β:=Int) (Ki (Yk a0 a1) 0) fun _ =>
 some 0
theorem Ja4 (a0:Jd) (a1:(List (Jo×Jo))) (r:Int) (h:Vm a0 a1=some r):Kg Tryz.prog GlS 142 [Enc.pv a0,Jt2 (a1:(List (Jo×Jo)))] (Enc.pv r):=by
 unfold Vm at h;refine zC Tryz.func142 Tryz.ntmps142 ?_;refine Ja (Jc (zE (Jb (Ja (Ja (Jc (zR 2 ?_)))))));refine zL (L:=a0.Signals) ?_;refine zE (Jb (Jl ?_));obtain ⟨o12,h12,h⟩:=Kf h;refine zA 76 0 (fun x5=>⟨[(1,Jt2 a1),(2,.ref 2 0),(14,Jk .frozen a0.Signals),(15,I6 ((a0.Signals.length:Nat):Int)),(16,I6 x5)],[(2,.cells (cellsOf a0))],[],[]⟩) (fun (_:Unit)=>⟨[(1,Jt2 a1),(2,.ref 2 0)],[(2,.cells (cellsOf a0))],[],[]⟩) h12 ?_ ?_
 ·rintro x5 oh11 h11;unfold Yh at h11;refine Ja (Jc (zE (Jb (Ja ?_))));rcases Ji h11 with ⟨hb,h11⟩|⟨hb,h11⟩
  ·refine zT hb (Jg (Jb (Ja (Jl (Ja (Jc ?_))))));obtain ⟨x10,h13,h11⟩:=Je h11;refine zI h13 (zE (Jb (Ja (Jc (zR 3 ?_)))));obtain ⟨r11,h14,h11⟩:=Je h11;refine zP (Iz _ _ r11 h14) ?_;obtain ⟨b12,h15,h11⟩:=Je h11;refine zR 2 ?_;refine Ko 5 30 (.bool b12) ?_ ?_
   ·rcases Ji h15 with ⟨hb,h15⟩|⟨hb,h15⟩
    ·refine zS 25 hb ?_;cases h15;exact zF
    refine zS 25 hb (zR 2 ?_);obtain ⟨r13,h16,h15⟩:=Je h15;refine zP (Qk _ _ _ r13 h16) ?_;cases h15;exact zF
   refine zN (Jb ?_);rcases Ji h11 with ⟨hb,h11⟩|⟨hb,h11⟩
   ·refine zT hb (Ja (Jc (zE (Jb (Jm (Jp (Jj ?_)))))));cases h11;refine Kc fun he=>?_;subst he;have h17:=Km h;refine Jp (Jj ?_);cases h17;exact zQ
   refine zU hb (Jg (Jx (Jb (Jc (zE ?_)))));cases h11;exact zB
  refine zU hb (Jv (Jt ?_));cases h11;exact zX
 rintro _ s' rfl hs;have h:=Ka h;refine Jr (Jb (Jy hs (Ja (Ja (Jc (zR 2 ?_))))));refine zL (L:=a0.Signals) ?_;refine zE (Jb (Jl ?_));obtain ⟨o25,h25,h⟩:=Kf h;refine zA 76 2 (fun x16=>⟨[(1,Jt2 a1),(2,.ref 2 0),(33,Jk .frozen a0.Signals),(34,I6 ((a0.Signals.length:Nat):Int)),(35,I6 x16)],[(2,.cells (cellsOf a0))],[],[]⟩) (fun (_:Unit)=>⟨[(1,Jt2 a1),(2,.ref 2 0)],[(2,.cells (cellsOf a0))],[],[]⟩) h25 ?_ ?_
 ·rintro x16 oh24 h24;unfold Yp at h24;refine Ja (Jc (zE (Jb (Ja ?_))));rcases Ji h24 with ⟨hb,h24⟩|⟨hb,h24⟩
  ·refine zT hb (Jg (Jb (Ja (Jl (Ja (Jc (zR 1 ?_)))))));obtain ⟨x19,h26,h24⟩:=Je h24;refine zI h26 (zE (Jb (Ja (Jc (zR 3 ?_)))));obtain ⟨r20,h27,h24⟩:=Je h24;refine zP (Td _ _ r20 h27) (zE (Jb ?_));rcases Ji h24 with ⟨hb,h24⟩|⟨hb,h24⟩
   ·refine zT hb (Ja (Jc (zE (Jb (Jm (Jp (Jj ?_)))))));cases h24;refine Kc fun he=>?_;subst he;have h28:=Km h;refine Jp (Jj ?_);cases h28;exact zQ
   refine zU hb (Jg (Jx (Jb (Jc (zE ?_)))));cases h24;exact zB
  refine zU hb (Jv (Jt ?_));cases h24;exact zX
 rintro _ s' rfl hs;have h:=Ka h;refine Jr (Jb (Jy hs (Ja (Ja (Jc (zR 2 ?_))))));refine zL (L:=a0.Signals) ?_;refine zE (Jb (Jl ?_));obtain ⟨o40,h40,h⟩:=Kf h;refine zA 76 4 (fun x25=>⟨[(1,Jt2 a1),(2,.ref 2 0),(48,Jk .frozen a0.Signals),(49,I6 ((a0.Signals.length:Nat):Int)),(50,I6 x25)],[(2,.cells (cellsOf a0))],[],[]⟩) (fun (_:Unit)=>⟨[],[],[],[]⟩) h40 ?_ ?_
 ·rintro x25 oh39 h39;unfold Yk at h39;refine Ja (Jc (zE (Jb (Ja ?_))));rcases Ji h39 with ⟨hb,h39⟩|⟨hb,h39⟩
  ·refine zT hb (Jg (Jb (Ja (Jl (Ja (Jc ?_))))));obtain ⟨x30,h41,h39⟩:=Je h39;refine zI h41 (zE (Jb (Ja (Jc (zR 3 ?_)))));refine Jjw (m:=a1) (k:=x30.At) (Jo.mk 0 0) true (by kernel_rfl) ?_;refine zE (Jb (Ja (zD ?_)));obtain ⟨b31,h42,h39⟩:=Je h39;refine zR 3 ?_;refine Ko 11 74 (.bool b31) ?_ ?_
   ·rcases Ji h42 with ⟨hb,h42⟩|⟨hb,h42⟩
    ·refine zS 63 hb ?_;cases h42;exact zF
    refine zS 63 hb (zR 3 ?_);obtain ⟨r32,h43,h42⟩:=Je h42;refine zP (Hg _ _ r32 h43) (zR 4 ?_);obtain ⟨r33,h44,h42⟩:=Je h42;refine zP (Hg _ _ r33 h44) ?_;cases h42;exact zF
   refine zN (Jb ?_);rcases Ji h39 with ⟨hb,h39⟩|⟨hb,h39⟩
   ·refine zT hb (Ja (Jc (zE (Jb (Jm (Jp (Jj ?_)))))));cases h39;refine Kc fun he=>?_;subst he;have h45:=Km h;refine Jp (Jj ?_);cases h45;exact zQ
   refine zU hb (Jg (Jx (Jb (Jc (zE ?_)))));cases h39;exact zB
  refine zU hb (Jv (Jt ?_));cases h39;exact zX
 rintro _ s' rfl hs;have h:=Ka h;refine Jr (Jb (Jy hs (Ja (Jc (zE (Jb (Jm ?_)))))));cases h;exact zQ
end
end PM
