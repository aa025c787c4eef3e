/-
 Plain functions for the program's functions, and the proofs that the program does them. Printed by den.py.
-/
import Derived.Test.YtfpoeepcomnjhaaGreatDoorDen3
namespace PM
noncomputable section
open Go Go.RowKit Go.Proofs
attribute [local irreducible] Kl pwp
def Jgj (a0:Qo) (a1:Qs) (a2:(List Jq)) (a3:Int):Int→Option (Int⊕(Unit⊕Int)):=fun x9 =>
 bif decide (x9<((a0.Routes.length:Nat):Int)) then (
  onInl (α:=Unit) (β:=(Int⊕(Unit⊕Int))) (
   (ixO a0.Routes x9).bind fun x22 =>
   bif decide (((a1.Routes.length:Nat):Int)≤x9) then (
    some (.inr (.inr (.inr (-1))))
   ) else (
    ((bif (!(decide (x22.Entry=a3))) then some true else (
     (ixO a1.Routes x9).bind fun x24 =>
     some (!(decide (x24.State=2)))
    )):Option Bool).bind fun b23 =>
    bif b23 then (
     some (.inl ())
    ) else (
     (Ug a2 x9).bind fun r25 =>
     bif (!r25) then (
      some (.inr (.inr (.inr x9)))
     ) else (
      some (.inl ())
     )
    )
   )
  ) fun _ =>
  some (.inl (w64 (x9+1)))
 ) else (
  some (.inr (.inl ()))
 )
def Jea (a0:Qo) (a1:Qs) (a2:(List Jq)) (a3:Int):Option Int :=
 onInl (α:=Unit) (β:=Int) (Ki (Jgj a0 a1 a2 a3) 0) fun _ =>
 some (-1)
theorem Uv (a0:Qo) (a1:Qs) (a2:(List Jq)) (a3:Int) (r:Int) (h:Jea a0 a1 a2 a3=some r):Kg Tryz.prog GlS 96 [Enc.pv a0,Enc.pv a1,Enc.pv a2,Enc.pv a3] (Enc.pv r):=by
 unfold Jea at h;refine zC Tryz.func96 Tryz.ntmps96 ?_;refine Ja (Jc (zE (Jb (Ja (Ja (Jc (zR 2 ?_)))))));refine zL (L:=a0.Routes) ?_;refine zE (Jb (Jl ?_));obtain ⟨o36,h36,h⟩:=Kf h;refine zA 45 0 (fun x9=>⟨[(2,Jk .frozen a2),(3,I6 a3),(5,.ref 5 0),(13,Jk .frozen a0.Routes),(14,I6 ((a0.Routes.length:Nat):Int)),(15,I6 x9)],[(5,.cells (cellsOf a1))],[],[]⟩) (fun (_:Unit)=>⟨[],[],[],[]⟩) h36 ?_ ?_
 ·rintro x9 oh35 h35;unfold Jgj at h35;refine Ja (Jc (zE (Jb (Ja ?_))));rcases Ji h35 with ⟨hb,h35⟩|⟨hb,h35⟩
  ·refine zT hb (Jg (Jb ?_));obtain ⟨o45,h45,h35⟩:=Kf h35;refine Qm (o:=o45) 45 (fun (_:Unit)=>⟨[(2,Jk .frozen a2),(3,I6 a3),(5,.ref 5 0),(13,Jk .frozen a0.Routes),(14,I6 ((a0.Routes.length:Nat):Int)),(15,I6 x9)],[(5,.cells (cellsOf a1))],[],[]⟩) ?_ ?_
   ·refine Jl (Ja (Jc (zR 1 ?_)));obtain ⟨x22,h46,h45⟩:=Je h45;refine zI h46 (zE (Jb (Ja (Ja (Jc (zR 3 ?_))))));refine zL (L:=a1.Routes) ?_;refine zE (Jb ?_);rcases Ji h45 with ⟨hb,h45⟩|⟨hb,h45⟩
    ·refine zT hb (Ja (Jc (zE (Jb (Jm (Jj (Jp ?_)))))));cases h45;refine Oc ?_;have h47:=Km h35;cases h47;refine Kc fun he=>?_;subst he;have h48:=Km h;refine Jp (Jj ?_);cases h48;exact zQ
    refine zU hb (Jg (Jb (Ja (Ja (Jc ?_)))));obtain ⟨b23,h49,h45⟩:=Je h45;refine zR 5 ?_;refine Ko 8 37 (.bool b23) ?_ ?_
    ·rcases Ji h49 with ⟨hb,h49⟩|⟨hb,h49⟩
     ·refine zS 29 hb ?_;cases h49;exact zF
     refine zS 29 hb (zR 3 ?_);obtain ⟨x24,h50,h49⟩:=Je h49;refine zI h50 ?_;cases h49;exact zF
    refine zN (Jb ?_);rcases Ji h45 with ⟨hb,h45⟩|⟨hb,h45⟩
    ·refine zT hb (Jv (Jt (Jr ?_)));cases h45;exact zJ
    refine zU hb (Jg (Jb (Ja ?_)));refine Jt6 9 [5,10] (cs:=[I6 x9]) (cs':=[I6 x9]) (by kernel_rfl) (by kernel_rfl) (by kernel_rfl) (by kernel_rfl) ?_;refine Jc (zR 2 ?_);obtain ⟨r25,h51,h45⟩:=Je h45;refine zP (Bm _ _ r25 h51) (zE (Jb (Ja (Jc (zE (Jb ?_))))));rcases Ji h45 with ⟨hb,h45⟩|⟨hb,h45⟩
    ·refine zT hb (Ja (Jc (zE (Jb (Jm (Jp ?_))))));cases h45;refine Oc ?_;have h52:=Km h35;cases h52;refine Kc fun he=>?_;subst he;have h53:=Km h;refine Jp (Jj ?_);cases h53;exact zQ
    refine zU hb (Jg (Jx ?_));cases h45;exact zJ
   rintro _ rfl;have h35:=Ka h35;refine Jc (zE ?_);cases h35;exact zB
  refine zU hb (Jv (Jt ?_));cases h35;exact zX
 rintro _ s' rfl hs;have h:=Ka h;refine Jr (Jb (Jy hs (Ja (Jc (zE (Jb (Jm ?_)))))));cases h;exact zQ
def Fa (a0:Jh) (c0:Jh):Option Bool :=
 some (decide (a0.El=c0.El))
theorem Ja2 (a0:Jh) (c0:Jh) (r:Bool) (h:Fa a0 c0=some r):Kg Tryz.prog GlS 235 [Enc.pv a0,.cptr (cellsOf c0)] (Enc.pv r):=by
 unfold Fa at h;refine zC Tryz.func235 Tryz.ntmps235 ?_;refine Ja (Jc (zE (Jb (Ja (Jc (zE (Jb (Jm ?_))))))));cases h;exact zQ
def Dm (a0:(List Jh)) (a1_0:Jh):Int→Option (Int⊕(Unit⊕Int)):=fun x3 =>
 bif decide (x3<((a0.length:Nat):Int)) then (
  (ixO a0 x3).bind fun x6 =>
  (Fa x6 a1_0).bind fun r7 =>
  bif r7 then (
   some (.inr (.inr x3))
  ) else (
   some (.inl (w64 (x3+1)))
  )
 ) else (
  some (.inr (.inl ()))
 )
def Ua (a0:(List Jh)) (a1_0:Jh):Option Int :=
 onInl (α:=Unit) (β:=Int) (Ki (Dm a0 a1_0) 0) fun _ =>
 some (-1)
theorem Zm (a0:(List Jh)) (a1_0:Jh) (r:Int) (h:Ua a0 a1_0=some r):Kg Tryz.prog GlS 271 [Enc.pv a0,.fn 235 [.cptr (cellsOf a1_0)]] (Enc.pv r):=by
 unfold Ua at h;refine zC Tryz.func271 Tryz.ntmps271 ?_;refine Ja (Jc (zE (Jb (Ja (Ja (Jc (zR 1 ?_)))))));refine zL (L:=a0) ?_;refine zE (Jb (Jl ?_));obtain ⟨o8,h8,h⟩:=Kf h;refine zA 19 0 (fun x3=>⟨[(0,Jk .frozen a0),(1,.fn 235 [.cptr (cellsOf a1_0)]),(7,I6 ((a0.length:Nat):Int)),(8,I6 x3)],[],[],[]⟩) (fun (_:Unit)=>⟨[],[],[],[]⟩) h8 ?_ ?_
 ·rintro x3 oh7 h7;unfold Dm at h7;refine Ja (Jc (zE (Jb (Ja ?_))));rcases Ji h7 with ⟨hb,h7⟩|⟨hb,h7⟩
  ·refine zT hb (Jg (Jb (Ja (Jl (Ja (Jc (zE (Jb (Ja (Jc (zR 3 ?_)))))))))));obtain ⟨x6,h9,h7⟩:=Je h7;refine zI h9 (zR 1 ?_);obtain ⟨r7,h10,h7⟩:=Je h7;refine zP (Ja2 _ _ r7 h10) (zN (Jb ?_));rcases Ji h7 with ⟨hb,h7⟩|⟨hb,h7⟩
   ·refine zT hb (Ja (Jc (zE (Jb (Jm (Jp (Jj ?_)))))));cases h7;refine Kc fun he=>?_;subst he;have h11:=Km h;refine Jp (Jj ?_);cases h11;exact zQ
   refine zU hb (Jg (Jx (Jb (Jc (zE ?_)))));cases h7;exact zB
  refine zU hb (Jv (Jt ?_));cases h7;exact zX
 rintro _ s' rfl hs;have h:=Ka h;refine Jr (Jb (Jy hs (Ja (Jc (zE (Jb (Jm ?_)))))));cases h;exact zQ
def Qv (a0:(List Jh)) (a1_0:Jh):Option Bool :=
 (Ua a0 a1_0).bind fun r1 =>
 some (decide (0≤r1))
theorem Yx (a0:(List Jh)) (a1_0:Jh) (r:Bool) (h:Qv a0 a1_0=some r):Kg Tryz.prog GlS 234 [Enc.pv a0,.fn 235 [.cptr (cellsOf a1_0)]] (Enc.pv r):=by
 unfold Qv at h;refine zC Tryz.func234 Tryz.ntmps234 ?_;refine Ja (Jc (zE (Jb (Ja (Jc (zR 2 ?_))))));obtain ⟨r1,h1,h⟩:=Je h;refine zP (Zm _ _ r1 h1) (zE (Jb (Jm ?_)));cases h;exact zQ
def Le (a0:Jh) (c0:Jq):Option Bool :=
 (Qv c0.Steps a0).bind fun r1 =>
 some r1
theorem Jdx (a0:Jh) (c0:Jq) (r:Bool) (h:Le a0 c0=some r):Kg Tryz.prog GlS 233 [Enc.pv a0,.cptr (cellsOf c0)] (Enc.pv r):=by
 unfold Le at h;refine zC Tryz.func233 Tryz.ntmps233 ?_;refine Ja (Jc (zE (Jb (Ja ?_))));refine Jt6 2 [] (cs:=cellsOf a0) (cs':=cellsOf a0) (by kernel_rfl) (by kernel_rfl) (by kernel_rfl) (by kernel_rfl) ?_;refine Jc (zR 3 ?_);obtain ⟨r1,h1,h⟩:=Je h;refine zP (Yx _ _ r1 h1) (zE (Jb (Jm ?_)));cases h;exact zQ
def Vl (a0:(List Jh)) (a1_0:Jq):Int→Option (Int⊕(Unit⊕Int)):=fun x3 =>
 bif decide (x3<((a0.length:Nat):Int)) then (
  (ixO a0 x3).bind fun x6 =>
  (Le x6 a1_0).bind fun r7 =>
  bif r7 then (
   some (.inr (.inr x3))
  ) else (
   some (.inl (w64 (x3+1)))
  )
 ) else (
  some (.inr (.inl ()))
 )
def Uf (a0:(List Jh)) (a1_0:Jq):Option Int :=
 onInl (α:=Unit) (β:=Int) (Ki (Vl a0 a1_0) 0) fun _ =>
 some (-1)
theorem Bl (a0:(List Jh)) (a1_0:Jq) (r:Int) (h:Uf a0 a1_0=some r):Kg Tryz.prog GlS 271 [Enc.pv a0,.fn 233 [.cptr (cellsOf a1_0)]] (Enc.pv r):=by
 unfold Uf at h;refine zC Tryz.func271 Tryz.ntmps271 ?_;refine Ja (Jc (zE (Jb (Ja (Ja (Jc (zR 1 ?_)))))));refine zL (L:=a0) ?_;refine zE (Jb (Jl ?_));obtain ⟨o8,h8,h⟩:=Kf h;refine zA 19 0 (fun x3=>⟨[(0,Jk .frozen a0),(1,.fn 233 [.cptr (cellsOf a1_0)]),(7,I6 ((a0.length:Nat):Int)),(8,I6 x3)],[],[],[]⟩) (fun (_:Unit)=>⟨[],[],[],[]⟩) h8 ?_ ?_
 ·rintro x3 oh7 h7;unfold Vl at h7;refine Ja (Jc (zE (Jb (Ja ?_))));rcases Ji h7 with ⟨hb,h7⟩|⟨hb,h7⟩
  ·refine zT hb (Jg (Jb (Ja (Jl (Ja (Jc (zE (Jb (Ja (Jc (zR 3 ?_)))))))))));obtain ⟨x6,h9,h7⟩:=Je h7;refine zI h9 (zR 1 ?_);obtain ⟨r7,h10,h7⟩:=Je h7;refine zP (Jdx _ _ r7 h10) (zN (Jb ?_));rcases Ji h7 with ⟨hb,h7⟩|⟨hb,h7⟩
   ·refine zT hb (Ja (Jc (zE (Jb (Jm (Jp (Jj ?_)))))));cases h7;refine Kc fun he=>?_;subst he;have h11:=Km h;refine Jp (Jj ?_);cases h11;exact zQ
   refine zU hb (Jg (Jx (Jb (Jc (zE ?_)))));cases h7;exact zB
  refine zU hb (Jv (Jt ?_));cases h7;exact zX
 rintro _ s' rfl hs;have h:=Ka h;refine Jr (Jb (Jy hs (Ja (Jc (zE (Jb (Jm ?_)))))));cases h;exact zQ
def Uc (a0:(List Jh)) (a1_0:Jq):Option Bool :=
 (Uf a0 a1_0).bind fun r1 =>
 some (decide (0≤r1))
theorem Zr (a0:(List Jh)) (a1_0:Jq) (r:Bool) (h:Uc a0 a1_0=some r):Kg Tryz.prog GlS 234 [Enc.pv a0,.fn 233 [.cptr (cellsOf a1_0)]] (Enc.pv r):=by
 unfold Uc at h;refine zC Tryz.func234 Tryz.ntmps234 ?_;refine Ja (Jc (zE (Jb (Ja (Jc (zR 2 ?_))))));obtain ⟨r1,h1,h⟩:=Je h;refine zP (Bl _ _ r1 h1) (zE (Jb (Jm ?_)));cases h;exact zQ
def Rj (a0:Qo) (a1:Jq) (a2:Int):Option (Int⊕Jw) :=
 onInl (α:=Unit) (β:=(Int⊕Jw)) (
  ((bif decide (a2<0) then some true else (
   some (decide (((a0.Routes.length:Nat):Int)≤a2))
  )):Option Bool).bind fun b2 =>
  bif b2 then (
   some (.inr (.inl 1))
  ) else (
   some (.inl ())
  )
 ) fun _ =>
 (ixO a0.Routes a2).bind fun x3 =>
 onInl (α:=Unit) (β:=(Int⊕Jw)) (
  bif (!(decide (a1.CutSeq=0))) then (
   some (.inr (.inl 11))
  ) else (
   some (.inl ())
  )
 ) fun _ =>
 onInl (α:=Unit) (β:=(Int⊕Jw)) (
  bif ((decide (a1.End=(-1)))||(!(decide (a1.End=x3.Entry)))) then (
   some (.inr (.inl 10))
  ) else (
   some (.inl ())
  )
 ) fun _ =>
 onInl (α:=Unit) (β:=(Int⊕Jw)) (
  (Uc x3.Path a1).bind fun r7 =>
  ((bif r7 then some true else (
   (Bg a1.Routes a2).bind fun r9 =>
   some r9
  )):Option Bool).bind fun b8 =>
  bif b8 then (
   some (.inr (.inl 8))
  ) else (
   some (.inl ())
  )
 ) fun _ =>
 onInl (α:=Unit) (β:=(Int⊕Jw)) (
  bif ((decide (64<(w64 (((a1.Steps.length:Nat):Int)+((x3.Path.length:Nat):Int)))))||(decide (1073741824<(w64 (a1.At+x3.Length))))) then (
   some (.inr (.inl 2))
  ) else (
   some (.inl ())
  )
 ) fun _ =>
 some (.inr x3)
theorem Tc (a0:Qo) (a1:Jq) (a2:Int) (r:(Int⊕Jw)) (h:Rj a0 a1 a2=some r):Jnu Tryz.prog GlS 170 [Enc.pv a0,Enc.pv a1,Enc.pv a2] (panR 218 (fun r=>Enc.pv r) r):=by
 unfold Rj at h;refine Jpb Tryz.func170 (by rfl) rfl Tryz.ntmps170 (by rfl) rfl ?_;refine Ja (Jc (zE (Jb ?_)));obtain ⟨o3,h3,h⟩:=Kf h;refine Qm (o:=o3) 74 (fun (_:Unit)=>⟨[(2,I6 a2),(3,.ref 3 0),(4,.ref 4 0),(6,.ref 6 0)],[(3,.cells (cellsOf a0)),(4,.cells (cellsOf a1)),(6,.cells ([.str ByteArray.empty,I6 0,I6 0,.nil,.nil,.nil,I6 0,I6 0,.nil,.nil,.nil,.nil,.nil,.nil]))],[],[]⟩) ?_ ?_
 ·refine Ja (Jc ?_);obtain ⟨b2,h4,h3⟩:=Je h3;refine zR 3 ?_;refine Ko 6 17 (.bool b2) ?_ ?_
  ·rcases Ji h4 with ⟨hb,h4⟩|⟨hb,h4⟩
   ·refine zS 11 hb ?_;cases h4;exact zF
   refine zS 11 hb (zR 3 ?_);refine zL (L:=a0.Routes) ?_;cases h4;exact zF
  refine zN (Jb ?_);rcases Ji h3 with ⟨hb,h3⟩|⟨hb,h3⟩
  ·refine zT hb (Jfb (Pj 0 1 (zE ?_)));refine Jh7 (d:=19) (y:=(218,[(.i64,1)])) (by kernel_rfl) fun ch hpan=>?_;cases h3;refine Dr ?_;have h5:=Km h;cases h5;exact Jn2 hpan
  refine zU hb (Jg ?_);cases h3;exact zJ
 rintro _ rfl;have h:=Ka h;refine Ja (Jc (zR 3 ?_));obtain ⟨x3,h6,h⟩:=Je h;refine zI h6 (zE (Jb ?_));obtain ⟨o8,h8,h⟩:=Kf h;refine Qm (o:=o8) 74 (fun (_:Unit)=>⟨[(2,I6 a2),(4,.ref 4 0),(6,.ref 6 0),(7,.ref 7 0)],[(4,.cells (cellsOf a1)),(6,.cells ([.str ByteArray.empty,I6 0,I6 0,.nil,.nil,.nil,I6 0,I6 0,.nil,.nil,.nil,.nil,.nil,.nil])),(7,.cells (cellsOf x3))],[],[]⟩) ?_ ?_
 ·refine Ja (Jc (zE (Jb ?_)));rcases Ji h8 with ⟨hb,h8⟩|⟨hb,h8⟩
  ·refine zT hb (Jfb (Pj 0 1 (zE ?_)));refine Jh7 (d:=29) (y:=(218,[(.i64,11)])) (by kernel_rfl) fun ch hpan=>?_;cases h8;refine Dr ?_;have h9:=Km h;cases h9;exact Jn2 hpan
  refine zU hb (Jg ?_);cases h8;exact zJ
 rintro _ rfl;have h:=Ka h;obtain ⟨o11,h11,h⟩:=Kf h;refine Qm (o:=o11) 74 (fun (_:Unit)=>⟨[(2,I6 a2),(4,.ref 4 0),(6,.ref 6 0),(7,.ref 7 0)],[(4,.cells (cellsOf a1)),(6,.cells ([.str ByteArray.empty,I6 0,I6 0,.nil,.nil,.nil,I6 0,I6 0,.nil,.nil,.nil,.nil,.nil,.nil])),(7,.cells (cellsOf x3))],[],[]⟩) ?_ ?_
 ·refine Ja (Jc (zR 4 ?_));refine Ks 6 39 ((decide (a1.End=(-1)))||(!(decide (a1.End=x3.Entry)))) (fun x hx=>?_) ?_
  ·rcases Vi hx with ⟨hb,hx⟩|⟨hb,hx⟩
   ·refine zS 33 hb ?_;subst hx;exact zF
   refine zS 33 hb ?_;subst hx;exact zF
  refine zN (Jb ?_);rcases Ji h11 with ⟨hb,h11⟩|⟨hb,h11⟩
  ·refine zT hb (Jfb (Pj 0 1 (zE ?_)));refine Jh7 (d:=41) (y:=(218,[(.i64,10)])) (by kernel_rfl) fun ch hpan=>?_;cases h11;refine Dr ?_;have h12:=Km h;cases h12;exact Jn2 hpan
  refine zU hb (Jg ?_);cases h11;exact zJ
 rintro _ rfl;have h:=Ka h;refine Ja (Jc (zE (Jb ?_)));obtain ⟨o17,h17,h⟩:=Kf h;refine Qm (o:=o17) 74 (fun (_:Unit)=>⟨[(4,.cptr (cellsOf a1)),(6,.ref 6 0),(7,.ref 7 0)],[(6,.cells ([.str ByteArray.empty,I6 0,I6 0,.nil,.nil,.nil,I6 0,I6 0,.nil,.nil,.nil,.nil,.nil,.nil])),(7,.cells (cellsOf x3))],[],[]⟩) ?_ ?_
 ·refine Ja ?_;refine Jt6 4 [6,7] (cs:=cellsOf a1) (cs':=cellsOf a1) (by kernel_rfl) (by kernel_rfl) (by kernel_rfl) (by kernel_rfl) ?_;refine Jc (zR 3 ?_);obtain ⟨r7,h18,h17⟩:=Je h17;refine zP (Zr _ _ r7 h18) ?_;obtain ⟨b8,h19,h17⟩:=Je h17;refine zR 1 ?_;refine Ko 5 52 (.bool b8) ?_ ?_
  ·rcases Ji h19 with ⟨hb,h19⟩|⟨hb,h19⟩
   ·refine zS 47 hb ?_;cases h19;exact zF
   refine zS 47 hb (zR 3 ?_);obtain ⟨r9,h20,h19⟩:=Je h19;refine zP (Hu _ _ r9 h20) ?_;cases h19;exact zF
  refine zN (Jb ?_);rcases Ji h17 with ⟨hb,h17⟩|⟨hb,h17⟩
  ·refine zT hb (Jfb (Pj 0 1 (zE ?_)));refine Jh7 (d:=54) (y:=(218,[(.i64,8)])) (by kernel_rfl) fun ch hpan=>?_;cases h17;refine Dr ?_;have h21:=Km h;cases h21;exact Jn2 hpan
  refine zU hb (Jg ?_);cases h17;exact zJ
 rintro _ rfl;have h:=Ka h;obtain ⟨o23,h23,h⟩:=Kf h;refine Qm (o:=o23) 74 (fun (_:Unit)=>⟨[(6,.ref 6 0),(7,.ref 7 0)],[(6,.cells ([.str ByteArray.empty,I6 0,I6 0,.nil,.nil,.nil,I6 0,I6 0,.nil,.nil,.nil,.nil,.nil,.nil])),(7,.cells (cellsOf x3))],[],[]⟩) ?_ ?_
 ·refine Ja (Jc (zR 2 ?_));refine zL (L:=a1.Steps) ?_;refine zR 2 ?_;refine zL (L:=x3.Path) ?_;refine zR 3 ?_;refine Ks 7 70 ((decide (64<(w64 (((a1.Steps.length:Nat):Int)+((x3.Path.length:Nat):Int)))))||(decide (1073741824<(w64 (a1.At+x3.Length))))) (fun x hx=>?_) ?_
  ·rcases Vi hx with ⟨hb,hx⟩|⟨hb,hx⟩
   ·refine zS 63 hb ?_;subst hx;exact zF
   refine zS 63 hb ?_;subst hx;exact zF
  refine zN (Jb ?_);rcases Ji h23 with ⟨hb,h23⟩|⟨hb,h23⟩
  ·refine zT hb (Jfb (Pj 0 1 (zE ?_)));refine Jh7 (d:=72) (y:=(218,[(.i64,2)])) (by kernel_rfl) fun ch hpan=>?_;cases h23;refine Dr ?_;have h24:=Km h;cases h24;exact Jn2 hpan
  refine zU hb (Jg ?_);cases h23;exact zJ
 rintro _ rfl;have h:=Ka h;refine Ja (Jc (zE (Jb (Jm ?_))));cases h;exact ⟨_,rfl,Jyk (by kernel_rfl) (by kernel_rfl) (by kernel_rfl)⟩
def Xq (a0:Jd) (a1:Jw) (x1:Int):(Int×Int)→Option ((Int×Int)⊕(Int⊕Int)):=fun (x9,x10) =>
 bif decide (x10<((a1.Path.length:Nat):Int)) then (
  onInl (α:=Int) (β:=((Int×Int)⊕(Int⊕Int))) (
   (ixO a1.Path x10).bind fun x23 =>
   (Wv a0 x23.El).bind fun r24 =>
   bif decide (r24=x1) then (
    (Ec a0 x23).bind fun r25 =>
    some (.inl (w64 (x9+r25)))
   ) else (
    some (.inl x9)
   )
  ) fun x22 =>
  some (.inl (x22,w64 (x10+1)))
 ) else (
  some (.inr (.inl x9))
 )
def Rn (a0:Jd) (a1:Jw):Option Int :=
 bif decide (((a1.Sections.length:Nat):Int)=0) then (
  some 0
 ) else (
  (ixO a1.Sections (w64 (((a1.Sections.length:Nat):Int) - 1))).bind fun x1 =>
  onInl (α:=Int) (β:=Int) (Ki (Xq a0 a1 x1) (0,0)) fun x18 =>
  some x18
 )
theorem Jg2 (a0:Jd) (a1:Jw) (r:Int) (h:Rn a0 a1=some r):Kg Tryz.prog GlS 171 [Enc.pv a0,Enc.pv a1] (Enc.pv r):=by
 unfold Rn at h;refine zC Tryz.func171 Tryz.ntmps171 ?_;refine Ja (Jc (zE (Jb (Ja (Ja (Jc (zR 2 ?_)))))));refine zL (L:=a1.Sections) ?_;refine zE (Jb ?_);rcases Ji h with ⟨hb,h⟩|⟨hb,h⟩
 ·refine zT hb (Ja (Jc (zE (Jb (Jm (Jj ?_))))));cases h;exact zQ
 refine zU hb (Jg (Jb (Ja (Jc (zR 4 ?_)))));refine zL (L:=a1.Sections) ?_;refine zR 1 ?_;obtain ⟨x1,h1,h⟩:=Je h;refine zI h1 (zE (Jb (Ja (Jc (zE (Jb (Ja (Ja (Jc (zR 2 ?_))))))))));refine zL (L:=a1.Path) ?_;refine zE (Jb (Jl ?_));obtain ⟨o17,h17,h⟩:=Kf h;refine zA 41 0 (fun (x9,x10)=>⟨[(2,.ref 2 0),(5,I6 x1),(6,I6 x9),(22,Jk .frozen a1.Path),(23,I6 ((a1.Path.length:Nat):Int)),(24,I6 x10)],[(2,.cells (cellsOf a0))],[],[]⟩) (fun x18=>⟨[(6,I6 x18)],[],[],[]⟩) h17 ?_ ?_
 ·rintro ⟨x9,x10⟩ oh16 h16;unfold Xq at h16;refine Ja (Jc (zE (Jb (Ja ?_))));rcases Ji h16 with ⟨hb,h16⟩|⟨hb,h16⟩
  ·refine zT hb (Jg (Jb ?_));obtain ⟨o21,h21,h16⟩:=Kf h16;refine Qm (o:=o21) 41 (fun x22=>⟨[(2,.ref 2 0),(5,I6 x1),(6,I6 x22),(22,Jk .frozen a1.Path),(23,I6 ((a1.Path.length:Nat):Int)),(24,I6 x10)],[(2,.cells (cellsOf a0))],[],[]⟩) ?_ ?_
   ·refine Jl (Ja (Jc ?_));obtain ⟨x23,h22,h21⟩:=Je h21;refine zI h22 (zE (Jb (Ja (Jc (zR 3 ?_)))));obtain ⟨r24,h23,h21⟩:=Je h21;refine zP (Hg _ _ r24 h23) (zE (Jb ?_));rcases Ji h21 with ⟨hb,h21⟩|⟨hb,h21⟩
    ·refine zT hb (Jc (zR 3 ?_));obtain ⟨r25,h24,h21⟩:=Je h21;refine zP (Tx _ _ r25 h24) (zE (Jx ?_));cases h21;exact zJ
    refine zU hb (Jg (Jx ?_));cases h21;exact zJ
   rintro x22 rfl;have h16:=Ka h16;refine Jc (zE ?_);cases h16;exact zB
  refine zU hb (Jv (Jt ?_));cases h16;exact zX
 rintro x18 s' rfl hs;have h:=Ka h;refine Jr (Jb (Jy hs (Ja (Jc (zE (Jb (Jm ?_)))))));cases h;exact zQ
def Rr (a0:Jd) (a1:Qo) (a2:Jq) (a3:Int):Option (Jq×Int) :=
 Jyz (Rj a1 a2 a3) (fun e2 =>
  some ((Jq.mk 0 0 0 0 [] [] [] [] [] 0 0 0 0 0),e2)
 ) fun r1 =>
 Option.bind (α:=((List Jh)×(List Int)×(List Int)×(List Int)×(List Int))) (
  (Ql a2.Steps).bind fun r13 =>
  (Kw a2.Routes).bind fun r14 =>
  (Kw a2.Starts).bind fun r15 =>
  (Kw a2.Ends).bind fun r16 =>
  (Kw a2.Done).bind fun r17 =>
  some (r13,r14,r15,r16,r17)
 ) fun (x8,x9,x10,x11,x12) =>
 (Ul x8 r1.Path).bind fun x18 =>
 (Ul x9 [a3]).bind fun x19 =>
 (Rn a0 r1).bind fun r20 =>
 (Ul x10 [w64 ((w64 (a2.At+r1.Length)) - r20)]).bind fun x21 =>
 (Ul x11 [w64 (a2.At+r1.Length)]).bind fun x22 =>
 some ((Jq.mk a2.Id a2.Origin r1.Exit (w64 (a2.At+r1.Length)) x18 x19 x21 x22 x12 a2.Min a2.Sent a2.Accepted a2.Cut a2.CutSeq),0)
set_option maxRecDepth 100000 in
theorem Jgx (a0:Jd) (a1:Qo) (a2:Jq) (a3:Int) (r:(Jq×Int)) (h:Rr a0 a1 a2 a3=some r):Kg Tryz.prog GlS 97 [Enc.pv a0,Enc.pv a1,Enc.pv a2,Enc.pv a3] (.tup [Enc.pv r.1,Enc.pv r.2]):=by
 unfold Rr at h;refine Jpe Tryz.func97 (by rfl) rfl Tryz.ntmps97 (by rfl) rfl ?_;refine Jhv (Jc (zE (Jmf ?_)));refine Jgz 1 169 [.ref 8 0,.ref 9 0] (by rfl) ?_;refine zE ?_;refine ⟨by kernel_rfl,by kernel_rfl,by kernel_rfl, ?_⟩;refine Ja (Jfb (Pj 0 3 (zE ?_)));rcases Kce h with ⟨e2,h1,h⟩|⟨r1,h1,h⟩
 ·refine Jz6 (Tc _ _ _ (.inl e2) h1) (by kernel_rfl) fun ch hpan=>?_;refine Jjx ?_;refine Kcm hpan (Jvu (x:=some (218,[(.i64,e2)])) (caps:=[.ref 8 0,.ref 9 0]) (by kernel_rfl) Tryz.func169 (by rfl) rfl Tryz.ntmps169 (by rfl) ?_);refine Jtc ((Jcu 1 (by kernel_rfl)).trans (.of (j:=⟨[(0,.ref 1008 0),(1,.ref 1009 0),(25,.ref 1008 0),(26,.ref 1009 0),(75,.fn 169 [.ref 1008 0,.ref 1009 0])],[(1008,.cells ([I6 0,I6 0,I6 0,I6 0,.nil,.nil,.nil,.nil,.nil,I6 0,I6 0,I6 0,I6 0,I6 0])),(1009,.cells ([I6 0]))],[],[]⟩) (n:=5900076) (by kernel_rfl) (by kernel_rfl))) ?_;refine Jns ⟨rfl,rfl,rfl,rfl,fun _ _=>rfl,fun _ _=>rfl⟩ (by kernel_rfl) ?_;refine Ja (Jc (zR 1 ?_));refine Kca (t:=20) (b:=true) (by kernel_rfl) (by kernel_rfl) ?_;refine zN (Jb ?_);refine Jbi (b:=true) rfl (by kernel_rfl) ?_;refine Ja (Jc (zE (Jb (Ja (Jc (zR 1 ?_))))));refine Ked (cs:=[(.i64,e2)]) (by kernel_rfl) ?_;refine zE (Jb (Ja (Jc (zE (Jb ?_)))));refine Jbi (b:=true) rfl (by kernel_rfl) ?_;refine Jc (zE ?_);cases h;exact Jgs (by kernel_rfl) (by kernel_rfl) (by kernel_rfl)
 refine Jyn (Tc _ _ _ (.inr r1) h1) (by kernel_rfl) (by kernel_rfl) ?_;refine Pj 4 2 (zE (Jvx (Jb (Ja (Jkf (Rw 0 1 (zE ?_)))))));refine Ez 3 ⟨[(3,I6 a3),(4,.ref 3004 0),(8,.ref 3008 0),(9,.ref 3009 0),(10,.ref 3010 0),(16,Enc.pv a2),(58,.fn 169 [.ref 3008 0,.ref 3009 0])],[(3004,.cells (cellsOf a0)),(3008,.cells ([I6 0,I6 0,I6 0,I6 0,.nil,.nil,.nil,.nil,.nil,I6 0,I6 0,I6 0,I6 0,I6 0])),(3009,.cells ([I6 0])),(3010,.cells (cellsOf r1))],[],[]⟩ 100059 (by kernel_rfl) (by kernel_rfl) (by kernel_rfl) ?_;obtain ⟨o7,h7,h⟩:=Je h;refine Jpv (f:=93) (asx:=[Enc.pv a2]) (by kernel_rfl) Tryz.func93 (by rfl) rfl Tryz.ntmps93 (by rfl) ?_;refine Jfu o7 5900083 (fun (x8,x9,x10,x11,x12)=>⟨[(2,.ref 2 0),(27,I6 a3),(28,.ref 3004 0),(32,.ref 3008 0),(33,.ref 3009 0),(34,.ref 3010 0),(82,.fn 169 [.ref 3008 0,.ref 3009 0])],[(2,.cells ([I6 a2.Id,I6 a2.Origin,I6 a2.End,I6 a2.At,Jk (.own 5007) x8,Jk (.own 9007) x9,Jk (.own 13007) x10,Jk (.own 17007) x11,Jk (.own 21007) x12,I6 a2.Min,I6 a2.Sent,I6 a2.Accepted,I6 a2.Cut,I6 a2.CutSeq])),(3004,.cells (cellsOf a0)),(3008,.cells ([I6 0,I6 0,I6 0,I6 0,.nil,.nil,.nil,.nil,.nil,I6 0,I6 0,I6 0,I6 0,I6 0])),(3009,.cells ([I6 0])),(3010,.cells (cellsOf r1))],[(5007,(((x8).map cellsOf).length,3)),(9007,(((x9).map cellsOf).length,1)),(13007,(((x10).map cellsOf).length,1)),(17007,(((x11).map cellsOf).length,1)),(21007,(((x12).map cellsOf).length,1))],[]⟩) ?_ ?_
 ·refine Ja (Jc (zE (Jb (Ja (Jc (zR 2 ?_))))));obtain ⟨r13,h8,h7⟩:=Je h7;refine zP (Uj _ r13 h8) (zE (Jb (Ja (Jc (zR 2 ?_)))));obtain ⟨r14,h9,h7⟩:=Je h7;refine zP (Ku _ r14 h9) (zE (Jb (Ja (Jc (zR 2 ?_)))));obtain ⟨r15,h10,h7⟩:=Je h7;refine zP (Ku _ r15 h10) (zE (Jb (Ja (Jc (zR 2 ?_)))));obtain ⟨r16,h11,h7⟩:=Je h7;refine zP (Ku _ r16 h11) (zE (Jb (Ja (Jc (zR 2 ?_)))));obtain ⟨r17,h12,h7⟩:=Je h7;refine zP (Ku _ r17 h12) (zE (Jb (Ja (Jc (zE (Jb (Jm ?_)))))));cases h7;exact Jvm (by kernel_rfl) (by kernel_rfl)
 obtain ⟨x8,x9,x10,x11,x12⟩:=o7;refine Jqs (r:=.agg [I6 a2.Id,I6 a2.Origin,I6 a2.End,I6 a2.At,Jk (.own 5007) x8,Jk (.own 9007) x9,Jk (.own 13007) x10,Jk (.own 17007) x11,Jk (.own 21007) x12,I6 a2.Min,I6 a2.Sent,I6 a2.Accepted,I6 a2.Cut,I6 a2.CutSeq]) (by kernel_rfl) ?_;refine Ez 4 ⟨[(3,I6 a3),(4,.ref 3004 0),(8,.ref 3008 0),(9,.ref 3009 0),(10,.ref 3010 0),(17,.agg [I6 a2.Id,I6 a2.Origin,I6 a2.End,I6 a2.At,Jk (.own 4005007) x8,Jk (.own 4009007) x9,Jk (.own 4013007) x10,Jk (.own 4017007) x11,Jk (.own 4021007) x12,I6 a2.Min,I6 a2.Sent,I6 a2.Accepted,I6 a2.Cut,I6 a2.CutSeq]),(58,.fn 169 [.ref 3008 0,.ref 3009 0])],[(3004,.cells (cellsOf a0)),(3008,.cells ([I6 0,I6 0,I6 0,I6 0,.nil,.nil,.nil,.nil,.nil,I6 0,I6 0,I6 0,I6 0,I6 0])),(3009,.cells ([I6 0])),(3010,.cells (cellsOf r1))],[(4005007,(((x8).map cellsOf).length,3)),(4009007,(((x9).map cellsOf).length,1)),(4013007,(((x10).map cellsOf).length,1)),(4017007,(((x11).map cellsOf).length,1)),(4021007,(((x12).map cellsOf).length,1))],[]⟩ 100059 (by kernel_rfl) (by kernel_rfl) (by kernel_rfl) ?_;refine Ez 3 ⟨[(3,I6 a3),(4,.ref 4 0),(8,.ref 8 0),(9,.ref 9 0),(10,.ref 10 0),(17,.agg [I6 a2.Id,I6 a2.Origin,I6 a2.End,I6 a2.At,Jk (.own 4005007) x8,Jk (.own 4009007) x9,Jk (.own 4013007) x10,Jk (.own 4017007) x11,Jk (.own 4021007) x12,I6 a2.Min,I6 a2.Sent,I6 a2.Accepted,I6 a2.Cut,I6 a2.CutSeq]),(58,.fn 169 [.ref 8 0,.ref 9 0])],[(4,.cells (cellsOf a0)),(8,.cells ([I6 0,I6 0,I6 0,I6 0,.nil,.nil,.nil,.nil,.nil,I6 0,I6 0,I6 0,I6 0,I6 0])),(9,.cells ([I6 0])),(10,.cells (cellsOf r1))],[(4005007,(((x8).map cellsOf).length,3)),(4009007,(((x9).map cellsOf).length,1)),(4013007,(((x10).map cellsOf).length,1)),(4017007,(((x11).map cellsOf).length,1)),(4021007,(((x12).map cellsOf).length,1))],[]⟩ 100059 (by kernel_rfl) (by kernel_rfl) (by kernel_rfl) ?_;refine Rw 2 1 (zE (Jkj (Jb (Ja (Jc (zE (Jb (Ja (Jc (zE (Jb (Ja (Jc (zR 4 ?_))))))))))))));obtain ⟨x18,h13,h⟩:=Je h;refine zW (tk:=4005007) h13 ?_;refine zE (Jb (Ja (Jc (zR 4 ?_))));obtain ⟨x19,h14,h⟩:=Je h;refine zW (tk:=4009007) h14 ?_;refine zE (Jb (Ja (zD (zR 6 ?_))));obtain ⟨r20,h15,h⟩:=Je h;refine zP (Jg2 _ _ r20 h15) (zR 2 ?_);obtain ⟨x21,h16,h⟩:=Je h;refine zW (tk:=4013007) h16 ?_;refine zE (Jb (Ja (Jc (zR 5 ?_))));obtain ⟨x22,h17,h⟩:=Je h;refine zW (tk:=4017007) h17 ?_;refine zE (Jb (Ja (Jc (zE (Jb (Jm ?_))))));refine Kdc (Jvu (x:=none) (caps:=[.ref 8 0,.ref 9 0]) (by kernel_rfl) Tryz.func169 (by rfl) rfl Tryz.ntmps169 (by rfl) ?_);refine Jtc ((Jcu 5 (by kernel_rfl)).trans (.of (j:=⟨[(0,.ref 5008 0),(1,.ref 5009 0),(25,.ref 5008 0),(26,.ref 5009 0),(75,.fn 169 [.ref 5008 0,.ref 5009 0])],[(5008,.cells ([I6 a2.Id,I6 a2.Origin,I6 r1.Exit,I6 (w64 (a2.At+r1.Length)),Jk (.own 4005007) x18,Jk (.own 4009007) x19,Jk (.own 4013007) x21,Jk (.own 4017007) x22,Jk (.own 4021007) x12,I6 a2.Min,I6 a2.Sent,I6 a2.Accepted,I6 a2.Cut,I6 a2.CutSeq])),(5009,.cells ([I6 0]))],[(4005007,(((x18).map cellsOf).length,3)),(4009007,(((x19).map cellsOf).length,1)),(4013007,(((x21).map cellsOf).length,1)),(4017007,(((x22).map cellsOf).length,1)),(4021007,(((x12).map cellsOf).length,1))],[]⟩) (n:=5900076) (by kernel_rfl) (by kernel_rfl))) ?_;refine Jns ⟨rfl,rfl,rfl,rfl,fun _ _=>rfl,fun _ _=>rfl⟩ (by kernel_rfl) ?_;refine Ja (Jc (zR 1 ?_));refine Kca (t:=20) (b:=false) (by kernel_rfl) (by kernel_rfl) ?_;refine zN (Jb ?_);refine Jbp (b:=false) rfl (by kernel_rfl) ?_;refine Jg ?_;cases h;exact Jgs (by kernel_rfl) (by kernel_rfl) (by kernel_rfl)
def Lf (a0:Int) (c0:Jq):Option Bool :=
 some (decide (c0.Cut<a0))
theorem Jdr (a0:Int) (c0:Jq) (r:Bool) (h:Lf a0 c0=some r):Kg Tryz.prog GlS 173 [Enc.pv a0,.cptr (cellsOf c0)] (Enc.pv r):=by
 unfold Lf at h;refine zC Tryz.func173 Tryz.ntmps173 ?_;refine Ja (Jc (zE (Jb (Ja (Jc (zE (Jb (Jm ?_))))))));cases h;exact zQ
def Wb (a0:(List Int)) (a1_0:Jq):Int→Option (Int⊕(Unit⊕Int)):=fun x3 =>
 bif decide (x3<((a0.length:Nat):Int)) then (
  (ixO a0 x3).bind fun x6 =>
  (Lf x6 a1_0).bind fun r7 =>
  bif r7 then (
   some (.inr (.inr x3))
  ) else (
   some (.inl (w64 (x3+1)))
  )
 ) else (
  some (.inr (.inl ()))
 )
def Vc (a0:(List Int)) (a1_0:Jq):Option Int :=
 onInl (α:=Unit) (β:=Int) (Ki (Wb a0 a1_0) 0) fun _ =>
 some (-1)
theorem Dk (a0:(List Int)) (a1_0:Jq) (r:Int) (h:Vc a0 a1_0=some r):Kg Tryz.prog GlS 166 [Enc.pv a0,.fn 173 [.cptr (cellsOf a1_0)]] (Enc.pv r):=by
 unfold Vc at h;refine zC Tryz.func166 Tryz.ntmps166 ?_;refine Ja (Jc (zE (Jb (Ja (Ja (Jc (zR 1 ?_)))))));refine zL (L:=a0) ?_;refine zE (Jb (Jl ?_));obtain ⟨o8,h8,h⟩:=Kf h;refine zA 19 0 (fun x3=>⟨[(0,Jk .frozen a0),(1,.fn 173 [.cptr (cellsOf a1_0)]),(7,I6 ((a0.length:Nat):Int)),(8,I6 x3)],[],[],[]⟩) (fun (_:Unit)=>⟨[],[],[],[]⟩) h8 ?_ ?_
 ·rintro x3 oh7 h7;unfold Wb at h7;refine Ja (Jc (zE (Jb (Ja ?_))));rcases Ji h7 with ⟨hb,h7⟩|⟨hb,h7⟩
  ·refine zT hb (Jg (Jb (Ja (Jl (Ja (Jc (zE (Jb (Ja (Jc (zR 3 ?_)))))))))));obtain ⟨x6,h9,h7⟩:=Je h7;refine zI h9 (zR 1 ?_);obtain ⟨r7,h10,h7⟩:=Je h7;refine zP (Jdr _ _ r7 h10) (zN (Jb ?_));rcases Ji h7 with ⟨hb,h7⟩|⟨hb,h7⟩
   ·refine zT hb (Ja (Jc (zE (Jb (Jm (Jp (Jj ?_)))))));cases h7;refine Kc fun he=>?_;subst he;have h11:=Km h;refine Jp (Jj ?_);cases h11;exact zQ
   refine zU hb (Jg (Jx (Jb (Jc (zE ?_)))));cases h7;exact zB
  refine zU hb (Jv (Jt ?_));cases h7;exact zX
 rintro _ s' rfl hs;have h:=Ka h;refine Jr (Jb (Jy hs (Ja (Jc (zE (Jb (Jm ?_)))))));cases h;exact zQ
def Uq (a0:(List Int)) (a1_0:Jq):Option Bool :=
 (Vc a0 a1_0).bind fun r1 =>
 some (decide (0≤r1))
theorem Cn (a0:(List Int)) (a1_0:Jq) (r:Bool) (h:Uq a0 a1_0=some r):Kg Tryz.prog GlS 172 [Enc.pv a0,.fn 173 [.cptr (cellsOf a1_0)]] (Enc.pv r):=by
 unfold Uq at h;refine zC Tryz.func172 Tryz.ntmps172 ?_;refine Ja (Jc (zE (Jb (Ja (Jc (zR 2 ?_))))));obtain ⟨r1,h1,h⟩:=Je h;refine zP (Dk _ _ r1 h1) (zE (Jb (Jm ?_)));cases h;exact zQ
def Jae (a0:Jd) (a1:Jq):(Int×Int×(List Jh))→Option ((Int×Int×(List Jh))⊕((List Jh)⊕Jq)):=fun (x32,x33,x34) =>
 bif decide (x33<((a1.Steps.length:Nat):Int)) then (
  onInl (α:=((List Jh)×Int)) (β:=((Int×Int×(List Jh))⊕((List Jh)⊕Jq))) (
   (ixO a1.Steps x33).bind fun x58 =>
   onInl (α:=(List Jh)) (β:=(((List Jh)×Int)⊕((Int×Int×(List Jh))⊕((List Jh)⊕Jq)))) (
    bif decide (x32<a1.Cut) then (
     (Ul x34 [x58]).bind fun x61 =>
     some (.inl x61)
    ) else (
     some (.inl x34)
    )
   ) fun x60 =>
   ((bif decide (0≤x58.El) then (
    some (decide (x58.El<((a0.Elements.length:Nat):Int)))
   ) else some false):Option Bool).bind fun b62 =>
   bif b62 then (
    (ixO a0.Elements x58.El).bind fun x63 =>
    some (.inl (x60,w64 (x32+x63.Length)))
   ) else (
    some (.inl (x60,x32))
   )
  ) fun (x56,x57) =>
  some (.inl (x57,w64 (x33+1),x56))
 ) else (
  some (.inr (.inl x34))
 )
def Rl (a0:Jd) (a1:Jq):Option Jq :=
 (Uq a1.Ends a1).bind fun r1 =>
 bif (!r1) then (
  some a1
 ) else (
  onInl (α:=(List Jh)) (β:=Jq) (Ki (Jae a0 a1) (a1.Origin,0,([]:(List Jh)))) fun x49 =>
  some (Jq.mk a1.Id a1.Origin a1.End a1.Cut x49 a1.Routes a1.Starts a1.Ends a1.Done a1.Min a1.Sent a1.Accepted a1.Cut a1.CutSeq)
 )
theorem Jgw (a0:Jd) (a1:Jq) (r:Jq) (h:Rl a0 a1=some r):Kg Tryz.prog GlS 98 [Enc.pv a0,Enc.pv a1] (Enc.pv r):=by
 unfold Rl at h;refine zC Tryz.func98 Tryz.ntmps98 ?_;refine Ja (Jc (zE (Jb (Ja (Jc (zR 3 ?_))))));obtain ⟨r1,h1,h⟩:=Je h;refine Kbc [] (Cn _ _ r1 h1) (by kernel_rfl) (by kernel_rfl) (by kernel_rfl) ?_;refine zE (Jb (Ja (Ja (Jc (zE (Jb ?_))))));rcases Ji h with ⟨hb,h⟩|⟨hb,h⟩
 ·refine zT hb (Ja (Jc (zE (Jb (Jm (Jj ?_))))));cases h;exact zQ
 refine zU hb (Jg (Jb (Ja (Jc (zE (Jb (Ja (Jc (zE (Jb (Ja (Ja (Jc (zR 2 ?_))))))))))))));refine zL (L:=a1.Steps) ?_;refine zE (Jb (Jl (Yz 6 100006 3 24 (by kernel_rfl) (by kernel_rfl) ?_)));obtain ⟨o42,h42,h⟩:=Kf h;refine zA 61 0 (fun (x32,x33,x34)=>⟨[(2,.ref 2 0),(3,.ref 3 0),(4,.ref 4 0),(6,Jk (.own 100006) x34),(7,I6 x32),(20,Jk .frozen a1.Steps),(21,I6 ((a1.Steps.length:Nat):Int)),(22,I6 x33)],[(2,.cells (cellsOf a0)),(3,.cells (cellsOf a1)),(4,.cells ([I6 0,I6 0,I6 0,I6 0,.nil,.nil,.nil,.nil,.nil,I6 0,I6 0,I6 0,I6 0,I6 0]))],[(100006,(((x34).map cellsOf).length,3))],[]⟩) (fun x49=>⟨[(3,.ref 3 0),(4,.ref 4 0),(6,Jk (.own 100006) x49)],[(3,.cells (cellsOf a1)),(4,.cells ([I6 0,I6 0,I6 0,I6 0,.nil,.nil,.nil,.nil,.nil,I6 0,I6 0,I6 0,I6 0,I6 0]))],[(100006,(((x49).map cellsOf).length,3))],[]⟩) h42 ?_ ?_
 ·rintro ⟨x32,x33,x34⟩ oh41 h41;unfold Jae at h41;refine Ja (Jc (zE (Jb (Ja ?_))));rcases Ji h41 with ⟨hb,h41⟩|⟨hb,h41⟩
  ·refine zT hb (Jg (Jb ?_));obtain ⟨o49,h49,h41⟩:=Kf h41;refine Qm (o:=o49) 61 (fun (x56,x57)=>⟨[(2,.ref 2 0),(3,.ref 3 0),(4,.ref 4 0),(6,Jk (.own 100006) x56),(7,I6 x57),(20,Jk .frozen a1.Steps),(21,I6 ((a1.Steps.length:Nat):Int)),(22,I6 x33)],[(2,.cells (cellsOf a0)),(3,.cells (cellsOf a1)),(4,.cells ([I6 0,I6 0,I6 0,I6 0,.nil,.nil,.nil,.nil,.nil,I6 0,I6 0,I6 0,I6 0,I6 0]))],[(100006,(((x56).map cellsOf).length,3))],[]⟩) ?_ ?_
   ·refine Jl (Ja (Jc ?_));obtain ⟨x58,h50,h49⟩:=Je h49;refine zI h50 (zE (Jb ?_));obtain ⟨o52,h52,h49⟩:=Kf h49;refine Qm (o:=o52) 61 (fun x60=>⟨[(2,.ref 2 0),(3,.ref 3 0),(4,.ref 4 0),(6,Jk (.own 100006) x60),(7,I6 x32),(9,.ref 9 0),(20,Jk .frozen a1.Steps),(21,I6 ((a1.Steps.length:Nat):Int)),(22,I6 x33)],[(2,.cells (cellsOf a0)),(3,.cells (cellsOf a1)),(4,.cells ([I6 0,I6 0,I6 0,I6 0,.nil,.nil,.nil,.nil,.nil,I6 0,I6 0,I6 0,I6 0,I6 0])),(9,.cells (cellsOf x58))],[(100006,(((x60).map cellsOf).length,3))],[]⟩) ?_ ?_
    ·refine Ja (Jc (zE (Jb ?_)));rcases Ji h52 with ⟨hb,h52⟩|⟨hb,h52⟩
     ·refine zT hb (Jc (zR 3 ?_));obtain ⟨x61,h53,h52⟩:=Je h52;refine zW (tk:=100006) h53 ?_;refine zE ?_;cases h52;exact zJ
     refine zU hb (Jg ?_);cases h52;exact zJ
    rintro x60 rfl;have h49:=Ka h49;refine Ja (Jc ?_);obtain ⟨b62,h54,h49⟩:=Je h49;refine zR 4 ?_;refine Ko 7 44 (.bool b62) ?_ ?_
    ·rcases Ji h54 with ⟨hb,h54⟩|⟨hb,h54⟩
     ·refine zS 37 hb (zR 4 ?_);refine zL (L:=a0.Elements) ?_;cases h54;exact zF
     refine zS 37 hb ?_;cases h54;exact zF
    refine zN (Jb ?_);rcases Ji h49 with ⟨hb,h49⟩|⟨hb,h49⟩
    ·refine zT hb (Jc (zR 5 ?_));obtain ⟨x63,h55,h49⟩:=Je h49;refine zI h55 (zE (Jx ?_));cases h49;exact zJ
    refine zU hb (Jg (Jx ?_));cases h49;exact zJ
   rintro ⟨x56,x57⟩ rfl;have h41:=Ka h41;refine Jc (zE ?_);cases h41;exact zB
  refine zU hb (Jv (Jt ?_));cases h41;exact zX
 rintro x49 s' rfl hs;have h:=Ka h;refine Jr (Jb (Jy hs (Ja (Jc (zE (Jb (Ja (Jc (zE (Jb (Ja (Jc (zE (Jb (Jm ?_)))))))))))))));cases h;exact zQ
def Ya (a0:Int):Option Bool :=
 some ((decide ((-1073741824)≤a0))&&(decide (a0≤1073741824)))
theorem Cx (a0:Int) (r:Bool) (h:Ya a0=some r):Kg Tryz.prog GlS 242 [Enc.pv a0] (Enc.pv r):=by
 unfold Ya at h;refine zC Tryz.func242 Tryz.ntmps242 ?_;refine Ja (Jc (zE (Jb (Ja (Jc (zR 3 ?_))))));refine Ks 3 8 ((decide ((-1073741824)≤a0))&&(decide (a0≤1073741824))) (fun x hx=>?_) ?_
 ·rcases Vz hx with ⟨hb,hx⟩|⟨hb,hx⟩
  ·refine zS 5 hb ?_;subst hx;exact zF
  refine zS 5 hb ?_;subst hx;exact zF
 refine zE (Jb (Jm ?_));cases h;exact zQ
def Iy (a0:Kv) (a1:Jh):Option Int :=
 bif ((decide (a1.In=0))||((decide (a1.In=2))&&(decide (a0.Kind=3)))) then (
  some a0.Grade
 ) else (
  some (w64 (0 - a0.Grade))
 )
theorem Jdu (a0:Kv) (a1:Jh) (r:Int) (h:Iy a0 a1=some r):Kg Tryz.prog GlS 243 [Enc.pv a0,Enc.pv a1] (Enc.pv r):=by
 unfold Iy at h;refine zC Tryz.func243 Tryz.ntmps243 ?_;refine Ja (Jc (zE (Jb (Ja (Ja (Jc (zR 4 ?_)))))));refine Ks 9 17 ((decide (a1.In=0))||((decide (a1.In=2))&&(decide (a0.Kind=3)))) (fun x hx=>?_) ?_
 ·rcases Vi hx with ⟨hb,hx⟩|⟨hb,hx⟩
  ·refine zS 8 hb ?_;subst hx;exact zF
  refine zS 8 hb (zR 4 ?_);refine Tb 4 16 ((decide (a1.In=2))&&(decide (a0.Kind=3))) (fun x hx=>?_) ?_
  ·rcases Vz hx with ⟨hb,hx⟩|⟨hb,hx⟩
   ·refine zS 12 hb ?_;subst hx;exact zF
   refine zS 12 hb ?_;subst hx;exact zF
  subst hx;exact zF
 refine zN (Jb ?_);rcases Ji h with ⟨hb,h⟩|⟨hb,h⟩
 ·refine zT hb (Ja (Jc (zE (Jb (Jm (Jj ?_))))));cases h;exact zQ
 refine zU hb (Jg (Jb (Ja (Jc (zE (Jb (Jm ?_)))))));cases h;exact zQ
def Rx (a0:Kv) (a1:Jh):Option Int :=
 bif ((decide (a0.Kind=2))&&((decide (a1.In=2))||(decide (a1.Out=2)))) then (
  some a0.Slow
 ) else (
  some a0.Speed
 )
theorem Jg9 (a0:Kv) (a1:Jh) (r:Int) (h:Rx a0 a1=some r):Kg Tryz.prog GlS 244 [Enc.pv a0,Enc.pv a1] (Enc.pv r):=by
 unfold Rx at h;refine zC Tryz.func244 Tryz.ntmps244 ?_;refine Ja (Jc (zE (Jb (Ja (Ja (Jc (zR 4 ?_)))))));refine Ks 9 17 ((decide (a0.Kind=2))&&((decide (a1.In=2))||(decide (a1.Out=2)))) (fun x hx=>?_) ?_
 ·rcases Vz hx with ⟨hb,hx⟩|⟨hb,hx⟩
  ·refine zS 8 hb (zR 4 ?_);refine Tb 4 16 ((decide (a1.In=2))||(decide (a1.Out=2))) (fun x hx=>?_) ?_
   ·rcases Vi hx with ⟨hb,hx⟩|⟨hb,hx⟩
    ·refine zS 12 hb ?_;subst hx;exact zF
    refine zS 12 hb ?_;subst hx;exact zF
   subst hx;exact zF
  refine zS 8 hb ?_;subst hx;exact zF
 refine zN (Jb ?_);rcases Ji h with ⟨hb,h⟩|⟨hb,h⟩
 ·refine zT hb (Ja (Jc (zE (Jb (Jm (Jj ?_))))));cases h;exact zQ
 refine zU hb (Jg (Jb (Ja (Jc (zE (Jb (Jm ?_)))))));cases h;exact zQ
def Jah (a0:(List Jn)):Int→Option (Int⊕(Unit⊕Bool)):=fun x7 =>
 bif decide (x7<((a0.length:Nat):Int)) then (
  (ixO a0 x7).bind fun x14 =>
  (Ya x14.From).bind fun r15 =>
  ((bif (!r15) then some true else (
   (Ya x14.To).bind fun r17 =>
   some (!r17)
  )):Option Bool).bind fun b16 =>
  bif (((((b16||(decide (x14.To≤x14.From)))||(decide (x14.Grade<(-50))))||(decide (50<x14.Grade)))||(decide (x14.Speed<1)))||(decide (10000<x14.Speed))) then (
   some (.inr (.inr false))
  ) else (
   ((bif decide (0<x7) then (
    (ixO a0 (w64 (x7 - 1))).bind fun x19 =>
    some (!(decide (x14.From=x19.To)))
   ) else some false):Option Bool).bind fun b18 =>
   bif b18 then (
    some (.inr (.inr false))
   ) else (
    some (.inl (w64 (x7+1)))
   )
  )
 ) else (
  some (.inr (.inl ()))
 )
def Ys (a0:(List Jn)):Option Bool :=
 bif decide (128<((a0.length:Nat):Int)) then (
  some false
 ) else (
  onInl (α:=Unit) (β:=Bool) (Ki (Jah a0) 0) fun _ =>
  some true
 )
theorem Bb (a0:(List Jn)) (r:Bool) (h:Ys a0=some r):Kg Tryz.prog GlS 188 [Enc.pv a0] (Enc.pv r):=by
 unfold Ys at h;refine zC Tryz.func188 Tryz.ntmps188 ?_;refine Ja (Jc (zE (Jb (Ja (Ja (Jc (zR 1 ?_)))))));refine zL (L:=a0) ?_;refine zE (Jb ?_);rcases Ji h with ⟨hb,h⟩|⟨hb,h⟩
 ·refine zT hb (Ja (Jc (zE (Jb (Jm (Jj ?_))))));cases h;exact zQ
 refine zU hb (Jg (Jb (Ja (Ja (Jc (zR 1 ?_))))));refine zL (L:=a0) ?_;refine zE (Jb (Jl ?_));obtain ⟨o18,h18,h⟩:=Kf h;refine zA 66 0 (fun x7=>⟨[(0,Jk .frozen a0),(8,Jk .frozen a0),(9,I6 ((a0.length:Nat):Int)),(10,I6 x7)],[],[],[]⟩) (fun (_:Unit)=>⟨[],[],[],[]⟩) h18 ?_ ?_
 ·rintro x7 oh17 h17;unfold Jah at h17;refine Ja (Jc (zE (Jb (Ja ?_))));rcases Ji h17 with ⟨hb,h17⟩|⟨hb,h17⟩
  ·refine zT hb (Jg (Jb (Ja (Jl (Ja (Jc (zR 1 ?_)))))));obtain ⟨x14,h19,h17⟩:=Je h17;refine zI h19 (zE (Jb (Ja (Ja (Jc (zR 2 ?_))))));obtain ⟨r15,h20,h17⟩:=Je h17;refine zP (Cx _ r15 h20) ?_;obtain ⟨b16,h21,h17⟩:=Je h17;refine zR 2 ?_;refine Ko 5 24 (.bool b16) ?_ ?_
   ·rcases Ji h21 with ⟨hb,h21⟩|⟨hb,h21⟩
    ·refine zS 19 hb ?_;cases h21;exact zF
    refine zS 19 hb (zR 2 ?_);obtain ⟨r17,h22,h21⟩:=Je h21;refine zP (Cx _ r17 h22) ?_;cases h21;exact zF
   refine zR 1 ?_;refine Ks 6 31 (b16||(decide (x14.To≤x14.From))) (fun x hx=>?_) ?_
   ·rcases Vi hx with ⟨hb,hx⟩|⟨hb,hx⟩
    ·refine zS 25 hb ?_;subst hx;exact zF
    refine zS 25 hb ?_;subst hx;exact zF
   refine zR 1 ?_;refine Ks 4 36 ((b16||(decide (x14.To≤x14.From)))||(decide (x14.Grade<(-50)))) (fun x hx=>?_) ?_
   ·rcases Vi hx with ⟨hb,hx⟩|⟨hb,hx⟩
    ·refine zS 32 hb ?_;subst hx;exact zF
    refine zS 32 hb ?_;subst hx;exact zF
   refine zR 1 ?_;refine Ks 4 41 (((b16||(decide (x14.To≤x14.From)))||(decide (x14.Grade<(-50))))||(decide (50<x14.Grade))) (fun x hx=>?_) ?_
   ·rcases Vi hx with ⟨hb,hx⟩|⟨hb,hx⟩
    ·refine zS 37 hb ?_;subst hx;exact zF
    refine zS 37 hb ?_;subst hx;exact zF
   refine zR 1 ?_;refine Ks 4 46 ((((b16||(decide (x14.To≤x14.From)))||(decide (x14.Grade<(-50))))||(decide (50<x14.Grade)))||(decide (x14.Speed<1))) (fun x hx=>?_) ?_
   ·rcases Vi hx with ⟨hb,hx⟩|⟨hb,hx⟩
    ·refine zS 42 hb ?_;subst hx;exact zF
    refine zS 42 hb ?_;subst hx;exact zF
   refine zR 1 ?_;refine Ks 4 51 (((((b16||(decide (x14.To≤x14.From)))||(decide (x14.Grade<(-50))))||(decide (50<x14.Grade)))||(decide (x14.Speed<1)))||(decide (10000<x14.Speed))) (fun x hx=>?_) ?_
   ·rcases Vi hx with ⟨hb,hx⟩|⟨hb,hx⟩
    ·refine zS 47 hb ?_;subst hx;exact zF
    refine zS 47 hb ?_;subst hx;exact zF
   refine zN (Jb ?_);rcases Ji h17 with ⟨hb,h17⟩|⟨hb,h17⟩
   ·refine zT hb (Ja (Jc (zE (Jb (Jm (Jj (Jp (Jj ?_))))))));cases h17;refine Kc fun he=>?_;subst he;have h23:=Km h;refine Jp (Jj ?_);cases h23;exact zQ
   refine zU hb (Jg (Jb (Ja (zD ?_))));obtain ⟨b18,h24,h17⟩:=Je h17;refine zR 3 ?_;refine Ko 10 64 (.bool b18) ?_ ?_
   ·rcases Ji h24 with ⟨hb,h24⟩|⟨hb,h24⟩
    ·refine zS 54 hb (zR 5 ?_);obtain ⟨x19,h25,h24⟩:=Je h24;refine zI h25 ?_;cases h24;exact zF
    refine zS 54 hb ?_;cases h24;exact zF
   refine zN (Jb ?_);rcases Ji h17 with ⟨hb,h17⟩|⟨hb,h17⟩
   ·refine zT hb (Ja (Jc (zE (Jb (Jm (Jp (Jj ?_)))))));cases h17;refine Kc fun he=>?_;subst he;have h26:=Km h;refine Jp (Jj ?_);cases h26;exact zQ
   refine zU hb (Jg (Jx (Jb (Jc (zE ?_)))));cases h17;exact zB
  refine zU hb (Jv (Jt ?_));cases h17;exact zX
 rintro _ s' rfl hs;have h:=Ka h;refine Jr (Jb (Jy hs (Ja (Jc (zE (Jb (Jm ?_)))))));cases h;exact zQ
def Jep (a0:Jd) (a1:(List Jh)):(Int×Int×(List Jn))→Option ((Int×Int×(List Jn))⊕((List Jn)⊕(List Jn))):=fun (x21,x22,x23) =>
 bif decide (x22<((a1.length:Nat):Int)) then (
  (ixO a1 x22).bind fun x34 =>
  ((bif decide (x34.El<0) then some true else (
   some (decide (((a0.Elements.length:Nat):Int)≤x34.El))
  )):Option Bool).bind fun b35 =>
  bif b35 then (
   some (.inr (.inr ([]:(List Jn))))
  ) else (
   (ixO a0.Elements x34.El).bind fun x36 =>
   (Mb x36.Kind x34.In x34.Out).bind fun r37 =>
   ((bif (!r37.2) then some true else (
    (Ya x21).bind fun r39 =>
    some (!r39)
   )):Option Bool).bind fun b38 =>
   bif b38 then (
    some (.inr (.inr ([]:(List Jn))))
   ) else (
    (Iy x36 x34).bind fun r40 =>
    (Rx x36 x34).bind fun r41 =>
    (Ul x23 [(Jn.mk x21 (w64 (x21+x36.Length)) r40 r41)]).bind fun x42 =>
    some (.inl (w64 (x21+x36.Length),w64 (x22+1),x42))
   )
  )
 ) else (
  some (.inr (.inl x23))
 )
def Jb3 (a0:Jd) (a1:(List Jh)) (a2:Int):Option (List Jn) :=
 bif decide (128<((a1.length:Nat):Int)) then (
  some ([]:(List Jn))
 ) else (
  onInl (α:=(List Jn)) (β:=(List Jn)) (Ki (Jep a0 a1) (a2,0,([]:(List Jn)))) fun x33 =>
  (Ys x33).bind fun r43 =>
  bif (!r43) then (
   some ([]:(List Jn))
  ) else (
   some x33
  )
 )
theorem Jln (a0:Jd) (a1:(List Jh)) (a2:Int) (r:(List Jn)) (h:Jb3 a0 a1 a2=some r):Kg Tryz.prog GlS 177 [Enc.pv a0,Enc.pv a1,Enc.pv a2] (Enc.pv r):=by
 unfold Jb3 at h;refine zC Tryz.func177 Tryz.ntmps177 ?_;refine Ja (Jc (zE (Jb (Ja (Ja (Jc (zR 1 ?_)))))));refine zL (L:=a1) ?_;refine zE (Jb ?_);rcases Ji h with ⟨hb,h⟩|⟨hb,h⟩
 ·refine zT hb (Ja (Jc (zE (Jb (Jm (Jj ?_))))));cases h;exact zQ
 refine zU hb (Jg (Jb (Ja (Jc (zE (Jb (Ja (Jc (zE (Jb (Ja (Ja (Jc (zR 1 ?_))))))))))))));refine zL (L:=a1) ?_;refine zE (Jb (Jl (Yz 7 100007 4 32 (by kernel_rfl) (by kernel_rfl) ?_)));obtain ⟨o35,h35,h⟩:=Kf h;refine zA 81 0 (fun (x21,x22,x23)=>⟨[(3,.ref 3 0),(7,Jk (.own 100007) x23),(8,I6 x21),(19,Jk .frozen a1),(20,I6 ((a1.length:Nat):Int)),(21,I6 x22)],[(3,.cells (cellsOf a0))],[(100007,(((x23).map cellsOf).length,4))],[]⟩) (fun x33=>⟨[(7,Jk (.own 100007) x33)],[],[(100007,(((x33).map cellsOf).length,4))],[]⟩) h35 ?_ ?_
 ·rintro ⟨x21,x22,x23⟩ oh34 h34;unfold Jep at h34;refine Ja (Jc (zE (Jb (Ja ?_))));rcases Ji h34 with ⟨hb,h34⟩|⟨hb,h34⟩
  ·refine zT hb (Jg (Jb (Ja (Jl (Ja (Jc ?_))))));obtain ⟨x34,h36,h34⟩:=Je h34;refine zI h36 (zE (Jb (Ja (Ja (Jc ?_)))));obtain ⟨b35,h37,h34⟩:=Je h34;refine zR 4 ?_;refine Ko 7 35 (.bool b35) ?_ ?_
   ·rcases Ji h37 with ⟨hb,h37⟩|⟨hb,h37⟩
    ·refine zS 28 hb ?_;cases h37;exact zF
    refine zS 28 hb (zR 4 ?_);refine zL (L:=a0.Elements) ?_;cases h37;exact zF
   refine zN (Jb ?_);rcases Ji h34 with ⟨hb,h34⟩|⟨hb,h34⟩
   ·refine zT hb (Ja (Jc (zE (Jb (Jm (Jj (Jp (Jj ?_))))))));cases h34;refine Kc fun he=>?_;subst he;have h38:=Km h;refine Jp (Jj ?_);cases h38;exact zQ
   refine zU hb (Jg (Jb (Ja (Jc (zR 4 ?_)))));obtain ⟨x36,h39,h34⟩:=Je h34;refine zI h39 (zE (Jb (Ja (Ja (Jc (zR 6 ?_))))));obtain ⟨r37,h40,h34⟩:=Je h34;refine zP (Jfk _ _ _ r37 h40) (zE (Jb (Ja (Jc ?_))));obtain ⟨b38,h41,h34⟩:=Je h34;refine zR 3 ?_;refine Ko 4 58 (.bool b38) ?_ ?_
   ·rcases Ji h41 with ⟨hb,h41⟩|⟨hb,h41⟩
    ·refine zS 54 hb ?_;cases h41;exact zF
    refine zS 54 hb (zR 1 ?_);obtain ⟨r39,h42,h41⟩:=Je h41;refine zP (Cx _ r39 h42) ?_;cases h41;exact zF
   refine zN (Jb ?_);rcases Ji h34 with ⟨hb,h34⟩|⟨hb,h34⟩
   ·refine zT hb (Ja (Jc (zE (Jb (Jm (Jj (Jp (Jj ?_))))))));cases h34;refine Kc fun he=>?_;subst he;have h43:=Km h;refine Jp (Jj ?_);cases h43;exact zQ
   refine zU hb (Jg (Jb (Ja (Jc (zE (Jb (Ja (zD (zR 5 ?_)))))))));obtain ⟨r40,h44,h34⟩:=Je h34;refine zP (Jdu _ _ r40 h44) (zR 2 ?_);obtain ⟨r41,h45,h34⟩:=Je h34;refine zP (Jg9 _ _ r41 h45) (zR 2 ?_);obtain ⟨x42,h46,h34⟩:=Je h34;refine zW (tk:=100007) h46 ?_;refine zE (Jb (Jc (zE (Jx (Jb (Jc (zE ?_)))))));cases h34;exact zB
  refine zU hb (Jv (Jt ?_));cases h34;exact zX
 rintro x33 s' rfl hs;have h:=Ka h;refine Jr (Jb (Jy hs (Ja (Ja (Jc (zR 1 ?_))))));obtain ⟨r43,h47,h⟩:=Je h;refine zP (Bb _ r43 h47) (zE (Jb ?_));rcases Ji h with ⟨hb,h⟩|⟨hb,h⟩
 ·refine zT hb (Ja (Jc (zE (Jb (Jm (Jj ?_))))));cases h;exact zQ
 refine zU hb (Jg (Jb (Ja (Jc (zE (Jb (Jm ?_)))))));cases h;exact zQ
def Be (a0:(List Jn)):Option (List Jn) :=
 (Ul ([]:(List Jn)) a0).bind fun x1 =>
 some x1
theorem Ra (a0:(List Jn)) (r:(List Jn)) (h:Be a0=some r):Kg Tryz.prog GlS 238 [Enc.pv a0] (Jk (.own 7) r):=by
 unfold Be at h;refine zC Tryz.func238 Tryz.ntmps238 ?_;refine Ja (Jc (zE (Jb (Ja (Ja (Jc (zE (Jb ?_))))))));refine Sz (e:=(a0.map cellsOf).isEmpty) (by kernel_rfl) (fun hub=>?_) ?_
 ·have hN:=Sy (Jkk hub) h;refine Ja (Jc (zE (Jb (Yz 2 7 4 32 (by kernel_rfl) (by kernel_rfl) (Jm (Jj ?_))))));cases hN;exact zQ
 refine Jg (Jb (Ja (Jc (zR 2 ?_))));obtain ⟨x1,h1,h⟩:=Je h;refine Tj (tk:=7) h1 (by kernel_rfl) ?_;refine zE (Jb (Jm ?_));cases h;exact zQ
def Hf (a0:Jd) (a1:Qa):Option Int :=
 ((bif (((decide (a1.Id<1))||(decide (1073741824<a1.Id)))||(decide (a1.El<0))) then some true else (
  some (decide (((a0.Elements.length:Nat):Int)≤a1.El))
 )):Option Bool).bind fun b1 =>
 bif b1 then (
  some 1
 ) else (
  ((bif ((decide (a1.From<0))||(decide (a1.To≤a1.From))) then some true else (
   (ixO a0.Elements a1.El).bind fun x3 =>
   some (decide (x3.Length<a1.To))
  )):Option Bool).bind fun b2 =>
  bif ((b2||(decide (a1.Speed<100)))||(decide (10000<a1.Speed))) then (
   some 1
  ) else (
   some 0
  )
 )
theorem Jcn (a0:Jd) (a1:Qa) (r:Int) (h:Hf a0 a1=some r):Kg Tryz.prog GlS 239 [Enc.pv a0,Enc.pv a1] (Enc.pv r):=by
 unfold Hf at h;refine zC Tryz.func239 Tryz.ntmps239 ?_;refine Ja (Jc (zE (Jb (Ja (Ja (Jc (zR 4 ?_)))))));refine Ks 4 12 ((decide (a1.Id<1))||(decide (1073741824<a1.Id))) (fun x hx=>?_) ?_
 ·rcases Vi hx with ⟨hb,hx⟩|⟨hb,hx⟩
  ·refine zS 8 hb ?_;subst hx;exact zF
  refine zS 8 hb ?_;subst hx;exact zF
 refine zR 1 ?_;refine Ks 4 17 (((decide (a1.Id<1))||(decide (1073741824<a1.Id)))||(decide (a1.El<0))) (fun x hx=>?_) ?_
 ·rcases Vi hx with ⟨hb,hx⟩|⟨hb,hx⟩
  ·refine zS 13 hb ?_;subst hx;exact zF
  refine zS 13 hb ?_;subst hx;exact zF
 obtain ⟨b1,h1,h⟩:=Je h;refine zR 1 ?_;refine Ko 7 25 (.bool b1) ?_ ?_
 ·rcases Ji h1 with ⟨hb,h1⟩|⟨hb,h1⟩
  ·refine zS 18 hb ?_;cases h1;exact zF
  refine zS 18 hb (zR 4 ?_);refine zL (L:=a0.Elements) ?_;cases h1;exact zF
 refine zN (Jb ?_);rcases Ji h with ⟨hb,h⟩|⟨hb,h⟩
 ·refine zT hb (Ja (Jc (zE (Jb (Jm (Jj ?_))))));cases h;exact zQ
 refine zU hb (Jg (Jb (Ja (Ja (zD (zR 4 ?_))))));refine Ks 6 35 ((decide (a1.From<0))||(decide (a1.To≤a1.From))) (fun x hx=>?_) ?_
 ·rcases Vi hx with ⟨hb,hx⟩|⟨hb,hx⟩
  ·refine zS 29 hb ?_;subst hx;exact zF
  refine zS 29 hb ?_;subst hx;exact zF
 obtain ⟨b2,h2,h⟩:=Je h;refine zR 1 ?_;refine Ko 11 47 (.bool b2) ?_ ?_
 ·rcases Ji h2 with ⟨hb,h2⟩|⟨hb,h2⟩
  ·refine zS 36 hb ?_;cases h2;exact zF
  refine zS 36 hb (zR 6 ?_);obtain ⟨x3,h3,h2⟩:=Je h2;refine zI h3 ?_;cases h2;exact zF
 refine zR 1 ?_;refine Ks 4 52 (b2||(decide (a1.Speed<100))) (fun x hx=>?_) ?_
 ·rcases Vi hx with ⟨hb,hx⟩|⟨hb,hx⟩
  ·refine zS 48 hb ?_;subst hx;exact zF
  refine zS 48 hb ?_;subst hx;exact zF
 refine zR 1 ?_;refine Ks 4 57 ((b2||(decide (a1.Speed<100)))||(decide (10000<a1.Speed))) (fun x hx=>?_) ?_
 ·rcases Vi hx with ⟨hb,hx⟩|⟨hb,hx⟩
  ·refine zS 53 hb ?_;subst hx;exact zF
  refine zS 53 hb ?_;subst hx;exact zF
 refine zN (Jb ?_);rcases Ji h with ⟨hb,h⟩|⟨hb,h⟩
 ·refine zT hb (Ja (Jc (zE (Jb (Jm (Jj ?_))))));cases h;exact zQ
 refine zU hb (Jg (Jb (Ja (Jc (zE (Jb (Jm ?_)))))));cases h;exact zQ
def Cs (a0:De) (a1:Jn):Option (Jn×Bool) :=
 some ((Jn.mk (max a1.From a0.from_) (min a1.To a0.to_) a1.Grade a1.Speed),decide ((max a1.From a0.from_)<(min a1.To a0.to_)))
theorem Nn (a0:De) (a1:Jn) (r:(Jn×Bool)) (h:Cs a0 a1=some r):Kg Tryz.prog GlS 245 [Enc.pv a0,Enc.pv a1] (.tup [Enc.pv r.1,Enc.pv r.2]):=by
 unfold Cs at h;refine zC Tryz.func245 Tryz.ntmps245 ?_;refine Ja (Jc (zE (Jb (Ja ?_))));refine Jkd 24 ⟨[(3,.ref 3 0),(4,.ref 4 0)],[(3,.cells ([I6 (max a1.From a0.from_),I6 (min a1.To a0.to_),I6 a1.Grade,I6 a1.Speed])),(4,.cells ([I6 0,I6 0,I6 0,I6 0]))],[],[]⟩ (by kernel_rfl) ?_ ?_
 ·refine Yc [0,1,2,3,4,5,6,7,10] 5 (by kernel_rfl) ?_;refine zR 9 (Kq (by kernel_rfl) ?_);refine Ih (n:=4) [8,11] (by kernel_rfl) ⟨?_, ?_,trivial⟩
  ·refine ⟨_,rfl, ?_⟩;refine zR 1 (Kq (by kernel_rfl) ?_);refine Yc [9,11,12,13] 0 (by kernel_rfl) ?_;refine zR 4 (Kq (by kernel_rfl) ?_);exact Yl (by kernel_rfl) (.of (by kernel_rfl) (by kernel_rfl))
  refine ⟨_,rfl, ?_⟩;refine zR 1 (Kq (by kernel_rfl) ?_);refine Yc [8,9,12,13] 0 (by kernel_rfl) ?_;refine zR 4 (Kq (by kernel_rfl) ?_);exact Yl (by kernel_rfl) (.of (by kernel_rfl) (by kernel_rfl))
 refine Jb (Ja ?_);refine Jkd 24 ⟨[(4,.ref 4 0),(5,.bool (decide ((max a1.From a0.from_)<(min a1.To a0.to_))))],[(4,.cells ([I6 (max a1.From a0.from_),I6 (min a1.To a0.to_),I6 a1.Grade,I6 a1.Speed]))],[],[]⟩ (by kernel_rfl) ?_ ?_
 ·refine Yc [0,1,3] 5 (by kernel_rfl) ?_;refine zR 3 (Kq (by kernel_rfl) ?_);refine Ih (n:=4) [2,4,6] (by kernel_rfl) ⟨?_, ?_, ?_,trivial⟩
  ·refine ⟨_,rfl, ?_⟩;refine zR 1 (Kq (by kernel_rfl) ?_);refine Ih (n:=3) [4,6] (by kernel_rfl) ⟨?_, ?_,trivial⟩
   ·refine ⟨_,rfl, ?_⟩;refine zR 1 (Kq (by kernel_rfl) ?_);refine Yc [5,6,7] 0 (by kernel_rfl) ?_;refine zR 3 (Kq (by kernel_rfl) ?_);exact Yl (by kernel_rfl) (.of (by kernel_rfl) (by kernel_rfl))
   refine ⟨_,rfl, ?_⟩;refine zR 1 (Kq (by kernel_rfl) ?_);refine Yc [4,5,7] 0 (by kernel_rfl) ?_;refine zR 3 (Kq (by kernel_rfl) ?_);exact Yl (by kernel_rfl) (.of (by kernel_rfl) (by kernel_rfl))
  ·refine ⟨_,rfl, ?_⟩;refine zR 1 (Kq (by kernel_rfl) ?_);refine Ih (n:=3) [2,6] (by kernel_rfl) ⟨?_, ?_,trivial⟩
   ·refine ⟨_,rfl, ?_⟩;refine zR 1 (Kq (by kernel_rfl) ?_);refine Yc [5,6,7] 0 (by kernel_rfl) ?_;refine zR 3 (Kq (by kernel_rfl) ?_);exact Yl (by kernel_rfl) (.of (by kernel_rfl) (by kernel_rfl))
   refine ⟨_,rfl, ?_⟩;refine zR 1 (Kq (by kernel_rfl) ?_);refine Yc [2,5,7] 0 (by kernel_rfl) ?_;refine zR 3 (Kq (by kernel_rfl) ?_);exact Yl (by kernel_rfl) (.of (by kernel_rfl) (by kernel_rfl))
  refine ⟨_,rfl, ?_⟩;refine zR 1 (Kq (by kernel_rfl) ?_);refine Yc [2,4,5,7] 0 (by kernel_rfl) ?_;refine zR 4 (Kq (by kernel_rfl) ?_);exact Yl (by kernel_rfl) (.of (by kernel_rfl) (by kernel_rfl))
 refine Jb (Jm ?_);cases h;exact zQ
def Jam (a3:Int) (x169:Jn) (r170:(Jn×Bool)):((List Jn)×Int)→Option (((List Jn)×Int)⊕((List Jn)⊕((List Jn)⊕((Int×(List Jn))⊕((List Jn)⊕(List Jn)))))):=fun (x177,x178) =>
 bif decide (x178<(([(Jn.mk x169.From r170.1.From x169.Grade x169.Speed),(Jn.mk r170.1.From r170.1.To r170.1.Grade (min r170.1.Speed a3)),(Jn.mk r170.1.To x169.To x169.Grade x169.Speed)].length:Nat):Int)) then (
  onInl (α:=(List Jn)) (β:=(((List Jn)×Int)⊕((List Jn)⊕((List Jn)⊕((Int×(List Jn))⊕((List Jn)⊕(List Jn))))))) (
   (ixO [(Jn.mk x169.From r170.1.From x169.Grade x169.Speed),(Jn.mk r170.1.From r170.1.To r170.1.Grade (min r170.1.Speed a3)),(Jn.mk r170.1.To x169.To x169.Grade x169.Speed)] x178).bind fun x188 =>
   bif decide (x188.From<x188.To) then (
    (Ul x177 [x188]).bind fun x189 =>
    some (.inl x189)
   ) else (
    some (.inl x177)
   )
  ) fun x187 =>
  some (.inl (x187,w64 (x178+1)))
 ) else (
  some (.inr (.inl x177))
 )
def Xy (a0:(List Jn)) (a1:Int) (a2:Int) (a3:Int):(Int×(List Jn))→Option ((Int×(List Jn))⊕((List Jn)⊕(List Jn))):=fun (x101,x102) =>
 bif decide (x101<((a0.length:Nat):Int)) then (
  onInl (α:=(List Jn)) (β:=((Int×(List Jn))⊕((List Jn)⊕(List Jn)))) (
   (ixO a0 x101).bind fun x169 =>
   (Cs (De.mk a1 a2) x169).bind fun r170 =>
   bif (!r170.2) then (
    (Ul x102 [x169]).bind fun x171 =>
    some (.inl x171)
   ) else (
    onInl (α:=(List Jn)) (β:=((List Jn)⊕((Int×(List Jn))⊕((List Jn)⊕(List Jn))))) (Ki (Jam a3 x169 r170) (x102,0)) fun x184 =>
    some (.inl x184)
   )
  ) fun x168 =>
  some (.inl (w64 (x101+1),x168))
 ) else (
  some (.inr (.inl x102))
 )
def Rm (a0:(List Jn)) (a1:Int) (a2:Int) (a3:Int):Option (List Jn) :=
 (Ys a0).bind fun r1 =>
 bif ((!r1)||(decide (a3<1))) then (
  some ([]:(List Jn))
 ) else (
  onInl (α:=(List Jn)) (β:=(List Jn)) (Ki (Xy a0 a1 a2 a3) (0,([]:(List Jn)))) fun x146 =>
  bif decide (128<((x146.length:Nat):Int)) then (
   some ([]:(List Jn))
  ) else (
   some x146
  )
 )
theorem Jhb (a0:(List Jn)) (a1:Int) (a2:Int) (a3:Int) (r:(List Jn)) (h:Rm a0 a1 a2 a3=some r):Kg Tryz.prog GlS 273 [Enc.pv a0,Enc.pv a1,Enc.pv a2,Enc.pv a3] (Enc.pv r):=by
 unfold Rm at h;refine zC Tryz.func273 Tryz.ntmps273 ?_;refine Ja (Jc (zE (Jb (Ja (Ja (Jc (zR 1 ?_)))))));obtain ⟨r1,h1,h⟩:=Je h;refine zP (Bb _ r1 h1) (zR 2 ?_);refine Ks 3 24 ((!r1)||(decide (a3<1))) (fun x hx=>?_) ?_
 ·rcases Vi hx with ⟨hb,hx⟩|⟨hb,hx⟩
  ·refine zS 21 hb ?_;subst hx;exact zF
  refine zS 21 hb ?_;subst hx;exact zF
 refine zN (Jb ?_);rcases Ji h with ⟨hb,h⟩|⟨hb,h⟩
 ·refine zT hb (Ja (Jc (zE (Jb (Jm (Jj ?_))))));cases h;exact zQ
 refine zU hb (Jg (Jb (Ja (Jc (zE (Jb (Ja (Ja (Jc (zR 1 ?_))))))))));refine zL (L:=a0) ?_;refine zE (Jb (Jl (Yz 9 100009 4 32 (by kernel_rfl) (by kernel_rfl) ?_)));obtain ⟨o136,h136,h⟩:=Kf h;refine zA 82 0 (fun (x101,x102)=>⟨[(1,I6 a1),(2,I6 a2),(3,I6 a3),(9,Jk (.own 100009) x102),(25,Jk .frozen a0),(26,I6 ((a0.length:Nat):Int)),(27,I6 x101)],[],[(100009,(((x102).map cellsOf).length,4))],[]⟩) (fun x146=>⟨[(9,Jk (.own 100009) x146)],[],[(100009,(((x146).map cellsOf).length,4))],[]⟩) h136 ?_ ?_
 ·rintro ⟨x101,x102⟩ oh135 h135;unfold Xy at h135;refine Ja (Jc (zE (Jb (Ja ?_))));rcases Ji h135 with ⟨hb,h135⟩|⟨hb,h135⟩
  ·refine zT hb (Jg (Jb ?_));obtain ⟨o157,h157,h135⟩:=Kf h135;refine Qm (o:=o157) 82 (fun x168=>⟨[(1,I6 a1),(2,I6 a2),(3,I6 a3),(9,Jk (.own 100009) x168),(25,Jk .frozen a0),(26,I6 ((a0.length:Nat):Int)),(27,I6 x101)],[],[(100009,(((x168).map cellsOf).length,4))],[]⟩) ?_ ?_
   ·refine Jl (Ja (Jc ?_));obtain ⟨x169,h158,h157⟩:=Je h157;refine zI h158 (zE (Jb (Ja (Jc (zR 4 ?_)))));obtain ⟨r170,h159,h157⟩:=Je h157;refine zP (Nn _ _ r170 h159) (zE (Jb (Ja (Ja (Jc (zE (Jb ?_)))))));rcases Ji h157 with ⟨hb,h157⟩|⟨hb,h157⟩
    ·refine zT hb (Ja (Jc (zR 3 ?_)));obtain ⟨x171,h160,h157⟩:=Je h157;refine zW (tk:=100009) h160 ?_;refine zE (Jb (Jv (Jt (Jr ?_))));cases h157;exact zJ
    refine zU hb (Jg (Jb (Ja ?_)));refine Jkd 82 ⟨[(1,I6 a1),(2,I6 a2),(3,I6 a3),(9,Jk (.own 100009) x102),(12,.ref 12 0),(14,.ref 14 0),(15,.ref 15 0),(25,Jk .frozen a0),(26,I6 ((a0.length:Nat):Int)),(27,I6 x101)],[(12,.cells (cellsOf r170.1)),(14,.cells (cellsOf x169)),(15,.cells (cellsOf x169))],[(100009,(((x102).map cellsOf).length,4))],[]⟩ (by kernel_rfl) ?_ ?_
    ·refine Yc [0] 5 (by kernel_rfl) ?_;refine zR 1 (Kq (by kernel_rfl) ?_);refine Ih (n:=4) [1,2,3] (by kernel_rfl) ⟨?_, ?_, ?_,trivial⟩
     ·refine ⟨_,rfl, ?_⟩;refine zR 1 (Kq (by kernel_rfl) ?_);refine Yc [2,3,4,5] 0 (by kernel_rfl) ?_;refine zR 4 (Kq (by kernel_rfl) ?_);exact Yl (by kernel_rfl) (.of (by kernel_rfl) (by kernel_rfl))
     ·refine ⟨_,rfl, ?_⟩;refine zR 1 (Kq (by kernel_rfl) ?_);refine Ih (n:=3) [1,3] (by kernel_rfl) ⟨?_, ?_,trivial⟩
      ·refine ⟨_,rfl, ?_⟩;refine zR 1 (Kq (by kernel_rfl) ?_);refine Yc [3,4,5] 0 (by kernel_rfl) ?_;refine zR 3 (Kq (by kernel_rfl) ?_);exact Yl (by kernel_rfl) (.of (by kernel_rfl) (by kernel_rfl))
      refine ⟨_,rfl, ?_⟩;refine zR 1 (Kq (by kernel_rfl) ?_);refine Ih (n:=2) [1,4] (by kernel_rfl) ⟨?_, ?_,trivial⟩
      ·refine ⟨_,rfl, ?_⟩;refine zR 1 (Kq (by kernel_rfl) ?_);refine Yc [4,5] 0 (by kernel_rfl) ?_;refine zR 2 (Kq (by kernel_rfl) ?_);exact Yl (by kernel_rfl) (.of (by kernel_rfl) (by kernel_rfl))
      refine ⟨_,rfl, ?_⟩;refine zR 1 (Kq (by kernel_rfl) ?_);refine Yc [1,5] 0 (by kernel_rfl) ?_;refine zR 2 (Kq (by kernel_rfl) ?_);exact Yl (by kernel_rfl) (.of (by kernel_rfl) (by kernel_rfl))
     refine ⟨_,rfl, ?_⟩;refine zR 1 (Kq (by kernel_rfl) ?_);refine Ih (n:=3) [1,2] (by kernel_rfl) ⟨?_, ?_,trivial⟩
     ·refine ⟨_,rfl, ?_⟩;refine zR 1 (Kq (by kernel_rfl) ?_);refine Yc [2,4,5] 0 (by kernel_rfl) ?_;refine zR 3 (Kq (by kernel_rfl) ?_);exact Yl (by kernel_rfl) (.of (by kernel_rfl) (by kernel_rfl))
     refine ⟨_,rfl, ?_⟩;refine zR 1 (Kq (by kernel_rfl) ?_);refine Ih (n:=2) [1,4] (by kernel_rfl) ⟨?_, ?_,trivial⟩
     ·refine ⟨_,rfl, ?_⟩;refine zR 1 (Kq (by kernel_rfl) ?_);refine Yc [4,5] 0 (by kernel_rfl) ?_;refine zR 2 (Kq (by kernel_rfl) ?_);exact Yl (by kernel_rfl) (.of (by kernel_rfl) (by kernel_rfl))
     refine ⟨_,rfl, ?_⟩;refine zR 1 (Kq (by kernel_rfl) ?_);refine Yc [1,5] 0 (by kernel_rfl) ?_;refine zR 2 (Kq (by kernel_rfl) ?_);exact Yl (by kernel_rfl) (.of (by kernel_rfl) (by kernel_rfl))
    refine Jb (Ja ?_);refine Jkd 82 ⟨[(1,I6 a1),(2,I6 a2),(3,I6 a3),(9,Jk (.own 100009) x102),(12,.ref 12 0),(14,.ref 14 0),(15,.ref 15 0),(25,Jk .frozen a0),(26,I6 ((a0.length:Nat):Int)),(27,I6 x101)],[(12,.cells (cellsOf r170.1)),(14,.cells ([I6 x169.From,I6 r170.1.From,I6 x169.Grade,I6 x169.Speed])),(15,.cells ([I6 r170.1.To,I6 x169.To,I6 x169.Grade,I6 x169.Speed]))],[(100009,(((x102).map cellsOf).length,4))],[]⟩ (by kernel_rfl) ?_ ?_
    ·refine Yc [0,1,2,4] 4 (by kernel_rfl) ?_;refine zR 4 (Kq (by kernel_rfl) ?_);refine Ih (n:=3) [3,5] (by kernel_rfl) ⟨?_, ?_,trivial⟩
     ·refine ⟨_,rfl, ?_⟩;refine zR 1 (Kq (by kernel_rfl) ?_);refine Yc [5,6,7] 0 (by kernel_rfl) ?_;refine zR 3 (Kq (by kernel_rfl) ?_);exact Yl (by kernel_rfl) (.of (by kernel_rfl) (by kernel_rfl))
     refine ⟨_,rfl, ?_⟩;refine zR 1 (Kq (by kernel_rfl) ?_);refine Yc [3,6,7] 0 (by kernel_rfl) ?_;refine zR 3 (Kq (by kernel_rfl) ?_);exact Yl (by kernel_rfl) (.of (by kernel_rfl) (by kernel_rfl))
    refine Jb (Ja (Jc (zE (Jb (Ja (Jc (zR 4 ?_)))))));refine zL (L:=([(Jn.mk x169.From r170.1.From x169.Grade x169.Speed),(Jn.mk r170.1.From r170.1.To r170.1.Grade (min r170.1.Speed a3)),(Jn.mk r170.1.To x169.To x169.Grade x169.Speed)]:(List Jn))) ?_;refine zE (Jb (Jl ?_));obtain ⟨o172,h172,h157⟩:=Kf h157;refine zA 82 2 (fun (x177,x178)=>⟨[(1,I6 a1),(2,I6 a2),(3,I6 a3),(9,Jk (.own 100009) x177),(25,Jk .frozen a0),(26,I6 ((a0.length:Nat):Int)),(27,I6 x101),(61,Jk .full ([(Jn.mk x169.From r170.1.From x169.Grade x169.Speed),(Jn.mk r170.1.From r170.1.To r170.1.Grade (min r170.1.Speed a3)),(Jn.mk r170.1.To x169.To x169.Grade x169.Speed)]:(List Jn))),(62,I6 (([(Jn.mk x169.From r170.1.From x169.Grade x169.Speed),(Jn.mk r170.1.From r170.1.To r170.1.Grade (min r170.1.Speed a3)),(Jn.mk r170.1.To x169.To x169.Grade x169.Speed)].length:Nat):Int)),(63,I6 x178)],[],[(100009,(((x177).map cellsOf).length,4))],[]⟩) (fun x184=>⟨[(1,I6 a1),(2,I6 a2),(3,I6 a3),(9,Jk (.own 100009) x184),(25,Jk .frozen a0),(26,I6 ((a0.length:Nat):Int)),(27,I6 x101)],[],[(100009,(((x184).map cellsOf).length,4))],[]⟩) h172 ?_ ?_
    ·rintro ⟨x177,x178⟩ oh171 h171;unfold Jam at h171;refine Ja (Jc (zE (Jb (Ja ?_))));rcases Ji h171 with ⟨hb,h171⟩|⟨hb,h171⟩
     ·refine zT hb (Jg (Jb ?_));obtain ⟨o175,h175,h171⟩:=Kf h171;refine Qm (o:=o175) 82 (fun x187=>⟨[(1,I6 a1),(2,I6 a2),(3,I6 a3),(9,Jk (.own 100009) x187),(25,Jk .frozen a0),(26,I6 ((a0.length:Nat):Int)),(27,I6 x101),(61,Jk .full ([(Jn.mk x169.From r170.1.From x169.Grade x169.Speed),(Jn.mk r170.1.From r170.1.To r170.1.Grade (min r170.1.Speed a3)),(Jn.mk r170.1.To x169.To x169.Grade x169.Speed)]:(List Jn))),(62,I6 (([(Jn.mk x169.From r170.1.From x169.Grade x169.Speed),(Jn.mk r170.1.From r170.1.To r170.1.Grade (min r170.1.Speed a3)),(Jn.mk r170.1.To x169.To x169.Grade x169.Speed)].length:Nat):Int)),(63,I6 x178)],[],[(100009,(((x187).map cellsOf).length,4))],[]⟩) ?_ ?_
      ·refine Jl (Ja (Jc ?_));obtain ⟨x188,h176,h175⟩:=Je h175;refine zI h176 (zE (Jb (Ja (Jc (zE (Jb ?_))))));rcases Ji h175 with ⟨hb,h175⟩|⟨hb,h175⟩
       ·refine zT hb (Jc (zR 3 ?_));obtain ⟨x189,h177,h175⟩:=Je h175;refine zW (tk:=100009) h177 ?_;refine zE (Jx ?_);cases h175;exact zJ
       refine zU hb (Jg (Jx ?_));cases h175;exact zJ
      rintro x187 rfl;have h171:=Ka h171;refine Jc (zE ?_);cases h171;exact zB
     refine zU hb (Jv (Jt ?_));cases h171;exact zX
    rintro x184 s' rfl hs;have h157:=Ka h157;refine Jr (Jx ?_);cases h157;exact Jyc hs (by kernel_rfl) (by kernel_rfl)
   rintro x168 rfl;have h135:=Ka h135;refine Jc (zE ?_);cases h135;exact zB
  refine zU hb (Jv (Jt ?_));cases h135;exact zX
 rintro x146 s' rfl hs;have h:=Ka h;refine Jr (Jb (Jy hs (Ja (Ja (Jc (zR 1 ?_))))));refine zL (L:=x146) ?_;refine zE (Jb ?_);rcases Ji h with ⟨hb,h⟩|⟨hb,h⟩
 ·refine zT hb (Ja (Jc (zE (Jb (Jm (Jj ?_))))));cases h;exact zQ
 refine zU hb (Jg (Jb (Ja (Jc (zE (Jb (Jm ?_)))))));cases h;exact zQ
def Lr (a0:Jd) (a1:(List Jh)) (a4:Qa):((List Jn)×Int×Int)→Option (((List Jn)×Int×Int)⊕((List Jn)⊕(Option (List Jn)))):=fun (x31,x32,x33) =>
 bif decide (x33<((a1.length:Nat):Int)) then (
  onInl (α:=((List Jn)×Int)) (β:=(((List Jn)×Int×Int)⊕((List Jn)⊕(Option (List Jn))))) (
   (ixO a1 x33).bind fun x81 =>
   ((bif decide (x81.El<0) then some true else (
    some (decide (((a0.Elements.length:Nat):Int)≤x81.El))
   )):Option Bool).bind fun b82 =>
   bif b82 then (
    some (.inl (x31,x32))
   ) else (
    (ixO a0.Elements x81.El).bind fun x83 =>
    onInl (α:=(List Jn)) (β:=(((List Jn)×Int)⊕(((List Jn)×Int×Int)⊕((List Jn)⊕(Option (List Jn)))))) (
     bif decide (x81.El=a4.El) then (
      onInl (α:=(Int×Int)) (β:=((List Jn)⊕(((List Jn)×Int)⊕(((List Jn)×Int×Int)⊕((List Jn)⊕(Option (List Jn))))))) (
       bif ((decide (x81.In=0))||((decide (x81.In=2))&&(decide (x83.Kind=3)))) then (
        some (.inl (w64 (x32+a4.From),w64 (x32+a4.To)))
       ) else (
        some (.inl (w64 ((w64 (x32+x83.Length)) - a4.To),w64 ((w64 (x32+x83.Length)) - a4.From)))
       )
      ) fun (x90,x91) =>
      (Rm x31 x90 x91 a4.Speed).bind fun r92 =>
      onInl (α:=Unit) (β:=((List Jn)⊕(((List Jn)×Int)⊕(((List Jn)×Int×Int)⊕((List Jn)⊕(Option (List Jn))))))) (
       ((bif decide (((r92.length:Nat):Int)=0) then (
        some (decide (0<((x31.length:Nat):Int)))
       ) else some false):Option Bool).bind fun b94 =>
       bif b94 then (
        some (.inr (.inr (.inr (.inr (.inr none)))))
       ) else (
        some (.inl ())
       )
      ) fun _ =>
      some (.inl r92)
     ) else (
      some (.inl x31)
     )
    ) fun x89 =>
    some (.inl (x89,w64 (x32+x83.Length)))
   )
  ) fun (x79,x80) =>
  some (.inl (x79,x80,w64 (x33+1)))
 ) else (
  some (.inr (.inl x31))
 )
def Ey (a0:Jd) (a1:(List Jh)) (a2:Int) (a3:(List Jn)) (a4:Qa):Option (Option (List Jn)) :=
 onInl (α:=(List Jn)) (β:=(Option (List Jn))) (Ki (Lr a0 a1 a4) (a3,a2,0)) fun x64 =>
 some (some x64)
theorem Hp (a0:Jd) (a1:(List Jh)) (a2:Int) (a3:(List Jn)) (a4:Qa) (r:(Option (List Jn))) (h:Ey a0 a1 a2 a3 a4=some r):Jow Tryz.prog GlS 240 [Enc.pv a0,Enc.pv a1,Enc.pv a2,Enc.pv a3,Enc.pv a4] (r.map fun r=>Enc.pv r):=by
 unfold Ey at h;refine Jo6 Tryz.func240 (by rfl) rfl Tryz.ntmps240 (by rfl) rfl ?_;refine Ja (Jc (zE (Jb (Ja (Jc (zE (Jb (Ja (Ja (Jc (zR 1 ?_)))))))))));refine zL (L:=a1) ?_;refine zE (Jb (Jl ?_));obtain ⟨o124,h124,h⟩:=Kf h;refine zA 101 0 (fun (x31,x32,x33)=>⟨[(3,Jk .frozen x31),(5,.ref 5 0),(9,.ref 9 0),(11,I6 x32),(20,Jk .frozen a1),(21,I6 ((a1.length:Nat):Int)),(22,I6 x33)],[(5,.cells (cellsOf a0)),(9,.cells (cellsOf a4))],[],[]⟩) (fun x64=>⟨[(3,Jk .frozen x64)],[],[],[]⟩) h124 ?_ ?_
 ·rintro ⟨x31,x32,x33⟩ oh123 h123;unfold Lr at h123;refine Ja (Jc (zE (Jb (Ja ?_))));rcases Ji h123 with ⟨hb,h123⟩|⟨hb,h123⟩
  ·refine zT hb (Jg (Jb ?_));obtain ⟨o155,h155,h123⟩:=Kf h123;refine Qm (o:=o155) 101 (fun (x79,x80)=>⟨[(3,Jk .frozen x79),(5,.ref 5 0),(9,.ref 9 0),(11,I6 x80),(20,Jk .frozen a1),(21,I6 ((a1.length:Nat):Int)),(22,I6 x33)],[(5,.cells (cellsOf a0)),(9,.cells (cellsOf a4))],[],[]⟩) ?_ ?_
   ·refine Jl (Ja (Jc ?_));obtain ⟨x81,h156,h155⟩:=Je h155;refine zI h156 (zE (Jb (Ja (Ja (Jc ?_)))));obtain ⟨b82,h157,h155⟩:=Je h155;refine zR 4 ?_;refine Ko 7 36 (.bool b82) ?_ ?_
    ·rcases Ji h157 with ⟨hb,h157⟩|⟨hb,h157⟩
     ·refine zS 29 hb ?_;cases h157;exact zF
     refine zS 29 hb (zR 4 ?_);refine zL (L:=a0.Elements) ?_;cases h157;exact zF
    refine zN (Jb ?_);rcases Ji h155 with ⟨hb,h155⟩|⟨hb,h155⟩
    ·refine zT hb (Jv (Jt (Jr ?_)));cases h155;exact zJ
    refine zU hb (Jg (Jb (Ja (Jc (zR 4 ?_)))));obtain ⟨x83,h158,h155⟩:=Je h155;refine zI h158 (zE (Jb (Ja (Jc (zE (Jb ?_))))));obtain ⟨o172,h172,h155⟩:=Kf h155;refine Qm (o:=o172) 101 (fun x89=>⟨[(3,Jk .frozen x89),(5,.ref 5 0),(9,.ref 9 0),(15,I6 (w64 (x32+x83.Length))),(20,Jk .frozen a1),(21,I6 ((a1.length:Nat):Int)),(22,I6 x33)],[(5,.cells (cellsOf a0)),(9,.cells (cellsOf a4))],[],[]⟩) ?_ ?_
    ·refine Ja (Jc (zE (Jb ?_)));rcases Ji h172 with ⟨hb,h172⟩|⟨hb,h172⟩
     ·refine zT hb (Ja (zD (zE (Jb ?_))));obtain ⟨o173,h173,h172⟩:=Kf h172;refine Qm (o:=o173) 101 (fun (x90,x91)=>⟨[(3,Jk .frozen x31),(5,.ref 5 0),(9,.ref 9 0),(15,I6 (w64 (x32+x83.Length))),(16,I6 x90),(17,I6 x91),(20,Jk .frozen a1),(21,I6 ((a1.length:Nat):Int)),(22,I6 x33)],[(5,.cells (cellsOf a0)),(9,.cells (cellsOf a4))],[],[]⟩) ?_ ?_
      ·refine Ja (Jc (zR 4 ?_));refine Ks 9 72 ((decide (x81.In=0))||((decide (x81.In=2))&&(decide (x83.Kind=3)))) (fun x hx=>?_) ?_
       ·rcases Vi hx with ⟨hb,hx⟩|⟨hb,hx⟩
        ·refine zS 63 hb ?_;subst hx;exact zF
        refine zS 63 hb (zR 4 ?_);refine Tb 4 71 ((decide (x81.In=2))&&(decide (x83.Kind=3))) (fun x hx=>?_) ?_
        ·rcases Vz hx with ⟨hb,hx⟩|⟨hb,hx⟩
         ·refine zS 67 hb ?_;subst hx;exact zF
         refine zS 67 hb ?_;subst hx;exact zF
        subst hx;exact zF
       refine zN (Jb ?_);rcases Ji h173 with ⟨hb,h173⟩|⟨hb,h173⟩
       ·refine zT hb (zD (zE ?_));cases h173;exact zJ
       refine zU hb (Jg ?_);cases h173;exact zJ
      rintro ⟨x90,x91⟩ rfl;have h172:=Ka h172;refine Ja (Jc (zR 5 ?_));obtain ⟨r92,h174,h172⟩:=Je h172;refine zP (Jhb _ _ _ _ r92 h174) (zE (Jb ?_));obtain ⟨o180,h180,h172⟩:=Kf h172;refine Qm (o:=o180) 101 (fun (_:Unit)=>⟨[(5,.ref 5 0),(9,.ref 9 0),(15,I6 (w64 (x32+x83.Length))),(18,Jk .frozen r92),(20,Jk .frozen a1),(21,I6 ((a1.length:Nat):Int)),(22,I6 x33)],[(5,.cells (cellsOf a0)),(9,.cells (cellsOf a4))],[],[]⟩) ?_ ?_
      ·refine Ja (Jc (zR 1 ?_));refine zL (L:=r92) ?_;obtain ⟨b94,h181,h180⟩:=Je h180;refine zR 2 ?_;refine Ko 4 94 (.bool b94) ?_ ?_
       ·rcases Ji h181 with ⟨hb,h181⟩|⟨hb,h181⟩
        ·refine zS 90 hb (zR 1 ?_);refine zL (L:=x31) ?_;cases h181;exact zF
        refine zS 90 hb ?_;cases h181;exact zF
       refine zN (Jb ?_);rcases Ji h180 with ⟨hb,h180⟩|⟨hb,h180⟩
       ·refine zT hb (Jfb (Pj 0 1 (zE ?_)));refine Kdb (d:=96) (by kernel_rfl) fun ch hpan=>?_;cases h180;refine Dr ?_;have h182:=Km h172;cases h182;refine Dr ?_;have h183:=Km h155;refine Jaf ?_;cases h183;refine Dr ?_;have h184:=Km h123;cases h184;refine Joe fun he=>?_;subst he;have h185:=Km h;refine Jaf (Jjx ?_);cases h185;exact Kcf hpan
       refine zU hb (Jg ?_);cases h180;exact zJ
      rintro _ rfl;have h172:=Ka h172;refine Jc (zE ?_);cases h172;exact zJ
     refine zU hb (Jg ?_);cases h172;exact zJ
    rintro x89 rfl;have h155:=Ka h155;refine Jc (zE (Jx ?_));cases h155;exact zJ
   rintro ⟨x79,x80⟩ rfl;have h123:=Ka h123;refine Jc (zE ?_);cases h123;exact zB
  refine zU hb (Jv (Jt ?_));cases h123;exact zX
 rintro x64 s' rfl hs;have h:=Ka h;refine Jr (Jb (Jy hs (Ja (Jc (zE (Jb (Jm ?_)))))));cases h;exact ⟨_,rfl,Jyk (by kernel_rfl) (by kernel_rfl) (by kernel_rfl)⟩
def Oa (a0:(List Qa)) (a1:(List Jh)) (a2:Int) (a3:Jd):(Int×(List Jn))→Option ((Int×(List Jn))⊕((List Jn)⊕(List Jn))):=fun (x24,x25) =>
 bif decide (x24<((a0.length:Nat):Int)) then (
  onInl (α:=(List Jn)) (β:=((Int×(List Jn))⊕((List Jn)⊕(List Jn)))) (
   (ixO a0 x24).bind fun x41 =>
   ((bif x41.Active then (
    (Hf a3 x41).bind fun r43 =>
    some (decide (r43=0))
   ) else some false):Option Bool).bind fun b42 =>
   bif b42 then (
    Kda (Ey a3 a1 a2 x25 x41) (
     some (.inr (.inr (.inr ([]:(List Jn)))))
    ) fun r44 =>
    some (.inl r44)
   ) else (
    some (.inl x25)
   )
  ) fun x40 =>
  some (.inl (w64 (x24+1),x40))
 ) else (
  some (.inr (.inl x25))
 )
def Hk (a0:(List Qa)) (a1:(List Jh)) (a2:Int) (a3:Jd) (a4:(List Jn)):Option (List Jn) :=
 (Be a4).bind fun r1 =>
 (Ys a4).bind fun r2 =>
 ((bif (!r2) then some true else (
  (Cf a3 a1).bind fun r4 =>
  some (!r4)
 )):Option Bool).bind fun b3 =>
 bif ((b3||(decide (a2<(-1073741824))))||(decide (1073741824<a2))) then (
  some r1
 ) else (
  onInl (α:=(List Jn)) (β:=(List Jn)) (Ki (Oa a0 a1 a2 a3) (0,r1)) fun x35 =>
  some x35
 )
set_option maxRecDepth 100000 in
theorem Jb7 (a0:(List Qa)) (a1:(List Jh)) (a2:Int) (a3:Jd) (a4:(List Jn)) (r:(List Jn)) (h:Hk a0 a1 a2 a3 a4=some r):Kg Tryz.prog GlS 176 [Enc.pv a0,Enc.pv a1,Enc.pv a2,Enc.pv a3,Enc.pv a4] (Enc.pv r):=by
 unfold Hk at h;refine Jpa Tryz.func176 (by rfl) rfl Tryz.ntmps176 (by rfl) rfl ?_;refine Jhv (Jc (zE (Jmf ?_)));refine Jgz 1 237 [.ref 10 0] (by rfl) ?_;refine zE ?_;refine ⟨by kernel_rfl,by kernel_rfl,by kernel_rfl, ?_⟩;refine Ja (Jc (zR 1 ?_));obtain ⟨r1,h1,h⟩:=Je h;refine zP (Ra _ r1 h1) (zE (Jb (Ja (Ja (Jc (zR 1 ?_))))));obtain ⟨r2,h2,h⟩:=Je h;refine zP (Bb _ r2 h2) ?_;obtain ⟨b3,h3,h⟩:=Je h;refine zR 2 ?_;refine Ko 5 24 (.bool b3) ?_ ?_
 ·rcases Ji h3 with ⟨hb,h3⟩|⟨hb,h3⟩
  ·refine zS 19 hb ?_;cases h3;exact zF
  refine zS 19 hb (zR 2 ?_);obtain ⟨r4,h4,h3⟩:=Je h3;refine zP (Ii _ _ r4 h4) ?_;cases h3;exact zF
 refine zR 1 ?_;refine Ks 3 28 (b3||(decide (a2<(-1073741824)))) (fun x hx=>?_) ?_
 ·rcases Vi hx with ⟨hb,hx⟩|⟨hb,hx⟩
  ·refine zS 25 hb ?_;subst hx;exact zF
  refine zS 25 hb ?_;subst hx;exact zF
 refine zR 1 ?_;refine Ks 3 32 ((b3||(decide (a2<(-1073741824))))||(decide (1073741824<a2))) (fun x hx=>?_) ?_
 ·rcases Vi hx with ⟨hb,hx⟩|⟨hb,hx⟩
  ·refine zS 29 hb ?_;subst hx;exact zF
  refine zS 29 hb ?_;subst hx;exact zF
 refine zN (Jb ?_);rcases Ji h with ⟨hb,h⟩|⟨hb,h⟩
 ·refine zT hb (Ja (Jc (zE (Jb (Jm (Jj ?_))))));refine Jy0 (Jsc (pan:=false) (caps:=[.ref 10 0]) (by kernel_rfl) Tryz.func237 (by rfl) rfl Tryz.ntmps237 (by rfl) ?_);refine Jod ((Jcu 1 (by kernel_rfl)).trans (.of (j:=⟨[(0,.ref 1010 0),(13,.ref 1010 0),(59,.fn 237 [.ref 1010 0])],[(1010,.cells ([Jk (.own 1015007) r1]))],[(1015007,(((r1).map cellsOf).length,4))],[]⟩) (n:=5700060) (by kernel_rfl) (by kernel_rfl))) ?_;refine Jkp ⟨rfl,rfl,rfl,rfl,fun _ _=>rfl,(fun a _ _ _ h=>by simp [Act.eval] at h; simp [go_sem,h]),(fun a _ h=>by simp [Act.eval] at h; simp [go_sem,h])⟩ (by kernel_rfl) ?_;refine Jbp (b:=false) rfl (by kernel_rfl) ?_;refine Jg ?_;cases h;exact Jgs (by kernel_rfl) (by kernel_rfl) (by kernel_rfl)
 refine zU hb (Jg (Jb (Ja (Ja (Jc (zR 1 ?_))))));refine zL (L:=a0) ?_;refine zE (Jb (Jl ?_));obtain ⟨o45,h45,h⟩:=Kf h;refine zA 100057 0 (fun (x24,x25)=>⟨[(1,Jk .frozen a1),(2,I6 a2),(8,.ref 8 0),(10,.ref 10 0),(34,Jk .frozen a0),(35,I6 ((a0.length:Nat):Int)),(36,I6 x24),(56,.fn 237 [.ref 10 0])],[(8,.cells (cellsOf a3)),(10,.cells ([Jk .frozen x25]))],[],[]⟩) (fun x35=>⟨[(10,.ref 10 0),(56,.fn 237 [.ref 10 0])],[(10,.cells ([Jk .frozen x35]))],[],[]⟩) h45 ?_ ?_
 ·rintro ⟨x24,x25⟩ oh44 h44;unfold Oa at h44;refine Ja (Jc (zE (Jb (Ja ?_))));rcases Ji h44 with ⟨hb,h44⟩|⟨hb,h44⟩
  ·refine zT hb (Jg (Jb ?_));obtain ⟨o52,h52,h44⟩:=Kf h44;refine Qm (o:=o52) 100057 (fun x40=>⟨[(1,Jk .frozen a1),(2,I6 a2),(8,.ref 8 0),(10,.ref 10 0),(34,Jk .frozen a0),(35,I6 ((a0.length:Nat):Int)),(36,I6 x24),(56,.fn 237 [.ref 10 0])],[(8,.cells (cellsOf a3)),(10,.cells ([Jk .frozen x40]))],[],[]⟩) ?_ ?_
   ·refine Jl (Ja (Jc ?_));obtain ⟨x41,h53,h52⟩:=Je h52;refine zI h53 (zE (Jb (Ja (Jc ?_))));obtain ⟨b42,h54,h52⟩:=Je h52;refine zR 3 ?_;refine Ko 5 47 (.bool b42) ?_ ?_
    ·rcases Ji h54 with ⟨hb,h54⟩|⟨hb,h54⟩
     ·refine zS 42 hb (zR 2 ?_);obtain ⟨r43,h55,h54⟩:=Je h54;refine zP (Jcn _ _ r43 h55) ?_;cases h54;exact zF
     refine zS 42 hb ?_;cases h54;exact zF
    refine zN (Jb ?_);rcases Ji h52 with ⟨hb,h52⟩|⟨hb,h52⟩
    ·refine zT hb (Jfb (Pj 0 5 (zE ?_)));rcases Kdf h52 with ⟨h56,h52⟩|⟨r44,h56,h52⟩
     ·refine Kbm (Hp _ _ _ _ _ none h56) (by kernel_rfl) fun ch hpan=>?_;refine Jaf ?_;cases h52;refine Dr ?_;have h57:=Km h44;cases h57;refine Joe fun he=>?_;subst he;have h58:=Km h;refine Jaf (Jjx ?_);refine Kdd hpan (Jsc (pan:=true) (caps:=[.ref 10 0]) (by kernel_rfl) Tryz.func237 (by rfl) rfl Tryz.ntmps237 (by rfl) ?_);refine Jod ((Jcu 17 (by kernel_rfl)).trans (.of (j:=⟨[(0,.ref 17010 0),(13,.ref 17010 0),(59,.fn 237 [.ref 17010 0])],[(17010,.cells ([Jk .frozen x25]))],[],[]⟩) (n:=5700060) (by kernel_rfl) (by kernel_rfl))) ?_;refine Jkp ⟨rfl,rfl,rfl,rfl,fun _ _=>rfl,(fun a _ _ _ h=>by simp [Act.eval] at h; simp [go_sem,h]),(fun a _ h=>by simp [Act.eval] at h; simp [go_sem,h])⟩ (by kernel_rfl) ?_;refine Jbi (b:=true) rfl (by kernel_rfl) ?_;refine Jc (zE ?_);cases h58;exact Jgs (by kernel_rfl) (by kernel_rfl) (by kernel_rfl)
     refine Kaq (Hp _ _ _ _ _ (some r44) h56) (by kernel_rfl) (by kernel_rfl) (Pj 6 1 (zE (Jvx (Jx ?_))));cases h52;exact zJ
    refine zU hb (Jg (Jx ?_));cases h52;exact zJ
   rintro x40 rfl;have h44:=Ka h44;refine Jc (zE ?_);cases h44;exact zB
  refine zU hb (Jv (Jt ?_));cases h44;exact zX
 rintro x35 s' rfl hs;have h:=Ka h;refine Jr (Jb (Jy hs (Ja (Jc (zE (Jb (Jm ?_)))))));refine Jy0 (Jsc (pan:=false) (caps:=[.ref 10 0]) (by kernel_rfl) Tryz.func237 (by rfl) rfl Tryz.ntmps237 (by rfl) ?_);refine Jod ((Jcu 19 (by kernel_rfl)).trans (.of (j:=⟨[(0,.ref 19010 0),(13,.ref 19010 0),(59,.fn 237 [.ref 19010 0])],[(19010,.cells ([Jk .frozen x35]))],[],[]⟩) (n:=5700060) (by kernel_rfl) (by kernel_rfl))) ?_;refine Jkp ⟨rfl,rfl,rfl,rfl,fun _ _=>rfl,(fun a _ _ _ h=>by simp [Act.eval] at h; simp [go_sem,h]),(fun a _ h=>by simp [Act.eval] at h; simp [go_sem,h])⟩ (by kernel_rfl) ?_;refine Jbp (b:=false) rfl (by kernel_rfl) ?_;refine Jg ?_;cases h;exact Jgs (by kernel_rfl) (by kernel_rfl) (by kernel_rfl)
end
end PM
