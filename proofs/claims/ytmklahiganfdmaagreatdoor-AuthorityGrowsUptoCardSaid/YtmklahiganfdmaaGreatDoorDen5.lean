/-
 Plain functions for the program's functions, and the proofs that the program does them. Printed by den.py.
-/
import Derived.Test.YtmklahiganfdmaaGreatDoorDen4
namespace PM
open Go Go.RowKit
attribute [local irreducible] Qc pwp
/-! claims.follow -/
noncomputable def Dw (a0:Qa) (a1:Kj) (a2:Int):Option (Int⊕Jm) :=
 onInl (α:=Unit) (β:=(Int⊕Jm)) (
  ((bif decide (a2<0) then some true else (
   some (decide (((a0.Routes.length:Nat):Int)≤a2))
  )):Option Bool).bind fun b2 =>
  bif b2 then (
   some (.inr (.inl 1))
  ) else (
   some (.inl ())
  )
 ) fun _ =>
 (ixO a0.Routes a2).bind fun x3 =>
 onInl (α:=Unit) (β:=(Int⊕Jm)) (
  bif (!(decide (a1.CutSeq=0))) then (
   some (.inr (.inl 11))
  ) else (
   some (.inl ())
  )
 ) fun _ =>
 onInl (α:=Unit) (β:=(Int⊕Jm)) (
  bif ((decide (a1.End=(-1)))||(!(decide (a1.End=x3.Entry)))) then (
   some (.inr (.inl 10))
  ) else (
   some (.inl ())
  )
 ) fun _ =>
 onInl (α:=Unit) (β:=(Int⊕Jm)) (
  (Qn x3.Path a1).bind fun r7 =>
  ((bif r7 then some true else (
   (Vr a1.Routes a2).bind fun r9 =>
   some r9
  )):Option Bool).bind fun b8 =>
  bif b8 then (
   some (.inr (.inl 8))
  ) else (
   some (.inl ())
  )
 ) fun _ =>
 onInl (α:=Unit) (β:=(Int⊕Jm)) (
  bif ((decide (64<(w64 (((a1.Steps.length:Nat):Int)+((x3.Path.length:Nat):Int)))))||(decide (1073741824<(w64 (a1.At+x3.Length))))) then (
   some (.inr (.inl 2))
  ) else (
   some (.inl ())
  )
 ) fun _ =>
 some (.inr x3)
theorem Rf (a0:Qa) (a1:Kj) (a2:Int) (r:(Int⊕Jm)) (h:Dw a0 a1 a2=some r):Jk3 Go.Proofs.Tryz.prog GlS 33 [Enc.pv a0,Enc.pv a1,Enc.pv a2] (panR 80 (fun r=>Enc.pv r) r):=by
 unfold Dw at h
 refine Jnd Go.Proofs.Tryz.func33 (by rfl) rfl Go.Proofs.Tryz.ntmps33 (by rfl) rfl ?_
 refine Ja (Jg (zE (Jc ?_)))
 obtain ⟨o3,h3,h⟩:=Ko h
 refine Um (o:=o3) 74 (fun (_:Unit)=>⟨[(2,.int .i64 a2),(3,.ref 3 0),(4,.ref 4 0),(6,.ref 6 0)],[(3,.cells (cellsOf a0)),(4,.cells (cellsOf a1)),(6,.cells ([.str ByteArray.empty,.int .i64 0,.int .i64 0,.nil,.nil,.nil,.int .i64 0,.int .i64 0,.nil,.nil,.nil,.nil,.nil,.nil]))],[],[]⟩) ?_ ?_
 ·refine Ja (Jg ?_)
  obtain ⟨b2,h4,h3⟩:=Ji h3
  refine zR 3 ?_
  refine Qf 6 17 (.bool b2) ?_ ?_
  ·rcases Jl h4 with ⟨hb,h4⟩|⟨hb,h4⟩
   ·refine zS 11 hb ?_
    cases h4
    exact zF
   refine zS 11 hb (zR 3 ?_)
   refine Kl (L:=(a0.Routes:(List Jm))) (by kernel_rfl) ?_
   cases h4
   exact zF
  refine zN (Jc ?_)
  rcases Jl h3 with ⟨hb,h3⟩|⟨hb,h3⟩
  ·refine zT hb (Jb2 (Nm 0 1 (zE ?_)))
   refine Jfs (d:=19) (y:=(80,[(.i64,1)])) (by kernel_rfl) fun ch hpan=>?_
   cases h3
   refine Cz ?_
   have h5:=Qd h
   cases h5
   exact Jkw hpan
  refine zU hb (Jk ?_)
  cases h3
  exact zJ
 rintro _ rfl
 have h:=Kd h
 refine Ja (Jg (zR 3 ?_))
 obtain ⟨x3,h6,h⟩:=Ji h
 refine zI h6 (zE (Jc ?_))
 obtain ⟨o8,h8,h⟩:=Ko h
 refine Um (o:=o8) 74 (fun (_:Unit)=>⟨[(2,.int .i64 a2),(4,.ref 4 0),(6,.ref 6 0),(7,.ref 7 0)],[(4,.cells (cellsOf a1)),(6,.cells ([.str ByteArray.empty,.int .i64 0,.int .i64 0,.nil,.nil,.nil,.int .i64 0,.int .i64 0,.nil,.nil,.nil,.nil,.nil,.nil])),(7,.cells (cellsOf x3))],[],[]⟩) ?_ ?_
 ·refine Ja (Jg (zE (Jc ?_)))
  rcases Jl h8 with ⟨hb,h8⟩|⟨hb,h8⟩
  ·refine zT hb (Jb2 (Nm 0 1 (zE ?_)))
   refine Jfs (d:=29) (y:=(80,[(.i64,11)])) (by kernel_rfl) fun ch hpan=>?_
   cases h8
   refine Cz ?_
   have h9:=Qd h
   cases h9
   exact Jkw hpan
  refine zU hb (Jk ?_)
  cases h8
  exact zJ
 rintro _ rfl
 have h:=Kd h
 obtain ⟨o11,h11,h⟩:=Ko h
 refine Um (o:=o11) 74 (fun (_:Unit)=>⟨[(2,.int .i64 a2),(4,.ref 4 0),(6,.ref 6 0),(7,.ref 7 0)],[(4,.cells (cellsOf a1)),(6,.cells ([.str ByteArray.empty,.int .i64 0,.int .i64 0,.nil,.nil,.nil,.int .i64 0,.int .i64 0,.nil,.nil,.nil,.nil,.nil,.nil])),(7,.cells (cellsOf x3))],[],[]⟩) ?_ ?_
 ·refine Ja (Jg (zR 4 ?_))
  refine Kx 6 39 ((decide (a1.End=(-1)))||(!(decide (a1.End=x3.Entry)))) (fun x hx=>?_) ?_
  ·rcases Wx hx with ⟨hb,hx⟩|⟨hb,hx⟩
   ·refine zS 33 hb ?_
    subst hx
    exact zF
   refine zS 33 hb ?_
   subst hx
   exact zF
  refine zN (Jc ?_)
  rcases Jl h11 with ⟨hb,h11⟩|⟨hb,h11⟩
  ·refine zT hb (Jb2 (Nm 0 1 (zE ?_)))
   refine Jfs (d:=41) (y:=(80,[(.i64,10)])) (by kernel_rfl) fun ch hpan=>?_
   cases h11
   refine Cz ?_
   have h12:=Qd h
   cases h12
   exact Jkw hpan
  refine zU hb (Jk ?_)
  cases h11
  exact zJ
 rintro _ rfl
 have h:=Kd h
 refine Ja (Jg (zE (Jc ?_)))
 obtain ⟨o17,h17,h⟩:=Ko h
 refine Um (o:=o17) 74 (fun (_:Unit)=>⟨[(4,.cptr (cellsOf a1)),(6,.ref 6 0),(7,.ref 7 0)],[(6,.cells ([.str ByteArray.empty,.int .i64 0,.int .i64 0,.nil,.nil,.nil,.int .i64 0,.int .i64 0,.nil,.nil,.nil,.nil,.nil,.nil])),(7,.cells (cellsOf x3))],[],[]⟩) ?_ ?_
 ·refine Ja ?_
  refine Jx1 4 [6,7] (cs:=cellsOf a1) (cs':=cellsOf a1) (by kernel_rfl) (by kernel_rfl) (by kernel_rfl) (by kernel_rfl) ?_
  refine Jg (zR 3 ?_)
  obtain ⟨r7,h18,h17⟩:=Ji h17
  refine Jy (Yx _ _ r7 h18) (by kernel_rfl) (by kernel_rfl) ?_
  obtain ⟨b8,h19,h17⟩:=Ji h17
  refine zR 1 ?_
  refine Qf 5 52 (.bool b8) ?_ ?_
  ·rcases Jl h19 with ⟨hb,h19⟩|⟨hb,h19⟩
   ·refine zS 47 hb ?_
    cases h19
    exact zF
   refine zS 47 hb (zR 3 ?_)
   obtain ⟨r9,h20,h19⟩:=Ji h19
   refine Jy (Tl _ _ r9 h20) (by kernel_rfl) (by kernel_rfl) ?_
   cases h19
   exact zF
  refine zN (Jc ?_)
  rcases Jl h17 with ⟨hb,h17⟩|⟨hb,h17⟩
  ·refine zT hb (Jb2 (Nm 0 1 (zE ?_)))
   refine Jfs (d:=54) (y:=(80,[(.i64,8)])) (by kernel_rfl) fun ch hpan=>?_
   cases h17
   refine Cz ?_
   have h21:=Qd h
   cases h21
   exact Jkw hpan
  refine zU hb (Jk ?_)
  cases h17
  exact zJ
 rintro _ rfl
 have h:=Kd h
 obtain ⟨o23,h23,h⟩:=Ko h
 refine Um (o:=o23) 74 (fun (_:Unit)=>⟨[(6,.ref 6 0),(7,.ref 7 0)],[(6,.cells ([.str ByteArray.empty,.int .i64 0,.int .i64 0,.nil,.nil,.nil,.int .i64 0,.int .i64 0,.nil,.nil,.nil,.nil,.nil,.nil])),(7,.cells (cellsOf x3))],[],[]⟩) ?_ ?_
 ·refine Ja (Jg (zR 2 ?_))
  refine Kl (L:=(a1.Steps:(List Jd))) (by kernel_rfl) ?_
  refine zR 2 ?_
  refine Kl (L:=(x3.Path:(List Jd))) (by kernel_rfl) ?_
  refine zR 3 ?_
  refine Kx 7 70 ((decide (64<(w64 (((a1.Steps.length:Nat):Int)+((x3.Path.length:Nat):Int)))))||(decide (1073741824<(w64 (a1.At+x3.Length))))) (fun x hx=>?_) ?_
  ·rcases Wx hx with ⟨hb,hx⟩|⟨hb,hx⟩
   ·refine zS 63 hb ?_
    subst hx
    exact zF
   refine zS 63 hb ?_
   subst hx
   exact zF
  refine zN (Jc ?_)
  rcases Jl h23 with ⟨hb,h23⟩|⟨hb,h23⟩
  ·refine zT hb (Jb2 (Nm 0 1 (zE ?_)))
   refine Jfs (d:=72) (y:=(80,[(.i64,2)])) (by kernel_rfl) fun ch hpan=>?_
   cases h23
   refine Cz ?_
   have h24:=Qd h
   cases h24
   exact Jkw hpan
  refine zU hb (Jk ?_)
  cases h23
  exact zJ
 rintro _ rfl
 have h:=Kd h
 refine Ja (Jg (zE (Jc (Jq ?_))))
 cases h
 exact ⟨_,rfl,Jz4 (by kernel_rfl) (by kernel_rfl) (by kernel_rfl)⟩
/-! slices.Clone[[]api.Step,api.Step] -/
noncomputable def Yi (a0:(List Jd)):Option (List Jd) :=
 (Vg ([]:(List Jd)) a0).bind fun x1 =>
 some x1
theorem Rl (a0:(List Jd)) (r:(List Jd)) (h:Yi a0=some r):Kq Go.Proofs.Tryz.prog GlS 84 [Enc.pv a0] (Jp (.own 7) r):=by
 unfold Yi at h
 refine Js Go.Proofs.Tryz.func84 (by rfl) rfl Go.Proofs.Tryz.ntmps84 (by rfl) rfl ?_
 refine Ja (Jg (zE (Jc (Ja (Ja (Jg (zE (Jc ?_))))))))
 refine Jhk (e:=((a0:(List Jd)).map cellsOf).isEmpty) (by kernel_rfl) (fun hub=>?_) ?_
 ·have hN:=Jh3 (Jtj hub) h
  refine Ja (Jg (zE (Jc (Cs 2 7 3 24 (by kernel_rfl) (by kernel_rfl) (Jq (Jn ?_))))))
  cases hN
  exact zQ
 refine Jk (Jc (Ja (Jg (zR 2 ?_))))
 obtain ⟨x1,h1,h⟩:=Ji h
 refine Jcl (tk:=7) h1 (by kernel_rfl) ?_
 refine zE (Jc (Jq ?_))
 cases h
 exact zQ
/-! slices.Clone[[]int,int] -/
noncomputable def Vz (a0:(List Int)):Option (List Int) :=
 (Vg ([]:(List Int)) a0).bind fun x1 =>
 some x1
theorem Zq (a0:(List Int)) (r:(List Int)) (h:Vz a0=some r):Kq Go.Proofs.Tryz.prog GlS 85 [Enc.pv a0] (Jp (.own 7) r):=by
 unfold Vz at h
 refine Js Go.Proofs.Tryz.func85 (by rfl) rfl Go.Proofs.Tryz.ntmps85 (by rfl) rfl ?_
 refine Ja (Jg (zE (Jc (Ja (Ja (Jg (zE (Jc ?_))))))))
 refine Jhk (e:=((a0:(List Int)).map cellsOf).isEmpty) (by kernel_rfl) (fun hub=>?_) ?_
 ·have hN:=Jh3 (Jtj hub) h
  refine Ja (Jg (zE (Jc (Cs 2 7 1 8 (by kernel_rfl) (by kernel_rfl) (Jq (Jn ?_))))))
  cases hN
  exact zQ
 refine Jk (Jc (Ja (Jg (zR 2 ?_))))
 obtain ⟨x1,h1,h⟩:=Ji h
 refine Jcl (tk:=7) h1 (by kernel_rfl) ?_
 refine zE (Jc (Jq ?_))
 cases h
 exact zQ
/-! layout.Section -/
noncomputable def Ci (a0:Je) (a1:Int):Option Int :=
 ((bif decide (a1<0) then some true else (
  some (decide (((a0.Elements.length:Nat):Int)≤a1))
 )):Option Bool).bind fun b1 =>
 bif b1 then (
  some (-1)
 ) else (
  (ixO a0.Elements a1).bind fun x2 =>
  some x2.Section
 )
theorem Jdv (a0:Je) (a1:Int) (r:Int) (h:Ci a0 a1=some r):Kq Go.Proofs.Tryz.prog GlS 86 [Enc.pv a0,Enc.pv a1] (Enc.pv r):=by
 unfold Ci at h
 refine Js Go.Proofs.Tryz.func86 (by rfl) rfl Go.Proofs.Tryz.ntmps86 (by rfl) rfl ?_
 refine Ja (Jg (zE (Jc (Ja (Ja (Jg ?_))))))
 obtain ⟨b1,h1,h⟩:=Ji h
 refine zR 3 ?_
 refine Qf 6 13 (.bool b1) ?_ ?_
 ·rcases Jl h1 with ⟨hb,h1⟩|⟨hb,h1⟩
  ·refine zS 7 hb ?_
   cases h1
   exact zF
  refine zS 7 hb (zR 3 ?_)
  refine Kl (L:=(a0.Elements:(List Jw))) (by kernel_rfl) ?_
  cases h1
  exact zF
 refine zN (Jc ?_)
 rcases Jl h with ⟨hb,h⟩|⟨hb,h⟩
 ·refine zT hb (Ja (Jg (zE (Jc (Jq (Jn ?_))))))
  cases h
  exact zQ
 refine zU hb (Jk (Jc (Ja (Jg (zR 3 ?_)))))
 obtain ⟨x2,h2,h⟩:=Ji h
 refine zI h2 (zE (Jc (Jq ?_)))
 cases h
 exact zQ
/-! walk.Length -/
noncomputable def Dk (a0:Je) (a1:(List Jd)):(Int×Int)→Option ((Int×Int)⊕(Int⊕Int)):=fun (x8,x9) =>
 bif decide (x9<((a1.length:Nat):Int)) then (
  onInl (α:=Int) (β:=((Int×Int)⊕(Int⊕Int))) (
   (ixO a1 x9).bind fun x22 =>
   (Ea a0 x22.El).bind fun r23 =>
   bif r23 then (
    (ixO a0.Elements x22.El).bind fun x24 =>
    some (.inl (w64 (x8+x24.Length)))
   ) else (
    some (.inl x8)
   )
  ) fun x21 =>
  some (.inl (x21,w64 (x9+1)))
 ) else (
  some (.inr (.inl x8))
 )
noncomputable def Hs (a0:Je) (a1:(List Jd)):Option Int :=
 onInl (α:=Int) (β:=Int) (Km (Dk a0 a1) (0,0)) fun x17 =>
 some x17
theorem Jhw (a0:Je) (a1:(List Jd)) (r:Int) (h:Hs a0 a1=some r):Kq Go.Proofs.Tryz.prog GlS 125 [Enc.pv a0,Enc.pv a1] (Enc.pv r):=by
 unfold Hs at h
 refine Js Go.Proofs.Tryz.func125 (by rfl) rfl Go.Proofs.Tryz.ntmps125 (by rfl) rfl ?_
 refine Ja (Jg (zE (Jc (Ja (Jg (zE (Jc (Ja (Ja (Jg (zR 1 ?_)))))))))))
 refine Kl (L:=(a1:(List Jd))) (by kernel_rfl) ?_
 refine zE (Jc (Jo ?_))
 obtain ⟨o16,h16,h⟩:=Ko h
 refine Kh 29 0 (fun (x8,x9)=>⟨[(2,.ref 2 0),(5,.int .i64 x8),(8,Jp .frozen (a1:(List Jd))),(9,.int .i64 ((a1.length:Nat):Int)),(10,.int .i64 x9)],[(2,.cells (cellsOf a0))],[],[]⟩) (fun x17=>⟨[(5,.int .i64 x17)],[],[],[]⟩) h16 (by kernel_rfl) (fun _=>by kernel_rfl) ?_ ?_
 ·rintro ⟨x8,x9⟩ oh15 h15
  unfold Dk at h15
  refine Ja (Jg (zE (Jc (Ja ?_))))
  rcases Jl h15 with ⟨hb,h15⟩|⟨hb,h15⟩
  ·refine zT hb (Jk (Jc ?_))
   obtain ⟨o20,h20,h15⟩:=Ko h15
   refine Um (o:=o20) 29 (fun x21=>⟨[(2,.ref 2 0),(5,.int .i64 x21),(8,Jp .frozen (a1:(List Jd))),(9,.int .i64 ((a1.length:Nat):Int)),(10,.int .i64 x9)],[(2,.cells (cellsOf a0))],[],[]⟩) ?_ ?_
   ·refine Jo (Ja (Jg ?_))
    obtain ⟨x22,h21,h20⟩:=Ji h20
    refine zI h21 (zE (Jc (Ja (Jg (zR 3 ?_)))))
    obtain ⟨r23,h22,h20⟩:=Ji h20
    refine Jy (Xt _ _ r23 h22) (by kernel_rfl) (by kernel_rfl) (zN (Jc ?_))
    rcases Jl h20 with ⟨hb,h20⟩|⟨hb,h20⟩
    ·refine zT hb (Jg (zR 5 ?_))
     obtain ⟨x24,h23,h20⟩:=Ji h20
     refine zI h23 (zE (Kb ?_))
     cases h20
     exact zJ
    refine zU hb (Jk (Kb ?_))
    cases h20
    exact zJ
   rintro x21 rfl
   have h15:=Kd h15
   refine Jg (zE ?_)
   cases h15
   exact zB
  refine zU hb (Ka (Jx ?_))
  cases h15
  exact zX
 rintro x17 s' rfl hs
 have h:=Kd h
 refine Jv (Jc (Ke hs (Ja (Jg (zE (Jc (Jq ?_)))))))
 cases h
 exact zQ
/-! claims.length -/
noncomputable def Ic (a0:Je) (a1:Jd):Option Int :=
 (Hs a0 [a1]).bind fun r1 =>
 some r1
theorem Jes (a0:Je) (a1:Jd) (r:Int) (h:Ic a0 a1=some r):Kq Go.Proofs.Tryz.prog GlS 87 [Enc.pv a0,Enc.pv a1] (Enc.pv r):=by
 unfold Ic at h
 refine Js Go.Proofs.Tryz.func87 (by rfl) rfl Go.Proofs.Tryz.ntmps87 (by rfl) rfl ?_
 refine Ja (Jg (zE (Jc (Ja (Jg (zR 3 ?_))))))
 obtain ⟨r1,h1,h⟩:=Ji h
 refine Jy (Jhw _ _ r1 h1) (by kernel_rfl) (by kernel_rfl) (zE (Jc (Jq ?_)))
 cases h
 exact zQ
/-! claims.inLast -/
noncomputable def Ed (a0:Je) (a1:Jm) (x1:Int):(Int×Int)→Option ((Int×Int)⊕(Int⊕Int)):=fun (x9,x10) =>
 bif decide (x10<((a1.Path.length:Nat):Int)) then (
  onInl (α:=Int) (β:=((Int×Int)⊕(Int⊕Int))) (
   (ixO a1.Path x10).bind fun x23 =>
   (Ci a0 x23.El).bind fun r24 =>
   bif decide (r24=x1) then (
    (Ic a0 x23).bind fun r25 =>
    some (.inl (w64 (x9+r25)))
   ) else (
    some (.inl x9)
   )
  ) fun x22 =>
  some (.inl (x22,w64 (x10+1)))
 ) else (
  some (.inr (.inl x9))
 )
noncomputable def Dl (a0:Je) (a1:Jm):Option Int :=
 bif decide (((a1.Sections.length:Nat):Int)=0) then (
  some 0
 ) else (
  (ixO a1.Sections (w64 (((a1.Sections.length:Nat):Int) - 1))).bind fun x1 =>
  onInl (α:=Int) (β:=Int) (Km (Ed a0 a1 x1) (0,0)) fun x18 =>
  some x18
 )
theorem Jfe (a0:Je) (a1:Jm) (r:Int) (h:Dl a0 a1=some r):Kq Go.Proofs.Tryz.prog GlS 35 [Enc.pv a0,Enc.pv a1] (Enc.pv r):=by
 unfold Dl at h
 refine Js Go.Proofs.Tryz.func35 (by rfl) rfl Go.Proofs.Tryz.ntmps35 (by rfl) rfl ?_
 refine Ja (Jg (zE (Jc (Ja (Ja (Jg (zR 2 ?_)))))))
 refine Kl (L:=(a1.Sections:(List Int))) (by kernel_rfl) ?_
 refine zE (Jc ?_)
 rcases Jl h with ⟨hb,h⟩|⟨hb,h⟩
 ·refine zT hb (Ja (Jg (zE (Jc (Jq (Jn ?_))))))
  cases h
  exact zQ
 refine zU hb (Jk (Jc (Ja (Jg (zR 4 ?_)))))
 refine Kl (L:=(a1.Sections:(List Int))) (by kernel_rfl) ?_
 refine zR 1 ?_
 obtain ⟨x1,h1,h⟩:=Ji h
 refine zI h1 (zE (Jc (Ja (Jg (zE (Jc (Ja (Ja (Jg (zR 2 ?_))))))))))
 refine Kl (L:=(a1.Path:(List Jd))) (by kernel_rfl) ?_
 refine zE (Jc (Jo ?_))
 obtain ⟨o17,h17,h⟩:=Ko h
 refine Kh 41 0 (fun (x9,x10)=>⟨[(2,.ref 2 0),(5,.int .i64 x1),(6,.int .i64 x9),(22,Jp .frozen (a1.Path:(List Jd))),(23,.int .i64 ((a1.Path.length:Nat):Int)),(24,.int .i64 x10)],[(2,.cells (cellsOf a0))],[],[]⟩) (fun x18=>⟨[(6,.int .i64 x18)],[],[],[]⟩) h17 (by kernel_rfl) (fun _=>by kernel_rfl) ?_ ?_
 ·rintro ⟨x9,x10⟩ oh16 h16
  unfold Ed at h16
  refine Ja (Jg (zE (Jc (Ja ?_))))
  rcases Jl h16 with ⟨hb,h16⟩|⟨hb,h16⟩
  ·refine zT hb (Jk (Jc ?_))
   obtain ⟨o21,h21,h16⟩:=Ko h16
   refine Um (o:=o21) 41 (fun x22=>⟨[(2,.ref 2 0),(5,.int .i64 x1),(6,.int .i64 x22),(22,Jp .frozen (a1.Path:(List Jd))),(23,.int .i64 ((a1.Path.length:Nat):Int)),(24,.int .i64 x10)],[(2,.cells (cellsOf a0))],[],[]⟩) ?_ ?_
   ·refine Jo (Ja (Jg ?_))
    obtain ⟨x23,h22,h21⟩:=Ji h21
    refine zI h22 (zE (Jc (Ja (Jg (zR 3 ?_)))))
    obtain ⟨r24,h23,h21⟩:=Ji h21
    refine Jy (Jdv _ _ r24 h23) (by kernel_rfl) (by kernel_rfl) (zE (Jc ?_))
    rcases Jl h21 with ⟨hb,h21⟩|⟨hb,h21⟩
    ·refine zT hb (Jg (zR 3 ?_))
     obtain ⟨r25,h24,h21⟩:=Ji h21
     refine Jy (Jes _ _ r25 h24) (by kernel_rfl) (by kernel_rfl) (zE (Kb ?_))
     cases h21
     exact zJ
    refine zU hb (Jk (Kb ?_))
    cases h21
    exact zJ
   rintro x22 rfl
   have h16:=Kd h16
   refine Jg (zE ?_)
   cases h16
   exact zB
  refine zU hb (Ka (Jx ?_))
  cases h16
  exact zX
 rintro x18 s' rfl hs
 have h:=Kd h
 refine Jv (Jc (Ke hs (Ja (Jg (zE (Jc (Jq ?_)))))))
 cases h
 exact zQ
/-! claims.Extend -/
noncomputable def Ds (a0:Je) (a1:Qa) (a2:Kj) (a3:Int):Option (Kj×Int) :=
 Juv (Dw a1 a2 a3) (fun e2 =>
  some ((Kj.mk 0 0 0 0 [] [] [] [] [] 0 0 0 0 0),e2)
 ) fun r1 =>
 Option.bind (α:=((List Jd)×(List Int)×(List Int)×(List Int)×(List Int))) (
  (Yi a2.Steps).bind fun r13 =>
  (Vz a2.Routes).bind fun r14 =>
  (Vz a2.Starts).bind fun r15 =>
  (Vz a2.Ends).bind fun r16 =>
  (Vz a2.Done).bind fun r17 =>
  some (r13,r14,r15,r16,r17)
 ) fun (x8,x9,x10,x11,x12) =>
 (Vg x8 r1.Path).bind fun x18 =>
 (Vg x9 [a3]).bind fun x19 =>
 (Dl a0 r1).bind fun r20 =>
 (Vg x10 [w64 ((w64 (a2.At+r1.Length)) - r20)]).bind fun x21 =>
 (Vg x11 [w64 (a2.At+r1.Length)]).bind fun x22 =>
 some ((Kj.mk a2.Id a2.Origin r1.Exit (w64 (a2.At+r1.Length)) x18 x19 x21 x22 x12 a2.Min a2.Sent a2.Accepted a2.Cut a2.CutSeq),0)
set_option maxRecDepth 100000 in
theorem Jee (a0:Je) (a1:Qa) (a2:Kj) (a3:Int) (r:(Kj×Int)) (h:Ds a0 a1 a2 a3=some r):Kq Go.Proofs.Tryz.prog GlS 11 [Enc.pv a0,Enc.pv a1,Enc.pv a2,Enc.pv a3] (.tup [Enc.pv r.1,Enc.pv r.2]):=by
 unfold Ds at h
 refine Jm3 Go.Proofs.Tryz.func11 (by rfl) rfl Go.Proofs.Tryz.ntmps11 (by rfl) rfl ?_
 refine Jgl (Jg (zE (Jj7 ?_)))
 refine Jeg 1 32 [.ref 8 0,.ref 9 0] (by rfl) ?_
 refine zE ?_
 refine ⟨by kernel_rfl,by kernel_rfl,by kernel_rfl, ?_⟩
 refine Ja (Jb2 (Nm 0 3 (zE ?_)))
 rcases Kdj h with ⟨e2,h1,h⟩|⟨r1,h1,h⟩
 ·refine Jyn (Rf _ _ _ (.inl e2) h1) (by kernel_rfl) fun ch hpan=>?_
  refine Jho ?_
  refine Kd9 hpan (Jus (x:=some (80,[(.i64,e2)])) (caps:=[.ref 8 0,.ref 9 0]) (by kernel_rfl) Go.Proofs.Tryz.func32 (by rfl) rfl Go.Proofs.Tryz.ntmps32 (by rfl) ?_)
  refine Jra ((Jab 1 (by kernel_rfl)).trans (.of (j:=⟨[(0,.ref 1008 0),(1,.ref 1009 0),(25,.ref 1008 0),(26,.ref 1009 0),(75,.fn 32 [.ref 1008 0,.ref 1009 0])],[(1008,.cells ([.int .i64 0,.int .i64 0,.int .i64 0,.int .i64 0,.nil,.nil,.nil,.nil,.nil,.int .i64 0,.int .i64 0,.int .i64 0,.int .i64 0,.int .i64 0])),(1009,.cells ([.int .i64 0]))],[],[]⟩) (n:=5900076) (by kernel_rfl) (by kernel_rfl))) ?_
  refine Jmi ⟨rfl,rfl,rfl,rfl,fun _ _=>rfl,fun _ _=>rfl⟩ (by kernel_rfl) ?_
  refine Ja (Jg (zR 1 ?_))
  refine Kcl (t:=20) (b:=true) (by kernel_rfl) (by kernel_rfl) ?_
  refine zN (Jc ?_)
  refine Jb5 (b:=true) rfl (by kernel_rfl) ?_
  refine Ja (Jg (zE (Jc (Ja (Jg (zR 1 ?_))))))
  refine Kew (cs:=[(.i64,e2)]) (by kernel_rfl) ?_
  refine zE (Jc (Ja (Jg (zE (Jc ?_)))))
  refine Jb5 (b:=true) rfl (by kernel_rfl) ?_
  refine Jg (zE ?_)
  cases h
  exact Jfg (by kernel_rfl) (by kernel_rfl) (by kernel_rfl)
 refine Kaj (Rf _ _ _ (.inr r1) h1) (by kernel_rfl) (by kernel_rfl) ?_
 refine Nm 4 2 (zE (Juq (Jc (Ja (Kcy (Jxn 0 1 (zE ?_)))))))
 refine Jte 3 ⟨[(3,.int .i64 a3),(4,.ref 3004 0),(8,.ref 3008 0),(9,.ref 3009 0),(10,.ref 3010 0),(16,Enc.pv a2),(58,.fn 32 [.ref 3008 0,.ref 3009 0])],[(3004,.cells (cellsOf a0)),(3008,.cells ([.int .i64 0,.int .i64 0,.int .i64 0,.int .i64 0,.nil,.nil,.nil,.nil,.nil,.int .i64 0,.int .i64 0,.int .i64 0,.int .i64 0,.int .i64 0])),(3009,.cells ([.int .i64 0])),(3010,.cells (cellsOf r1))],[],[]⟩ 100059 (by kernel_rfl) (by kernel_rfl) (by kernel_rfl) ?_
 obtain ⟨o7,h7,h⟩:=Ji h
 refine Ke2 (f:=34) (asx:=[Enc.pv a2]) (by kernel_rfl) Go.Proofs.Tryz.func34 (by rfl) rfl Go.Proofs.Tryz.ntmps34 (by rfl) ?_
 refine Kbs o7 5900083 (fun (x8,x9,x10,x11,x12)=>⟨[(2,.ref 2 0),(27,.int .i64 a3),(28,.ref 3004 0),(32,.ref 3008 0),(33,.ref 3009 0),(34,.ref 3010 0),(82,.fn 32 [.ref 3008 0,.ref 3009 0])],[(2,.cells ([.int .i64 a2.Id,.int .i64 a2.Origin,.int .i64 a2.End,.int .i64 a2.At,Jp (.own 5007) (x8:(List Jd)),Jp (.own 9007) (x9:(List Int)),Jp (.own 13007) (x10:(List Int)),Jp (.own 17007) (x11:(List Int)),Jp (.own 21007) (x12:(List Int)),.int .i64 a2.Min,.int .i64 a2.Sent,.int .i64 a2.Accepted,.int .i64 a2.Cut,.int .i64 a2.CutSeq])),(3004,.cells (cellsOf a0)),(3008,.cells ([.int .i64 0,.int .i64 0,.int .i64 0,.int .i64 0,.nil,.nil,.nil,.nil,.nil,.int .i64 0,.int .i64 0,.int .i64 0,.int .i64 0,.int .i64 0])),(3009,.cells ([.int .i64 0])),(3010,.cells (cellsOf r1))],[(5007,(((x8).map cellsOf).length,3)),(9007,(((x9).map cellsOf).length,1)),(13007,(((x10).map cellsOf).length,1)),(17007,(((x11).map cellsOf).length,1)),(21007,(((x12).map cellsOf).length,1))],[]⟩) ?_ ?_
 ·refine Ja (Jg (zE (Jc (Ja (Jg (zR 2 ?_))))))
  obtain ⟨r13,h8,h7⟩:=Ji h7
  refine Jy (Rl _ r13 h8) (by kernel_rfl) (by kernel_rfl) (zE (Jc (Ja (Jg (zR 2 ?_)))))
  obtain ⟨r14,h9,h7⟩:=Ji h7
  refine Jy (Zq _ r14 h9) (by kernel_rfl) (by kernel_rfl) (zE (Jc (Ja (Jg (zR 2 ?_)))))
  obtain ⟨r15,h10,h7⟩:=Ji h7
  refine Jy (Zq _ r15 h10) (by kernel_rfl) (by kernel_rfl) (zE (Jc (Ja (Jg (zR 2 ?_)))))
  obtain ⟨r16,h11,h7⟩:=Ji h7
  refine Jy (Zq _ r16 h11) (by kernel_rfl) (by kernel_rfl) (zE (Jc (Ja (Jg (zR 2 ?_)))))
  obtain ⟨r17,h12,h7⟩:=Ji h7
  refine Jy (Zq _ r17 h12) (by kernel_rfl) (by kernel_rfl) (zE (Jc (Ja (Jg (zE (Jc (Jq ?_)))))))
  cases h7
  exact q_ij (by kernel_rfl) (by kernel_rfl)
 obtain ⟨x8,x9,x10,x11,x12⟩:=o7
 refine Keo (r:=.agg [.int .i64 a2.Id,.int .i64 a2.Origin,.int .i64 a2.End,.int .i64 a2.At,Jp (.own 5007) (x8:(List Jd)),Jp (.own 9007) (x9:(List Int)),Jp (.own 13007) (x10:(List Int)),Jp (.own 17007) (x11:(List Int)),Jp (.own 21007) (x12:(List Int)),.int .i64 a2.Min,.int .i64 a2.Sent,.int .i64 a2.Accepted,.int .i64 a2.Cut,.int .i64 a2.CutSeq]) (by kernel_rfl) ?_
 refine Jte 4 ⟨[(3,.int .i64 a3),(4,.ref 3004 0),(8,.ref 3008 0),(9,.ref 3009 0),(10,.ref 3010 0),(17,.agg [.int .i64 a2.Id,.int .i64 a2.Origin,.int .i64 a2.End,.int .i64 a2.At,Jp (.own 4005007) (x8:(List Jd)),Jp (.own 4009007) (x9:(List Int)),Jp (.own 4013007) (x10:(List Int)),Jp (.own 4017007) (x11:(List Int)),Jp (.own 4021007) (x12:(List Int)),.int .i64 a2.Min,.int .i64 a2.Sent,.int .i64 a2.Accepted,.int .i64 a2.Cut,.int .i64 a2.CutSeq]),(58,.fn 32 [.ref 3008 0,.ref 3009 0])],[(3004,.cells (cellsOf a0)),(3008,.cells ([.int .i64 0,.int .i64 0,.int .i64 0,.int .i64 0,.nil,.nil,.nil,.nil,.nil,.int .i64 0,.int .i64 0,.int .i64 0,.int .i64 0,.int .i64 0])),(3009,.cells ([.int .i64 0])),(3010,.cells (cellsOf r1))],[(4005007,(((x8).map cellsOf).length,3)),(4009007,(((x9).map cellsOf).length,1)),(4013007,(((x10).map cellsOf).length,1)),(4017007,(((x11).map cellsOf).length,1)),(4021007,(((x12).map cellsOf).length,1))],[]⟩ 100059 (by kernel_rfl) (by kernel_rfl) (by kernel_rfl) ?_
 refine Jte 3 ⟨[(3,.int .i64 a3),(4,.ref 4 0),(8,.ref 8 0),(9,.ref 9 0),(10,.ref 10 0),(17,.agg [.int .i64 a2.Id,.int .i64 a2.Origin,.int .i64 a2.End,.int .i64 a2.At,Jp (.own 4005007) (x8:(List Jd)),Jp (.own 4009007) (x9:(List Int)),Jp (.own 4013007) (x10:(List Int)),Jp (.own 4017007) (x11:(List Int)),Jp (.own 4021007) (x12:(List Int)),.int .i64 a2.Min,.int .i64 a2.Sent,.int .i64 a2.Accepted,.int .i64 a2.Cut,.int .i64 a2.CutSeq]),(58,.fn 32 [.ref 8 0,.ref 9 0])],[(4,.cells (cellsOf a0)),(8,.cells ([.int .i64 0,.int .i64 0,.int .i64 0,.int .i64 0,.nil,.nil,.nil,.nil,.nil,.int .i64 0,.int .i64 0,.int .i64 0,.int .i64 0,.int .i64 0])),(9,.cells ([.int .i64 0])),(10,.cells (cellsOf r1))],[(4005007,(((x8).map cellsOf).length,3)),(4009007,(((x9).map cellsOf).length,1)),(4013007,(((x10).map cellsOf).length,1)),(4017007,(((x11).map cellsOf).length,1)),(4021007,(((x12).map cellsOf).length,1))],[]⟩ 100059 (by kernel_rfl) (by kernel_rfl) (by kernel_rfl) ?_
 refine Jxn 2 1 (zE (Keg (Jc (Ja (Jg (zE (Jc (Ja (Jg (zE (Jc (Ja (Jg (zR 4 ?_))))))))))))))
 obtain ⟨x18,h13,h⟩:=Ji h
 refine Vv (tk:=4005007) h13 (by kernel_rfl) (by kernel_rfl) ?_
 refine zE (Jc (Ja (Jg (zR 4 ?_))))
 obtain ⟨x19,h14,h⟩:=Ji h
 refine Vv (tk:=4009007) h14 (by kernel_rfl) (by kernel_rfl) ?_
 refine zE (Jc (Ja (Qb (by kernel_rfl) (by kernel_rfl) (zR 6 ?_))))
 obtain ⟨r20,h15,h⟩:=Ji h
 refine Jy (Jfe _ _ r20 h15) (by kernel_rfl) (by kernel_rfl) (zR 2 ?_)
 obtain ⟨x21,h16,h⟩:=Ji h
 refine Vv (tk:=4013007) h16 (by kernel_rfl) (by kernel_rfl) ?_
 refine zE (Jc (Ja (Jg (zR 5 ?_))))
 obtain ⟨x22,h17,h⟩:=Ji h
 refine Vv (tk:=4017007) h17 (by kernel_rfl) (by kernel_rfl) ?_
 refine zE (Jc (Ja (Jg (zE (Jc (Jq ?_))))))
 refine Kdi (Jus (x:=none) (caps:=[.ref 8 0,.ref 9 0]) (by kernel_rfl) Go.Proofs.Tryz.func32 (by rfl) rfl Go.Proofs.Tryz.ntmps32 (by rfl) ?_)
 refine Jra ((Jab 5 (by kernel_rfl)).trans (.of (j:=⟨[(0,.ref 5008 0),(1,.ref 5009 0),(25,.ref 5008 0),(26,.ref 5009 0),(75,.fn 32 [.ref 5008 0,.ref 5009 0])],[(5008,.cells ([.int .i64 a2.Id,.int .i64 a2.Origin,.int .i64 r1.Exit,.int .i64 (w64 (a2.At+r1.Length)),Jp (.own 4005007) (x18:(List Jd)),Jp (.own 4009007) (x19:(List Int)),Jp (.own 4013007) (x21:(List Int)),Jp (.own 4017007) (x22:(List Int)),Jp (.own 4021007) (x12:(List Int)),.int .i64 a2.Min,.int .i64 a2.Sent,.int .i64 a2.Accepted,.int .i64 a2.Cut,.int .i64 a2.CutSeq])),(5009,.cells ([.int .i64 0]))],[(4005007,(((x18).map cellsOf).length,3)),(4009007,(((x19).map cellsOf).length,1)),(4013007,(((x21).map cellsOf).length,1)),(4017007,(((x22).map cellsOf).length,1)),(4021007,(((x12).map cellsOf).length,1))],[]⟩) (n:=5900076) (by kernel_rfl) (by kernel_rfl))) ?_
 refine Jmi ⟨rfl,rfl,rfl,rfl,fun _ _=>rfl,fun _ _=>rfl⟩ (by kernel_rfl) ?_
 refine Ja (Jg (zR 1 ?_))
 refine Kcl (t:=20) (b:=false) (by kernel_rfl) (by kernel_rfl) ?_
 refine zN (Jc ?_)
 refine Jce (b:=false) rfl (by kernel_rfl) ?_
 refine Jk ?_
 cases h
 exact Jfg (by kernel_rfl) (by kernel_rfl) (by kernel_rfl)
/-! signallinglaw45.AuthorityGrows -/
noncomputable def Vk (a0:Je) (a1:Qa) (a2:Kj) (a3:(List Ju)) (a4:Int) (a5:Int):Option Bool :=
 (Fp a2 a3).bind fun r1 =>
 ((bif (!r1) then some true else (
  (Ga a0 a2).bind fun r3 =>
  some (!r3)
 )):Option Bool).bind fun b2 =>
 ((bif b2 then some true else (
  some (decide (100<((a1.Routes.length:Nat):Int)))
 )):Option Bool).bind fun b4 =>
 ((bif ((b4||(decide (a5<1)))||(decide (1073741824≤a5))) then some true else (
  (Ff a1 a2).bind fun r6 =>
  some (!r6)
 )):Option Bool).bind fun b5 =>
 bif b5 then (
  (Yb ).bind fun r7 =>
  some r7
 ) else (
  (Hn a0).bind fun r8 =>
  ((bif (!(decide (r8.2=0))) then some true else (
   (Mp r8.1 a1).bind fun r10 =>
   some (!r10)
  )):Option Bool).bind fun b9 =>
  bif b9 then (
   (Yb ).bind fun r11 =>
   some r11
  ) else (
   (Ve a0 a2 a3 a5).bind fun r12 =>
   (Ds a0 a1 a2 a4).bind fun r13 =>
   ((bif ((!(decide (r12.2=0)))||(!(decide (r13.2=0)))) then some true else (
    (Ga a0 r13.1).bind fun r15 =>
    some (!r15)
   )):Option Bool).bind fun b14 =>
   bif b14 then (
    (Yb ).bind fun r16 =>
    some r16
   ) else (
    (Ve a0 r13.1 a3 (w64 (a5+1))).bind fun r17 =>
    ((bif (!(decide (r17.2=0))) then some true else (
     (Vc r12.1 r17.1).bind fun r19 =>
     some (r19&&(decide (r12.1.End<r17.1.End)))
    )):Option Bool).bind fun b18 =>
    ((bif b18 then (
     (Yb ).bind fun r21 =>
     some r21
    ) else some false):Option Bool).bind fun b20 =>
    some b20
   )
  )
 )
theorem Sd (a0:Je) (a1:Qa) (a2:Kj) (a3:(List Ju)) (a4:Int) (a5:Int) (r:Bool) (h:Vk a0 a1 a2 a3 a4 a5=some r):Kq Go.Proofs.Tryz.prog GlS 3 [Enc.pv a0,Enc.pv a1,Enc.pv a2,Enc.pv a3,Enc.pv a4,Enc.pv a5] (Enc.pv r):=by
 unfold Vk at h
 refine Js Go.Proofs.Tryz.func3 (by rfl) rfl Go.Proofs.Tryz.ntmps3 (by rfl) rfl ?_
 refine Ja (Jg (zE (Jc (Ja (Ja (Jg (zR 2 ?_)))))))
 obtain ⟨r1,h1,h⟩:=Ji h
 refine Jy (Jgj _ _ r1 h1) (by kernel_rfl) (by kernel_rfl) ?_
 obtain ⟨b2,h2,h⟩:=Ji h
 refine zR 2 ?_
 refine Qf 5 30 (.bool b2) ?_ ?_
 ·rcases Jl h2 with ⟨hb,h2⟩|⟨hb,h2⟩
  ·refine zS 25 hb ?_
   cases h2
   exact zF
  refine zS 25 hb (zR 2 ?_)
  obtain ⟨r3,h3,h2⟩:=Ji h2
  refine Jy (Ja6 _ _ r3 h3) (by kernel_rfl) (by kernel_rfl) ?_
  cases h2
  exact zF
 obtain ⟨b4,h4,h⟩:=Ji h
 refine zR 1 ?_
 refine Qf 5 36 (.bool b4) ?_ ?_
 ·rcases Jl h4 with ⟨hb,h4⟩|⟨hb,h4⟩
  ·refine zS 31 hb ?_
   cases h4
   exact zF
  refine zS 31 hb (zR 2 ?_)
  refine Kl (L:=(a1.Routes:(List Jm))) (by kernel_rfl) ?_
  cases h4
  exact zF
 refine zR 1 ?_
 refine Kx 3 40 (b4||(decide (a5<1))) (fun x hx=>?_) ?_
 ·rcases Wx hx with ⟨hb,hx⟩|⟨hb,hx⟩
  ·refine zS 37 hb ?_
   subst hx
   exact zF
  refine zS 37 hb ?_
  subst hx
  exact zF
 refine zR 1 ?_
 refine Kx 3 44 ((b4||(decide (a5<1)))||(decide (1073741824≤a5))) (fun x hx=>?_) ?_
 ·rcases Wx hx with ⟨hb,hx⟩|⟨hb,hx⟩
  ·refine zS 41 hb ?_
   subst hx
   exact zF
  refine zS 41 hb ?_
  subst hx
  exact zF
 obtain ⟨b5,h5,h⟩:=Ji h
 refine zR 1 ?_
 refine Qf 5 50 (.bool b5) ?_ ?_
 ·rcases Jl h5 with ⟨hb,h5⟩|⟨hb,h5⟩
  ·refine zS 45 hb ?_
   cases h5
   exact zF
  refine zS 45 hb (zR 2 ?_)
  obtain ⟨r6,h6,h5⟩:=Ji h5
  refine Jy (Jgh _ _ r6 h6) (by kernel_rfl) (by kernel_rfl) ?_
  cases h5
  exact zF
 refine zN (Jc ?_)
 rcases Jl h with ⟨hb,h⟩|⟨hb,h⟩
 ·refine zT hb (Ja (Jg ?_))
  obtain ⟨r7,h7,h⟩:=Ji h
  refine Jy (Gk  r7 h7) (by kernel_rfl) (by kernel_rfl) (zE (Jc (Jq (Jn ?_))))
  cases h
  exact zQ
 refine zU hb (Jk (Jc (Ja (Ja (Jg (zR 1 ?_))))))
 obtain ⟨r8,h8,h⟩:=Ji h
 refine Jy (Jhm _ r8 h8) (by kernel_rfl) (by kernel_rfl) (zE (Jc (Ja (Jg ?_))))
 obtain ⟨b9,h9,h⟩:=Ji h
 refine zR 3 ?_
 refine Qf 5 64 (.bool b9) ?_ ?_
 ·rcases Jl h9 with ⟨hb,h9⟩|⟨hb,h9⟩
  ·refine zS 59 hb ?_
   cases h9
   exact zF
  refine zS 59 hb (zR 2 ?_)
  obtain ⟨r10,h10,h9⟩:=Ji h9
  refine Jy (Ji6 _ _ r10 h10) (by kernel_rfl) (by kernel_rfl) ?_
  cases h9
  exact zF
 refine zN (Jc ?_)
 rcases Jl h with ⟨hb,h⟩|⟨hb,h⟩
 ·refine zT hb (Ja (Jg ?_))
  obtain ⟨r11,h11,h⟩:=Ji h
  refine Jy (Gk  r11 h11) (by kernel_rfl) (by kernel_rfl) (zE (Jc (Jq (Jn ?_))))
  cases h
  exact zQ
 refine zU hb (Jk (Jc (Ja (Jg (zR 4 ?_)))))
 obtain ⟨r12,h12,h⟩:=Ji h
 refine Jy (Ye _ _ _ _ r12 h12) (by kernel_rfl) (by kernel_rfl) (zE (Jc (Ja (Jg (zR 4 ?_)))))
 obtain ⟨r13,h13,h⟩:=Ji h
 refine Jy (Jee _ _ _ _ r13 h13) (by kernel_rfl) (by kernel_rfl) (zE (Jc (Ja (Ja (Jg (zR 3 ?_))))))
 refine Kx 3 87 ((!(decide (r12.2=0)))||(!(decide (r13.2=0)))) (fun x hx=>?_) ?_
 ·rcases Wx hx with ⟨hb,hx⟩|⟨hb,hx⟩
  ·refine zS 84 hb ?_
   subst hx
   exact zF
  refine zS 84 hb ?_
  subst hx
  exact zF
 obtain ⟨b14,h14,h⟩:=Ji h
 refine zR 1 ?_
 refine Qf 5 93 (.bool b14) ?_ ?_
 ·rcases Jl h14 with ⟨hb,h14⟩|⟨hb,h14⟩
  ·refine zS 88 hb ?_
   cases h14
   exact zF
  refine zS 88 hb (zR 2 ?_)
  obtain ⟨r15,h15,h14⟩:=Ji h14
  refine Jy (Ja6 _ _ r15 h15) (by kernel_rfl) (by kernel_rfl) ?_
  cases h14
  exact zF
 refine zN (Jc ?_)
 rcases Jl h with ⟨hb,h⟩|⟨hb,h⟩
 ·refine zT hb (Ja (Jg ?_))
  obtain ⟨r16,h16,h⟩:=Ji h
  refine Jy (Gk  r16 h16) (by kernel_rfl) (by kernel_rfl) (zE (Jc (Jq (Jn ?_))))
  cases h
  exact zQ
 refine zU hb (Jk (Jc (Ja (Jg (zR 5 ?_)))))
 obtain ⟨r17,h17,h⟩:=Ji h
 refine Jy (Ye _ _ _ _ r17 h17) (by kernel_rfl) (by kernel_rfl) (zE (Jc (Ja (Jg ?_))))
 obtain ⟨b18,h18,h⟩:=Ji h
 refine zR 3 ?_
 refine Qf 11 117 (.bool b18) ?_ ?_
 ·rcases Jl h18 with ⟨hb,h18⟩|⟨hb,h18⟩
  ·refine zS 106 hb ?_
   cases h18
   exact zF
  refine zS 106 hb (zR 2 ?_)
  obtain ⟨r19,h19,h18⟩:=Ji h18
  refine Jy (Cu _ _ r19 h19) (by kernel_rfl) (by kernel_rfl) (zR 1 ?_)
  refine Tv 6 116 (r19&&(decide (r12.1.End<r17.1.End))) (fun x hx=>?_) ?_
  ·rcases Wb hx with ⟨hb,hx⟩|⟨hb,hx⟩
   ·refine zS 110 hb ?_
    subst hx
    exact zF
   refine zS 110 hb ?_
   subst hx
   exact zF
  cases h18
  exact zF
 obtain ⟨b20,h20,h⟩:=Ji h
 refine zR 1 ?_
 refine Qf 2 120 (.bool b20) ?_ ?_
 ·rcases Jl h20 with ⟨hb,h20⟩|⟨hb,h20⟩
  ·refine zS 118 hb ?_
   obtain ⟨r21,h21,h20⟩:=Ji h20
   refine Jy (Gk  r21 h21) (by kernel_rfl) (by kernel_rfl) ?_
   cases h20
   exact zF
  refine zS 118 hb ?_
  cases h20
  exact zF
 refine zE (Jc (Jq ?_))
 cases h
 exact zQ
end PM
