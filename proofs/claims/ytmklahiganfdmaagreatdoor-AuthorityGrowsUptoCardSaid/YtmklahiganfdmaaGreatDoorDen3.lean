/-
 Plain functions for the program's functions, and the proofs that the program does them. Printed by den.py.
-/
import Derived.Test.YtmklahiganfdmaaGreatDoorDen2
namespace PM
open Go Go.RowKit
attribute [local irreducible] Qc pwp
/-! signallingref06.Need -/
noncomputable def Bl (a0:Int) (a1:Int) (a2:Int):Option (Int×Bool) :=
 bif ((decide (a0=1))||(decide (a0=3))) then (
  some (0,(((decide ((min a1 a2)=0))&&(decide ((max a1 a2)=1)))||(((decide (a0=3))&&(decide ((min a1 a2)=2)))&&(decide ((max a1 a2)=3)))))
 ) else (
  bif (((decide (a0=2))&&(decide ((min a1 a2)=0)))&&(decide ((max a1 a2)=1))) then (
   some (1,true)
  ) else (
   bif (((decide (a0=2))&&(decide ((min a1 a2)=0)))&&(decide ((max a1 a2)=2))) then (
    some (2,true)
   ) else (
    some (0,false)
   )
  )
 )
theorem Ih (a0:Int) (a1:Int) (a2:Int) (r:(Int×Bool)) (h:Bl a0 a1 a2=some r):Kq Go.Proofs.Tryz.prog GlS 128 [Enc.pv a0,Enc.pv a1,Enc.pv a2] (.tup [Enc.pv r.1,Enc.pv r.2]):=by
 unfold Bl at h
 refine Js Go.Proofs.Tryz.func128 (by rfl) rfl Go.Proofs.Tryz.ntmps128 (by rfl) rfl ?_
 refine Ja (Jg (zE (Jc (Ja (Jg (zE (Jc (Ja (Jg (zE (Jc (Ja (Ja (Jg (zR 3 ?_)))))))))))))))
 refine Kx 3 21 ((decide (a0=1))||(decide (a0=3))) (fun x hx=>?_) ?_
 ·rcases Wx hx with ⟨hb,hx⟩|⟨hb,hx⟩
  ·refine zS 18 hb ?_
   subst hx
   exact zF
  refine zS 18 hb ?_
  subst hx
  exact zF
 refine zN (Jc ?_)
 rcases Jl h with ⟨hb,h⟩|⟨hb,h⟩
 ·refine zT hb (Ja (Jg (zR 3 ?_)))
  refine Kx 3 27 ((decide ((min a1 a2)=0))&&(decide ((max a1 a2)=1))) (fun x hx=>?_) ?_
  ·rcases Wb hx with ⟨hb,hx⟩|⟨hb,hx⟩
   ·refine zS 24 hb ?_
    subst hx
    exact zF
   refine zS 24 hb ?_
   subst hx
   exact zF
  refine zR 1 ?_
  refine Kx 11 39 (((decide ((min a1 a2)=0))&&(decide ((max a1 a2)=1)))||(((decide (a0=3))&&(decide ((min a1 a2)=2)))&&(decide ((max a1 a2)=3)))) (fun x hx=>?_) ?_
  ·rcases Wx hx with ⟨hb,hx⟩|⟨hb,hx⟩
   ·refine zS 28 hb ?_
    subst hx
    exact zF
   refine zS 28 hb (zR 3 ?_)
   refine Tv 3 34 ((decide (a0=3))&&(decide ((min a1 a2)=2))) (fun x hx=>?_) ?_
   ·rcases Wb hx with ⟨hb,hx⟩|⟨hb,hx⟩
    ·refine zS 31 hb ?_
     subst hx
     exact zF
    refine zS 31 hb ?_
    subst hx
    exact zF
   refine zR 1 ?_
   refine Tv 3 38 (((decide (a0=3))&&(decide ((min a1 a2)=2)))&&(decide ((max a1 a2)=3))) (fun x hx=>?_) ?_
   ·rcases Wb hx with ⟨hb,hx⟩|⟨hb,hx⟩
    ·refine zS 35 hb ?_
     subst hx
     exact zF
    refine zS 35 hb ?_
    subst hx
    exact zF
   subst hx
   exact zF
  refine zE (Jc (Jq (Jn ?_)))
  cases h
  exact zQ
 refine zU hb (Jk (Jc (Ja (Ja (Jg (zR 3 ?_))))))
 refine Kx 3 45 ((decide (a0=2))&&(decide ((min a1 a2)=0))) (fun x hx=>?_) ?_
 ·rcases Wb hx with ⟨hb,hx⟩|⟨hb,hx⟩
  ·refine zS 42 hb ?_
   subst hx
   exact zF
  refine zS 42 hb ?_
  subst hx
  exact zF
 refine zR 1 ?_
 refine Kx 3 49 (((decide (a0=2))&&(decide ((min a1 a2)=0)))&&(decide ((max a1 a2)=1))) (fun x hx=>?_) ?_
 ·rcases Wb hx with ⟨hb,hx⟩|⟨hb,hx⟩
  ·refine zS 46 hb ?_
   subst hx
   exact zF
  refine zS 46 hb ?_
  subst hx
  exact zF
 refine zN (Jc ?_)
 rcases Jl h with ⟨hb,h⟩|⟨hb,h⟩
 ·refine zT hb (Ja (Jg (zE (Jc (Jq (Jn ?_))))))
  cases h
  exact zQ
 refine zU hb (Jk (Jc (Ja (Ja (Jg (zR 3 ?_))))))
 refine Kx 3 55 ((decide (a0=2))&&(decide ((min a1 a2)=0))) (fun x hx=>?_) ?_
 ·rcases Wb hx with ⟨hb,hx⟩|⟨hb,hx⟩
  ·refine zS 52 hb ?_
   subst hx
   exact zF
  refine zS 52 hb ?_
  subst hx
  exact zF
 refine zR 1 ?_
 refine Kx 3 59 (((decide (a0=2))&&(decide ((min a1 a2)=0)))&&(decide ((max a1 a2)=2))) (fun x hx=>?_) ?_
 ·rcases Wb hx with ⟨hb,hx⟩|⟨hb,hx⟩
  ·refine zS 56 hb ?_
   subst hx
   exact zF
  refine zS 56 hb ?_
  subst hx
  exact zF
 refine zN (Jc ?_)
 rcases Jl h with ⟨hb,h⟩|⟨hb,h⟩
 ·refine zT hb (Ja (Jg (zE (Jc (Jq (Jn ?_))))))
  cases h
  exact zQ
 refine zU hb (Jk (Jc (Ja (Jg (zE (Jc (Jq ?_)))))))
 cases h
 exact zQ
/-! signallingref06.Legs -/
noncomputable def Ey (a0:Int) (a1:Int):(Int×(List Int))→Option ((Int×(List Int))⊕((List Int)⊕(List Int))):=fun (x12,x13) =>
 bif decide (x12<4) then (
  onInl (α:=(List Int)) (β:=((Int×(List Int))⊕((List Int)⊕(List Int)))) (
   (Bl a0 a1 x12).bind fun r23 =>
   bif r23.2 then (
    (Vg x13 [x12]).bind fun x24 =>
    some (.inl x24)
   ) else (
    some (.inl x13)
   )
  ) fun x22 =>
  some (.inl (w64 (x12+1),x22))
 ) else (
  some (.inr (.inl x13))
 )
noncomputable def Cv (a0:Int) (a1:Int):Option (List Int) :=
 onInl (α:=(List Int)) (β:=(List Int)) (Km (Ey a0 a1) (0,([]:(List Int)))) fun x19 =>
 some x19
theorem Jjq (a0:Int) (a1:Int) (r:(List Int)) (h:Cv a0 a1=some r):Kq Go.Proofs.Tryz.prog GlS 110 [Enc.pv a0,Enc.pv a1] (Jp (.own 100005) r):=by
 unfold Cv at h
 refine Js Go.Proofs.Tryz.func110 (by rfl) rfl Go.Proofs.Tryz.ntmps110 (by rfl) rfl ?_
 refine Ja (Jg (zE (Jc (Ja (Jg (zE (Jc (Ja (Ja (Jg (zE (Jc (Jo ?_)))))))))))))
 refine Cs 5 100005 1 8 (by kernel_rfl) (by kernel_rfl) ?_
 obtain ⟨o17,h17,h⟩:=Ko h
 refine Kh 26 0 (fun (x12,x13)=>⟨[(0,.int .i64 a0),(1,.int .i64 a1),(5,Jp (.own 100005) (x13:(List Int))),(6,.int .i64 x12)],[],[(100005,(((x13).map cellsOf).length,1))],[]⟩) (fun x19=>⟨[(5,Jp (.own 100005) (x19:(List Int)))],[],[(100005,(((x19).map cellsOf).length,1))],[]⟩) h17 (by kernel_rfl) (fun _=>by kernel_rfl) ?_ ?_
 ·rintro ⟨x12,x13⟩ oh16 h16
  unfold Ey at h16
  refine Ja (Ja (Jg (zE (Jc ?_))))
  rcases Jl h16 with ⟨hb,h16⟩|⟨hb,h16⟩
  ·refine zT hb (Jk (Jc ?_))
   obtain ⟨o20,h20,h16⟩:=Ko h16
   refine Um (o:=o20) 26 (fun x22=>⟨[(0,.int .i64 a0),(1,.int .i64 a1),(5,Jp (.own 100005) (x22:(List Int))),(6,.int .i64 x12)],[],[(100005,(((x22).map cellsOf).length,1))],[]⟩) ?_ ?_
   ·refine Jo (Ja (Jg (zR 3 ?_)))
    obtain ⟨r23,h21,h20⟩:=Ji h20
    refine Jy (Ih _ _ _ r23 h21) (by kernel_rfl) (by kernel_rfl) (zE (Jc (Ja (Jg (zE (Jc ?_))))))
    rcases Jl h20 with ⟨hb,h20⟩|⟨hb,h20⟩
    ·refine zT hb (Jg (zR 3 ?_))
     obtain ⟨x24,h22,h20⟩:=Ji h20
     refine Vv (tk:=100005) h22 (by kernel_rfl) (by kernel_rfl) ?_
     refine zE (Kb ?_)
     cases h20
     exact zJ
    refine zU hb (Jk (Kb ?_))
    cases h20
    exact zJ
   rintro x22 rfl
   have h16:=Kd h16
   refine Jg (zE ?_)
   cases h16
   exact zB
  refine zU hb (Ka (Jx ?_))
  cases h16
  exact zX
 rintro x19 s' rfl hs
 have h:=Kd h
 refine Jv (Jc (Ke hs (Ja (Jg (zE (Jc (Jq ?_)))))))
 cases h
 exact zQ
theorem Jjv (a0:Int) (a1:Int) (r:(List Int)) (h:Cv a0 a1=some r):Kq Go.Proofs.Tryz.prog GlS 110 [Enc.pv a0,Enc.pv a1] (Enc.pv r) :=
 (Jjq a0 a1 r h).freeze (by kernel_rfl) (by kernel_rfl) (by kernel_rfl)
/-! signallingref09.Branches -/
noncomputable def Zh (a1:Jj) (r3:(List Int)):(Int×(List Jd))→Option ((Int×(List Jd))⊕((List Jd)⊕(List Jd))):=fun (x9,x10) =>
 bif decide (x9<((r3.length:Nat):Int)) then (
  (ixO r3 x9).bind fun x14 =>
  (Vg x10 [(Jd.mk a1.El a1.Side x14)]).bind fun x15 =>
  some (.inl (w64 (x9+1),x15))
 ) else (
  some (.inr (.inl x10))
 )
noncomputable def Yz (a0:Je) (a1:Jj):Option (List Jd) :=
 (Yf a0 a1.El).bind fun r1 =>
 bif (!r1) then (
  some ([]:(List Jd))
 ) else (
  (ixO a0.Elements a1.El).bind fun x2 =>
  (Cv x2.Kind a1.Side).bind fun r3 =>
  onInl (α:=(List Jd)) (β:=(List Jd)) (Km (Zh a1 r3) (0,([]:(List Jd)))) fun x13 =>
  some x13
 )
theorem Pt (a0:Je) (a1:Jj) (r:(List Jd)) (h:Yz a0 a1=some r):Kq Go.Proofs.Tryz.prog GlS 56 [Enc.pv a0,Enc.pv a1] (Jp (.own 100006) r):=by
 unfold Yz at h
 refine Js Go.Proofs.Tryz.func56 (by rfl) rfl Go.Proofs.Tryz.ntmps56 (by rfl) rfl ?_
 refine Ja (Jg (zE (Jc (Ja (Ja (Jg (zR 3 ?_)))))))
 obtain ⟨r1,h1,h⟩:=Ji h
 refine Jy (Ek _ _ r1 h1) (by kernel_rfl) (by kernel_rfl) (zE (Jc ?_))
 rcases Jl h with ⟨hb,h⟩|⟨hb,h⟩
 ·refine zT hb (Ja (Jg (zE (Jc (Cs 4 100006 3 24 (by kernel_rfl) (by kernel_rfl) (Jq (Jn ?_)))))))
  cases h
  exact zQ
 refine zU hb (Jk (Jc (Ja (Qb (by kernel_rfl) (by kernel_rfl) (zR 4 ?_)))))
 obtain ⟨x2,h2,h⟩:=Ji h
 refine zI h2 (zR 4 ?_)
 obtain ⟨r3,h3,h⟩:=Ji h
 refine Jy (Jjv _ _ r3 h3) (by kernel_rfl) (by kernel_rfl) (zE (Jc (Ja (Jg (zE (Jc (Ja (Ja (Jg (zE (Jc (Jo ?_))))))))))))
 refine Cs 6 100006 3 24 (by kernel_rfl) (by kernel_rfl) ?_
 obtain ⟨o11,h11,h⟩:=Ko h
 refine Kh 42 0 (fun (x9,x10)=>⟨[(3,.ref 3 0),(5,Jp .frozen (r3:(List Int))),(6,Jp (.own 100006) (x10:(List Jd))),(7,.int .i64 x9)],[(3,.cells (cellsOf a1))],[(100006,(((x10).map cellsOf).length,3))],[]⟩) (fun x13=>⟨[(6,Jp (.own 100006) (x13:(List Jd)))],[],[(100006,(((x13).map cellsOf).length,3))],[]⟩) h11 (by kernel_rfl) (fun _=>by kernel_rfl) ?_ ?_
 ·rintro ⟨x9,x10⟩ oh10 h10
  unfold Zh at h10
  refine Ja (Ja (Jg (zR 2 ?_)))
  refine Kl (L:=(r3:(List Int))) (by kernel_rfl) ?_
  refine zE (Jc ?_)
  rcases Jl h10 with ⟨hb,h10⟩|⟨hb,h10⟩
  ·refine zT hb (Jk (Jc (Ja (Jo (Qb (by kernel_rfl) (by kernel_rfl) (zR 7 ?_))))))
   obtain ⟨x14,h12,h10⟩:=Ji h10
   refine zI h12 (zR 3 ?_)
   obtain ⟨x15,h13,h10⟩:=Ji h10
   refine Vv (tk:=100006) h13 (by kernel_rfl) (by kernel_rfl) ?_
   refine zE (Kb (Jc (Jg (zE ?_))))
   cases h10
   exact zB
  refine zU hb (Ka (Jx ?_))
  cases h10
  exact zX
 rintro x13 s' rfl hs
 have h:=Kd h
 refine Jv (Jc (Ke hs (Ja (Jg (zE (Jc (Jq ?_)))))))
 cases h
 exact zQ
/-! signallingref09.need -/
noncomputable def Gg (a0:Je) (a1:Jd):Option (Int×Bool) :=
 (Yf a0 a1.El).bind fun r1 =>
 bif (!r1) then (
  some (0,false)
 ) else (
  (ixO a0.Elements a1.El).bind fun x2 =>
  (Bl x2.Kind a1.In a1.Out).bind fun r3 =>
  some (r3.1,r3.2)
 )
theorem Jbc (a0:Je) (a1:Jd) (r:(Int×Bool)) (h:Gg a0 a1=some r):Kq Go.Proofs.Tryz.prog GlS 111 [Enc.pv a0,Enc.pv a1] (.tup [Enc.pv r.1,Enc.pv r.2]):=by
 unfold Gg at h
 refine Js Go.Proofs.Tryz.func111 (by rfl) rfl Go.Proofs.Tryz.ntmps111 (by rfl) rfl ?_
 refine Ja (Jg (zE (Jc (Ja (Ja (Jg (zR 3 ?_)))))))
 obtain ⟨r1,h1,h⟩:=Ji h
 refine Jy (Ek _ _ r1 h1) (by kernel_rfl) (by kernel_rfl) (zE (Jc ?_))
 rcases Jl h with ⟨hb,h⟩|⟨hb,h⟩
 ·refine zT hb (Ja (Jg (zE (Jc (Jq (Jn ?_))))))
  cases h
  exact zQ
 refine zU hb (Jk (Jc (Ja (Qb (by kernel_rfl) (by kernel_rfl) (zR 4 ?_)))))
 obtain ⟨x2,h2,h⟩:=Ji h
 refine zI h2 (zR 6 ?_)
 obtain ⟨r3,h3,h⟩:=Ji h
 refine Jy (Ih _ _ _ r3 h3) (by kernel_rfl) (by kernel_rfl) (zE (Jc (Jq ?_)))
 cases h
 exact zQ
/-! signallingref09.Next -/
noncomputable def Bd (a0:Je) (a1:Jd):Option (Jj×Bool) :=
 (Wj a0 (Jj.mk a1.El a1.Out)).bind fun r1 =>
 some (r1.1,r1.2)
theorem Ij (a0:Je) (a1:Jd) (r:(Jj×Bool)) (h:Bd a0 a1=some r):Kq Go.Proofs.Tryz.prog GlS 57 [Enc.pv a0,Enc.pv a1] (.tup [Enc.pv r.1,Enc.pv r.2]):=by
 unfold Bd at h
 refine Js Go.Proofs.Tryz.func57 (by rfl) rfl Go.Proofs.Tryz.ntmps57 (by rfl) rfl ?_
 refine Ja (Jg (zE (Jc (Ja (Jg (zR 6 ?_))))))
 obtain ⟨r1,h1,h⟩:=Ji h
 refine Jy (Bh _ _ r1 h1) (by kernel_rfl) (by kernel_rfl) (zE (Jc (Jq ?_)))
 cases h
 exact zQ
/-! signallingref09.Valid -/
noncomputable def Dg (a1:(List Jd)) (x23:Int):Int→Option (Int⊕(Unit⊕(Int⊕(Unit⊕Bool)))):=fun x61 =>
 bif decide (x61<x23) then (
  (ixO a1 x61).bind fun x64 =>
  (ixO a1 x23).bind fun x65 =>
  bif decide (x64.El=x65.El) then (
   some (.inr (.inr (.inr (.inr false))))
  ) else (
   some (.inl (w64 (x61+1)))
  )
 ) else (
  some (.inr (.inl ()))
 )
noncomputable def Hz (a0:Je) (a1:(List Jd)):Int→Option (Int⊕(Unit⊕Bool)):=fun x23 =>
 bif decide (x23<((a1.length:Nat):Int)) then (
  (ixO a1 x23).bind fun x45 =>
  (Gg a0 x45).bind fun r46 =>
  bif (!r46.2) then (
   some (.inr (.inr false))
  ) else (
   onInl (α:=Unit) (β:=(Int⊕(Unit⊕Bool))) (
    bif decide (0<x23) then (
     (ixO a1 (w64 (x23 - 1))).bind fun x53 =>
     (Bd a0 x53).bind fun r54 =>
     ((bif (!r54.2) then some true else (
      (ixO a1 x23).bind fun x56 =>
      some (!(decide (r54.1.El=x56.El)))
     )):Option Bool).bind fun b55 =>
     ((bif b55 then some true else (
      (ixO a1 x23).bind fun x58 =>
      some (!(decide (r54.1.Side=x58.In)))
     )):Option Bool).bind fun b57 =>
     bif b57 then (
      some (.inr (.inr (.inr false)))
     ) else (
      some (.inl ())
     )
    ) else (
     some (.inl ())
    )
   ) fun _ =>
   onInl (α:=Unit) (β:=(Int⊕(Unit⊕Bool))) (Km (Dg a1 x23) 0) fun _ =>
   some (.inl (w64 (x23+1)))
  )
 ) else (
  some (.inr (.inl ()))
 )
noncomputable def Hl (a0:Je) (a1:(List Jd)):Option Bool :=
 ((bif decide (((a1.length:Nat):Int)=0) then some true else (
  some (decide (64<((a1.length:Nat):Int)))
 )):Option Bool).bind fun b1 =>
 bif b1 then (
  some false
 ) else (
  onInl (α:=Unit) (β:=Bool) (Km (Hz a0 a1) 0) fun _ =>
  some true
 )
theorem Jht (a0:Je) (a1:(List Jd)) (r:Bool) (h:Hl a0 a1=some r):Kq Go.Proofs.Tryz.prog GlS 133 [Enc.pv a0,Enc.pv a1] (Enc.pv r):=by
 unfold Hl at h
 refine Js Go.Proofs.Tryz.func133 (by rfl) rfl Go.Proofs.Tryz.ntmps133 (by rfl) rfl ?_
 refine Ja (Jg (zE (Jc (Ja (Ja (Jg (zR 1 ?_)))))))
 refine Kl (L:=(a1:(List Jd))) (by kernel_rfl) ?_
 obtain ⟨b1,h1,h⟩:=Ji h
 refine zR 2 ?_
 refine Qf 4 18 (.bool b1) ?_ ?_
 ·rcases Jl h1 with ⟨hb,h1⟩|⟨hb,h1⟩
  ·refine zS 14 hb ?_
   cases h1
   exact zF
  refine zS 14 hb (zR 1 ?_)
  refine Kl (L:=(a1:(List Jd))) (by kernel_rfl) ?_
  cases h1
  exact zF
 refine zN (Jc ?_)
 rcases Jl h with ⟨hb,h⟩|⟨hb,h⟩
 ·refine zT hb (Ja (Jg (zE (Jc (Jq (Jn ?_))))))
  cases h
  exact zQ
 refine zU hb (Jk (Jc (Ja (Ja (Jg (zE (Jc (Jo ?_))))))))
 obtain ⟨o71,h71,h⟩:=Ko h
 refine Kh 86 0 (fun x23=>⟨[(1,Jp .frozen (a1:(List Jd))),(2,.ref 2 0),(5,.int .i64 x23)],[(2,.cells (cellsOf a0))],[],[]⟩) (fun (_:Unit)=>⟨[],[],[],[]⟩) h71 (by kernel_rfl) (fun _=>by kernel_rfl) ?_ ?_
 ·rintro x23 oh70 h70
  unfold Hz at h70
  refine Ja (Ja (Jg (zR 2 ?_)))
  refine Kl (L:=(a1:(List Jd))) (by kernel_rfl) ?_
  refine zE (Jc ?_)
  rcases Jl h70 with ⟨hb,h70⟩|⟨hb,h70⟩
  ·refine zT hb (Jk (Jc (Ja (Jo (Ja (Qb (by kernel_rfl) (by kernel_rfl) (zR 3 ?_)))))))
   obtain ⟨x45,h72,h70⟩:=Ji h70
   refine zI h72 (zR 1 ?_)
   obtain ⟨r46,h73,h70⟩:=Ji h70
   refine Jy (Jbc _ _ r46 h73) (by kernel_rfl) (by kernel_rfl) (zE (Jc (Ja (Ja (Jg (zE (Jc ?_)))))))
   rcases Jl h70 with ⟨hb,h70⟩|⟨hb,h70⟩
   ·refine zT hb (Ja (Jg (zE (Jc (Jq (Jn (Jr (Jn ?_))))))))
    cases h70
    refine Kf fun he=>?_
    subst he
    have h74:=Qd h
    refine Jr (Jn ?_)
    cases h74
    exact zQ
   refine zU hb (Jk (Jc ?_))
   obtain ⟨o83,h83,h70⟩:=Ko h70
   refine Um (o:=o83) 86 (fun (_:Unit)=>⟨[(1,Jp .frozen (a1:(List Jd))),(2,.ref 2 0),(5,.int .i64 x23)],[(2,.cells (cellsOf a0))],[],[]⟩) ?_ ?_
   ·refine Ja (Jg (zE (Jc ?_)))
    rcases Jl h83 with ⟨hb,h83⟩|⟨hb,h83⟩
    ·refine zT hb (Ja (Qb (by kernel_rfl) (by kernel_rfl) (zR 4 ?_)))
     obtain ⟨x53,h84,h83⟩:=Ji h83
     refine zI h84 (zR 1 ?_)
     obtain ⟨r54,h85,h83⟩:=Ji h83
     refine Jy (Ij _ _ r54 h85) (by kernel_rfl) (by kernel_rfl) (zE (Jc (Ja (Qb (by kernel_rfl) (by kernel_rfl) ?_))))
     obtain ⟨b55,h86,h83⟩:=Ji h83
     refine zR 3 ?_
     refine Qf 9 59 (.bool b55) ?_ ?_
     ·rcases Jl h86 with ⟨hb,h86⟩|⟨hb,h86⟩
      ·refine zS 50 hb ?_
       cases h86
       exact zF
      refine zS 50 hb (zR 4 ?_)
      obtain ⟨x56,h87,h86⟩:=Ji h86
      refine zI h87 ?_
      cases h86
      exact zF
     obtain ⟨b57,h88,h83⟩:=Ji h83
     refine zR 1 ?_
     refine Qf 9 69 (.bool b57) ?_ ?_
     ·rcases Jl h88 with ⟨hb,h88⟩|⟨hb,h88⟩
      ·refine zS 60 hb ?_
       cases h88
       exact zF
      refine zS 60 hb (zR 4 ?_)
      obtain ⟨x58,h89,h88⟩:=Ji h88
      refine zI h89 ?_
      cases h88
      exact zF
     refine zN (Jc ?_)
     rcases Jl h83 with ⟨hb,h83⟩|⟨hb,h83⟩
     ·refine zT hb (Ja (Jg (zE (Jc (Jq ?_)))))
      cases h83
      refine Jaf ?_
      have h90:=Qd h70
      refine Jr (Jn ?_)
      cases h90
      refine Kf fun he=>?_
      subst he
      have h91:=Qd h
      refine Jr (Jn ?_)
      cases h91
      exact zQ
     refine zU hb (Jk ?_)
     cases h83
     exact zJ
    refine zU hb (Jk ?_)
    cases h83
    exact zJ
   rintro _ rfl
   have h70:=Kd h70
   refine Ja (Jg (zE (Jc (Jo ?_))))
   obtain ⟨o101,h101,h70⟩:=Ko h70
   refine Kh 86 2 (fun x61=>⟨[(1,Jp .frozen (a1:(List Jd))),(2,.ref 2 0),(5,.int .i64 x23),(10,.int .i64 x61)],[(2,.cells (cellsOf a0))],[],[]⟩) (fun (_:Unit)=>⟨[(1,Jp .frozen (a1:(List Jd))),(2,.ref 2 0),(5,.int .i64 x23)],[(2,.cells (cellsOf a0))],[],[]⟩) h101 (by kernel_rfl) (fun _=>by kernel_rfl) ?_ ?_
   ·rintro x61 oh100 h100
    unfold Dg at h100
    refine Ja (Ja (Jg (zE (Jc ?_))))
    rcases Jl h100 with ⟨hb,h100⟩|⟨hb,h100⟩
    ·refine zT hb (Jk (Jc (Ja (Jo (Ja (Qb (by kernel_rfl) (by kernel_rfl) (zR 2 ?_)))))))
     obtain ⟨x64,h102,h100⟩:=Ji h100
     refine zI h102 (zR 4 ?_)
     obtain ⟨x65,h103,h100⟩:=Ji h100
     refine zI h103 (zE (Jc ?_))
     rcases Jl h100 with ⟨hb,h100⟩|⟨hb,h100⟩
     ·refine zT hb (Ja (Jg (zE (Jc (Jq (Jr (Jn ?_)))))))
      cases h100
      refine Kf fun he=>?_
      subst he
      have h104:=Qd h70
      refine Jr (Jr (Jn ?_))
      cases h104
      refine Kf fun he=>?_
      subst he
      have h105:=Qd h
      refine Jr (Jn ?_)
      cases h105
      exact zQ
     refine zU hb (Jk (Kb (Jc (Jg (zE ?_)))))
     cases h100
     exact zB
    refine zU hb (Ka (Jx ?_))
    cases h100
    exact zX
   rintro _ s' rfl hs
   have h70:=Kd h70
   refine Jv (Kb (Jc (Ke hs (Jg (zE ?_)))))
   cases h70
   exact zB
  refine zU hb (Ka (Jx ?_))
  cases h70
  exact zX
 rintro _ s' rfl hs
 have h:=Kd h
 refine Jv (Jc (Ke hs (Ja (Jg (zE (Jc (Jq ?_)))))))
 cases h
 exact zQ
/-! signallingref07.Section -/
noncomputable def Vx (a0:Je) (a1:Int):Option Int :=
 ((bif decide (a1<0) then some true else (
  some (decide (((a0.Elements.length:Nat):Int)≤a1))
 )):Option Bool).bind fun b1 =>
 bif b1 then (
  some (-1)
 ) else (
  (ixO a0.Elements a1).bind fun x2 =>
  some x2.Section
 )
theorem Zk (a0:Je) (a1:Int) (r:Int) (h:Vx a0 a1=some r):Kq Go.Proofs.Tryz.prog GlS 23 [Enc.pv a0,Enc.pv a1] (Enc.pv r):=by
 unfold Vx at h
 refine Js Go.Proofs.Tryz.func23 (by rfl) rfl Go.Proofs.Tryz.ntmps23 (by rfl) rfl ?_
 refine Ja (Jg (zE (Jc (Ja (Ja (Jg ?_))))))
 obtain ⟨b1,h1,h⟩:=Ji h
 refine zR 3 ?_
 refine Qf 6 13 (.bool b1) ?_ ?_
 ·rcases Jl h1 with ⟨hb,h1⟩|⟨hb,h1⟩
  ·refine zS 7 hb ?_
   cases h1
   exact zF
  refine zS 7 hb (zR 3 ?_)
  refine Kl (L:=(a0.Elements:(List Jw))) (by kernel_rfl) ?_
  cases h1
  exact zF
 refine zN (Jc ?_)
 rcases Jl h with ⟨hb,h⟩|⟨hb,h⟩
 ·refine zT hb (Ja (Jg (zE (Jc (Jq (Jn ?_))))))
  cases h
  exact zQ
 refine zU hb (Jk (Jc (Ja (Jg (zR 3 ?_)))))
 obtain ⟨x2,h2,h⟩:=Ji h
 refine zI h2 (zE (Jc (Jq ?_)))
 cases h
 exact zQ
/-! signallingref09.has -/
noncomputable def Nr (a0:(List Int)) (a1:Int):Int→Option (Int⊕(Unit⊕Bool)):=fun x2 =>
 bif decide (x2<((a0.length:Nat):Int)) then (
  (ixO a0 x2).bind fun x4 =>
  bif decide (x4=a1) then (
   some (.inr (.inr true))
  ) else (
   some (.inl (w64 (x2+1)))
  )
 ) else (
  some (.inr (.inl ()))
 )
noncomputable def Ob (a0:(List Int)) (a1:Int):Option Bool :=
 onInl (α:=Unit) (β:=Bool) (Km (Nr a0 a1) 0) fun _ =>
 some false
theorem Jlp (a0:(List Int)) (a1:Int) (r:Bool) (h:Ob a0 a1=some r):Kq Go.Proofs.Tryz.prog GlS 113 [Enc.pv a0,Enc.pv a1] (Enc.pv r):=by
 unfold Ob at h
 refine Js Go.Proofs.Tryz.func113 (by rfl) rfl Go.Proofs.Tryz.ntmps113 (by rfl) rfl ?_
 refine Ja (Jg (zE (Jc (Ja (Ja (Jg (zE (Jc (Jo ?_)))))))))
 obtain ⟨o6,h6,h⟩:=Ko h
 refine Kh 18 0 (fun x2=>⟨[(0,Jp .frozen (a0:(List Int))),(1,.int .i64 a1),(5,.int .i64 x2)],[],[],[]⟩) (fun (_:Unit)=>⟨[],[],[],[]⟩) h6 (by kernel_rfl) (fun _=>by kernel_rfl) ?_ ?_
 ·rintro x2 oh5 h5
  unfold Nr at h5
  refine Ja (Ja (Jg (zR 2 ?_)))
  refine Kl (L:=(a0:(List Int))) (by kernel_rfl) ?_
  refine zE (Jc ?_)
  rcases Jl h5 with ⟨hb,h5⟩|⟨hb,h5⟩
  ·refine zT hb (Jk (Jc (Ja (Jo (Ja (Jg (zR 2 ?_)))))))
   obtain ⟨x4,h7,h5⟩:=Ji h5
   refine zI h7 (zE (Jc ?_))
   rcases Jl h5 with ⟨hb,h5⟩|⟨hb,h5⟩
   ·refine zT hb (Ja (Jg (zE (Jc (Jq (Jr (Jn ?_)))))))
    cases h5
    refine Kf fun he=>?_
    subst he
    have h8:=Qd h
    refine Jr (Jn ?_)
    cases h8
    exact zQ
   refine zU hb (Jk (Kb (Jc (Jg (zE ?_)))))
   cases h5
   exact zB
  refine zU hb (Ka (Jx ?_))
  cases h5
  exact zX
 rintro _ s' rfl hs
 have h:=Kd h
 refine Jv (Jc (Ke hs (Ja (Jg (zE (Jc (Jq ?_)))))))
 cases h
 exact zQ
/-! signallingref09.Sections -/
noncomputable def Zp (a0:Je) (a1:(List Jd)):(Int×(List Int))→Option ((Int×(List Int))⊕((List Int)⊕(List Int))):=fun (x40,x41) =>
 bif decide (x40<((a1.length:Nat):Int)) then (
  onInl (α:=(List Int)) (β:=((Int×(List Int))⊕((List Int)⊕(List Int)))) (
   (ixO a1 x40).bind fun x72 =>
   (Yf a0 x72.El).bind fun r73 =>
   ((bif r73 then (
    (ixO a1 x40).bind fun x75 =>
    (ixO a0.Elements x75.El).bind fun x76 =>
    (Ob x41 x76.Section).bind fun r77 =>
    some (!r77)
   ) else some false):Option Bool).bind fun b74 =>
   bif b74 then (
    (ixO a1 x40).bind fun x78 =>
    (ixO a0.Elements x78.El).bind fun x79 =>
    (Vg x41 [x79.Section]).bind fun x80 =>
    some (.inl x80)
   ) else (
    some (.inl x41)
   )
  ) fun x71 =>
  some (.inl (w64 (x40+1),x71))
 ) else (
  some (.inr (.inl x41))
 )
noncomputable def Wa (a0:Je) (a1:(List Jd)):Option (List Int) :=
 onInl (α:=(List Int)) (β:=(List Int)) (Km (Zp a0 a1) (0,([]:(List Int)))) fun x61 =>
 some x61
theorem Gy (a0:Je) (a1:(List Jd)) (r:(List Int)) (h:Wa a0 a1=some r):Kq Go.Proofs.Tryz.prog GlS 59 [Enc.pv a0,Enc.pv a1] (Jp (.own 100005) r):=by
 unfold Wa at h
 refine Js Go.Proofs.Tryz.func59 (by rfl) rfl Go.Proofs.Tryz.ntmps59 (by rfl) rfl ?_
 refine Ja (Jg (zE (Jc (Ja (Jg (zE (Jc (Ja (Ja (Jg (zE (Jc (Jo ?_)))))))))))))
 refine Cs 5 100005 1 8 (by kernel_rfl) (by kernel_rfl) ?_
 obtain ⟨o59,h59,h⟩:=Ko h
 refine Kh 49 0 (fun (x40,x41)=>⟨[(1,Jp .frozen (a1:(List Jd))),(2,.ref 2 0),(5,Jp (.own 100005) (x41:(List Int))),(6,.int .i64 x40)],[(2,.cells (cellsOf a0))],[(100005,(((x41).map cellsOf).length,1))],[]⟩) (fun x61=>⟨[(5,Jp (.own 100005) (x61:(List Int)))],[],[(100005,(((x61).map cellsOf).length,1))],[]⟩) h59 (by kernel_rfl) (fun _=>by kernel_rfl) ?_ ?_
 ·rintro ⟨x40,x41⟩ oh58 h58
  unfold Zp at h58
  refine Ja (Ja (Jg (zR 2 ?_)))
  refine Kl (L:=(a1:(List Jd))) (by kernel_rfl) ?_
  refine zE (Jc ?_)
  rcases Jl h58 with ⟨hb,h58⟩|⟨hb,h58⟩
  ·refine zT hb (Jk (Jc ?_))
   obtain ⟨o69,h69,h58⟩:=Ko h58
   refine Um (o:=o69) 49 (fun x71=>⟨[(1,Jp .frozen (a1:(List Jd))),(2,.ref 2 0),(5,Jp (.own 100005) (x71:(List Int))),(6,.int .i64 x40)],[(2,.cells (cellsOf a0))],[(100005,(((x71).map cellsOf).length,1))],[]⟩) ?_ ?_
   ·refine Jo (Ja (Qb (by kernel_rfl) (by kernel_rfl) (zR 3 ?_)))
    obtain ⟨x72,h70,h69⟩:=Ji h69
    refine zI h70 (zR 2 ?_)
    obtain ⟨r73,h71,h69⟩:=Ji h69
    refine Jy (Ek _ _ r73 h71) (by kernel_rfl) (by kernel_rfl) ?_
    obtain ⟨b74,h72,h69⟩:=Ji h69
    refine zR 1 ?_
    refine Qf 14 34 (.bool b74) ?_ ?_
    ·rcases Jl h72 with ⟨hb,h72⟩|⟨hb,h72⟩
     ·refine zS 20 hb (zR 5 ?_)
      obtain ⟨x75,h73,h72⟩:=Ji h72
      refine zI h73 (zR 2 ?_)
      obtain ⟨x76,h74,h72⟩:=Ji h72
      refine zI h74 (zR 2 ?_)
      obtain ⟨r77,h75,h72⟩:=Ji h72
      refine Jy (Jlp _ _ r77 h75) (by kernel_rfl) (by kernel_rfl) ?_
      cases h72
      exact zF
     refine zS 20 hb ?_
     cases h72
     exact zF
    refine zN (Jc ?_)
    rcases Jl h69 with ⟨hb,h69⟩|⟨hb,h69⟩
    ·refine zT hb (Qb (by kernel_rfl) (by kernel_rfl) (zR 5 ?_))
     obtain ⟨x78,h76,h69⟩:=Ji h69
     refine zI h76 (zR 2 ?_)
     obtain ⟨x79,h77,h69⟩:=Ji h69
     refine zI h77 (zR 3 ?_)
     obtain ⟨x80,h78,h69⟩:=Ji h69
     refine Vv (tk:=100005) h78 (by kernel_rfl) (by kernel_rfl) ?_
     refine zE (Kb ?_)
     cases h69
     exact zJ
    refine zU hb (Jk (Kb ?_))
    cases h69
    exact zJ
   rintro x71 rfl
   have h58:=Kd h58
   refine Jg (zE ?_)
   cases h58
   exact zB
  refine zU hb (Ka (Jx ?_))
  cases h58
  exact zX
 rintro x61 s' rfl hs
 have h:=Kd h
 refine Jv (Jc (Ke hs (Ja (Jg (zE (Jc (Jq ?_)))))))
 cases h
 exact zQ
theorem Jdt (a0:Je) (a1:(List Jd)) (r:(List Int)) (h:Wa a0 a1=some r):Kq Go.Proofs.Tryz.prog GlS 59 [Enc.pv a0,Enc.pv a1] (Enc.pv r) :=
 (Gy a0 a1 r h).freeze (by kernel_rfl) (by kernel_rfl) (by kernel_rfl)
/-! signallingref12.Fits -/
noncomputable def Fl (a0:Je) (a2:(List Jd)):(Int×Int)→Option ((Int×Int)⊕(Int⊕Bool)):=fun (x17,x18) =>
 bif decide (x18<((a2.length:Nat):Int)) then (
  onInl (α:=Int) (β:=((Int×Int)⊕(Int⊕Bool))) (
   (ixO a2 x18).bind fun x34 =>
   (Vx a0 x34.El).bind fun r35 =>
   (ixO a2 (w64 (x18 - 1))).bind fun x36 =>
   (Vx a0 x36.El).bind fun r37 =>
   bif (!(decide (r35=r37))) then (
    some (.inl (w64 (x17+1)))
   ) else (
    some (.inl x17)
   )
  ) fun x33 =>
  some (.inl (x33,w64 (x18+1)))
 ) else (
  some (.inr (.inl x17))
 )
noncomputable def Gj (a0:Je) (a1:Jj) (a2:(List Jd)):Option Bool :=
 ((bif decide (((a2.length:Nat):Int)=0) then some true else (
  some (decide (12<((a2.length:Nat):Int)))
 )):Option Bool).bind fun b1 =>
 ((bif b1 then some true else (
  (ixO a2 0).bind fun x3 =>
  some (!(decide (x3.El=a1.El)))
 )):Option Bool).bind fun b2 =>
 ((bif b2 then some true else (
  (ixO a2 0).bind fun x5 =>
  some (!(decide (x5.In=a1.Side)))
 )):Option Bool).bind fun b4 =>
 ((bif b4 then some true else (
  (Hl a0 a2).bind fun r7 =>
  some (!r7)
 )):Option Bool).bind fun b6 =>
 bif b6 then (
  some false
 ) else (
  onInl (α:=Int) (β:=Bool) (Km (Fl a0 a2) (1,1)) fun x28 =>
  (Wa a0 a2).bind fun r38 =>
  some (decide (x28=((r38.length:Nat):Int)))
 )
theorem Jjo (a0:Je) (a1:Jj) (a2:(List Jd)) (r:Bool) (h:Gj a0 a1 a2=some r):Kq Go.Proofs.Tryz.prog GlS 127 [Enc.pv a0,Enc.pv a1,Enc.pv a2] (Enc.pv r):=by
 unfold Gj at h
 refine Js Go.Proofs.Tryz.func127 (by rfl) rfl Go.Proofs.Tryz.ntmps127 (by rfl) rfl ?_
 refine Ja (Jg (zE (Jc (Ja (Ja (Qb (by kernel_rfl) (by kernel_rfl) (zR 1 ?_)))))))
 refine Kl (L:=(a2:(List Jd))) (by kernel_rfl) ?_
 obtain ⟨b1,h1,h⟩:=Ji h
 refine zR 2 ?_
 refine Qf 4 16 (.bool b1) ?_ ?_
 ·rcases Jl h1 with ⟨hb,h1⟩|⟨hb,h1⟩
  ·refine zS 12 hb ?_
   cases h1
   exact zF
  refine zS 12 hb (zR 1 ?_)
  refine Kl (L:=(a2:(List Jd))) (by kernel_rfl) ?_
  cases h1
  exact zF
 obtain ⟨b2,h2,h⟩:=Ji h
 refine zR 1 ?_
 refine Qf 8 25 (.bool b2) ?_ ?_
 ·rcases Jl h2 with ⟨hb,h2⟩|⟨hb,h2⟩
  ·refine zS 17 hb ?_
   cases h2
   exact zF
  refine zS 17 hb (zR 1 ?_)
  obtain ⟨x3,h3,h2⟩:=Ji h2
  refine zI h3 ?_
  cases h2
  exact zF
 obtain ⟨b4,h4,h⟩:=Ji h
 refine zR 1 ?_
 refine Qf 8 34 (.bool b4) ?_ ?_
 ·rcases Jl h4 with ⟨hb,h4⟩|⟨hb,h4⟩
  ·refine zS 26 hb ?_
   cases h4
   exact zF
  refine zS 26 hb (zR 1 ?_)
  obtain ⟨x5,h5,h4⟩:=Ji h4
  refine zI h5 ?_
  cases h4
  exact zF
 obtain ⟨b6,h6,h⟩:=Ji h
 refine zR 1 ?_
 refine Qf 5 40 (.bool b6) ?_ ?_
 ·rcases Jl h6 with ⟨hb,h6⟩|⟨hb,h6⟩
  ·refine zS 35 hb ?_
   cases h6
   exact zF
  refine zS 35 hb (zR 2 ?_)
  obtain ⟨r7,h7,h6⟩:=Ji h6
  refine Jy (Jht _ _ r7 h7) (by kernel_rfl) (by kernel_rfl) ?_
  cases h6
  exact zF
 refine zN (Jc ?_)
 rcases Jl h with ⟨hb,h⟩|⟨hb,h⟩
 ·refine zT hb (Ja (Jg (zE (Jc (Jq (Jn ?_))))))
  cases h
  exact zQ
 refine zU hb (Jk (Jc (Ja (Jg (zE (Jc (Ja (Ja (Jg (zE (Jc (Jo ?_))))))))))))
 obtain ⟨o27,h27,h⟩:=Ko h
 refine Kh 71 0 (fun (x17,x18)=>⟨[(2,Jp .frozen (a2:(List Jd))),(3,.ref 3 0),(7,.int .i64 x17),(8,.int .i64 x18)],[(3,.cells (cellsOf a0))],[],[]⟩) (fun x28=>⟨[(2,Jp .frozen (a2:(List Jd))),(3,.ref 3 0),(7,.int .i64 x28)],[(3,.cells (cellsOf a0))],[],[]⟩) h27 (by kernel_rfl) (fun _=>by kernel_rfl) ?_ ?_
 ·rintro ⟨x17,x18⟩ oh26 h26
  unfold Fl at h26
  refine Ja (Ja (Jg (zR 2 ?_)))
  refine Kl (L:=(a2:(List Jd))) (by kernel_rfl) ?_
  refine zE (Jc ?_)
  rcases Jl h26 with ⟨hb,h26⟩|⟨hb,h26⟩
  ·refine zT hb (Jk (Jc ?_))
   obtain ⟨o32,h32,h26⟩:=Ko h26
   refine Um (o:=o32) 71 (fun x33=>⟨[(2,Jp .frozen (a2:(List Jd))),(3,.ref 3 0),(7,.int .i64 x33),(8,.int .i64 x18)],[(3,.cells (cellsOf a0))],[],[]⟩) ?_ ?_
   ·refine Jo (Ja (Qb (by kernel_rfl) (by kernel_rfl) (zR 3 ?_)))
    obtain ⟨x34,h33,h32⟩:=Ji h32
    refine zI h33 (zR 2 ?_)
    obtain ⟨r35,h34,h32⟩:=Ji h32
    refine Jy (Zk _ _ r35 h34) (by kernel_rfl) (by kernel_rfl) (zR 4 ?_)
    obtain ⟨x36,h35,h32⟩:=Ji h32
    refine zI h35 (zR 2 ?_)
    obtain ⟨r37,h36,h32⟩:=Ji h32
    refine Jy (Zk _ _ r37 h36) (by kernel_rfl) (by kernel_rfl) (zE (Jc ?_))
    rcases Jl h32 with ⟨hb,h32⟩|⟨hb,h32⟩
    ·refine zT hb (Jg (zE (Kb ?_)))
     cases h32
     exact zJ
    refine zU hb (Jk (Kb ?_))
    cases h32
    exact zJ
   rintro x33 rfl
   have h26:=Kd h26
   refine Jg (zE ?_)
   cases h26
   exact zB
  refine zU hb (Ka (Jx ?_))
  cases h26
  exact zX
 rintro x28 s' rfl hs
 have h:=Kd h
 refine Jv (Jc (Ke hs (Ja (Jg (zR 3 ?_)))))
 obtain ⟨r38,h37,h⟩:=Ji h
 refine Jy (Gy _ _ r38 h37) (by kernel_rfl) (by kernel_rfl) ?_
 refine Kl (L:=(r38:(List Int))) (by kernel_rfl) ?_
 refine zE (Jc (Jq ?_))
 cases h
 exact zQ
/-! signallingref07.Signal -/
noncomputable def Zf (a0:Je) (a1:Jj):Int→Option (Int⊕(Unit⊕Int)):=fun x2 =>
 bif decide (x2<((a0.Signals.length:Nat):Int)) then (
  (ixO a0.Signals x2).bind fun x4 =>
  bif Ku x4.At a1 then (
   some (.inr (.inr x2))
  ) else (
   some (.inl (w64 (x2+1)))
  )
 ) else (
  some (.inr (.inl ()))
 )
noncomputable def Vu (a0:Je) (a1:Jj):Option Int :=
 onInl (α:=Unit) (β:=Int) (Km (Zf a0 a1) 0) fun _ =>
 some (-1)
theorem Sk (a0:Je) (a1:Jj) (r:Int) (h:Vu a0 a1=some r):Kq Go.Proofs.Tryz.prog GlS 102 [Enc.pv a0,Enc.pv a1] (Enc.pv r):=by
 unfold Vu at h
 refine Js Go.Proofs.Tryz.func102 (by rfl) rfl Go.Proofs.Tryz.ntmps102 (by rfl) rfl ?_
 refine Ja (Jg (zE (Jc (Ja (Ja (Jg (zR 2 ?_)))))))
 refine Kl (L:=(a0.Signals:(List Ki))) (by kernel_rfl) ?_
 refine zE (Jc (Jo ?_))
 obtain ⟨o6,h6,h⟩:=Ko h
 refine Kh 21 0 (fun x2=>⟨[(3,.ref 3 0),(8,Jp .frozen (a0.Signals:(List Ki))),(9,.int .i64 ((a0.Signals.length:Nat):Int)),(10,.int .i64 x2)],[(3,.cells (cellsOf a1))],[],[]⟩) (fun (_:Unit)=>⟨[],[],[],[]⟩) h6 (by kernel_rfl) (fun _=>by kernel_rfl) ?_ ?_
 ·rintro x2 oh5 h5
  unfold Zf at h5
  refine Ja (Jg (zE (Jc (Ja ?_))))
  rcases Jl h5 with ⟨hb,h5⟩|⟨hb,h5⟩
  ·refine zT hb (Jk (Jc (Ja (Jo (Ja (Jg (zR 1 ?_)))))))
   obtain ⟨x4,h7,h5⟩:=Ji h5
   refine zI h7 (zE (Jc (Ja (Jg (zE (Jc ?_))))))
   rcases Jl h5 with ⟨hb,h5⟩|⟨hb,h5⟩
   ·refine zT hb (Ja (Jg (zE (Jc (Jq (Jr (Jn ?_)))))))
    cases h5
    refine Kf fun he=>?_
    subst he
    have h8:=Qd h
    refine Jr (Jn ?_)
    cases h8
    exact zQ
   refine zU hb (Jk (Kb (Jc (Jg (zE ?_)))))
   cases h5
   exact zB
  refine zU hb (Ka (Jx ?_))
  cases h5
  exact zX
 rintro _ s' rfl hs
 have h:=Kd h
 refine Jv (Jc (Ke hs (Ja (Jg (zE (Jc (Jq ?_)))))))
 cases h
 exact zQ
/-! signallingref12.Ends -/
noncomputable def Bm (a0:Je) (a1:Jd):Option (Int×Bool) :=
 (Vu a0 (Jj.mk a1.El a1.Out)).bind fun r1 =>
 (Bd a0 a1).bind fun r2 =>
 some (r1,((decide (0≤r1))||(!r2.2)))
theorem Pm (a0:Je) (a1:Jd) (r:(Int×Bool)) (h:Bm a0 a1=some r):Kq Go.Proofs.Tryz.prog GlS 98 [Enc.pv a0,Enc.pv a1] (.tup [Enc.pv r.1,Enc.pv r.2]):=by
 unfold Bm at h
 refine Js Go.Proofs.Tryz.func98 (by rfl) rfl Go.Proofs.Tryz.ntmps98 (by rfl) rfl ?_
 refine Ja (Jg (zE (Jc (Ja (Jg (zR 6 ?_))))))
 obtain ⟨r1,h1,h⟩:=Ji h
 refine Jy (Sk _ _ r1 h1) (by kernel_rfl) (by kernel_rfl) (zE (Jc (Ja (Jg (zR 2 ?_)))))
 obtain ⟨r2,h2,h⟩:=Ji h
 refine Jy (Ij _ _ r2 h2) (by kernel_rfl) (by kernel_rfl) (zE (Jc (Ja (Jg (zR 4 ?_)))))
 refine Kx 3 28 ((decide (0≤r1))||(!r2.2)) (fun x hx=>?_) ?_
 ·rcases Wx hx with ⟨hb,hx⟩|⟨hb,hx⟩
  ·refine zS 25 hb ?_
   subst hx
   exact zF
  refine zS 25 hb ?_
  subst hx
  exact zF
 refine zE (Jc (Jq ?_))
 cases h
 exact zQ
/-! (*signallingref12.Paths).search -/
noncomputable def Ys (rc_d_ref12_Paths_search:Jz→Je→Jj→Jj→(List Jd)→Option Jz) (a1:Je) (a2:Jj) (a4:(List Jd)) (r1:(List Jd)):(Int×(List (List Jd)))→Option ((Int×(List (List Jd)))⊕((List (List Jd))⊕Jz)):=fun (x23,x24) =>
 bif decide (x23<((r1.length:Nat):Int)) then (
  onInl (α:=(List (List Jd))) (β:=((Int×(List (List Jd)))⊕((List (List Jd))⊕Jz))) (
   (Vg ([]:(List Jd)) a4).bind fun x58 =>
   (ixO r1 x23).bind fun x59 =>
   (Vg x58 [x59]).bind fun x60 =>
   (Gj a1 a2 x60).bind fun r61 =>
   bif (!r61) then (
    some (.inl x24)
   ) else (
    (ixO r1 x23).bind fun x62 =>
    (Bm a1 x62).bind fun r63 =>
    bif r63.2 then (
     (Vg x24 [x60]).bind fun x64 =>
     some (.inl x64)
    ) else (
     (ixO r1 x23).bind fun x65 =>
     (Bd a1 x65).bind fun r66 =>
     (rc_d_ref12_Paths_search (Jz.mk x24) a1 a2 r66.1 x60).bind fun r67 =>
     some (.inl r67.L)
    )
   )
  ) fun x57 =>
  some (.inl (w64 (x23+1),x57))
 ) else (
  some (.inr (.inl x24))
 )
noncomputable def Vj (rc_d_ref12_Paths_search:Jz→Je→Jj→Jj→(List Jd)→Option Jz) (a0:Jz) (a1:Je) (a2:Jj) (a3:Jj) (a4:(List Jd)):Option Jz :=
 (Yz a1 a3).bind fun r1 =>
 onInl (α:=(List (List Jd))) (β:=Jz) (Km (Ys rc_d_ref12_Paths_search a1 a2 a4 r1) (0,a0.L)) fun x46 =>
 some (Jz.mk x46)
theorem Gt (rc_d_ref12_Paths_search:Jz→Je→Jj→Jj→(List Jd)→Option Jz) (hrc_d_ref12_Paths_search:∀ (a0:Jz) (a1:Je) (a2:Jj) (a3:Jj) (a4:(List Jd)) (r:Jz),rc_d_ref12_Paths_search a0 a1 a2 a3 a4=some r→Jnl Go.Proofs.Tryz.prog GlS 97 (some (.cells [.ex 1000000000 1 24 (((a0.L:(List (List Jd))).map cellsOf).length) 0 (((a0.L:(List (List Jd))).map cellsOf).length)])) [(1,24,(a0.L:(List (List Jd))).map cellsOf)] [.ref 1000000 0,Enc.pv a1,Enc.pv a2,Enc.pv a3,Enc.pv a4] (.tup []) (some (.cells [.ex 1000000000 1 24 (((r.L:(List (List Jd))).map cellsOf).length) 0 (((r.L:(List (List Jd))).map cellsOf).length)])) [(1,24,(r.L:(List (List Jd))).map cellsOf)]) (a0:Jz) (a1:Je) (a2:Jj) (a3:Jj) (a4:(List Jd)) (r:Jz) (h:Vj rc_d_ref12_Paths_search a0 a1 a2 a3 a4=some r):Jnl Go.Proofs.Tryz.prog GlS 97 (some (.cells [.ex 1000000000 1 24 (((a0.L:(List (List Jd))).map cellsOf).length) 0 (((a0.L:(List (List Jd))).map cellsOf).length)])) [(1,24,(a0.L:(List (List Jd))).map cellsOf)] [.ref 1000000 0,Enc.pv a1,Enc.pv a2,Enc.pv a3,Enc.pv a4] (.tup []) (some (.cells [.ex 1000000000 1 24 (((r.L:(List (List Jd))).map cellsOf).length) 0 (((r.L:(List (List Jd))).map cellsOf).length)])) [(1,24,(r.L:(List (List Jd))).map cellsOf)]:=by
 unfold Vj at h
 refine Jqi Go.Proofs.Tryz.func97 (by rfl) rfl Go.Proofs.Tryz.ntmps97 (by rfl) rfl rfl (of_decide_eq_true rfl) (by kernel_rfl) ?_
 refine Ja (Jg (zE (Jc (Ja (Jg (zR 2 ?_))))))
 obtain ⟨r1,h1,h⟩:=Ji h
 refine Jy (Pt _ _ r1 h1) (by kernel_rfl) (by kernel_rfl) (zE (Jc (Ja (Jg (zE (Jc (Jo ?_)))))))
 obtain ⟨o45,h45,h⟩:=Ko h
 refine Kh 76 0 (fun (x23,x24)=>⟨[(0,.ref 1000000 0),(4,Jp .frozen (a4:(List Jd))),(6,.ref 6 0),(7,.ref 7 0),(10,Jp (.own 119006) (r1:(List Jd))),(11,.int .i64 x23)],[(6,.cells (cellsOf a1)),(7,.cells (cellsOf a2)),(1000000,.cells ([.ex 1000000000 1 24 (((x24:(List (List Jd))).map cellsOf).length) 0 (((x24:(List (List Jd))).map cellsOf).length)]))],[(119006,(((r1).map cellsOf).length,3)),(1000000000,(((x24:(List (List Jd))).map cellsOf).length,0))],[(1000000000,(1,(24,(x24:(List (List Jd))).map cellsOf)))]⟩) (fun x46=>⟨[],[(1000000,.cells ([.ex 1000000000 1 24 (((x46:(List (List Jd))).map cellsOf).length) 0 (((x46:(List (List Jd))).map cellsOf).length)]))],[(1000000000,(((x46:(List (List Jd))).map cellsOf).length,0))],[(1000000000,(1,(24,(x46:(List (List Jd))).map cellsOf)))]⟩) h45 (by kernel_rfl) (fun _=>by kernel_rfl) ?_ ?_
 ·rintro ⟨x23,x24⟩ oh44 h44
  unfold Ys at h44
  refine Ja (Ja (Jg (zR 2 ?_)))
  refine Kl (L:=(r1:(List Jd))) (by kernel_rfl) ?_
  refine zE (Jc ?_)
  rcases Jl h44 with ⟨hb,h44⟩|⟨hb,h44⟩
  ·refine zT hb (Jk (Jc ?_))
   obtain ⟨o56,h56,h44⟩:=Ko h44
   refine Um (o:=o56) 76 (fun x57=>⟨[(0,.ref 1000000 0),(4,Jp .frozen (a4:(List Jd))),(6,.ref 6 0),(7,.ref 7 0),(10,Jp (.own 119006) (r1:(List Jd))),(11,.int .i64 x23)],[(6,.cells (cellsOf a1)),(7,.cells (cellsOf a2)),(1000000,.cells ([.ex 1000000000 1 24 (((x57:(List (List Jd))).map cellsOf).length) 0 (((x57:(List (List Jd))).map cellsOf).length)]))],[(119006,(((r1).map cellsOf).length,3)),(1000000000,(((x57:(List (List Jd))).map cellsOf).length,0))],[(1000000000,(1,(24,(x57:(List (List Jd))).map cellsOf)))]⟩) ?_ ?_
   ·refine Jo (Ja (Jg (zE (Jc (Ja (Jg (zR 2 ?_)))))))
    obtain ⟨x58,h57,h56⟩:=Ji h56
    refine Jcl (tk:=28) h57 (by kernel_rfl) ?_
    refine zE (Jc (Ja (Jg (zR 3 ?_))))
    obtain ⟨x59,h58,h56⟩:=Ji h56
    refine zI h58 (zR 2 ?_)
    obtain ⟨x60,h59,h56⟩:=Ji h56
    refine Vv (tk:=28) h59 (by kernel_rfl) (by kernel_rfl) ?_
    refine zE (Jc (Ja (Ja (Jg (zR 3 ?_)))))
    obtain ⟨r61,h60,h56⟩:=Ji h56
    refine Jy (Jjo _ _ _ r61 h60) (by kernel_rfl) (by kernel_rfl) (zE (Jc ?_))
    rcases Jl h56 with ⟨hb,h56⟩|⟨hb,h56⟩
    ·refine zT hb (Ka (Jx (Jv ?_)))
     cases h56
     exact zJ
    refine zU hb (Jk (Jc (Ja (Qb (by kernel_rfl) (by kernel_rfl) (zR 3 ?_)))))
    obtain ⟨x62,h61,h56⟩:=Ji h56
    refine zI h61 (zR 1 ?_)
    obtain ⟨r63,h62,h56⟩:=Ji h56
    refine Jy (Pm _ _ r63 h62) (by kernel_rfl) (by kernel_rfl) (zE (Jc (Ja (Ja (Jg (zE (Jc ?_)))))))
    rcases Jl h56 with ⟨hb,h56⟩|⟨hb,h56⟩
    ·refine zT hb (Ja (Jg (zR 7 ?_)))
     obtain ⟨x64,h63,h56⟩:=Ji h56
     refine Jyx (tk:=1000000000) (N:=((x24:(List (List Jd))).map cellsOf).length) h63 (by kernel_rfl) (by kernel_rfl) (by kernel_rfl) ?_
     refine zE (Jc (Ka (Jx (Jv ?_))))
     cases h56
     exact zJ
    refine zU hb (Jk (Jc (Ja (Qb (by kernel_rfl) (by kernel_rfl) (zR 3 ?_)))))
    obtain ⟨x65,h64,h56⟩:=Ji h56
    refine zI h64 (zR 1 ?_)
    obtain ⟨r66,h65,h56⟩:=Ji h56
    refine Jy (Ij _ _ r66 h65) (by kernel_rfl) (by kernel_rfl) (zE (Jc (Jg (zR 5 ?_))))
    obtain ⟨r67,h66,h56⟩:=Ji h56
    refine Jvb (some 1000000) [1000000000] [] none (hrc_d_ref12_Paths_search _ _ _ _ _ r67 h66) (by kernel_rfl) (by kernel_rfl) (by kernel_rfl) (by kernel_rfl) (by kernel_rfl) ?_
    refine zN (Kb ?_)
    cases h56
    exact zJ
   rintro x57 rfl
   have h44:=Kd h44
   refine Jg (zE ?_)
   cases h44
   exact zB
  refine zU hb (Ka (Jx ?_))
  cases h44
  exact zX
 rintro x46 s' rfl hs
 have h:=Kd h
 refine Jv ?_
 cases h
 exact Jyh hs (by kernel_rfl) (by kernel_rfl) (by kernel_rfl)
noncomputable def Vm (n:Nat):Jz→Je→Jj→Jj→(List Jd)→Option Jz:=Nat.rec (fun _ _ _ _ _=>none) (fun _ ih=>Vj ih) n
theorem Gs : ∀ (n:Nat) (a0:Jz) (a1:Je) (a2:Jj) (a3:Jj) (a4:(List Jd)) (r:Jz),Vm n a0 a1 a2 a3 a4=some r→Jnl Go.Proofs.Tryz.prog GlS 97 (some (.cells [.ex 1000000000 1 24 (((a0.L:(List (List Jd))).map cellsOf).length) 0 (((a0.L:(List (List Jd))).map cellsOf).length)])) [(1,24,(a0.L:(List (List Jd))).map cellsOf)] [.ref 1000000 0,Enc.pv a1,Enc.pv a2,Enc.pv a3,Enc.pv a4] (.tup []) (some (.cells [.ex 1000000000 1 24 (((r.L:(List (List Jd))).map cellsOf).length) 0 (((r.L:(List (List Jd))).map cellsOf).length)])) [(1,24,(r.L:(List (List Jd))).map cellsOf)]
 | 0,_,_,_,_,_,_,h=>by cases h
 | n+1,a0,a1,a2,a3,a4,r,h=>Gt (Vm n) (Gs n) a0 a1 a2 a3 a4 r h
noncomputable def Fd (a0:Jz) (a1:Je) (a2:Jj) (a3:Jj) (a4:(List Jd)):Option Jz:=Vj (Vm Nl) a0 a1 a2 a3 a4
theorem Xk (a0:Jz) (a1:Je) (a2:Jj) (a3:Jj) (a4:(List Jd)) (r:Jz) (h:Fd a0 a1 a2 a3 a4=some r):Jnl Go.Proofs.Tryz.prog GlS 97 (some (.cells [.ex 1000000000 1 24 (((a0.L:(List (List Jd))).map cellsOf).length) 0 (((a0.L:(List (List Jd))).map cellsOf).length)])) [(1,24,(a0.L:(List (List Jd))).map cellsOf)] [.ref 1000000 0,Enc.pv a1,Enc.pv a2,Enc.pv a3,Enc.pv a4] (.tup []) (some (.cells [.ex 1000000000 1 24 (((r.L:(List (List Jd))).map cellsOf).length) 0 (((r.L:(List (List Jd))).map cellsOf).length)])) [(1,24,(r.L:(List (List Jd))).map cellsOf)]:=Gt (Vm Nl) (Gs Nl) a0 a1 a2 a3 a4 r h
/-! signallingref12.text -/
noncomputable def Wm (a0:Je) (a1:Int) (a2:Int):Option ByteArray :=
 bif decide (a2<0) then (
  (ixO a0.Signals a1).bind fun x1 =>
  (Jea x1.Name (ByteArray.mk #[45,101,110,100])).bind fun x2 =>
  some x2
 ) else (
  (ixO a0.Signals a1).bind fun x3 =>
  (Jea x3.Name (ByteArray.mk #[45])).bind fun x4 =>
  (ixO a0.Signals a2).bind fun x5 =>
  (Jea x4 x5.Name).bind fun x6 =>
  some x6
 )
theorem Pb (a0:Je) (a1:Int) (a2:Int) (r:ByteArray) (h:Wm a0 a1 a2=some r):Kq Go.Proofs.Tryz.prog GlS 99 [Enc.pv a0,Enc.pv a1,Enc.pv a2] (Enc.pv r):=by
 unfold Wm at h
 refine Js Go.Proofs.Tryz.func99 (by rfl) rfl Go.Proofs.Tryz.ntmps99 (by rfl) rfl ?_
 refine Ja (Jg (zE (Jc (Ja (Ja (Jg (zE (Jc ?_))))))))
 rcases Jl h with ⟨hb,h⟩|⟨hb,h⟩
 ·refine zT hb (Ja (Jg (zR 3 ?_)))
  obtain ⟨x1,h1,h⟩:=Ji h
  refine zI h1 (zR 2 ?_)
  obtain ⟨x2,h2,h⟩:=Ji h
  refine Jib h2 (by kernel_rfl) (zE (Jc (Jq (Jn ?_))))
  cases h
  exact zQ
 refine zU hb (Jk (Jc (Ja (Qb (by kernel_rfl) (by kernel_rfl) (zR 3 ?_)))))
 obtain ⟨x3,h3,h⟩:=Ji h
 refine zI h3 (zR 2 ?_)
 obtain ⟨x4,h4,h⟩:=Ji h
 refine Jib h4 (by kernel_rfl) (zR 3 ?_)
 obtain ⟨x5,h5,h⟩:=Ji h
 refine zI h5 (zR 2 ?_)
 obtain ⟨x6,h6,h⟩:=Ji h
 refine Jib h6 (by kernel_rfl) (zE (Jc (Jq ?_)))
 cases h
 exact zQ
/-! signallingref09.insert -/
noncomputable def Gi (a0:(List Jh)) (a1:Jh):(Int×(List Jh))→Option ((Int×(List Jh))⊕(((List Jh)×Int)⊕(List Jh))):=fun (x18,x19) =>
 ((bif decide (x18<((a0.length:Nat):Int)) then (
  (ixO a0 x18).bind fun x31 =>
  ((bif decide (x31.El<a1.El) then some true else (
   (ixO a0 x18).bind fun x33 =>
   ((bif decide (x33.El=a1.El) then (
    (ixO a0 x18).bind fun x35 =>
    some (decide (x35.Pos<a1.Pos))
   ) else some false):Option Bool).bind fun b34 =>
   some b34
  )):Option Bool).bind fun b32 =>
  some b32
 ) else some false):Option Bool).bind fun b30 =>
 bif b30 then (
  (ixO a0 x18).bind fun x36 =>
  (Vg x19 [x36]).bind fun x37 =>
  some (.inl (w64 (x18+1),x37))
 ) else (
  some (.inr (.inl (x19,x18)))
 )
noncomputable def Fj (a0:(List Jh)) (a1:Jh):Option (List Jh) :=
 onInl (α:=((List Jh)×Int)) (β:=(List Jh)) (Km (Gi a0 a1) (0,([]:(List Jh)))) fun (x28,x29) =>
 onInl (α:=(List Jh)) (β:=(List Jh)) (
  ((bif decide (x29=((a0.length:Nat):Int)) then some true else (
   (ixO a0 x29).bind fun x43 =>
   some (!(Wd x43 a1))
  )):Option Bool).bind fun b42 =>
  bif b42 then (
   (Vg x28 [a1]).bind fun x44 =>
   some (.inl x44)
  ) else (
   some (.inl x28)
  )
 ) fun x41 =>
 (slO a0 (some x29) none none).bind fun x45 =>
 (Vg x41 x45).bind fun x46 =>
 some x46
theorem Jgf (a0:(List Jh)) (a1:Jh) (r:(List Jh)) (h:Fj a0 a1=some r):Kq Go.Proofs.Tryz.prog GlS 112 [Enc.pv a0,Enc.pv a1] (Jp (.own 100005) r):=by
 unfold Fj at h
 refine Js Go.Proofs.Tryz.func112 (by rfl) rfl Go.Proofs.Tryz.ntmps112 (by rfl) rfl ?_
 refine Ja (Jg (zE (Jc (Ja (Jg (zE (Jc (Ja (Jg (zE (Jc (Ja (Jo ?_)))))))))))))
 refine Cs 5 100005 2 16 (by kernel_rfl) (by kernel_rfl) ?_
 obtain ⟨o26,h26,h⟩:=Ko h
 refine Kh 72 0 (fun (x18,x19)=>⟨[(0,Jp .frozen (a0:(List Jh))),(3,.ref 3 0),(5,Jp (.own 100005) (x19:(List Jh))),(6,.int .i64 x18)],[(3,.cells (cellsOf a1))],[(100005,(((x19).map cellsOf).length,2))],[]⟩) (fun (x28,x29)=>⟨[(0,Jp .frozen (a0:(List Jh))),(3,.ref 3 0),(5,Jp (.own 100005) (x28:(List Jh))),(6,.int .i64 x29)],[(3,.cells (cellsOf a1))],[(100005,(((x28).map cellsOf).length,2))],[]⟩) h26 (by kernel_rfl) (fun _=>by kernel_rfl) ?_ ?_
 ·rintro ⟨x18,x19⟩ oh25 h25
  unfold Gi at h25
  refine Ja (Ja (Qb (by kernel_rfl) (by kernel_rfl) (zR 2 ?_)))
  refine Kl (L:=(a0:(List Jh))) (by kernel_rfl) ?_
  obtain ⟨b30,h27,h25⟩:=Ji h25
  refine zR 2 ?_
  refine Qf 29 40 (.bool b30) ?_ ?_
  ·rcases Jl h27 with ⟨hb,h27⟩|⟨hb,h27⟩
   ·refine zS 11 hb (zR 2 ?_)
    obtain ⟨x31,h28,h27⟩:=Ji h27
    refine zI h28 ?_
    obtain ⟨b32,h29,h27⟩:=Ji h27
    refine zR 6 ?_
    refine Kad 19 39 (.bool b32) ?_ ?_
    ·rcases Jl h29 with ⟨hb,h29⟩|⟨hb,h29⟩
     ·refine zS 20 hb ?_
      cases h29
      exact zF
     refine zS 20 hb (zR 2 ?_)
     obtain ⟨x33,h30,h29⟩:=Ji h29
     refine zI h30 ?_
     obtain ⟨b34,h31,h29⟩:=Ji h29
     refine zR 6 ?_
     refine Kad 9 38 (.bool b34) ?_ ?_
     ·rcases Jl h31 with ⟨hb,h31⟩|⟨hb,h31⟩
      ·refine zS 29 hb (zR 2 ?_)
       obtain ⟨x35,h32,h31⟩:=Ji h31
       refine zI h32 ?_
       cases h31
       exact zF
      refine zS 29 hb ?_
      cases h31
      exact zF
     cases h29
     exact zF
    cases h27
    exact zF
   refine zS 11 hb ?_
   cases h27
   exact zF
  refine zN (Jc ?_)
  rcases Jl h25 with ⟨hb,h25⟩|⟨hb,h25⟩
  ·refine zT hb (Jk (Jc (Jo (Ja (Jg (zR 3 ?_))))))
   obtain ⟨x36,h33,h25⟩:=Ji h25
   refine zI h33 (zR 2 ?_)
   obtain ⟨x37,h34,h25⟩:=Ji h25
   refine Vv (tk:=100005) h34 (by kernel_rfl) (by kernel_rfl) ?_
   refine zE (Jc (Jg (zE (Kb ?_))))
   cases h25
   exact zB
  refine zU hb (Ka (Jx ?_))
  cases h25
  exact zX
 rintro ⟨x28,x29⟩ s' rfl hs
 have h:=Kd h
 refine Jv (Jc (Ke hs ?_))
 obtain ⟨o38,h38,h⟩:=Ko h
 refine Um (o:=o38) 72 (fun x41=>⟨[(0,Jp .frozen (a0:(List Jh))),(5,Jp (.own 100005) (x41:(List Jh))),(6,.int .i64 x29)],[],[(100005,(((x41).map cellsOf).length,2))],[]⟩) ?_ ?_
 ·refine Ja (Qb (by kernel_rfl) (by kernel_rfl) (zR 2 ?_))
  refine Kl (L:=(a0:(List Jh))) (by kernel_rfl) ?_
  obtain ⟨b42,h39,h38⟩:=Ji h38
  refine zR 2 ?_
  refine Qf 7 61 (.bool b42) ?_ ?_
  ·rcases Jl h39 with ⟨hb,h39⟩|⟨hb,h39⟩
   ·refine zS 54 hb ?_
    cases h39
    exact zF
   refine zS 54 hb (zR 2 ?_)
   obtain ⟨x43,h40,h39⟩:=Ji h39
   refine zI h40 ?_
   cases h39
   exact zF
  refine zN (Jc ?_)
  rcases Jl h38 with ⟨hb,h38⟩|⟨hb,h38⟩
  ·refine zT hb (Jg (zR 3 ?_))
   obtain ⟨x44,h41,h38⟩:=Ji h38
   refine Vv (tk:=100005) h41 (by kernel_rfl) (by kernel_rfl) ?_
   refine zE ?_
   cases h38
   exact zJ
  refine zU hb (Jk ?_)
  cases h38
  exact zJ
 rintro x41 rfl
 have h:=Kd h
 refine Ja (Jg (zR 3 ?_))
 obtain ⟨x45,h42,h⟩:=Ji h
 refine Kea h42 .frozen (by kernel_rfl) (by kernel_rfl) (by kernel_rfl) ?_
 obtain ⟨x46,h43,h⟩:=Ji h
 refine Vv (tk:=100005) h43 (by kernel_rfl) (by kernel_rfl) ?_
 refine zE (Jc (Ja (Jg (zE (Jc (Jq ?_))))))
 cases h
 exact zQ
/-! signallingref09.Settings -/
noncomputable def Zm (a0:Je) (a1:(List Jd)):(Int×(List Jh))→Option ((Int×(List Jh))⊕((List Jh)⊕(List Jh))):=fun (x20,x21) =>
 bif decide (x20<((a1.length:Nat):Int)) then (
  onInl (α:=(List Jh)) (β:=((Int×(List Jh))⊕((List Jh)⊕(List Jh)))) (
   (ixO a1 x20).bind fun x37 =>
   (Gg a0 x37).bind fun r38 =>
   bif (r38.2&&(!(decide (r38.1=0)))) then (
    (ixO a1 x20).bind fun x39 =>
    (Fj x21 (Jh.mk x39.El r38.1)).bind fun r40 =>
    some (.inl r40)
   ) else (
    some (.inl x21)
   )
  ) fun x36 =>
  some (.inl (w64 (x20+1),x36))
 ) else (
  some (.inr (.inl x21))
 )
noncomputable def Yy (a0:Je) (a1:(List Jd)):Option (List Jh) :=
 onInl (α:=(List Jh)) (β:=(List Jh)) (Km (Zm a0 a1) (0,([]:(List Jh)))) fun x31 =>
 some x31
theorem Pq (a0:Je) (a1:(List Jd)) (r:(List Jh)) (h:Yy a0 a1=some r):Kq Go.Proofs.Tryz.prog GlS 58 [Enc.pv a0,Enc.pv a1] (Enc.pv r):=by
 unfold Yy at h
 refine Js Go.Proofs.Tryz.func58 (by rfl) rfl Go.Proofs.Tryz.ntmps58 (by rfl) rfl ?_
 refine Ja (Jg (zE (Jc (Ja (Jg (zE (Jc (Ja (Ja (Jg (zE (Jc (Jo ?_)))))))))))))
 obtain ⟨o29,h29,h⟩:=Ko h
 refine Kh 39 0 (fun (x20,x21)=>⟨[(1,Jp .frozen (a1:(List Jd))),(2,.ref 2 0),(5,Jp .frozen (x21:(List Jh))),(6,.int .i64 x20)],[(2,.cells (cellsOf a0))],[],[]⟩) (fun x31=>⟨[(5,Jp .frozen (x31:(List Jh)))],[],[],[]⟩) h29 (by kernel_rfl) (fun _=>by kernel_rfl) ?_ ?_
 ·rintro ⟨x20,x21⟩ oh28 h28
  unfold Zm at h28
  refine Ja (Ja (Jg (zR 2 ?_)))
  refine Kl (L:=(a1:(List Jd))) (by kernel_rfl) ?_
  refine zE (Jc ?_)
  rcases Jl h28 with ⟨hb,h28⟩|⟨hb,h28⟩
  ·refine zT hb (Jk (Jc ?_))
   obtain ⟨o34,h34,h28⟩:=Ko h28
   refine Um (o:=o34) 39 (fun x36=>⟨[(1,Jp .frozen (a1:(List Jd))),(2,.ref 2 0),(5,Jp .frozen (x36:(List Jh))),(6,.int .i64 x20)],[(2,.cells (cellsOf a0))],[],[]⟩) ?_ ?_
   ·refine Jo (Ja (Qb (by kernel_rfl) (by kernel_rfl) (zR 3 ?_)))
    obtain ⟨x37,h35,h34⟩:=Ji h34
    refine zI h35 (zR 1 ?_)
    obtain ⟨r38,h36,h34⟩:=Ji h34
    refine Jy (Jbc _ _ r38 h36) (by kernel_rfl) (by kernel_rfl) (zE (Jc (Ja (Jg (zR 2 ?_)))))
    refine Kx 3 28 (r38.2&&(!(decide (r38.1=0)))) (fun x hx=>?_) ?_
    ·rcases Wb hx with ⟨hb,hx⟩|⟨hb,hx⟩
     ·refine zS 25 hb ?_
      subst hx
      exact zF
     refine zS 25 hb ?_
     subst hx
     exact zF
    refine zN (Jc ?_)
    rcases Jl h34 with ⟨hb,h34⟩|⟨hb,h34⟩
    ·refine zT hb (Jg (zR 3 ?_))
     obtain ⟨x39,h37,h34⟩:=Ji h34
     refine zI h37 (zR 4 ?_)
     obtain ⟨r40,h38,h34⟩:=Ji h34
     refine Jy (Jgf _ _ r40 h38) (by kernel_rfl) (by kernel_rfl) (zE (Kb ?_))
     cases h34
     exact zJ
    refine zU hb (Jk (Kb ?_))
    cases h34
    exact zJ
   rintro x36 rfl
   have h28:=Kd h28
   refine Jg (zE ?_)
   cases h28
   exact zB
  refine zU hb (Ka (Jx ?_))
  cases h28
  exact zX
 rintro x31 s' rfl hs
 have h:=Kd h
 refine Jv (Jc (Ke hs (Ja (Jg (zE (Jc (Jq ?_)))))))
 cases h
 exact zQ
/-! signallingref09.Length -/
noncomputable def Cg (a0:Je) (a1:(List Jd)):(Int×Int)→Option ((Int×Int)⊕(Int⊕Int)):=fun (x10,x11) =>
 bif decide (x11<((a1.length:Nat):Int)) then (
  onInl (α:=Int) (β:=((Int×Int)⊕(Int⊕Int))) (
   (ixO a1 x11).bind fun x27 =>
   (Yf a0 x27.El).bind fun r28 =>
   bif r28 then (
    (ixO a1 x11).bind fun x29 =>
    (ixO a0.Elements x29.El).bind fun x30 =>
    some (.inl (w64 (x10+x30.Length)))
   ) else (
    some (.inl x10)
   )
  ) fun x26 =>
  some (.inl (x26,w64 (x11+1)))
 ) else (
  some (.inr (.inl x10))
 )
noncomputable def Cb (a0:Je) (a1:(List Jd)):Option Int :=
 onInl (α:=Int) (β:=Int) (Km (Cg a0 a1) (0,0)) fun x21 =>
 some x21
theorem Sz (a0:Je) (a1:(List Jd)) (r:Int) (h:Cb a0 a1=some r):Kq Go.Proofs.Tryz.prog GlS 54 [Enc.pv a0,Enc.pv a1] (Enc.pv r):=by
 unfold Cb at h
 refine Js Go.Proofs.Tryz.func54 (by rfl) rfl Go.Proofs.Tryz.ntmps54 (by rfl) rfl ?_
 refine Ja (Jg (zE (Jc (Ja (Jg (zE (Jc (Ja (Ja (Jg (zE (Jc (Jo ?_)))))))))))))
 obtain ⟨o20,h20,h⟩:=Ko h
 refine Kh 33 0 (fun (x10,x11)=>⟨[(1,Jp .frozen (a1:(List Jd))),(2,.ref 2 0),(5,.int .i64 x10),(6,.int .i64 x11)],[(2,.cells (cellsOf a0))],[],[]⟩) (fun x21=>⟨[(5,.int .i64 x21)],[],[],[]⟩) h20 (by kernel_rfl) (fun _=>by kernel_rfl) ?_ ?_
 ·rintro ⟨x10,x11⟩ oh19 h19
  unfold Cg at h19
  refine Ja (Ja (Jg (zR 2 ?_)))
  refine Kl (L:=(a1:(List Jd))) (by kernel_rfl) ?_
  refine zE (Jc ?_)
  rcases Jl h19 with ⟨hb,h19⟩|⟨hb,h19⟩
  ·refine zT hb (Jk (Jc ?_))
   obtain ⟨o25,h25,h19⟩:=Ko h19
   refine Um (o:=o25) 33 (fun x26=>⟨[(1,Jp .frozen (a1:(List Jd))),(2,.ref 2 0),(5,.int .i64 x26),(6,.int .i64 x11)],[(2,.cells (cellsOf a0))],[],[]⟩) ?_ ?_
   ·refine Jo (Ja (Qb (by kernel_rfl) (by kernel_rfl) (zR 3 ?_)))
    obtain ⟨x27,h26,h25⟩:=Ji h25
    refine zI h26 (zR 2 ?_)
    obtain ⟨r28,h27,h25⟩:=Ji h25
    refine Jy (Ek _ _ r28 h27) (by kernel_rfl) (by kernel_rfl) (zN (Jc ?_))
    rcases Jl h25 with ⟨hb,h25⟩|⟨hb,h25⟩
    ·refine zT hb (Qb (by kernel_rfl) (by kernel_rfl) (zR 5 ?_))
     obtain ⟨x29,h28,h25⟩:=Ji h25
     refine zI h28 (zR 2 ?_)
     obtain ⟨x30,h29,h25⟩:=Ji h25
     refine zI h29 (zE (Kb ?_))
     cases h25
     exact zJ
    refine zU hb (Jk (Kb ?_))
    cases h25
    exact zJ
   rintro x26 rfl
   have h19:=Kd h19
   refine Jg (zE ?_)
   cases h19
   exact zB
  refine zU hb (Ka (Jx ?_))
  cases h19
  exact zX
 rintro x21 s' rfl hs
 have h:=Kd h
 refine Jv (Jc (Ke hs (Ja (Jg (zE (Jc (Jq ?_)))))))
 cases h
 exact zQ
/-! signallingref12.decimal -/
noncomputable def Et : (Int×ByteArray)→Option ((Int×ByteArray)⊕(ByteArray⊕ByteArray)):=fun (x2,x3) =>
 bif decide (0<x2) then (
  (Jea (bytesOf [IntKind.u8.wrap (w64 (48+(x2.tmod 10)))]) x3).bind fun x6 =>
  some (.inl (w64 (x2.tdiv 10),x6))
 ) else (
  some (.inr (.inl x3))
 )
noncomputable def Ym (a0:Int):Option ByteArray :=
 onInl (α:=ByteArray) (β:=ByteArray) (Km (Et) (a0,ByteArray.empty)) fun x5 =>
 some x5
theorem Jef (a0:Int) (r:ByteArray) (h:Ym a0=some r):Kq Go.Proofs.Tryz.prog GlS 100 [Enc.pv a0] (Enc.pv r):=by
 unfold Ym at h
 refine Js Go.Proofs.Tryz.func100 (by rfl) rfl Go.Proofs.Tryz.ntmps100 (by rfl) rfl ?_
 refine Ja (Jg (zE (Jc (Ja (Jg (zE (Jc (Ja (Jo ?_)))))))))
 obtain ⟨o4,h4,h⟩:=Ko h
 refine Kh 17 0 (fun (x2,x3)=>⟨[(0,.int .i64 x2),(3,.str x3)],[],[],[]⟩) (fun x5=>⟨[(3,.str x5)],[],[],[]⟩) h4 (by kernel_rfl) (fun _=>by kernel_rfl) ?_ ?_
 ·rintro ⟨x2,x3⟩ oh3 h3
  unfold Et at h3
  refine Ja (Ja (Jg (zE (Jc ?_))))
  rcases Jl h3 with ⟨hb,h3⟩|⟨hb,h3⟩
  ·refine zT hb (Jk (Jc (Jo (Ja (Jg (zR 5 ?_))))))
   refine Keb (ns:=[IntKind.u8.wrap (w64 (48+(x2.tmod 10)))]) (by kernel_rfl) ?_
   refine zR 1 ?_
   obtain ⟨x6,h5,h3⟩:=Ji h3
   refine Jib h5 (by kernel_rfl) (zE (Jc (Jg (zE (Kb ?_)))))
   cases h3
   exact zB
  refine zU hb (Ka (Jx ?_))
  cases h3
  exact zX
 rintro x5 s' rfl hs
 have h:=Kd h
 refine Jv (Jc (Ke hs (Ja (Jg (zE (Jc (Jq ?_)))))))
 cases h
 exact zQ
/-! signallingref12.From -/
noncomputable def Fg (a0:Je) (a1:Int) (r4:Jz) (x150:Int) (r228:(Int×Bool)):(Int×Int)→Option ((Int×Int)⊕(Int⊕((Int×(List Jm))⊕((List Jm)⊕(List Jm))))):=fun (x252,x253) =>
 bif decide (x253<x150) then (
  onInl (α:=Int) (β:=((Int×Int)⊕(Int⊕((Int×(List Jm))⊕((List Jm)⊕(List Jm)))))) (
   (Fc 0 (((r4.L:(List (List Jd))).map cellsOf).length) x253).bind fun j281 =>
   (Eb r4.L (((r4.L:(List (List Jd))).map cellsOf).length) j281).bind fun x282 =>
   (Fc 0 (((r4.L:(List (List Jd))).map cellsOf).length) x253).bind fun j283 =>
   (Eb r4.L (((r4.L:(List (List Jd))).map cellsOf).length) j283).bind fun x284 =>
   (ixO x282 (w64 (((x284.length:Nat):Int) - 1))).bind fun x285 =>
   (Bm a0 x285).bind fun r286 =>
   (Wm a0 a1 r286.1).bind fun r287 =>
   (Wm a0 a1 r228.1).bind fun r288 =>
   bif decide (r287=r288) then (
    some (.inl (w64 (x252+1)))
   ) else (
    some (.inl x252)
   )
  ) fun x280 =>
  some (.inl (x280,w64 (x253+1)))
 ) else (
  some (.inr (.inl x252))
 )
noncomputable def Mh (a0:Je) (a1:Int) (r4:Jz):(Int×(List Jm))→Option ((Int×(List Jm))⊕((List Jm)⊕(List Jm))):=fun (x150,x151) =>
 bif decide (x150<((((r4.L:(List (List Jd))).map cellsOf).length:Nat):Int)) then (
  (Fc 0 (((r4.L:(List (List Jd))).map cellsOf).length) x150).bind fun j225 =>
  (Eb r4.L (((r4.L:(List (List Jd))).map cellsOf).length) j225).bind fun x226 =>
  (ixO x226 (w64 (((x226.length:Nat):Int) - 1))).bind fun x227 =>
  (Bm a0 x227).bind fun r228 =>
  (Wm a0 a1 r228.1).bind fun r229 =>
  (Yy a0 x226).bind fun r230 =>
  (Wa a0 x226).bind fun r231 =>
  (Cb a0 x226).bind fun r232 =>
  (ixO a0.Signals a1).bind fun x233 =>
  (Vx a0 x233.At.El).bind fun r234 =>
  onInl (α:=Int) (β:=((Int×(List Jm))⊕((List Jm)⊕(List Jm)))) (Km (Fg a0 a1 r4 x150 r228) (1,0)) fun x271 =>
  onInl (α:=ByteArray) (β:=((Int×(List Jm))⊕((List Jm)⊕(List Jm)))) (
   bif decide (1<x271) then (
    (Jea r229 (ByteArray.mk #[46])).bind fun x293 =>
    (Ym x271).bind fun r294 =>
    (Jea x293 r294).bind fun x295 =>
    some (.inl x295)
   ) else (
    some (.inl r229)
   )
  ) fun x292 =>
  (Vg x151 [(Jm.mk x292 a1 r228.1 x226 r230 r231 r234 r232 ([]:(List Jd)) ([]:(List Jh)) ([]:(List Int)) ([]:(List Jh)) ([]:(List Int)) ([]:(List Jj)))]).bind fun x296 =>
  some (.inl (w64 (x150+1),x296))
 ) else (
  some (.inr (.inl x151))
 )
noncomputable def Fs (a0:Je) (a1:Int):Option (List Jm) :=
 ((bif decide (a1<0) then some true else (
  some (decide (((a0.Signals.length:Nat):Int)≤a1))
 )):Option Bool).bind fun b1 =>
 bif b1 then (
  some ([]:(List Jm))
 ) else (
  (ixO a0.Signals a1).bind fun x2 =>
  (Wj a0 x2.At).bind fun r3 =>
  bif (!r3.2) then (
   some ([]:(List Jm))
  ) else (
   (Fd (Jz.mk []) a0 r3.1 r3.1 ([]:(List Jd))).bind fun r4 =>
   onInl (α:=(List Jm)) (β:=(List Jm)) (Km (Mh a0 a1 r4) (0,([]:(List Jm)))) fun x224 =>
   some x224
  )
 )
theorem Jjl (a0:Je) (a1:Int) (r:(List Jm)) (h:Fs a0 a1=some r):Kq Go.Proofs.Tryz.prog GlS 47 [Enc.pv a0,Enc.pv a1] (Jp (.own 100008) r):=by
 unfold Fs at h
 refine Js Go.Proofs.Tryz.func47 (by rfl) rfl Go.Proofs.Tryz.ntmps47 (by rfl) rfl ?_
 refine Ja (Jg (zE (Jc (Ja (Ja (Jg ?_))))))
 obtain ⟨b1,h1,h⟩:=Ji h
 refine zR 3 ?_
 refine Qf 6 26 (.bool b1) ?_ ?_
 ·rcases Jl h1 with ⟨hb,h1⟩|⟨hb,h1⟩
  ·refine zS 20 hb ?_
   cases h1
   exact zF
  refine zS 20 hb (zR 3 ?_)
  refine Kl (L:=(a0.Signals:(List Ki))) (by kernel_rfl) ?_
  cases h1
  exact zF
 refine zN (Jc ?_)
 rcases Jl h with ⟨hb,h⟩|⟨hb,h⟩
 ·refine zT hb (Ja (Jg (zE (Jc (Cs 4 100008 14 264 (by kernel_rfl) (by kernel_rfl) (Jq (Jn ?_)))))))
  cases h
  exact zQ
 refine zU hb (Jk (Jc (Ja (Qb (by kernel_rfl) (by kernel_rfl) (zR 4 ?_)))))
 obtain ⟨x2,h2,h⟩:=Ji h
 refine zI h2 (zR 2 ?_)
 obtain ⟨r3,h3,h⟩:=Ji h
 refine Jy (Bh _ _ r3 h3) (by kernel_rfl) (by kernel_rfl) (zE (Jc (Ja (Ja (Jg (zE (Jc ?_)))))))
 rcases Jl h with ⟨hb,h⟩|⟨hb,h⟩
 ·refine zT hb (Ja (Jg (zE (Jc (Cs 4 100008 14 264 (by kernel_rfl) (by kernel_rfl) (Jq (Jn ?_)))))))
  cases h
  exact zQ
 refine zU hb (Jk (Jc (Ja (Jg (zE (Jc (Ja (Jg (zR 4 ?_)))))))))
 obtain ⟨r4,h4,h⟩:=Ji h
 refine Jvb (some 41) [304600] [(41,0,304600,1,24)] none (Xk _ _ _ _ _ r4 h4) (by kernel_rfl) (by kernel_rfl) (by kernel_rfl) (by kernel_rfl) (by kernel_rfl) ?_
 refine zN (Jc (Ja (Jg (zE (Jc (Ja (Ja (Jg (zE (Jc (Jo (Cs 8 100008 14 264 (by kernel_rfl) (by kernel_rfl) ?_))))))))))))
 obtain ⟨o219,h219,h⟩:=Ko h
 refine Kh 154 0 (fun (x150,x151)=>⟨[(1,.int .i64 a1),(2,.ref 2 0),(7,.ref 41 0),(8,Jp (.own 100008) (x151:(List Jm))),(9,.int .i64 x150)],[(2,.cells (cellsOf a0)),(41,.cells ([.ex 304600 1 24 (((r4.L:(List (List Jd))).map cellsOf).length) 0 (((r4.L:(List (List Jd))).map cellsOf).length)]))],[(100008,(((x151).map cellsOf).length,14)),(304600,(((r4.L:(List (List Jd))).map cellsOf).length,0))],[(304600,(1,(24,(r4.L:(List (List Jd))).map cellsOf)))]⟩) (fun x224=>⟨[(8,Jp (.own 100008) (x224:(List Jm)))],[],[(100008,(((x224).map cellsOf).length,14))],[]⟩) h219 (by kernel_rfl) (fun _=>by kernel_rfl) ?_ ?_
 ·rintro ⟨x150,x151⟩ oh218 h218
  unfold Mh at h218
  refine Ja (Ja (Jg (zE (Jc ?_))))
  rcases Jl h218 with ⟨hb,h218⟩|⟨hb,h218⟩
  ·refine zT hb (Jk (Jc (Ja (Jo (Ja (Jg (zR 5 ?_)))))))
   obtain ⟨j225,h220,h218⟩:=Ji h218
   refine Bw (tk:=304600) (k:=1) (N:=((r4.L:(List (List Jd))).map cellsOf).length) h220 (by kernel_rfl) ?_
   obtain ⟨x226,h221,h218⟩:=Ji h218
   refine Na (L:=(r4.L:(List (List Jd)))) (N:=((r4.L:(List (List Jd))).map cellsOf).length) (j:=j225) (y:=x226) (v:=Jp .frozen (x226:(List Jd))) h221 false 1 0 (by kernel_rfl) (by kernel_rfl) ?_
   refine zE (Jc (Ja (Qb (by kernel_rfl) (by kernel_rfl) (zR 3 ?_))))
   refine Kl (L:=(x226:(List Jd))) (by kernel_rfl) ?_
   refine zR 1 ?_
   obtain ⟨x227,h222,h218⟩:=Ji h218
   refine zI h222 (zR 1 ?_)
   obtain ⟨r228,h223,h218⟩:=Ji h218
   refine Jy (Pm _ _ r228 h223) (by kernel_rfl) (by kernel_rfl) (zE (Jc (Ja (Qb (by kernel_rfl) (by kernel_rfl) (zR 3 ?_)))))
   obtain ⟨r229,h224,h218⟩:=Ji h218
   refine Jy (Pb _ _ _ r229 h224) (by kernel_rfl) (by kernel_rfl) (zR 5 ?_)
   obtain ⟨r230,h225,h218⟩:=Ji h218
   refine Jy (Pq _ _ r230 h225) (by kernel_rfl) (by kernel_rfl) (zR 2 ?_)
   obtain ⟨r231,h226,h218⟩:=Ji h218
   refine Jy (Jdt _ _ r231 h226) (by kernel_rfl) (by kernel_rfl) (zR 2 ?_)
   obtain ⟨r232,h227,h218⟩:=Ji h218
   refine Jy (Sz _ _ r232 h227) (by kernel_rfl) (by kernel_rfl) (zE (Jc (Ja (Qb (by kernel_rfl) (by kernel_rfl) (zR 4 ?_)))))
   obtain ⟨x233,h228,h218⟩:=Ji h218
   refine zI h228 (zR 3 ?_)
   obtain ⟨r234,h229,h218⟩:=Ji h218
   refine Jy (Zk _ _ r234 h229) (by kernel_rfl) (by kernel_rfl) (zE (Jc (Ja (Jg (zE (Jc (Ja (Ja (Jg (zE (Jc (Jo ?_))))))))))))
   obtain ⟨o265,h265,h218⟩:=Ko h218
   refine Kh 154 2 (fun (x252,x253)=>⟨[(1,.int .i64 a1),(2,.ref 2 0),(7,.ref 41 0),(8,Jp (.own 100008) (x151:(List Jm))),(9,.int .i64 x150),(11,.int .i64 r228.1),(13,.ref 13 0),(14,.int .i64 x252),(15,.int .i64 x253)],[(2,.cells (cellsOf a0)),(13,.cells ([.str r229,.int .i64 a1,.int .i64 r228.1,Jp .frozen (x226:(List Jd)),Jp .frozen (r230:(List Jh)),Jp .frozen (r231:(List Int)),.int .i64 r234,.int .i64 r232,.nil,.nil,.nil,.nil,.nil,.nil])),(41,.cells ([.ex 304600 1 24 (((r4.L:(List (List Jd))).map cellsOf).length) 0 (((r4.L:(List (List Jd))).map cellsOf).length)]))],[(100008,(((x151).map cellsOf).length,14)),(304600,(((r4.L:(List (List Jd))).map cellsOf).length,0))],[(304600,(1,(24,(r4.L:(List (List Jd))).map cellsOf)))]⟩) (fun x271=>⟨[(1,.int .i64 a1),(2,.ref 2 0),(7,.ref 41 0),(8,Jp (.own 100008) (x151:(List Jm))),(9,.int .i64 x150),(13,.ref 13 0),(14,.int .i64 x271)],[(2,.cells (cellsOf a0)),(13,.cells ([.str r229,.int .i64 a1,.int .i64 r228.1,Jp .frozen (x226:(List Jd)),Jp .frozen (r230:(List Jh)),Jp .frozen (r231:(List Int)),.int .i64 r234,.int .i64 r232,.nil,.nil,.nil,.nil,.nil,.nil])),(41,.cells ([.ex 304600 1 24 (((r4.L:(List (List Jd))).map cellsOf).length) 0 (((r4.L:(List (List Jd))).map cellsOf).length)]))],[(100008,(((x151).map cellsOf).length,14)),(304600,(((r4.L:(List (List Jd))).map cellsOf).length,0))],[(304600,(1,(24,(r4.L:(List (List Jd))).map cellsOf)))]⟩) h265 (by kernel_rfl) (fun _=>by kernel_rfl) ?_ ?_
   ·rintro ⟨x252,x253⟩ oh264 h264
    unfold Fg at h264
    refine Ja (Ja (Jg (zE (Jc ?_))))
    rcases Jl h264 with ⟨hb,h264⟩|⟨hb,h264⟩
    ·refine zT hb (Jk (Jc ?_))
     obtain ⟨o274,h274,h264⟩:=Ko h264
     refine Um (o:=o274) 154 (fun x280=>⟨[(1,.int .i64 a1),(2,.ref 2 0),(7,.ref 41 0),(8,Jp (.own 100008) (x151:(List Jm))),(9,.int .i64 x150),(11,.int .i64 r228.1),(13,.ref 13 0),(14,.int .i64 x280),(15,.int .i64 x253)],[(2,.cells (cellsOf a0)),(13,.cells ([.str r229,.int .i64 a1,.int .i64 r228.1,Jp .frozen (x226:(List Jd)),Jp .frozen (r230:(List Jh)),Jp .frozen (r231:(List Int)),.int .i64 r234,.int .i64 r232,.nil,.nil,.nil,.nil,.nil,.nil])),(41,.cells ([.ex 304600 1 24 (((r4.L:(List (List Jd))).map cellsOf).length) 0 (((r4.L:(List (List Jd))).map cellsOf).length)]))],[(100008,(((x151).map cellsOf).length,14)),(304600,(((r4.L:(List (List Jd))).map cellsOf).length,0))],[(304600,(1,(24,(r4.L:(List (List Jd))).map cellsOf)))]⟩) ?_ ?_
     ·refine Jo (Ja (Qb (by kernel_rfl) (by kernel_rfl) (zR 6 ?_)))
      obtain ⟨j281,h275,h274⟩:=Ji h274
      refine Bw (tk:=304600) (k:=1) (N:=((r4.L:(List (List Jd))).map cellsOf).length) h275 (by kernel_rfl) ?_
      obtain ⟨x282,h276,h274⟩:=Ji h274
      refine Na (L:=(r4.L:(List (List Jd)))) (N:=((r4.L:(List (List Jd))).map cellsOf).length) (j:=j281) (y:=x282) (v:=Jp .frozen (x282:(List Jd))) h276 false 1 0 (by kernel_rfl) (by kernel_rfl) ?_
      refine zR 5 ?_
      obtain ⟨j283,h277,h274⟩:=Ji h274
      refine Bw (tk:=304600) (k:=1) (N:=((r4.L:(List (List Jd))).map cellsOf).length) h277 (by kernel_rfl) ?_
      obtain ⟨x284,h278,h274⟩:=Ji h274
      refine Na (L:=(r4.L:(List (List Jd)))) (N:=((r4.L:(List (List Jd))).map cellsOf).length) (j:=j283) (y:=x284) (v:=Jp .frozen (x284:(List Jd))) h278 false 1 0 (by kernel_rfl) (by kernel_rfl) ?_
      refine Kl (L:=(x284:(List Jd))) (by kernel_rfl) ?_
      refine zR 1 ?_
      obtain ⟨x285,h279,h274⟩:=Ji h274
      refine zI h279 (zR 1 ?_)
      obtain ⟨r286,h280,h274⟩:=Ji h274
      refine Jy (Pm _ _ r286 h280) (by kernel_rfl) (by kernel_rfl) (zE (Jc (Ja (Qb (by kernel_rfl) (by kernel_rfl) (zR 3 ?_)))))
      obtain ⟨r287,h281,h274⟩:=Ji h274
      refine Jy (Pb _ _ _ r287 h281) (by kernel_rfl) (by kernel_rfl) (zR 3 ?_)
      obtain ⟨r288,h282,h274⟩:=Ji h274
      refine Jy (Pb _ _ _ r288 h282) (by kernel_rfl) (by kernel_rfl) (zE (Jc ?_))
      rcases Jl h274 with ⟨hb,h274⟩|⟨hb,h274⟩
      ·refine zT hb (Jg (zE (Kb ?_)))
       cases h274
       exact zJ
      refine zU hb (Jk (Kb ?_))
      cases h274
      exact zJ
     rintro x280 rfl
     have h264:=Kd h264
     refine Jg (zE ?_)
     cases h264
     exact zB
    refine zU hb (Ka (Jx ?_))
    cases h264
    exact zX
   rintro x271 s' rfl hs
   have h218:=Kd h218
   refine Jv (Jc (Ke hs ?_))
   obtain ⟨o286,h286,h218⟩:=Ko h218
   refine Um (o:=o286) 154 (fun x292=>⟨[(1,.int .i64 a1),(2,.ref 2 0),(7,.ref 41 0),(8,Jp (.own 100008) (x151:(List Jm))),(9,.int .i64 x150),(13,.ref 13 0)],[(2,.cells (cellsOf a0)),(13,.cells ([.str x292,.int .i64 a1,.int .i64 r228.1,Jp .frozen (x226:(List Jd)),Jp .frozen (r230:(List Jh)),Jp .frozen (r231:(List Int)),.int .i64 r234,.int .i64 r232,.nil,.nil,.nil,.nil,.nil,.nil])),(41,.cells ([.ex 304600 1 24 (((r4.L:(List (List Jd))).map cellsOf).length) 0 (((r4.L:(List (List Jd))).map cellsOf).length)]))],[(100008,(((x151).map cellsOf).length,14)),(304600,(((r4.L:(List (List Jd))).map cellsOf).length,0))],[(304600,(1,(24,(r4.L:(List (List Jd))).map cellsOf)))]⟩) ?_ ?_
   ·refine Ja (Jg (zE (Jc ?_)))
    rcases Jl h286 with ⟨hb,h286⟩|⟨hb,h286⟩
    ·refine zT hb (Qb (by kernel_rfl) (by kernel_rfl) (zR 2 ?_))
     obtain ⟨x293,h287,h286⟩:=Ji h286
     refine Jib h287 (by kernel_rfl) (zR 1 ?_)
     obtain ⟨r294,h288,h286⟩:=Ji h286
     refine Jy (Jef _ r294 h288) (by kernel_rfl) (by kernel_rfl) ?_
     obtain ⟨x295,h289,h286⟩:=Ji h286
     refine Jib h289 (by kernel_rfl) (zE ?_)
     cases h286
     exact zJ
    refine zU hb (Jk ?_)
    cases h286
    exact zJ
   rintro x292 rfl
   have h218:=Kd h218
   refine Ke (Wkr.of (n:=154) (j:=⟨[(1,.int .i64 a1),(2,.ref 2 0),(7,.ref 41 0),(8,Jp (.own 100008) (x151:(List Jm))),(9,.int .i64 x150),(13,.ref 13 0)],[(2,.cells (cellsOf a0)),(13,.cells ([.str x292,.int .i64 a1,.int .i64 r228.1,Jp .frozen (x226:(List Jd)),Jp .frozen (r230:(List Jh)),Jp .frozen (r231:(List Int)),.int .i64 r234,.int .i64 r232,Jp .frozen (([]:(List Jd)):(List Jd)),Jp .frozen (([]:(List Jh)):(List Jh)),Jp .frozen (([]:(List Int)):(List Int)),Jp .frozen (([]:(List Jh)):(List Jh)),Jp .frozen (([]:(List Int)):(List Int)),Jp .frozen (([]:(List Jj)):(List Jj))])),(41,.cells ([.ex 304600 1 24 (((r4.L:(List (List Jd))).map cellsOf).length) 0 (((r4.L:(List (List Jd))).map cellsOf).length)]))],[(100008,(((x151).map cellsOf).length,14)),(304600,(((r4.L:(List (List Jd))).map cellsOf).length,0))],[(304600,(1,(24,(r4.L:(List (List Jd))).map cellsOf)))]⟩) (by kernel_rfl) (by kernel_rfl)) ?_
   refine Jg (zR 3 ?_)
   obtain ⟨x296,h290,h218⟩:=Ji h218
   refine Vv (tk:=100008) h290 (by kernel_rfl) (by kernel_rfl) ?_
   refine zE (Kb (Jc (Jg (zE ?_))))
   cases h218
   exact zB
  refine zU hb (Ka (Jx ?_))
  cases h218
  exact zX
 rintro x224 s' rfl hs
 have h:=Kd h
 refine Jv (Jc (Ke hs (Ja (Jg (zE (Jc (Jq ?_)))))))
 cases h
 exact zQ
/-! signallingref12.All -/
noncomputable def Nn (a0:Je):(Int×(List Jm))→Option ((Int×(List Jm))⊕((List Jm)⊕((List Jm)×Int))):=fun (x7,x8) =>
 bif decide (x7<((a0.Signals.length:Nat):Int)) then (
  (Fs a0 x7).bind fun r12 =>
  (Vg x8 r12).bind fun x13 =>
  some (.inl (w64 (x7+1),x13))
 ) else (
  some (.inr (.inl x8))
 )
noncomputable def Iz (a0:Je):Option ((List Jm)×Int) :=
 (Br a0).bind fun r1 =>
 bif (!(decide (r1=0))) then (
  some (([]:(List Jm)),r1)
 ) else (
  onInl (α:=(List Jm)) (β:=((List Jm)×Int)) (Km (Nn a0) (0,([]:(List Jm)))) fun x11 =>
  bif decide (48<((x11.length:Nat):Int)) then (
   some (([]:(List Jm)),2)
  ) else (
   some (x11,0)
  )
 )
theorem Jld (a0:Je) (r:((List Jm)×Int)) (h:Iz a0=some r):Kq Go.Proofs.Tryz.prog GlS 19 [Enc.pv a0] (.tup [Enc.pv r.1,Enc.pv r.2]):=by
 unfold Iz at h
 refine Js Go.Proofs.Tryz.func19 (by rfl) rfl Go.Proofs.Tryz.ntmps19 (by rfl) rfl ?_
 refine Ja (Jg (zE (Jc (Ja (Jg (zR 1 ?_))))))
 obtain ⟨r1,h1,h⟩:=Ji h
 refine Jy (Xu _ r1 h1) (by kernel_rfl) (by kernel_rfl) (zE (Jc (Ja (Ja (Jg (zE (Jc ?_)))))))
 rcases Jl h with ⟨hb,h⟩|⟨hb,h⟩
 ·refine zT hb (Ja (Jg (zE (Jc (Jq (Jn ?_))))))
  cases h
  exact zQ
 refine zU hb (Jk (Jc (Ja (Jg (zE (Jc (Ja (Ja (Jg (zE (Jc (Jo (Cs 5 100005 14 264 (by kernel_rfl) (by kernel_rfl) ?_)))))))))))))
 obtain ⟨o9,h9,h⟩:=Ko h
 refine Kh 28 0 (fun (x7,x8)=>⟨[(1,.ref 1 0),(5,Jp (.own 100005) (x8:(List Jm))),(6,.int .i64 x7)],[(1,.cells (cellsOf a0))],[(100005,(((x8).map cellsOf).length,14))],[]⟩) (fun x11=>⟨[(5,Jp (.own 100005) (x11:(List Jm)))],[],[(100005,(((x11).map cellsOf).length,14))],[]⟩) h9 (by kernel_rfl) (fun _=>by kernel_rfl) ?_ ?_
 ·rintro ⟨x7,x8⟩ oh8 h8
  unfold Nn at h8
  refine Ja (Ja (Jg (zR 3 ?_)))
  refine Kl (L:=(a0.Signals:(List Ki))) (by kernel_rfl) ?_
  refine zE (Jc ?_)
  rcases Jl h8 with ⟨hb,h8⟩|⟨hb,h8⟩
  ·refine zT hb (Jk (Jc (Ja (Jo (Jg (zR 3 ?_))))))
   obtain ⟨r12,h10,h8⟩:=Ji h8
   refine Jy (Jjl _ _ r12 h10) (by kernel_rfl) (by kernel_rfl) ?_
   obtain ⟨x13,h11,h8⟩:=Ji h8
   refine Vv (tk:=100005) h11 (by kernel_rfl) (by kernel_rfl) ?_
   refine zE (Kb (Jc (Jg (zE ?_))))
   cases h8
   exact zB
  refine zU hb (Ka (Jx ?_))
  cases h8
  exact zX
 rintro x11 s' rfl hs
 have h:=Kd h
 refine Jv (Jc (Ke hs (Ja (Ja (Jg (zR 1 ?_))))))
 refine Kl (L:=(x11:(List Jm))) (by kernel_rfl) ?_
 refine zE (Jc ?_)
 rcases Jl h with ⟨hb,h⟩|⟨hb,h⟩
 ·refine zT hb (Ja (Jg (zE (Jc (Jq (Jn ?_))))))
  cases h
  exact zQ
 refine zU hb (Jk (Jc (Ja (Jg (zE (Jc (Jq ?_)))))))
 cases h
 exact zQ
/-! signallingref07.Points -/
noncomputable def Fx (a0:Je):(Int×(List Int))→Option ((Int×(List Int))⊕((List Int)⊕(List Int))):=fun (x12,x13) =>
 bif decide (x12<((a0.Elements.length:Nat):Int)) then (
  onInl (α:=(List Int)) (β:=((Int×(List Int))⊕((List Int)⊕(List Int)))) (
   (ixO a0.Elements x12).bind fun x23 =>
   bif decide (x23.Kind=2) then (
    (Vg x13 [x12]).bind fun x24 =>
    some (.inl x24)
   ) else (
    some (.inl x13)
   )
  ) fun x22 =>
  some (.inl (w64 (x12+1),x22))
 ) else (
  some (.inr (.inl x13))
 )
noncomputable def Cf (a0:Je):Option (List Int) :=
 onInl (α:=(List Int)) (β:=(List Int)) (Km (Fx a0) (0,([]:(List Int)))) fun x19 =>
 some x19
theorem Jfy (a0:Je) (r:(List Int)) (h:Cf a0=some r):Kq Go.Proofs.Tryz.prog GlS 20 [Enc.pv a0] (Jp (.own 100003) r):=by
 unfold Cf at h
 refine Js Go.Proofs.Tryz.func20 (by rfl) rfl Go.Proofs.Tryz.ntmps20 (by rfl) rfl ?_
 refine Ja (Jg (zE (Jc (Ja (Jg (zE (Jc (Ja (Ja (Jg (zR 2 ?_)))))))))))
 refine Kl (L:=(a0.Elements:(List Jw))) (by kernel_rfl) ?_
 refine zE (Jc (Jo (Cs 3 100003 1 8 (by kernel_rfl) (by kernel_rfl) ?_)))
 obtain ⟨o17,h17,h⟩:=Ko h
 refine Kh 23 0 (fun (x12,x13)=>⟨[(3,Jp (.own 100003) (x13:(List Int))),(7,Jp .frozen (a0.Elements:(List Jw))),(8,.int .i64 ((a0.Elements.length:Nat):Int)),(9,.int .i64 x12)],[],[(100003,(((x13).map cellsOf).length,1))],[]⟩) (fun x19=>⟨[(3,Jp (.own 100003) (x19:(List Int)))],[],[(100003,(((x19).map cellsOf).length,1))],[]⟩) h17 (by kernel_rfl) (fun _=>by kernel_rfl) ?_ ?_
 ·rintro ⟨x12,x13⟩ oh16 h16
  unfold Fx at h16
  refine Ja (Jg (zE (Jc (Ja ?_))))
  rcases Jl h16 with ⟨hb,h16⟩|⟨hb,h16⟩
  ·refine zT hb (Jk (Jc ?_))
   obtain ⟨o20,h20,h16⟩:=Ko h16
   refine Um (o:=o20) 23 (fun x22=>⟨[(3,Jp (.own 100003) (x22:(List Int))),(7,Jp .frozen (a0.Elements:(List Jw))),(8,.int .i64 ((a0.Elements.length:Nat):Int)),(9,.int .i64 x12)],[],[(100003,(((x22).map cellsOf).length,1))],[]⟩) ?_ ?_
   ·refine Jo (Ja (Jg (zR 1 ?_)))
    obtain ⟨x23,h21,h20⟩:=Ji h20
    refine zI h21 (zE (Jc (Ja (Jg (zE (Jc ?_))))))
    rcases Jl h20 with ⟨hb,h20⟩|⟨hb,h20⟩
    ·refine zT hb (Jg (zR 3 ?_))
     obtain ⟨x24,h22,h20⟩:=Ji h20
     refine Vv (tk:=100003) h22 (by kernel_rfl) (by kernel_rfl) ?_
     refine zE (Kb ?_)
     cases h20
     exact zJ
    refine zU hb (Jk (Kb ?_))
    cases h20
    exact zJ
   rintro x22 rfl
   have h16:=Kd h16
   refine Jg (zE ?_)
   cases h16
   exact zB
  refine zU hb (Ka (Jx ?_))
  cases h16
  exact zX
 rintro x19 s' rfl hs
 have h:=Kd h
 refine Jv (Jc (Ke hs (Ja (Jg (zE (Jc (Jq ?_)))))))
 cases h
 exact zQ
theorem Jf5 (a0:Je) (r:(List Int)) (h:Cf a0=some r):Kq Go.Proofs.Tryz.prog GlS 20 [Enc.pv a0] (Enc.pv r) :=
 (Jfy a0 r h).freeze (by kernel_rfl) (by kernel_rfl) (by kernel_rfl)
/-! signallingref13.exit -/
noncomputable def Gh (a0:Je) (a1:Jm):Option (Ki×Bool) :=
 ((bif decide (a1.Exit<0) then some true else (
  some (decide (((a0.Signals.length:Nat):Int)≤a1.Exit))
 )):Option Bool).bind fun b1 =>
 bif b1 then (
  some ((Ki.mk ByteArray.empty (Jj.mk 0 0) 0),false)
 ) else (
  (ixO a0.Signals a1.Exit).bind fun x2 =>
  some (x2,true)
 )
theorem Jjh (a0:Je) (a1:Jm) (r:(Ki×Bool)) (h:Gh a0 a1=some r):Kq Go.Proofs.Tryz.prog GlS 52 [Enc.pv a0,Enc.pv a1] (.tup [Enc.pv r.1,Enc.pv r.2]):=by
 unfold Gh at h
 refine Js Go.Proofs.Tryz.func52 (by rfl) rfl Go.Proofs.Tryz.ntmps52 (by rfl) rfl ?_
 refine Ja (Jg (zE (Jc (Ja (Ja (Jg ?_))))))
 obtain ⟨b1,h1,h⟩:=Ji h
 refine zR 4 ?_
 refine Qf 7 16 (.bool b1) ?_ ?_
 ·rcases Jl h1 with ⟨hb,h1⟩|⟨hb,h1⟩
  ·refine zS 9 hb ?_
   cases h1
   exact zF
  refine zS 9 hb (zR 4 ?_)
  refine Kl (L:=(a0.Signals:(List Ki))) (by kernel_rfl) ?_
  cases h1
  exact zF
 refine zN (Jc ?_)
 rcases Jl h with ⟨hb,h⟩|⟨hb,h⟩
 ·refine zT hb (Ja (Jg (zE (Jc (Jq (Jn ?_))))))
  cases h
  exact zQ
 refine zU hb (Jk (Jc (Ja (Jg (zR 4 ?_)))))
 obtain ⟨x2,h2,h⟩:=Ji h
 refine zI h2 (zE (Jc (Jq ?_)))
 cases h
 exact zQ
/-! signallingref13.Blocked -/
noncomputable def En (a2:(List Jd)) (a3:Int):Int→Option (Int⊕(Unit⊕Bool)):=fun x2 =>
 bif decide (x2<((a2.length:Nat):Int)) then (
  (ixO a2 x2).bind fun x4 =>
  bif decide (x4.El=a3) then (
   some (.inr (.inr true))
  ) else (
   some (.inl (w64 (x2+1)))
  )
 ) else (
  some (.inr (.inl ()))
 )
noncomputable def Eh (a0:Je) (a1:Jm) (a3:Int):Int→Option (Int⊕(Unit⊕Bool)):=fun x7 =>
 bif decide (x7<((a1.Sections.length:Nat):Int)) then (
  (ixO a1.Sections x7).bind fun x10 =>
  (Vx a0 a3).bind fun r11 =>
  bif decide (x10=r11) then (
   some (.inr (.inr true))
  ) else (
   some (.inl (w64 (x7+1)))
  )
 ) else (
  some (.inr (.inl ()))
 )
noncomputable def Bb (a0:Je) (a1:Jm) (a2:(List Jd)) (a3:Int):Option Bool :=
 onInl (α:=Unit) (β:=Bool) (Km (En a2 a3) 0) fun _ =>
 onInl (α:=Unit) (β:=Bool) (Km (Eh a0 a1 a3) 0) fun _ =>
 some false
theorem Jeq (a0:Je) (a1:Jm) (a2:(List Jd)) (a3:Int) (r:Bool) (h:Bb a0 a1 a2 a3=some r):Kq Go.Proofs.Tryz.prog GlS 55 [Enc.pv a0,Enc.pv a1,Enc.pv a2,Enc.pv a3] (Enc.pv r):=by
 unfold Bb at h
 refine Js Go.Proofs.Tryz.func55 (by rfl) rfl Go.Proofs.Tryz.ntmps55 (by rfl) rfl ?_
 refine Ja (Jg (zE (Jc (Ja (Ja (Jg (zR 1 ?_)))))))
 refine Kl (L:=(a2:(List Jd))) (by kernel_rfl) ?_
 refine zE (Jc (Jo ?_))
 obtain ⟨o6,h6,h⟩:=Ko h
 refine Kh 37 0 (fun x2=>⟨[(3,.int .i64 a3),(4,.ref 4 0),(5,.ref 5 0),(13,Jp .frozen (a2:(List Jd))),(14,.int .i64 ((a2.length:Nat):Int)),(15,.int .i64 x2)],[(4,.cells (cellsOf a0)),(5,.cells (cellsOf a1))],[],[]⟩) (fun (_:Unit)=>⟨[(3,.int .i64 a3),(4,.ref 4 0),(5,.ref 5 0)],[(4,.cells (cellsOf a0)),(5,.cells (cellsOf a1))],[],[]⟩) h6 (by kernel_rfl) (fun _=>by kernel_rfl) ?_ ?_
 ·rintro x2 oh5 h5
  unfold En at h5
  refine Ja (Jg (zE (Jc (Ja ?_))))
  rcases Jl h5 with ⟨hb,h5⟩|⟨hb,h5⟩
  ·refine zT hb (Jk (Jc (Ja (Jo (Ja (Jg ?_))))))
   obtain ⟨x4,h7,h5⟩:=Ji h5
   refine zI h7 (zE (Jc (Ja (Jg (zE (Jc ?_))))))
   rcases Jl h5 with ⟨hb,h5⟩|⟨hb,h5⟩
   ·refine zT hb (Ja (Jg (zE (Jc (Jq (Jr (Jn ?_)))))))
    cases h5
    refine Kf fun he=>?_
    subst he
    have h8:=Qd h
    refine Jr (Jn ?_)
    cases h8
    exact zQ
   refine zU hb (Jk (Kb (Jc (Jg (zE ?_)))))
   cases h5
   exact zB
  refine zU hb (Ka (Jx ?_))
  cases h5
  exact zX
 rintro _ s' rfl hs
 have h:=Kd h
 refine Jv (Jc (Ke hs (Ja (Ja (Jg (zR 2 ?_))))))
 refine Kl (L:=(a1.Sections:(List Int))) (by kernel_rfl) ?_
 refine zE (Jc (Jo ?_))
 obtain ⟨o16,h16,h⟩:=Ko h
 refine Kh 37 2 (fun x7=>⟨[(3,.int .i64 a3),(4,.ref 4 0),(25,Jp .frozen (a1.Sections:(List Int))),(26,.int .i64 ((a1.Sections.length:Nat):Int)),(27,.int .i64 x7)],[(4,.cells (cellsOf a0))],[],[]⟩) (fun (_:Unit)=>⟨[],[],[],[]⟩) h16 (by kernel_rfl) (fun _=>by kernel_rfl) ?_ ?_
 ·rintro x7 oh15 h15
  unfold Eh at h15
  refine Ja (Jg (zE (Jc (Ja ?_))))
  rcases Jl h15 with ⟨hb,h15⟩|⟨hb,h15⟩
  ·refine zT hb (Jk (Jc (Ja (Jo (Ja (Jg ?_))))))
   obtain ⟨x10,h17,h15⟩:=Ji h15
   refine zI h17 (zE (Jc (Ja (Jg (zR 3 ?_)))))
   obtain ⟨r11,h18,h15⟩:=Ji h15
   refine Jy (Zk _ _ r11 h18) (by kernel_rfl) (by kernel_rfl) (zE (Jc ?_))
   rcases Jl h15 with ⟨hb,h15⟩|⟨hb,h15⟩
   ·refine zT hb (Ja (Jg (zE (Jc (Jq (Jr (Jn ?_)))))))
    cases h15
    refine Kf fun he=>?_
    subst he
    have h19:=Qd h
    refine Jr (Jn ?_)
    cases h19
    exact zQ
   refine zU hb (Jk (Kb (Jc (Jg (zE ?_)))))
   cases h15
   exact zB
  refine zU hb (Ka (Jx ?_))
  cases h15
  exact zX
 rintro _ s' rfl hs
 have h:=Kd h
 refine Jv (Jc (Ke hs (Ja (Jg (zE (Jc (Jq ?_)))))))
 cases h
 exact zQ
/-! signallingref13.Find -/
noncomputable def Mm (a0:Je) (a1:Jm) (r1:(Ki×Bool)):(Bool×Jj×(List Jd))→Option ((Bool×Jj×(List Jd))⊕((List Jd)⊕Jm)):=fun (x24,x25,x26) =>
 ((bif x24 then (
  (Cb a0 x26).bind fun r39 =>
  some (decide (r39<r1.1.Overlap))
 ) else some false):Option Bool).bind fun b38 =>
 ((bif b38 then (
  some (decide (((x26.length:Nat):Int)<12))
 ) else some false):Option Bool).bind fun b40 =>
 ((bif b40 then (
  (Bb a0 (Jm.mk a1.Name a1.Entry a1.Exit a1.Path a1.Points a1.Sections a1.Approach a1.Length x26 [] [] a1.Flank a1.Guards a1.Gaps) x26 x25.El).bind fun r42 =>
  some (!r42)
 ) else some false):Option Bool).bind fun b41 =>
 bif b41 then (
  (Yz a0 x25).bind fun r43 =>
  bif decide (((r43.length:Nat):Int)=0) then (
   some (.inr (.inl x26))
  ) else (
   (ixO r43 0).bind fun x44 =>
   (Vg x26 [x44]).bind fun x45 =>
   (ixO r43 0).bind fun x46 =>
   (Bd a0 x46).bind fun r47 =>
   some (.inl (r47.2,r47.1,x45))
  )
 ) else (
  some (.inr (.inl x26))
 )
noncomputable def Gn (a0:Je) (a1:Jm):Option Jm :=
 (Gh a0 (Jm.mk a1.Name a1.Entry a1.Exit a1.Path a1.Points a1.Sections a1.Approach a1.Length [] [] [] a1.Flank a1.Guards a1.Gaps)).bind fun r1 =>
 bif (!r1.2) then (
  some (Jm.mk a1.Name a1.Entry a1.Exit a1.Path a1.Points a1.Sections a1.Approach a1.Length [] [] [] a1.Flank a1.Guards a1.Gaps)
 ) else (
  (Wj a0 r1.1.At).bind fun r2 =>
  onInl (α:=(List Jd)) (β:=Jm) (Km (Mm a0 a1 r1) (r2.2,r2.1,([]:(List Jd)))) fun x37 =>
  (Yy a0 x37).bind fun r48 =>
  (Wa a0 x37).bind fun r49 =>
  some (Jm.mk a1.Name a1.Entry a1.Exit a1.Path a1.Points a1.Sections a1.Approach a1.Length x37 r48 r49 a1.Flank a1.Guards a1.Gaps)
 )
theorem Ji8 (a0:Je) (a1:Jm) (r:Jm) (h:Gn a0 a1=some r):Kq Go.Proofs.Tryz.prog GlS 22 [Enc.pv a0,Enc.pv a1] (Enc.pv r):=by
 unfold Gn at h
 refine Js Go.Proofs.Tryz.func22 (by rfl) rfl Go.Proofs.Tryz.ntmps22 (by rfl) rfl ?_
 refine Ja (Jg (zE (Jc (Ja (Jg (zE (Jc (Ja (Jg (zE (Jc (Ja (Jg (zE ?_))))))))))))))
 refine Jc (Ja (Jg (zR 2 ?_)))
 obtain ⟨r1,h1,h⟩:=Ji h
 refine Jy (Jjh _ _ r1 h1) (by kernel_rfl) (by kernel_rfl) (zE (Jc (Ja (Ja (Jg (zE (Jc ?_)))))))
 rcases Jl h with ⟨hb,h⟩|⟨hb,h⟩
 ·refine zT hb (Ja (Jg (zE (Jc (Jq (Jn ?_))))))
  cases h
  exact zQ
 refine zU hb (Jk (Jc (Ja (Jg (zR 3 ?_)))))
 obtain ⟨r2,h2,h⟩:=Ji h
 refine Jy (Bh _ _ r2 h2) (by kernel_rfl) (by kernel_rfl) (zE (Jc (Ja (Jo ?_))))
 refine Ke (Mu 3 8 200308 3 24 (cs:=[.str a1.Name,.int .i64 a1.Entry,.int .i64 a1.Exit,Jp .frozen (a1.Path:(List Jd)),Jp .frozen (a1.Points:(List Jh)),Jp .frozen (a1.Sections:(List Int)),.int .i64 a1.Approach,.int .i64 a1.Length,.nil,.nil,.nil,Jp .frozen (a1.Flank:(List Jh)),Jp .frozen (a1.Guards:(List Int)),Jp .frozen (a1.Gaps:(List Jj))]) (by kernel_rfl) (by kernel_rfl) (by kernel_rfl)) ?_
 obtain ⟨o33,h33,h⟩:=Ko h
 refine Kh 88 0 (fun (x24,x25,x26)=>⟨[(2,.ref 2 0),(3,.ref 3 0),(4,.ref 4 0),(5,.ref 5 0),(7,.ref 7 0),(8,.bool x24)],[(2,.cells (cellsOf a0)),(3,.cells ([.str a1.Name,.int .i64 a1.Entry,.int .i64 a1.Exit,Jp .frozen (a1.Path:(List Jd)),Jp .frozen (a1.Points:(List Jh)),Jp .frozen (a1.Sections:(List Int)),.int .i64 a1.Approach,.int .i64 a1.Length,Jp (.own 200308) (x26:(List Jd)),.nil,.nil,Jp .frozen (a1.Flank:(List Jh)),Jp .frozen (a1.Guards:(List Int)),Jp .frozen (a1.Gaps:(List Jj))])),(4,.cells ([.str ByteArray.empty,.int .i64 0,.int .i64 0,.nil,.nil,.nil,.int .i64 0,.int .i64 0,.nil,.nil,.nil,.nil,.nil,.nil])),(5,.cells (cellsOf r1.1)),(7,.cells (cellsOf x25))],[(200308,(((x26).map cellsOf).length,3))],[]⟩) (fun x37=>⟨[(2,.ref 2 0),(3,.ref 3 0),(4,.ref 4 0)],[(2,.cells (cellsOf a0)),(3,.cells ([.str a1.Name,.int .i64 a1.Entry,.int .i64 a1.Exit,Jp .frozen (a1.Path:(List Jd)),Jp .frozen (a1.Points:(List Jh)),Jp .frozen (a1.Sections:(List Int)),.int .i64 a1.Approach,.int .i64 a1.Length,Jp (.own 200308) (x37:(List Jd)),.nil,.nil,Jp .frozen (a1.Flank:(List Jh)),Jp .frozen (a1.Guards:(List Int)),Jp .frozen (a1.Gaps:(List Jj))])),(4,.cells ([.str ByteArray.empty,.int .i64 0,.int .i64 0,.nil,.nil,.nil,.int .i64 0,.int .i64 0,.nil,.nil,.nil,.nil,.nil,.nil]))],[(200308,(((x37).map cellsOf).length,3))],[]⟩) h33 (by kernel_rfl) (fun _=>by kernel_rfl) ?_ ?_
 ·rintro ⟨x24,x25,x26⟩ oh32 h32
  unfold Mm at h32
  refine Ja (Ja (Qb (by kernel_rfl) (by kernel_rfl) ?_))
  obtain ⟨b38,h34,h32⟩:=Ji h32
  refine zR 2 ?_
  refine Qf 8 38 (.bool b38) ?_ ?_
  ·rcases Jl h34 with ⟨hb,h34⟩|⟨hb,h34⟩
   ·refine zS 30 hb (zR 3 ?_)
    obtain ⟨r39,h35,h34⟩:=Ji h34
    refine Jy (Sz _ _ r39 h35) (by kernel_rfl) (by kernel_rfl) ?_
    cases h34
    exact zF
   refine zS 30 hb ?_
   cases h34
   exact zF
  obtain ⟨b40,h36,h32⟩:=Ji h32
  refine zR 1 ?_
  refine Qf 5 44 (.bool b40) ?_ ?_
  ·rcases Jl h36 with ⟨hb,h36⟩|⟨hb,h36⟩
   ·refine zS 39 hb (zR 2 ?_)
    refine Kl (L:=(x26:(List Jd))) (by kernel_rfl) ?_
    cases h36
    exact zF
   refine zS 39 hb ?_
   cases h36
   exact zF
  obtain ⟨b41,h37,h32⟩:=Ji h32
  refine zR 1 ?_
  refine Qf 9 54 (.bool b41) ?_ ?_
  ·rcases Jl h37 with ⟨hb,h37⟩|⟨hb,h37⟩
   ·refine zS 45 hb (zR 6 ?_)
    obtain ⟨r42,h38,h37⟩:=Ji h37
    refine Jy (Jeq _ _ _ _ r42 h38) (by kernel_rfl) (by kernel_rfl) ?_
    cases h37
    exact zF
   refine zS 45 hb ?_
   cases h37
   exact zF
  refine zN (Jc ?_)
  rcases Jl h32 with ⟨hb,h32⟩|⟨hb,h32⟩
  ·refine zT hb (Jk (Jc (Jo (Ja (Jg (zR 2 ?_))))))
   obtain ⟨r43,h39,h32⟩:=Ji h32
   refine Jy (Pt _ _ r43 h39) (by kernel_rfl) (by kernel_rfl) (zE (Jc (Ja (Ja (Jg (zR 1 ?_))))))
   refine Kl (L:=(r43:(List Jd))) (by kernel_rfl) ?_
   refine zE (Jc ?_)
   rcases Jl h32 with ⟨hb,h32⟩|⟨hb,h32⟩
   ·refine zT hb (Ka (Jx (Jpg rfl ?_)))
    cases h32
    exact zX
   refine zU hb (Jk (Jc (Ja (Qb (by kernel_rfl) (by kernel_rfl) (zR 3 ?_)))))
   obtain ⟨x44,h40,h32⟩:=Ji h32
   refine zI h40 (zR 2 ?_)
   obtain ⟨x45,h41,h32⟩:=Ji h32
   refine Vv (tk:=200308) h41 (by kernel_rfl) (by kernel_rfl) ?_
   refine zE (Jc (Qb (by kernel_rfl) (by kernel_rfl) (zR 2 ?_)))
   obtain ⟨x46,h42,h32⟩:=Ji h32
   refine zI h42 (zR 1 ?_)
   obtain ⟨r47,h43,h32⟩:=Ji h32
   refine Jy (Ij _ _ r47 h43) (by kernel_rfl) (by kernel_rfl) (zE (Kb ?_))
   cases h32
   exact zB
  refine zU hb (Ka (Jx ?_))
  cases h32
  exact zX
 rintro x37 s' rfl hs
 have h:=Kd h
 refine Jv (Jc (Ke hs (Ja (Jg (zR 3 ?_)))))
 obtain ⟨r48,h44,h⟩:=Ji h
 refine Jy (Pq _ _ r48 h44) (by kernel_rfl) (by kernel_rfl) (zE (Jc (Ja (Jg (zR 3 ?_)))))
 obtain ⟨r49,h45,h⟩:=Ji h
 refine Jy (Gy _ _ r49 h45) (by kernel_rfl) (by kernel_rfl) (zE (Jc (Ja (Jg (zE (Jc (Jq ?_)))))))
 cases h
 exact zQ
end PM
