/-
 Plain functions for the program's functions, and the proofs that the program does them. Printed by den.py.
-/
import Derived.Test.YtmklahiganfdmaaGreatDoorDen3
namespace PM
open Go Go.RowKit
attribute [local irreducible] Qc pwp
/-! signallingref14.Beside -/
noncomputable def Ck (a1:Jd) (x2:Jw) (r3:(Int×Bool)):(Int×(List Jj))→Option ((Int×(List Jj))⊕((List Jj)⊕(List Jj))):=fun (x13,x14) =>
 (Dy x2.Kind).bind fun r20 =>
 bif decide (x13<r20) then (
  onInl (α:=(List Jj)) (β:=((Int×(List Jj))⊕((List Jj)⊕(List Jj)))) (
   bif ((r3.2&&(!(decide (x13=a1.In))))&&(!(decide (x13=a1.Out)))) then (
    (Vg x14 [(Jj.mk a1.El x13)]).bind fun x23 =>
    some (.inl x23)
   ) else (
    some (.inl x14)
   )
  ) fun x22 =>
  some (.inl (w64 (x13+1),x22))
 ) else (
  some (.inr (.inl x14))
 )
noncomputable def Zn (a0:Je) (a1:Jd):Option (List Jj) :=
 ((bif decide (a1.El<0) then some true else (
  some (decide (((a0.Elements.length:Nat):Int)≤a1.El))
 )):Option Bool).bind fun b1 =>
 bif b1 then (
  some ([]:(List Jj))
 ) else (
  (ixO a0.Elements a1.El).bind fun x2 =>
  (Bl x2.Kind a1.In a1.Out).bind fun r3 =>
  onInl (α:=(List Jj)) (β:=(List Jj)) (Km (Ck a1 x2 r3) (0,([]:(List Jj)))) fun x19 =>
  some x19
 )
theorem Jfz (a0:Je) (a1:Jd) (r:(List Jj)) (h:Zn a0 a1=some r):Kq Go.Proofs.Tryz.prog GlS 101 [Enc.pv a0,Enc.pv a1] (Jp (.own 100008) r):=by
 unfold Zn at h
 refine Js Go.Proofs.Tryz.func101 (by rfl) rfl Go.Proofs.Tryz.ntmps101 (by rfl) rfl ?_
 refine Ja (Jg (zE (Jc (Ja (Ja (Jg ?_))))))
 obtain ⟨b1,h1,h⟩:=Ji h
 refine zR 4 ?_
 refine Qf 7 20 (.bool b1) ?_ ?_
 ·rcases Jl h1 with ⟨hb,h1⟩|⟨hb,h1⟩
  ·refine zS 13 hb ?_
   cases h1
   exact zF
  refine zS 13 hb (zR 4 ?_)
  refine Kl (L:=(a0.Elements:(List Jw))) (by kernel_rfl) ?_
  cases h1
  exact zF
 refine zN (Jc ?_)
 rcases Jl h with ⟨hb,h⟩|⟨hb,h⟩
 ·refine zT hb (Ja (Jg (zE (Jc (Cs 4 100008 2 16 (by kernel_rfl) (by kernel_rfl) (Jq (Jn ?_)))))))
  cases h
  exact zQ
 refine zU hb (Jk (Jc (Ja (Jg (zR 4 ?_)))))
 obtain ⟨x2,h2,h⟩:=Ji h
 refine zI h2 (zE (Jc (Ja (Jg (zR 5 ?_)))))
 obtain ⟨r3,h3,h⟩:=Ji h
 refine Jy (Ih _ _ _ r3 h3) (by kernel_rfl) (by kernel_rfl) (zE (Jc (Ja (Jg (zE (Jc (Ja (Ja (Jg (zE (Jc (Jo ?_))))))))))))
 refine Cs 8 100008 2 16 (by kernel_rfl) (by kernel_rfl) ?_
 obtain ⟨o17,h17,h⟩:=Ko h
 refine Kh 64 0 (fun (x13,x14)=>⟨[(3,.ref 3 0),(5,.int .i64 x2.Kind),(7,.bool r3.2),(8,Jp (.own 100008) (x14:(List Jj))),(9,.int .i64 x13)],[(3,.cells (cellsOf a1))],[(100008,(((x14).map cellsOf).length,2))],[]⟩) (fun x19=>⟨[(8,Jp (.own 100008) (x19:(List Jj)))],[],[(100008,(((x19).map cellsOf).length,2))],[]⟩) h17 (by kernel_rfl) (fun _=>by kernel_rfl) ?_ ?_
 ·rintro ⟨x13,x14⟩ oh16 h16
  unfold Ck at h16
  refine Ja (Ja (Jg (zR 2 ?_)))
  obtain ⟨r20,h18,h16⟩:=Ji h16
  refine Jy (Xj _ r20 h18) (by kernel_rfl) (by kernel_rfl) (zE (Jc ?_))
  rcases Jl h16 with ⟨hb,h16⟩|⟨hb,h16⟩
  ·refine zT hb (Jk (Jc ?_))
   obtain ⟨o20,h20,h16⟩:=Ko h16
   refine Um (o:=o20) 64 (fun x22=>⟨[(3,.ref 3 0),(5,.int .i64 x2.Kind),(7,.bool r3.2),(8,Jp (.own 100008) (x22:(List Jj))),(9,.int .i64 x13)],[(3,.cells (cellsOf a1))],[(100008,(((x22).map cellsOf).length,2))],[]⟩) ?_ ?_
   ·refine Jo (Ja (Jg (zR 2 ?_)))
    refine Kx 5 49 (r3.2&&(!(decide (x13=a1.In)))) (fun x hx=>?_) ?_
    ·rcases Wb hx with ⟨hb,hx⟩|⟨hb,hx⟩
     ·refine zS 44 hb ?_
      subst hx
      exact zF
     refine zS 44 hb ?_
     subst hx
     exact zF
    refine zR 1 ?_
    refine Kx 5 55 ((r3.2&&(!(decide (x13=a1.In))))&&(!(decide (x13=a1.Out)))) (fun x hx=>?_) ?_
    ·rcases Wb hx with ⟨hb,hx⟩|⟨hb,hx⟩
     ·refine zS 50 hb ?_
      subst hx
      exact zF
     refine zS 50 hb ?_
     subst hx
     exact zF
    refine zN (Jc ?_)
    rcases Jl h20 with ⟨hb,h20⟩|⟨hb,h20⟩
    ·refine zT hb (Jg (zR 6 ?_))
     obtain ⟨x23,h21,h20⟩:=Ji h20
     refine Vv (tk:=100008) h21 (by kernel_rfl) (by kernel_rfl) ?_
     refine zE (Kb ?_)
     cases h20
     exact zJ
    refine zU hb (Jk (Kb ?_))
    cases h20
    exact zJ
   rintro x22 rfl
   have h16:=Kd h16
   refine Jg (zE ?_)
   cases h16
   exact zB
  refine zU hb (Ka (Jx ?_))
  cases h16
  exact zX
 rintro x19 s' rfl hs
 have h:=Kd h
 refine Jv (Jc (Ke hs (Ja (Jg (zE (Jc (Jq ?_)))))))
 cases h
 exact zQ
theorem Tb (a0:Je) (a1:Jd) (r:(List Jj)) (h:Zn a0 a1=some r):Kq Go.Proofs.Tryz.prog GlS 101 [Enc.pv a0,Enc.pv a1] (Enc.pv r) :=
 (Jfz a0 a1 r h).freeze (by kernel_rfl) (by kernel_rfl) (by kernel_rfl)
/-! signallingref14.Sides -/
noncomputable def Dh (a0:Je) (a1:Jm):(Int×(List Jj))→Option ((Int×(List Jj))⊕((List Jj)⊕(List Jj))):=fun (x8,x9) =>
 bif decide (x8<((a1.Path.length:Nat):Int)) then (
  (ixO a1.Path x8).bind fun x14 =>
  (Zn a0 x14).bind fun r15 =>
  (Vg x9 r15).bind fun x16 =>
  some (.inl (w64 (x8+1),x16))
 ) else (
  some (.inr (.inl x9))
 )
noncomputable def Dp (a0:Je) (a1:Jm):((List Jj)×Int)→Option (((List Jj)×Int)⊕((List Jj)⊕(List Jj))):=fun (x20,x21) =>
 bif decide (x21<((a1.Over.length:Nat):Int)) then (
  (ixO a1.Over x21).bind fun x26 =>
  (Zn a0 x26).bind fun r27 =>
  (Vg x20 r27).bind fun x28 =>
  some (.inl (x28,w64 (x21+1)))
 ) else (
  some (.inr (.inl x20))
 )
noncomputable def Hp (a0:Je) (a1:Jm):Option (List Jj) :=
 onInl (α:=(List Jj)) (β:=(List Jj)) (Km (Dh a0 a1) (0,([]:(List Jj)))) fun x13 =>
 onInl (α:=(List Jj)) (β:=(List Jj)) (Km (Dp a0 a1) (x13,0)) fun x25 =>
 some x25
theorem Jic (a0:Je) (a1:Jm) (r:(List Jj)) (h:Hp a0 a1=some r):Kq Go.Proofs.Tryz.prog GlS 48 [Enc.pv a0,Enc.pv a1] (Jp (.own 100005) r):=by
 unfold Hp at h
 refine Js Go.Proofs.Tryz.func48 (by rfl) rfl Go.Proofs.Tryz.ntmps48 (by rfl) rfl ?_
 refine Ja (Jg (zE (Jc (Ja (Jg (zE (Jc (Ja (Ja (Jg (zE (Jc (Jo ?_)))))))))))))
 refine Cs 5 100005 2 16 (by kernel_rfl) (by kernel_rfl) ?_
 obtain ⟨o11,h11,h⟩:=Ko h
 refine Kh 41 0 (fun (x8,x9)=>⟨[(2,.ref 2 0),(3,.ref 3 0),(5,Jp (.own 100005) (x9:(List Jj))),(6,.int .i64 x8)],[(2,.cells (cellsOf a0)),(3,.cells (cellsOf a1))],[(100005,(((x9).map cellsOf).length,2))],[]⟩) (fun x13=>⟨[(2,.ref 2 0),(3,.ref 3 0),(5,Jp (.own 100005) (x13:(List Jj)))],[(2,.cells (cellsOf a0)),(3,.cells (cellsOf a1))],[(100005,(((x13).map cellsOf).length,2))],[]⟩) h11 (by kernel_rfl) (fun _=>by kernel_rfl) ?_ ?_
 ·rintro ⟨x8,x9⟩ oh10 h10
  unfold Dh at h10
  refine Ja (Ja (Jg (zR 3 ?_)))
  refine Kl (L:=(a1.Path:(List Jd))) (by kernel_rfl) ?_
  refine zE (Jc ?_)
  rcases Jl h10 with ⟨hb,h10⟩|⟨hb,h10⟩
  ·refine zT hb (Jk (Jc (Ja (Jo (Qb (by kernel_rfl) (by kernel_rfl) (zR 5 ?_))))))
   obtain ⟨x14,h12,h10⟩:=Ji h10
   refine zI h12 (zR 1 ?_)
   obtain ⟨r15,h13,h10⟩:=Ji h10
   refine Jy (Tb _ _ r15 h13) (by kernel_rfl) (by kernel_rfl) ?_
   obtain ⟨x16,h14,h10⟩:=Ji h10
   refine Vv (tk:=100005) h14 (by kernel_rfl) (by kernel_rfl) ?_
   refine zE (Kb (Jc (Jg (zE ?_))))
   cases h10
   exact zB
  refine zU hb (Ka (Jx ?_))
  cases h10
  exact zX
 rintro x13 s' rfl hs
 have h:=Kd h
 refine Jv (Jc (Ke hs (Ja (Ja (Jg (zE (Jc (Jo ?_))))))))
 obtain ⟨o22,h22,h⟩:=Ko h
 refine Kh 41 2 (fun (x20,x21)=>⟨[(2,.ref 2 0),(3,.ref 3 0),(5,Jp (.own 100005) (x20:(List Jj))),(7,.int .i64 x21)],[(2,.cells (cellsOf a0)),(3,.cells (cellsOf a1))],[(100005,(((x20).map cellsOf).length,2))],[]⟩) (fun x25=>⟨[(5,Jp (.own 100005) (x25:(List Jj)))],[],[(100005,(((x25).map cellsOf).length,2))],[]⟩) h22 (by kernel_rfl) (fun _=>by kernel_rfl) ?_ ?_
 ·rintro ⟨x20,x21⟩ oh21 h21
  unfold Dp at h21
  refine Ja (Ja (Jg (zR 3 ?_)))
  refine Kl (L:=(a1.Over:(List Jd))) (by kernel_rfl) ?_
  refine zE (Jc ?_)
  rcases Jl h21 with ⟨hb,h21⟩|⟨hb,h21⟩
  ·refine zT hb (Jk (Jc (Ja (Jo (Qb (by kernel_rfl) (by kernel_rfl) (zR 5 ?_))))))
   obtain ⟨x26,h23,h21⟩:=Ji h21
   refine zI h23 (zR 1 ?_)
   obtain ⟨r27,h24,h21⟩:=Ji h21
   refine Jy (Tb _ _ r27 h24) (by kernel_rfl) (by kernel_rfl) ?_
   obtain ⟨x28,h25,h21⟩:=Ji h21
   refine Vv (tk:=100005) h25 (by kernel_rfl) (by kernel_rfl) ?_
   refine zE (Kb (Jc (Jg (zE ?_))))
   cases h21
   exact zB
  refine zU hb (Ka (Jx ?_))
  cases h21
  exact zX
 rintro x25 s' rfl hs
 have h:=Kd h
 refine Jv (Jc (Ke hs (Ja (Jg (zE (Jc (Jq ?_)))))))
 cases h
 exact zQ
/-! signallingref14.over -/
noncomputable def My (a0:(List Jd)) (a1:Int):Int→Option (Int⊕(Unit⊕Bool)):=fun x2 =>
 bif decide (x2<((a0.length:Nat):Int)) then (
  (ixO a0 x2).bind fun x4 =>
  bif decide (x4.El=a1) then (
   some (.inr (.inr true))
  ) else (
   some (.inl (w64 (x2+1)))
  )
 ) else (
  some (.inr (.inl ()))
 )
noncomputable def Yq (a0:(List Jd)) (a1:Int):Option Bool :=
 onInl (α:=Unit) (β:=Bool) (Km (My a0 a1) 0) fun _ =>
 some false
theorem Ja7 (a0:(List Jd)) (a1:Int) (r:Bool) (h:Yq a0 a1=some r):Kq Go.Proofs.Tryz.prog GlS 103 [Enc.pv a0,Enc.pv a1] (Enc.pv r):=by
 unfold Yq at h
 refine Js Go.Proofs.Tryz.func103 (by rfl) rfl Go.Proofs.Tryz.ntmps103 (by rfl) rfl ?_
 refine Ja (Jg (zE (Jc (Ja (Ja (Jg (zE (Jc (Jo ?_)))))))))
 obtain ⟨o6,h6,h⟩:=Ko h
 refine Kh 19 0 (fun x2=>⟨[(0,Jp .frozen (a0:(List Jd))),(1,.int .i64 a1),(5,.int .i64 x2)],[],[],[]⟩) (fun (_:Unit)=>⟨[],[],[],[]⟩) h6 (by kernel_rfl) (fun _=>by kernel_rfl) ?_ ?_
 ·rintro x2 oh5 h5
  unfold My at h5
  refine Ja (Ja (Jg (zR 2 ?_)))
  refine Kl (L:=(a0:(List Jd))) (by kernel_rfl) ?_
  refine zE (Jc ?_)
  rcases Jl h5 with ⟨hb,h5⟩|⟨hb,h5⟩
  ·refine zT hb (Jk (Jc (Ja (Jo (Ja (Jg (zR 2 ?_)))))))
   obtain ⟨x4,h7,h5⟩:=Ji h5
   refine zI h7 (zE (Jc ?_))
   rcases Jl h5 with ⟨hb,h5⟩|⟨hb,h5⟩
   ·refine zT hb (Ja (Jg (zE (Jc (Jq (Jr (Jn ?_)))))))
    cases h5
    refine Kf fun he=>?_
    subst he
    have h8:=Qd h
    refine Jr (Jn ?_)
    cases h8
    exact zQ
   refine zU hb (Jk (Kb (Jc (Jg (zE ?_)))))
   cases h5
   exact zB
  refine zU hb (Ka (Jx ?_))
  cases h5
  exact zX
 rintro _ s' rfl hs
 have h:=Kd h
 refine Jv (Jc (Ke hs (Ja (Jg (zE (Jc (Jq ?_)))))))
 cases h
 exact zQ
/-! signallingref14.has -/
noncomputable def Nt (a0:(List Jh)) (a1:Jh):Int→Option (Int⊕(Unit⊕Bool)):=fun x2 =>
 bif decide (x2<((a0.length:Nat):Int)) then (
  (ixO a0 x2).bind fun x4 =>
  bif Wd x4 a1 then (
   some (.inr (.inr true))
  ) else (
   some (.inl (w64 (x2+1)))
  )
 ) else (
  some (.inr (.inl ()))
 )
noncomputable def Be (a0:(List Jh)) (a1:Jh):Option Bool :=
 onInl (α:=Unit) (β:=Bool) (Km (Nt a0 a1) 0) fun _ =>
 some false
theorem Lm (a0:(List Jh)) (a1:Jh) (r:Bool) (h:Be a0 a1=some r):Kq Go.Proofs.Tryz.prog GlS 106 [Enc.pv a0,Enc.pv a1] (Enc.pv r):=by
 unfold Be at h
 refine Js Go.Proofs.Tryz.func106 (by rfl) rfl Go.Proofs.Tryz.ntmps106 (by rfl) rfl ?_
 refine Ja (Jg (zE (Jc (Ja (Ja (Jg (zE (Jc (Jo ?_)))))))))
 obtain ⟨o6,h6,h⟩:=Ko h
 refine Kh 18 0 (fun x2=>⟨[(0,Jp .frozen (a0:(List Jh))),(3,.ref 3 0),(5,.int .i64 x2)],[(3,.cells (cellsOf a1))],[],[]⟩) (fun (_:Unit)=>⟨[],[],[],[]⟩) h6 (by kernel_rfl) (fun _=>by kernel_rfl) ?_ ?_
 ·rintro x2 oh5 h5
  unfold Nt at h5
  refine Ja (Ja (Jg (zR 2 ?_)))
  refine Kl (L:=(a0:(List Jh))) (by kernel_rfl) ?_
  refine zE (Jc ?_)
  rcases Jl h5 with ⟨hb,h5⟩|⟨hb,h5⟩
  ·refine zT hb (Jk (Jc (Ja (Jo (Ja (Qb (by kernel_rfl) (by kernel_rfl) (zR 2 ?_)))))))
   obtain ⟨x4,h7,h5⟩:=Ji h5
   refine zI h7 (zE (Jc ?_))
   rcases Jl h5 with ⟨hb,h5⟩|⟨hb,h5⟩
   ·refine zT hb (Ja (Jg (zE (Jc (Jq (Jr (Jn ?_)))))))
    cases h5
    refine Kf fun he=>?_
    subst he
    have h8:=Qd h
    refine Jr (Jn ?_)
    cases h8
    exact zQ
   refine zU hb (Jk (Kb (Jc (Jg (zE ?_)))))
   cases h5
   exact zB
  refine zU hb (Ka (Jx ?_))
  cases h5
  exact zX
 rintro _ s' rfl hs
 have h:=Kd h
 refine Jv (Jc (Ke hs (Ja (Jg (zE (Jc (Jq ?_)))))))
 cases h
 exact zQ
/-! signallingref14.needs -/
noncomputable def He (a0:Jm) (a1:Jh):Option Bool :=
 (Be a0.Points a1).bind fun r1 =>
 ((bif r1 then some true else (
  (Be a0.OverPoints a1).bind fun r3 =>
  some r3
 )):Option Bool).bind fun b2 =>
 ((bif b2 then some true else (
  (Be a0.Flank a1).bind fun r5 =>
  some r5
 )):Option Bool).bind fun b4 =>
 some b4
theorem Jh6 (a0:Jm) (a1:Jh) (r:Bool) (h:He a0 a1=some r):Kq Go.Proofs.Tryz.prog GlS 129 [Enc.pv a0,Enc.pv a1] (Enc.pv r):=by
 unfold He at h
 refine Js Go.Proofs.Tryz.func129 (by rfl) rfl Go.Proofs.Tryz.ntmps129 (by rfl) rfl ?_
 refine Ja (Jg (zE (Jc (Ja (Jg (zR 3 ?_))))))
 obtain ⟨r1,h1,h⟩:=Ji h
 refine Jy (Lm _ _ r1 h1) (by kernel_rfl) (by kernel_rfl) ?_
 obtain ⟨b2,h2,h⟩:=Ji h
 refine zR 1 ?_
 refine Qf 5 14 (.bool b2) ?_ ?_
 ·rcases Jl h2 with ⟨hb,h2⟩|⟨hb,h2⟩
  ·refine zS 9 hb ?_
   cases h2
   exact zF
  refine zS 9 hb (zR 3 ?_)
  obtain ⟨r3,h3,h2⟩:=Ji h2
  refine Jy (Lm _ _ r3 h3) (by kernel_rfl) (by kernel_rfl) ?_
  cases h2
  exact zF
 obtain ⟨b4,h4,h⟩:=Ji h
 refine zR 1 ?_
 refine Qf 5 20 (.bool b4) ?_ ?_
 ·rcases Jl h4 with ⟨hb,h4⟩|⟨hb,h4⟩
  ·refine zS 15 hb ?_
   cases h4
   exact zF
  refine zS 15 hb (zR 3 ?_)
  obtain ⟨r5,h5,h4⟩:=Ji h4
  refine Jy (Lm _ _ r5 h5) (by kernel_rfl) (by kernel_rfl) ?_
  cases h4
  exact zF
 refine zE (Jc (Jq ?_))
 cases h
 exact zQ
/-! signallingref14.leg -/
noncomputable def Oe (a0:Jm) (a1:Jj):Option (Jh×Int×Bool) :=
 onInl (α:=(Int×Int)) (β:=(Jh×Int×Bool)) (
  bif decide (a1.Side=2) then (
   some (.inl (2,1))
  ) else (
   some (.inl (1,2))
  )
 ) fun (x1,x2) =>
 (He a0 (Jh.mk a1.El x1)).bind fun r3 =>
 bif r3 then (
  some ((Jh.mk 0 0),(-1),false)
 ) else (
  some ((Jh.mk a1.El x2),(-1),true)
 )
theorem Jkl (a0:Jm) (a1:Jj) (r:(Jh×Int×Bool)) (h:Oe a0 a1=some r):Kq Go.Proofs.Tryz.prog GlS 104 [Enc.pv a0,Enc.pv a1] (.tup [Enc.pv r.1,Enc.pv r.2.1,Enc.pv r.2.2]):=by
 unfold Oe at h
 refine Js Go.Proofs.Tryz.func104 (by rfl) rfl Go.Proofs.Tryz.ntmps104 (by rfl) rfl ?_
 refine Ja (Jg (zE (Jc (Ja (Jg (zE (Jc (Ja (Jg (zE (Jc ?_)))))))))))
 obtain ⟨o1,h1,h⟩:=Ko h
 refine Um (o:=o1) 29 (fun (x1,x2)=>⟨[(2,.ref 2 0),(4,.ref 4 0),(7,.ref 7 0),(8,.ref 8 0)],[(2,.cells (cellsOf a0)),(4,.cells ([.int .i64 0,.int .i64 0])),(7,.cells ([.int .i64 a1.El,.int .i64 x1])),(8,.cells ([.int .i64 a1.El,.int .i64 x2]))],[],[]⟩) ?_ ?_
 ·refine Ja (Jg (zE (Jc ?_)))
  rcases Jl h1 with ⟨hb,h1⟩|⟨hb,h1⟩
  ·refine zT hb (Ja (Jg (zE (Jc (Jg (zE ?_))))))
   cases h1
   exact zJ
  refine zU hb (Jk ?_)
  cases h1
  exact zJ
 rintro ⟨x1,x2⟩ rfl
 have h:=Kd h
 refine Ja (Ja (Jg (zR 2 ?_)))
 obtain ⟨r3,h2,h⟩:=Ji h
 refine Jy (Jh6 _ _ r3 h2) (by kernel_rfl) (by kernel_rfl) (zN (Jc ?_))
 rcases Jl h with ⟨hb,h⟩|⟨hb,h⟩
 ·refine zT hb (Ja (Jg (zE (Jc (Jq (Jn ?_))))))
  cases h
  exact zQ
 refine zU hb (Jk (Jc (Ja (Jg (zE (Jc (Jq ?_)))))))
 cases h
 exact zQ
/-! signallingref06.Out -/
noncomputable def Jd6 (a0:Int) (a1:Int) (a2:Int):Int→Option (Int⊕(Unit⊕(Int×Bool))):=fun x2 =>
 bif decide (x2<4) then (
  (Bl a0 a1 x2).bind fun r4 =>
  bif (r4.2&&((decide (r4.1=0))||(decide (r4.1=a2)))) then (
   some (.inr (.inr (x2,true)))
  ) else (
   some (.inl (w64 (x2+1)))
  )
 ) else (
  some (.inr (.inl ()))
 )
noncomputable def Ss (a0:Int) (a1:Int) (a2:Int):Option (Int×Bool) :=
 onInl (α:=Unit) (β:=(Int×Bool)) (Km (Jd6 a0 a1 a2) 0) fun _ =>
 some (0,false)
theorem Jlk (a0:Int) (a1:Int) (a2:Int) (r:(Int×Bool)) (h:Ss a0 a1 a2=some r):Kq Go.Proofs.Tryz.prog GlS 105 [Enc.pv a0,Enc.pv a1,Enc.pv a2] (.tup [Enc.pv r.1,Enc.pv r.2]):=by
 unfold Ss at h
 refine Js Go.Proofs.Tryz.func105 (by rfl) rfl Go.Proofs.Tryz.ntmps105 (by rfl) rfl ?_
 refine Ja (Jg (zE (Jc (Ja (Ja (Jg (zE (Jc (Jo ?_)))))))))
 obtain ⟨o6,h6,h⟩:=Ko h
 refine Kh 33 0 (fun x2=>⟨[(0,.int .i64 a0),(1,.int .i64 a1),(2,.int .i64 a2),(8,.int .i64 x2)],[],[],[]⟩) (fun (_:Unit)=>⟨[],[],[],[]⟩) h6 (by kernel_rfl) (fun _=>by kernel_rfl) ?_ ?_
 ·rintro x2 oh5 h5
  unfold Jd6 at h5
  refine Ja (Ja (Jg (zE (Jc ?_))))
  rcases Jl h5 with ⟨hb,h5⟩|⟨hb,h5⟩
  ·refine zT hb (Jk (Jc (Ja (Jo (Ja (Jg (zR 3 ?_)))))))
   obtain ⟨r4,h7,h5⟩:=Ji h5
   refine Jy (Ih _ _ _ r4 h7) (by kernel_rfl) (by kernel_rfl) (zE (Jc (Ja (Jg (zR 2 ?_)))))
   refine Kx 8 31 (r4.2&&((decide (r4.1=0))||(decide (r4.1=a2)))) (fun x hx=>?_) ?_
   ·rcases Wb hx with ⟨hb,hx⟩|⟨hb,hx⟩
    ·refine zS 23 hb (zR 3 ?_)
     refine Tv 4 30 ((decide (r4.1=0))||(decide (r4.1=a2))) (fun x hx=>?_) ?_
     ·rcases Wx hx with ⟨hb,hx⟩|⟨hb,hx⟩
      ·refine zS 26 hb ?_
       subst hx
       exact zF
      refine zS 26 hb ?_
      subst hx
      exact zF
     subst hx
     exact zF
    refine zS 23 hb ?_
    subst hx
    exact zF
   refine zN (Jc ?_)
   rcases Jl h5 with ⟨hb,h5⟩|⟨hb,h5⟩
   ·refine zT hb (Ja (Jg (zE (Jc (Jq (Jr (Jn ?_)))))))
    cases h5
    refine Kf fun he=>?_
    subst he
    have h8:=Qd h
    refine Jr (Jn ?_)
    cases h8
    exact zQ
   refine zU hb (Jk (Kb (Jc (Jg (zE ?_)))))
   cases h5
   exact zB
  refine zU hb (Ka (Jx ?_))
  cases h5
  exact zX
 rintro _ s' rfl hs
 have h:=Kd h
 refine Jv (Jc (Ke hs (Ja (Jg (zE (Jc (Jq ?_)))))))
 cases h
 exact zQ
/-! signallingref14.Search -/
noncomputable def Qt (a0:Je) (a1:Jm):(Int×Int×Int)→Option ((Int×Int×Int)⊕(Unit⊕(Jh×Int×Bool))):=fun (x13,x14,x15) =>
 bif decide (x13<4) then (
  (Wj a0 (Jj.mk x14 x15)).bind fun r28 =>
  bif (!r28.2) then (
   some (.inr (.inr ((Jh.mk 0 0),(-1),true)))
  ) else (
   (Vu a0 r28.1).bind fun r29 =>
   bif decide (0≤r29) then (
    some (.inr (.inr ((Jh.mk 0 0),r29,true)))
   ) else (
    (Yq a1.Path r28.1.El).bind fun r30 =>
    ((bif r30 then some true else (
     (Yq a1.Over r28.1.El).bind fun r32 =>
     some r32
    )):Option Bool).bind fun b31 =>
    bif b31 then (
     some (.inr (.inr ((Jh.mk 0 0),(-1),true)))
    ) else (
     ((bif decide (r28.1.El<0) then some true else (
      some (decide (((a0.Elements.length:Nat):Int)≤r28.1.El))
     )):Option Bool).bind fun b33 =>
     ((bif b33 then some true else (
      (ixO a0.Elements r28.1.El).bind fun x35 =>
      some ((decide (x35.Kind=2))&&(decide (r28.1.Side=0)))
     )):Option Bool).bind fun b34 =>
     bif b34 then (
      some (.inr (.inr ((Jh.mk 0 0),(-1),false)))
     ) else (
      (ixO a0.Elements r28.1.El).bind fun x36 =>
      bif decide (x36.Kind=2) then (
       (Oe a1 r28.1).bind fun r37 =>
       some (.inr (.inr (r37.1,r37.2.1,r37.2.2)))
      ) else (
       (ixO a0.Elements r28.1.El).bind fun x38 =>
       (Ss x38.Kind r28.1.Side 0).bind fun r39 =>
       some (.inl (w64 (x13+1),r28.1.El,r39.1))
      )
     )
    )
   )
  )
 ) else (
  some (.inr (.inl ()))
 )
noncomputable def Mr (a0:Je) (a1:Jm) (a2:Jj):Option (Jh×Int×Bool) :=
 onInl (α:=Unit) (β:=(Jh×Int×Bool)) (Km (Qt a0 a1) (0,a2.El,a2.Side)) fun _ =>
 some ((Jh.mk 0 0),(-1),false)
theorem Jfv (a0:Je) (a1:Jm) (a2:Jj) (r:(Jh×Int×Bool)) (h:Mr a0 a1 a2=some r):Kq Go.Proofs.Tryz.prog GlS 49 [Enc.pv a0,Enc.pv a1,Enc.pv a2] (.tup [Enc.pv r.1,Enc.pv r.2.1,Enc.pv r.2.2]):=by
 unfold Mr at h
 refine Js Go.Proofs.Tryz.func49 (by rfl) rfl Go.Proofs.Tryz.ntmps49 (by rfl) rfl ?_
 refine Ja (Jg (zE (Jc (Ja (Ja (Jg (zE (Jc (Jo ?_)))))))))
 obtain ⟨o36,h36,h⟩:=Ko h
 refine Kh 107 0 (fun (x13,x14,x15)=>⟨[(3,.ref 3 0),(4,.ref 4 0),(5,.ref 5 0),(6,.ref 6 0),(9,.int .i64 x13)],[(3,.cells (cellsOf a0)),(4,.cells (cellsOf a1)),(5,.cells ([.int .i64 x14,.int .i64 x15])),(6,.cells ([.int .i64 0,.int .i64 0]))],[],[]⟩) (fun (_:Unit)=>⟨[(6,.ref 6 0)],[(6,.cells ([.int .i64 0,.int .i64 0]))],[],[]⟩) h36 (by kernel_rfl) (fun _=>by kernel_rfl) ?_ ?_
 ·rintro ⟨x13,x14,x15⟩ oh35 h35
  unfold Qt at h35
  refine Ja (Ja (Jg (zE (Jc ?_))))
  rcases Jl h35 with ⟨hb,h35⟩|⟨hb,h35⟩
  ·refine zT hb (Jk (Jc (Ja (Jo (Ja (Jg (zR 2 ?_)))))))
   obtain ⟨r28,h37,h35⟩:=Ji h35
   refine Jy (Bh _ _ r28 h37) (by kernel_rfl) (by kernel_rfl) (zE (Jc (Ja (Ja (Jg (zE (Jc ?_)))))))
   rcases Jl h35 with ⟨hb,h35⟩|⟨hb,h35⟩
   ·refine zT hb (Ja (Jg (zE (Jc (Jq (Jn (Jr (Jn ?_))))))))
    cases h35
    refine Kf fun he=>?_
    subst he
    have h38:=Qd h
    refine Jr (Jn ?_)
    cases h38
    exact zQ
   refine zU hb (Jk (Jc (Ja (Jg (zR 2 ?_)))))
   obtain ⟨r29,h39,h35⟩:=Ji h35
   refine Jy (Sk _ _ r29 h39) (by kernel_rfl) (by kernel_rfl) (zE (Jc (Ja (Ja (Jg (zE (Jc ?_)))))))
   rcases Jl h35 with ⟨hb,h35⟩|⟨hb,h35⟩
   ·refine zT hb (Ja (Jg (zE (Jc (Jq (Jn (Jr (Jn ?_))))))))
    cases h35
    refine Kf fun he=>?_
    subst he
    have h40:=Qd h
    refine Jr (Jn ?_)
    cases h40
    exact zQ
   refine zU hb (Jk (Jc (Ja (Ja (Jg (zR 4 ?_))))))
   obtain ⟨r30,h41,h35⟩:=Ji h35
   refine Jy (Ja7 _ _ r30 h41) (by kernel_rfl) (by kernel_rfl) ?_
   obtain ⟨b31,h42,h35⟩:=Ji h35
   refine zR 1 ?_
   refine Qf 6 46 (.bool b31) ?_ ?_
   ·rcases Jl h42 with ⟨hb,h42⟩|⟨hb,h42⟩
    ·refine zS 40 hb ?_
     cases h42
     exact zF
    refine zS 40 hb (zR 4 ?_)
    obtain ⟨r32,h43,h42⟩:=Ji h42
    refine Jy (Ja7 _ _ r32 h43) (by kernel_rfl) (by kernel_rfl) ?_
    cases h42
    exact zF
   refine zN (Jc ?_)
   rcases Jl h35 with ⟨hb,h35⟩|⟨hb,h35⟩
   ·refine zT hb (Ja (Jg (zE (Jc (Jq (Jn (Jr (Jn ?_))))))))
    cases h35
    refine Kf fun he=>?_
    subst he
    have h44:=Qd h
    refine Jr (Jn ?_)
    cases h44
    exact zQ
   refine zU hb (Jk (Jc (Ja (Ja (Jg ?_)))))
   obtain ⟨b33,h45,h35⟩:=Ji h35
   refine zR 4 ?_
   refine Qf 7 58 (.bool b33) ?_ ?_
   ·rcases Jl h45 with ⟨hb,h45⟩|⟨hb,h45⟩
    ·refine zS 51 hb ?_
     cases h45
     exact zF
    refine zS 51 hb (zR 4 ?_)
    refine Kl (L:=(a0.Elements:(List Jw))) (by kernel_rfl) ?_
    cases h45
    exact zF
   obtain ⟨b34,h46,h35⟩:=Ji h35
   refine zR 1 ?_
   refine Qf 14 73 (.bool b34) ?_ ?_
   ·rcases Jl h46 with ⟨hb,h46⟩|⟨hb,h46⟩
    ·refine zS 59 hb ?_
     cases h46
     exact zF
    refine zS 59 hb (zR 4 ?_)
    obtain ⟨x35,h47,h46⟩:=Ji h46
    refine zI h47 (zR 4 ?_)
    refine Tv 4 72 ((decide (x35.Kind=2))&&(decide (r28.1.Side=0))) (fun x hx=>?_) ?_
    ·rcases Wb hx with ⟨hb,hx⟩|⟨hb,hx⟩
     ·refine zS 68 hb ?_
      subst hx
      exact zF
     refine zS 68 hb ?_
     subst hx
     exact zF
    cases h46
    exact zF
   refine zN (Jc ?_)
   rcases Jl h35 with ⟨hb,h35⟩|⟨hb,h35⟩
   ·refine zT hb (Ja (Jg (zE (Jc (Jq (Jn (Jr (Jn ?_))))))))
    cases h35
    refine Kf fun he=>?_
    subst he
    have h48:=Qd h
    refine Jr (Jn ?_)
    cases h48
    exact zQ
   refine zU hb (Jk (Jc (Ja (Ja (Jg (zR 4 ?_))))))
   obtain ⟨x36,h49,h35⟩:=Ji h35
   refine zI h49 (zE (Jc ?_))
   rcases Jl h35 with ⟨hb,h35⟩|⟨hb,h35⟩
   ·refine zT hb (Ja (Jg (zR 2 ?_)))
    obtain ⟨r37,h50,h35⟩:=Ji h35
    refine Jy (Jkl _ _ r37 h50) (by kernel_rfl) (by kernel_rfl) (zE (Jc (Jq (Jn (Jr (Jn ?_))))))
    cases h35
    refine Kf fun he=>?_
    subst he
    have h51:=Qd h
    refine Jr (Jn ?_)
    cases h51
    exact zQ
   refine zU hb (Jk (Jc (Ja (Qb (by kernel_rfl) (by kernel_rfl) (zR 4 ?_)))))
   obtain ⟨x38,h52,h35⟩:=Ji h35
   refine zI h52 (zR 4 ?_)
   obtain ⟨r39,h53,h35⟩:=Ji h35
   refine Jy (Jlk _ _ _ r39 h53) (by kernel_rfl) (by kernel_rfl) (zE (Jc (Jg (zE (Kb (Jc (Jg (zE ?_))))))))
   cases h35
   exact zB
  refine zU hb (Ka (Jx ?_))
  cases h35
  exact zX
 rintro _ s' rfl hs
 have h:=Kd h
 refine Jv (Jc (Ke hs (Ja (Jg (zE (Jc (Jq ?_)))))))
 cases h
 exact zQ
/-! signallingref14.put -/
noncomputable def Ns (a0:(List Jh)) (a1:Jh):(Bool×Int×(List Jh))→Option ((Bool×Int×(List Jh))⊕(((List Jh)×Bool)⊕(List Jh))):=fun (x24,x25,x26) =>
 bif decide (x25<((a0.length:Nat):Int)) then (
  onInl (α:=((List Jh)×Bool)) (β:=((Bool×Int×(List Jh))⊕(((List Jh)×Bool)⊕(List Jh)))) (
   ((bif (!x24) then (
    (ixO a0 x25).bind fun x45 =>
    some (decide (a1.El<x45.El))
   ) else some false):Option Bool).bind fun b44 =>
   bif b44 then (
    (Vg x26 [a1]).bind fun x46 =>
    some (.inl (x46,true))
   ) else (
    some (.inl (x26,x24))
   )
  ) fun (x42,x43) =>
  (ixO a0 x25).bind fun x47 =>
  (Vg x42 [x47]).bind fun x48 =>
  some (.inl (x43,w64 (x25+1),x48))
 ) else (
  some (.inr (.inl (x26,x24)))
 )
noncomputable def Oj (a0:(List Jh)) (a1:Jh):Option (List Jh) :=
 (Be a0 a1).bind fun r1 =>
 bif r1 then (
  some a0
 ) else (
  onInl (α:=((List Jh)×Bool)) (β:=(List Jh)) (Km (Ns a0 a1) (false,0,([]:(List Jh)))) fun (x37,x38) =>
  onInl (α:=(List Jh)) (β:=(List Jh)) (
   bif (!x38) then (
    (Vg x37 [a1]).bind fun x51 =>
    some (.inl x51)
   ) else (
    some (.inl x37)
   )
  ) fun x50 =>
  some x50
 )
theorem Jka (a0:(List Jh)) (a1:Jh) (r:(List Jh)) (h:Oj a0 a1=some r):Kq Go.Proofs.Tryz.prog GlS 50 [Enc.pv a0,Enc.pv a1] (Enc.pv r):=by
 unfold Oj at h
 refine Js Go.Proofs.Tryz.func50 (by rfl) rfl Go.Proofs.Tryz.ntmps50 (by rfl) rfl ?_
 refine Ja (Jg (zE (Jc (Ja (Ja (Jg (zR 2 ?_)))))))
 obtain ⟨r1,h1,h⟩:=Ji h
 refine Jy (Lm _ _ r1 h1) (by kernel_rfl) (by kernel_rfl) (zN (Jc ?_))
 rcases Jl h with ⟨hb,h⟩|⟨hb,h⟩
 ·refine zT hb (Ja (Jg (zE (Jc (Jq (Jn ?_))))))
  cases h
  exact zQ
 refine zU hb (Jk (Jc (Ja (Jg (zE (Jc (Ja (Jg (zE (Jc (Ja (Ja (Jg (zE ?_))))))))))))))
 refine Jc (Jo (Cs 5 100005 2 16 (by kernel_rfl) (by kernel_rfl) ?_))
 obtain ⟨o30,h30,h⟩:=Ko h
 refine Kh 48 0 (fun (x24,x25,x26)=>⟨[(0,Jp .frozen (a0:(List Jh))),(3,.ref 3 0),(5,Jp (.own 100005) (x26:(List Jh))),(6,.bool x24),(7,.int .i64 x25)],[(3,.cells (cellsOf a1))],[(100005,(((x26).map cellsOf).length,2))],[]⟩) (fun (x37,x38)=>⟨[(3,.ref 3 0),(5,Jp (.own 100005) (x37:(List Jh))),(6,.bool x38)],[(3,.cells (cellsOf a1))],[(100005,(((x37).map cellsOf).length,2))],[]⟩) h30 (by kernel_rfl) (fun _=>by kernel_rfl) ?_ ?_
 ·rintro ⟨x24,x25,x26⟩ oh29 h29
  unfold Ns at h29
  refine Ja (Ja (Jg (zR 2 ?_)))
  refine Kl (L:=(a0:(List Jh))) (by kernel_rfl) ?_
  refine zE (Jc ?_)
  rcases Jl h29 with ⟨hb,h29⟩|⟨hb,h29⟩
  ·refine zT hb (Jk (Jc (Ja (Jo ?_))))
   obtain ⟨o34,h34,h29⟩:=Ko h29
   refine Um (o:=o34) 48 (fun (x42,x43)=>⟨[(0,Jp .frozen (a0:(List Jh))),(3,.ref 3 0),(5,Jp (.own 100005) (x42:(List Jh))),(6,.bool x43),(7,.int .i64 x25)],[(3,.cells (cellsOf a1))],[(100005,(((x42).map cellsOf).length,2))],[]⟩) ?_ ?_
   ·refine Ja (Qb (by kernel_rfl) (by kernel_rfl) ?_)
    obtain ⟨b44,h35,h34⟩:=Ji h34
    refine zR 3 ?_
    refine Qf 9 29 (.bool b44) ?_ ?_
    ·rcases Jl h35 with ⟨hb,h35⟩|⟨hb,h35⟩
     ·refine zS 20 hb (zR 2 ?_)
      obtain ⟨x45,h36,h35⟩:=Ji h35
      refine zI h36 ?_
      cases h35
      exact zF
     refine zS 20 hb ?_
     cases h35
     exact zF
    refine zN (Jc ?_)
    rcases Jl h34 with ⟨hb,h34⟩|⟨hb,h34⟩
    ·refine zT hb (Ja (Jg (zR 3 ?_)))
     obtain ⟨x46,h37,h34⟩:=Ji h34
     refine Vv (tk:=100005) h37 (by kernel_rfl) (by kernel_rfl) ?_
     refine zE (Jc (Jg (zE ?_)))
     cases h34
     exact zJ
    refine zU hb (Jk ?_)
    cases h34
    exact zJ
   rintro ⟨x42,x43⟩ rfl
   have h29:=Kd h29
   refine Jg (zR 3 ?_)
   obtain ⟨x47,h38,h29⟩:=Ji h29
   refine zI h38 (zR 2 ?_)
   obtain ⟨x48,h39,h29⟩:=Ji h29
   refine Vv (tk:=100005) h39 (by kernel_rfl) (by kernel_rfl) ?_
   refine zE (Kb (Jc (Jg (zE ?_))))
   cases h29
   exact zB
  refine zU hb (Ka (Jx ?_))
  cases h29
  exact zX
 rintro ⟨x37,x38⟩ s' rfl hs
 have h:=Kd h
 refine Jv (Jc (Ke hs ?_))
 obtain ⟨o41,h41,h⟩:=Ko h
 refine Um (o:=o41) 48 (fun x50=>⟨[(5,Jp (.own 100005) (x50:(List Jh)))],[],[(100005,(((x50).map cellsOf).length,2))],[]⟩) ?_ ?_
 ·refine Ja (Jg (zE (Jc ?_)))
  rcases Jl h41 with ⟨hb,h41⟩|⟨hb,h41⟩
  ·refine zT hb (Jg (zR 3 ?_))
   obtain ⟨x51,h42,h41⟩:=Ji h41
   refine Vv (tk:=100005) h42 (by kernel_rfl) (by kernel_rfl) ?_
   refine zE ?_
   cases h41
   exact zJ
  refine zU hb (Jk ?_)
  cases h41
  exact zJ
 rintro x50 rfl
 have h:=Kd h
 refine Ja (Jg (zE (Jc (Jq ?_))))
 cases h
 exact zQ
/-! signallingref02.Has -/
noncomputable def Np (a0:(List Int)) (a1:Int):Int→Option (Int⊕(Unit⊕Bool)):=fun x2 =>
 bif decide (x2<((a0.length:Nat):Int)) then (
  (ixO a0 x2).bind fun x4 =>
  bif decide (x4=a1) then (
   some (.inr (.inr true))
  ) else (
   some (.inl (w64 (x2+1)))
  )
 ) else (
  some (.inr (.inl ()))
 )
noncomputable def Og (a0:(List Int)) (a1:Int):Option Bool :=
 onInl (α:=Unit) (β:=Bool) (Km (Np a0 a1) 0) fun _ =>
 some false
theorem Jmo (a0:(List Int)) (a1:Int) (r:Bool) (h:Og a0 a1=some r):Kq Go.Proofs.Tryz.prog GlS 130 [Enc.pv a0,Enc.pv a1] (Enc.pv r):=by
 unfold Og at h
 refine Js Go.Proofs.Tryz.func130 (by rfl) rfl Go.Proofs.Tryz.ntmps130 (by rfl) rfl ?_
 refine Ja (Jg (zE (Jc (Ja (Ja (Jg (zE (Jc (Jo ?_)))))))))
 obtain ⟨o6,h6,h⟩:=Ko h
 refine Kh 18 0 (fun x2=>⟨[(0,Jp .frozen (a0:(List Int))),(1,.int .i64 a1),(5,.int .i64 x2)],[],[],[]⟩) (fun (_:Unit)=>⟨[],[],[],[]⟩) h6 (by kernel_rfl) (fun _=>by kernel_rfl) ?_ ?_
 ·rintro x2 oh5 h5
  unfold Np at h5
  refine Ja (Ja (Jg (zR 2 ?_)))
  refine Kl (L:=(a0:(List Int))) (by kernel_rfl) ?_
  refine zE (Jc ?_)
  rcases Jl h5 with ⟨hb,h5⟩|⟨hb,h5⟩
  ·refine zT hb (Jk (Jc (Ja (Jo (Ja (Jg (zR 2 ?_)))))))
   obtain ⟨x4,h7,h5⟩:=Ji h5
   refine zI h7 (zE (Jc ?_))
   rcases Jl h5 with ⟨hb,h5⟩|⟨hb,h5⟩
   ·refine zT hb (Ja (Jg (zE (Jc (Jq (Jr (Jn ?_)))))))
    cases h5
    refine Kf fun he=>?_
    subst he
    have h8:=Qd h
    refine Jr (Jn ?_)
    cases h8
    exact zQ
   refine zU hb (Jk (Kb (Jc (Jg (zE ?_)))))
   cases h5
   exact zB
  refine zU hb (Ka (Jx ?_))
  cases h5
  exact zX
 rintro _ s' rfl hs
 have h:=Kd h
 refine Jv (Jc (Ke hs (Ja (Jg (zE (Jc (Jq ?_)))))))
 cases h
 exact zQ
/-! signallingref02.insert -/
noncomputable def Fw (a0:(List Int)) (a1:Int):(Bool×Int×(List Int))→Option ((Bool×Int×(List Int))⊕(((List Int)×Bool)⊕(List Int))):=fun (x24,x25,x26) =>
 bif decide (x25<((a0.length:Nat):Int)) then (
  onInl (α:=((List Int)×Bool)) (β:=((Bool×Int×(List Int))⊕(((List Int)×Bool)⊕(List Int)))) (
   ((bif (!x24) then (
    (ixO a0 x25).bind fun x45 =>
    some (decide (a1<x45))
   ) else some false):Option Bool).bind fun b44 =>
   bif b44 then (
    (Vg x26 [a1]).bind fun x46 =>
    some (.inl (x46,true))
   ) else (
    some (.inl (x26,x24))
   )
  ) fun (x42,x43) =>
  (ixO a0 x25).bind fun x47 =>
  (Vg x42 [x47]).bind fun x48 =>
  some (.inl (x43,w64 (x25+1),x48))
 ) else (
  some (.inr (.inl (x26,x24)))
 )
noncomputable def Ch (a0:(List Int)) (a1:Int):Option (List Int) :=
 (Og a0 a1).bind fun r1 =>
 bif r1 then (
  some a0
 ) else (
  onInl (α:=((List Int)×Bool)) (β:=(List Int)) (Km (Fw a0 a1) (false,0,([]:(List Int)))) fun (x37,x38) =>
  onInl (α:=(List Int)) (β:=(List Int)) (
   bif (!x38) then (
    (Vg x37 [a1]).bind fun x51 =>
    some (.inl x51)
   ) else (
    some (.inl x37)
   )
  ) fun x50 =>
  some x50
 )
theorem Sj (a0:(List Int)) (a1:Int) (r:(List Int)) (h:Ch a0 a1=some r):Kq Go.Proofs.Tryz.prog GlS 108 [Enc.pv a0,Enc.pv a1] (Enc.pv r):=by
 unfold Ch at h
 refine Js Go.Proofs.Tryz.func108 (by rfl) rfl Go.Proofs.Tryz.ntmps108 (by rfl) rfl ?_
 refine Ja (Jg (zE (Jc (Ja (Ja (Jg (zR 2 ?_)))))))
 obtain ⟨r1,h1,h⟩:=Ji h
 refine Jy (Jmo _ _ r1 h1) (by kernel_rfl) (by kernel_rfl) (zN (Jc ?_))
 rcases Jl h with ⟨hb,h⟩|⟨hb,h⟩
 ·refine zT hb (Ja (Jg (zE (Jc (Jq (Jn ?_))))))
  cases h
  exact zQ
 refine zU hb (Jk (Jc (Ja (Jg (zE (Jc (Ja (Jg (zE (Jc (Ja (Ja (Jg (zE ?_))))))))))))))
 refine Jc (Jo (Cs 5 100005 1 8 (by kernel_rfl) (by kernel_rfl) ?_))
 obtain ⟨o30,h30,h⟩:=Ko h
 refine Kh 46 0 (fun (x24,x25,x26)=>⟨[(0,Jp .frozen (a0:(List Int))),(1,.int .i64 a1),(5,Jp (.own 100005) (x26:(List Int))),(6,.bool x24),(7,.int .i64 x25)],[],[(100005,(((x26).map cellsOf).length,1))],[]⟩) (fun (x37,x38)=>⟨[(1,.int .i64 a1),(5,Jp (.own 100005) (x37:(List Int))),(6,.bool x38)],[],[(100005,(((x37).map cellsOf).length,1))],[]⟩) h30 (by kernel_rfl) (fun _=>by kernel_rfl) ?_ ?_
 ·rintro ⟨x24,x25,x26⟩ oh29 h29
  unfold Fw at h29
  refine Ja (Ja (Jg (zR 2 ?_)))
  refine Kl (L:=(a0:(List Int))) (by kernel_rfl) ?_
  refine zE (Jc ?_)
  rcases Jl h29 with ⟨hb,h29⟩|⟨hb,h29⟩
  ·refine zT hb (Jk (Jc (Ja (Jo ?_))))
   obtain ⟨o34,h34,h29⟩:=Ko h29
   refine Um (o:=o34) 46 (fun (x42,x43)=>⟨[(0,Jp .frozen (a0:(List Int))),(1,.int .i64 a1),(5,Jp (.own 100005) (x42:(List Int))),(6,.bool x43),(7,.int .i64 x25)],[],[(100005,(((x42).map cellsOf).length,1))],[]⟩) ?_ ?_
   ·refine Ja (Jg ?_)
    obtain ⟨b44,h35,h34⟩:=Ji h34
    refine zR 3 ?_
    refine Qf 7 27 (.bool b44) ?_ ?_
    ·rcases Jl h35 with ⟨hb,h35⟩|⟨hb,h35⟩
     ·refine zS 20 hb (zR 2 ?_)
      obtain ⟨x45,h36,h35⟩:=Ji h35
      refine zI h36 ?_
      cases h35
      exact zF
     refine zS 20 hb ?_
     cases h35
     exact zF
    refine zN (Jc ?_)
    rcases Jl h34 with ⟨hb,h34⟩|⟨hb,h34⟩
    ·refine zT hb (Ja (Jg (zR 3 ?_)))
     obtain ⟨x46,h37,h34⟩:=Ji h34
     refine Vv (tk:=100005) h37 (by kernel_rfl) (by kernel_rfl) ?_
     refine zE (Jc (Jg (zE ?_)))
     cases h34
     exact zJ
    refine zU hb (Jk ?_)
    cases h34
    exact zJ
   rintro ⟨x42,x43⟩ rfl
   have h29:=Kd h29
   refine Jg (zR 3 ?_)
   obtain ⟨x47,h38,h29⟩:=Ji h29
   refine zI h38 (zR 2 ?_)
   obtain ⟨x48,h39,h29⟩:=Ji h29
   refine Vv (tk:=100005) h39 (by kernel_rfl) (by kernel_rfl) ?_
   refine zE (Kb (Jc (Jg (zE ?_))))
   cases h29
   exact zB
  refine zU hb (Ka (Jx ?_))
  cases h29
  exact zX
 rintro ⟨x37,x38⟩ s' rfl hs
 have h:=Kd h
 refine Jv (Jc (Ke hs ?_))
 obtain ⟨o41,h41,h⟩:=Ko h
 refine Um (o:=o41) 46 (fun x50=>⟨[(5,Jp (.own 100005) (x50:(List Int)))],[],[(100005,(((x50).map cellsOf).length,1))],[]⟩) ?_ ?_
 ·refine Ja (Jg (zE (Jc ?_)))
  rcases Jl h41 with ⟨hb,h41⟩|⟨hb,h41⟩
  ·refine zT hb (Jg (zR 3 ?_))
   obtain ⟨x51,h42,h41⟩:=Ji h41
   refine Vv (tk:=100005) h42 (by kernel_rfl) (by kernel_rfl) ?_
   refine zE ?_
   cases h41
   exact zJ
  refine zU hb (Jk ?_)
  cases h41
  exact zJ
 rintro x50 rfl
 have h:=Kd h
 refine Ja (Jg (zE (Jc (Jq ?_))))
 cases h
 exact zQ
/-! signallingref02.Make -/
noncomputable def Mj (a0:(List Int)):(Int×(List Int))→Option ((Int×(List Int))⊕((List Int)⊕(List Int))):=fun (x6,x7) =>
 bif decide (x6<((a0.length:Nat):Int)) then (
  (ixO a0 x6).bind fun x11 =>
  (Ch x7 x11).bind fun r12 =>
  some (.inl (w64 (x6+1),r12))
 ) else (
  some (.inr (.inl x7))
 )
noncomputable def Ly (a0:(List Int)):Option (List Int) :=
 onInl (α:=(List Int)) (β:=(List Int)) (Km (Mj a0) (0,([]:(List Int)))) fun x10 =>
 some x10
theorem Jjz (a0:(List Int)) (r:(List Int)) (h:Ly a0=some r):Kq Go.Proofs.Tryz.prog GlS 107 [Enc.pv a0] (Enc.pv r):=by
 unfold Ly at h
 refine Js Go.Proofs.Tryz.func107 (by rfl) rfl Go.Proofs.Tryz.ntmps107 (by rfl) rfl ?_
 refine Ja (Jg (zE (Jc (Ja (Jg (zE (Jc (Ja (Ja (Jg (zE (Jc (Jo ?_)))))))))))))
 obtain ⟨o8,h8,h⟩:=Ko h
 refine Kh 18 0 (fun (x6,x7)=>⟨[(0,Jp .frozen (a0:(List Int))),(3,Jp .frozen (x7:(List Int))),(4,.int .i64 x6)],[],[],[]⟩) (fun x10=>⟨[(3,Jp .frozen (x10:(List Int)))],[],[],[]⟩) h8 (by kernel_rfl) (fun _=>by kernel_rfl) ?_ ?_
 ·rintro ⟨x6,x7⟩ oh7 h7
  unfold Mj at h7
  refine Ja (Ja (Jg (zR 2 ?_)))
  refine Kl (L:=(a0:(List Int))) (by kernel_rfl) ?_
  refine zE (Jc ?_)
  rcases Jl h7 with ⟨hb,h7⟩|⟨hb,h7⟩
  ·refine zT hb (Jk (Jc (Ja (Jo (Jg (zR 3 ?_))))))
   obtain ⟨x11,h9,h7⟩:=Ji h7
   refine zI h9 (zR 1 ?_)
   obtain ⟨r12,h10,h7⟩:=Ji h7
   refine Jy (Sj _ _ r12 h10) (by kernel_rfl) (by kernel_rfl) (zE (Kb (Jc (Jg (zE ?_)))))
   cases h7
   exact zB
  refine zU hb (Ka (Jx ?_))
  cases h7
  exact zX
 rintro x10 s' rfl hs
 have h:=Kd h
 refine Jv (Jc (Ke hs (Ja (Jg (zE (Jc (Jq ?_)))))))
 cases h
 exact zQ
/-! signallingref02.Union -/
noncomputable def Ba (a1:(List Int)):((List Int)×Int)→Option (((List Int)×Int)⊕((List Int)⊕(List Int))):=fun (x4,x5) =>
 bif decide (x5<((a1.length:Nat):Int)) then (
  (ixO a1 x5).bind fun x9 =>
  (Ch x4 x9).bind fun r10 =>
  some (.inl (r10,w64 (x5+1)))
 ) else (
  some (.inr (.inl x4))
 )
noncomputable def Hv (a0:(List Int)) (a1:(List Int)):Option (List Int) :=
 (Ly a0).bind fun r1 =>
 onInl (α:=(List Int)) (β:=(List Int)) (Km (Ba a1) (r1,0)) fun x8 =>
 some x8
theorem Jh2 (a0:(List Int)) (a1:(List Int)) (r:(List Int)) (h:Hv a0 a1=some r):Kq Go.Proofs.Tryz.prog GlS 51 [Enc.pv a0,Enc.pv a1] (Enc.pv r):=by
 unfold Hv at h
 refine Js Go.Proofs.Tryz.func51 (by rfl) rfl Go.Proofs.Tryz.ntmps51 (by rfl) rfl ?_
 refine Ja (Jg (zE (Jc (Ja (Jg (zR 1 ?_))))))
 obtain ⟨r1,h1,h⟩:=Ji h
 refine Jy (Jjz _ r1 h1) (by kernel_rfl) (by kernel_rfl) (zE (Jc (Ja (Ja (Jg (zE (Jc (Jo ?_))))))))
 obtain ⟨o7,h7,h⟩:=Ko h
 refine Kh 22 0 (fun (x4,x5)=>⟨[(1,Jp .frozen (a1:(List Int))),(5,Jp .frozen (x4:(List Int))),(6,.int .i64 x5)],[],[],[]⟩) (fun x8=>⟨[(5,Jp .frozen (x8:(List Int)))],[],[],[]⟩) h7 (by kernel_rfl) (fun _=>by kernel_rfl) ?_ ?_
 ·rintro ⟨x4,x5⟩ oh6 h6
  unfold Ba at h6
  refine Ja (Ja (Jg (zR 2 ?_)))
  refine Kl (L:=(a1:(List Int))) (by kernel_rfl) ?_
  refine zE (Jc ?_)
  rcases Jl h6 with ⟨hb,h6⟩|⟨hb,h6⟩
  ·refine zT hb (Jk (Jc (Ja (Jo (Jg (zR 3 ?_))))))
   obtain ⟨x9,h8,h6⟩:=Ji h6
   refine zI h8 (zR 1 ?_)
   obtain ⟨r10,h9,h6⟩:=Ji h6
   refine Jy (Sj _ _ r10 h9) (by kernel_rfl) (by kernel_rfl) (zE (Kb (Jc (Jg (zE ?_)))))
   cases h6
   exact zB
  refine zU hb (Ka (Jx ?_))
  cases h6
  exact zX
 rintro x8 s' rfl hs
 have h:=Kd h
 refine Jv (Jc (Ke hs (Ja (Jg (zE (Jc (Jq ?_)))))))
 cases h
 exact zQ
/-! signallingref14.Find -/
noncomputable def Fe (a0:Je) (a1:Jm) (r1:(List Jj)):(Int×(List Jh)×(List Int)×(List Jj))→Option ((Int×(List Jh)×(List Int)×(List Jj))⊕(((List Jh)×(List Int)×(List Jj))⊕Jm)):=fun (x55,x56,x57,x58) =>
 bif decide (x55<((r1.length:Nat):Int)) then (
  onInl (α:=((List Jh)×(List Int)×(List Jj))) (β:=((Int×(List Jh)×(List Int)×(List Jj))⊕(((List Jh)×(List Int)×(List Jj))⊕Jm))) (
   (ixO r1 x55).bind fun x101 =>
   (Mr a0 (Jm.mk a1.Name a1.Entry a1.Exit a1.Path a1.Points a1.Sections a1.Approach a1.Length a1.Over a1.OverPoints a1.OverSections x56 x57 x58) x101).bind fun r102 =>
   onInl (α:=(List Jj)) (β:=(((List Jh)×(List Int)×(List Jj))⊕((Int×(List Jh)×(List Int)×(List Jj))⊕(((List Jh)×(List Int)×(List Jj))⊕Jm)))) (
    bif (!r102.2.2) then (
     (ixO r1 x55).bind fun x106 =>
     (Vg x58 [x106]).bind fun x107 =>
     some (.inl x107)
    ) else (
     some (.inl x58)
    )
   ) fun x105 =>
   onInl (α:=(List Jh)) (β:=(((List Jh)×(List Int)×(List Jj))⊕((Int×(List Jh)×(List Int)×(List Jj))⊕(((List Jh)×(List Int)×(List Jj))⊕Jm)))) (
    bif (!(decide (r102.1.Pos=0))) then (
     (Oj x56 r102.1).bind fun r110 =>
     some (.inl r110)
    ) else (
     some (.inl x56)
    )
   ) fun x109 =>
   bif decide (0≤r102.2.1) then (
    (Hv x57 [r102.2.1]).bind fun r111 =>
    some (.inl (x109,r111,x105))
   ) else (
    some (.inl (x109,x57,x105))
   )
  ) fun (x98,x99,x100) =>
  some (.inl (w64 (x55+1),x98,x99,x100))
 ) else (
  some (.inr (.inl (x56,x57,x58)))
 )
noncomputable def Gc (a0:Je) (a1:Jm):Option Jm :=
 (Hp a0 (Jm.mk a1.Name a1.Entry a1.Exit a1.Path a1.Points a1.Sections a1.Approach a1.Length a1.Over a1.OverPoints a1.OverSections [] [] [])).bind fun r1 =>
 onInl (α:=((List Jh)×(List Int)×(List Jj))) (β:=Jm) (Km (Fe a0 a1 r1) (0,([]:(List Jh)),([]:(List Int)),([]:(List Jj)))) fun (x84,x85,x86) =>
 some (Jm.mk a1.Name a1.Entry a1.Exit a1.Path a1.Points a1.Sections a1.Approach a1.Length a1.Over a1.OverPoints a1.OverSections x84 x85 x86)
theorem Jjn (a0:Je) (a1:Jm) (r:Jm) (h:Gc a0 a1=some r):Kq Go.Proofs.Tryz.prog GlS 21 [Enc.pv a0,Enc.pv a1] (Enc.pv r):=by
 unfold Gc at h
 refine Js Go.Proofs.Tryz.func21 (by rfl) rfl Go.Proofs.Tryz.ntmps21 (by rfl) rfl ?_
 refine Ja (Jg (zE (Jc (Ja (Jg (zE (Jc (Ja (Jg (zE (Jc (Ja (Jg (zE ?_))))))))))))))
 refine Jc (Ja (Jg (zR 2 ?_)))
 obtain ⟨r1,h1,h⟩:=Ji h
 refine Jy (Jic _ _ r1 h1) (by kernel_rfl) (by kernel_rfl) (zE (Jc (Ja (Ja (Jg (zE (Jc (Jo ?_))))))))
 refine Ke (Mu 3 13 200313 2 16 (cs:=[.str a1.Name,.int .i64 a1.Entry,.int .i64 a1.Exit,Jp .frozen (a1.Path:(List Jd)),Jp .frozen (a1.Points:(List Jh)),Jp .frozen (a1.Sections:(List Int)),.int .i64 a1.Approach,.int .i64 a1.Length,Jp .frozen (a1.Over:(List Jd)),Jp .frozen (a1.OverPoints:(List Jh)),Jp .frozen (a1.OverSections:(List Int)),.nil,.nil,.nil]) (by kernel_rfl) (by kernel_rfl) (by kernel_rfl)) ?_
 obtain ⟨o72,h72,h⟩:=Ko h
 refine Kh 61 0 (fun (x55,x56,x57,x58)=>⟨[(2,.ref 2 0),(3,.ref 3 0),(4,.ref 4 0),(5,Jp (.own 115005) (r1:(List Jj))),(6,.int .i64 x55)],[(2,.cells (cellsOf a0)),(3,.cells ([.str a1.Name,.int .i64 a1.Entry,.int .i64 a1.Exit,Jp .frozen (a1.Path:(List Jd)),Jp .frozen (a1.Points:(List Jh)),Jp .frozen (a1.Sections:(List Int)),.int .i64 a1.Approach,.int .i64 a1.Length,Jp .frozen (a1.Over:(List Jd)),Jp .frozen (a1.OverPoints:(List Jh)),Jp .frozen (a1.OverSections:(List Int)),Jp .frozen (x56:(List Jh)),Jp .frozen (x57:(List Int)),Jp (.own 200313) (x58:(List Jj))])),(4,.cells ([.str ByteArray.empty,.int .i64 0,.int .i64 0,.nil,.nil,.nil,.int .i64 0,.int .i64 0,.nil,.nil,.nil,.nil,.nil,.nil]))],[(115005,(((r1).map cellsOf).length,2)),(200313,(((x58).map cellsOf).length,2))],[]⟩) (fun (x84,x85,x86)=>⟨[(3,.ref 3 0),(4,.ref 4 0)],[(3,.cells ([.str a1.Name,.int .i64 a1.Entry,.int .i64 a1.Exit,Jp .frozen (a1.Path:(List Jd)),Jp .frozen (a1.Points:(List Jh)),Jp .frozen (a1.Sections:(List Int)),.int .i64 a1.Approach,.int .i64 a1.Length,Jp .frozen (a1.Over:(List Jd)),Jp .frozen (a1.OverPoints:(List Jh)),Jp .frozen (a1.OverSections:(List Int)),Jp .frozen (x84:(List Jh)),Jp .frozen (x85:(List Int)),Jp (.own 200313) (x86:(List Jj))])),(4,.cells ([.str ByteArray.empty,.int .i64 0,.int .i64 0,.nil,.nil,.nil,.int .i64 0,.int .i64 0,.nil,.nil,.nil,.nil,.nil,.nil]))],[(200313,(((x86).map cellsOf).length,2))],[]⟩) h72 (by kernel_rfl) (fun _=>by kernel_rfl) ?_ ?_
 ·rintro ⟨x55,x56,x57,x58⟩ oh71 h71
  unfold Fe at h71
  refine Ja (Ja (Jg (zR 2 ?_)))
  refine Kl (L:=(r1:(List Jj))) (by kernel_rfl) ?_
  refine zE (Jc ?_)
  rcases Jl h71 with ⟨hb,h71⟩|⟨hb,h71⟩
  ·refine zT hb (Jk (Jc ?_))
   obtain ⟨o84,h84,h71⟩:=Ko h71
   refine Um (o:=o84) 61 (fun (x98,x99,x100)=>⟨[(2,.ref 2 0),(3,.ref 3 0),(4,.ref 4 0),(5,Jp (.own 115005) (r1:(List Jj))),(6,.int .i64 x55)],[(2,.cells (cellsOf a0)),(3,.cells ([.str a1.Name,.int .i64 a1.Entry,.int .i64 a1.Exit,Jp .frozen (a1.Path:(List Jd)),Jp .frozen (a1.Points:(List Jh)),Jp .frozen (a1.Sections:(List Int)),.int .i64 a1.Approach,.int .i64 a1.Length,Jp .frozen (a1.Over:(List Jd)),Jp .frozen (a1.OverPoints:(List Jh)),Jp .frozen (a1.OverSections:(List Int)),Jp .frozen (x98:(List Jh)),Jp .frozen (x99:(List Int)),Jp (.own 200313) (x100:(List Jj))])),(4,.cells ([.str ByteArray.empty,.int .i64 0,.int .i64 0,.nil,.nil,.nil,.int .i64 0,.int .i64 0,.nil,.nil,.nil,.nil,.nil,.nil]))],[(115005,(((r1).map cellsOf).length,2)),(200313,(((x100).map cellsOf).length,2))],[]⟩) ?_ ?_
   ·refine Jo (Ja (Qb (by kernel_rfl) (by kernel_rfl) (zR 4 ?_)))
    obtain ⟨x101,h85,h84⟩:=Ji h84
    refine zI h85 (zR 1 ?_)
    obtain ⟨r102,h86,h84⟩:=Ji h84
    refine Jy (Jfv _ _ _ r102 h86) (by kernel_rfl) (by kernel_rfl) (zE (Jc ?_))
    obtain ⟨o89,h89,h84⟩:=Ko h84
    refine Um (o:=o89) 61 (fun x105=>⟨[(2,.ref 2 0),(3,.ref 3 0),(4,.ref 4 0),(5,Jp (.own 115005) (r1:(List Jj))),(6,.int .i64 x55),(7,.ref 7 0),(8,.int .i64 r102.2.1)],[(2,.cells (cellsOf a0)),(3,.cells ([.str a1.Name,.int .i64 a1.Entry,.int .i64 a1.Exit,Jp .frozen (a1.Path:(List Jd)),Jp .frozen (a1.Points:(List Jh)),Jp .frozen (a1.Sections:(List Int)),.int .i64 a1.Approach,.int .i64 a1.Length,Jp .frozen (a1.Over:(List Jd)),Jp .frozen (a1.OverPoints:(List Jh)),Jp .frozen (a1.OverSections:(List Int)),Jp .frozen (x56:(List Jh)),Jp .frozen (x57:(List Int)),Jp (.own 200313) (x105:(List Jj))])),(4,.cells ([.str ByteArray.empty,.int .i64 0,.int .i64 0,.nil,.nil,.nil,.int .i64 0,.int .i64 0,.nil,.nil,.nil,.nil,.nil,.nil])),(7,.cells (cellsOf r102.1))],[(115005,(((r1).map cellsOf).length,2)),(200313,(((x105).map cellsOf).length,2))],[]⟩) ?_ ?_
    ·refine Ja (Jg (zE (Jc ?_)))
     rcases Jl h89 with ⟨hb,h89⟩|⟨hb,h89⟩
     ·refine zT hb (Qb (by kernel_rfl) (by kernel_rfl) (zR 4 ?_))
      obtain ⟨x106,h90,h89⟩:=Ji h89
      refine zI h90 (zR 2 ?_)
      obtain ⟨x107,h91,h89⟩:=Ji h89
      refine Vv (tk:=200313) h91 (by kernel_rfl) (by kernel_rfl) ?_
      refine zE ?_
      cases h89
      exact zJ
     refine zU hb (Jk ?_)
     cases h89
     exact zJ
    rintro x105 rfl
    have h84:=Kd h84
    obtain ⟨o93,h93,h84⟩:=Ko h84
    refine Um (o:=o93) 61 (fun x109=>⟨[(2,.ref 2 0),(3,.ref 3 0),(4,.ref 4 0),(5,Jp (.own 115005) (r1:(List Jj))),(6,.int .i64 x55),(8,.int .i64 r102.2.1)],[(2,.cells (cellsOf a0)),(3,.cells ([.str a1.Name,.int .i64 a1.Entry,.int .i64 a1.Exit,Jp .frozen (a1.Path:(List Jd)),Jp .frozen (a1.Points:(List Jh)),Jp .frozen (a1.Sections:(List Int)),.int .i64 a1.Approach,.int .i64 a1.Length,Jp .frozen (a1.Over:(List Jd)),Jp .frozen (a1.OverPoints:(List Jh)),Jp .frozen (a1.OverSections:(List Int)),Jp .frozen (x109:(List Jh)),Jp .frozen (x57:(List Int)),Jp (.own 200313) (x105:(List Jj))])),(4,.cells ([.str ByteArray.empty,.int .i64 0,.int .i64 0,.nil,.nil,.nil,.int .i64 0,.int .i64 0,.nil,.nil,.nil,.nil,.nil,.nil]))],[(115005,(((r1).map cellsOf).length,2)),(200313,(((x105).map cellsOf).length,2))],[]⟩) ?_ ?_
    ·refine Ja (Jg (zE (Jc ?_)))
     rcases Jl h93 with ⟨hb,h93⟩|⟨hb,h93⟩
     ·refine zT hb (Jg (zR 3 ?_))
      obtain ⟨r110,h94,h93⟩:=Ji h93
      refine Jy (Jka _ _ r110 h94) (by kernel_rfl) (by kernel_rfl) (zE ?_)
      cases h93
      exact zJ
     refine zU hb (Jk ?_)
     cases h93
     exact zJ
    rintro x109 rfl
    have h84:=Kd h84
    refine Ja (Jg (zE (Jc ?_)))
    rcases Jl h84 with ⟨hb,h84⟩|⟨hb,h84⟩
    ·refine zT hb (Jg (zR 4 ?_))
     obtain ⟨r111,h95,h84⟩:=Ji h84
     refine Jy (Jh2 _ _ r111 h95) (by kernel_rfl) (by kernel_rfl) (zE (Kb ?_))
     cases h84
     exact zJ
    refine zU hb (Jk (Kb ?_))
    cases h84
    exact zJ
   rintro ⟨x98,x99,x100⟩ rfl
   have h71:=Kd h71
   refine Jg (zE ?_)
   cases h71
   exact zB
  refine zU hb (Ka (Jx ?_))
  cases h71
  exact zX
 rintro ⟨x84,x85,x86⟩ s' rfl hs
 have h:=Kd h
 refine Jv (Jc (Ke hs (Ja (Jg (zE (Jc (Jq ?_)))))))
 cases h
 exact zQ
/-! signallingref16.Build -/
noncomputable def Il (a0:Je) (r1:((List Jm)×Int)):(Int×(List Jm))→Option ((Int×(List Jm))⊕((List Jm)⊕(Qa×Int))):=fun (x12,x13) =>
 bif decide (x12<((r1.1.length:Nat):Int)) then (
  (ixO r1.1 x12).bind fun x19 =>
  (Gn a0 x19).bind fun r20 =>
  (Gc a0 r20).bind fun r21 =>
  (Vg x13 [r21]).bind fun x22 =>
  some (.inl (w64 (x12+1),x22))
 ) else (
  some (.inr (.inl x13))
 )
noncomputable def Ip (a0:Je) (r2:(List Int)):(Int×(List Int))→Option ((Int×(List Int))⊕((List Int)⊕(Qa×Int))):=fun (x30,x31) =>
 bif decide (x30<((r2.length:Nat):Int)) then (
  (ixO r2 x30).bind fun x36 =>
  (Vx a0 x36).bind fun r37 =>
  (Vg x31 [r37]).bind fun x38 =>
  some (.inl (w64 (x30+1),x38))
 ) else (
  some (.inr (.inl x31))
 )
noncomputable def Hn (a0:Je):Option (Qa×Int) :=
 (Iz a0).bind fun r1 =>
 bif (!(decide (r1.2=0))) then (
  some ((Qa.mk [] [] [] 0 0),r1.2)
 ) else (
  (Cf a0).bind fun r2 =>
  onInl (α:=(List Jm)) (β:=(Qa×Int)) (Km (Il a0 r1) (0,([]:(List Jm)))) fun x18 =>
  onInl (α:=(List Int)) (β:=(Qa×Int)) (Km (Ip a0 r2) (0,([]:(List Int)))) fun x35 =>
  some ((Qa.mk x18 r2 x35 ((a0.Sections.length:Nat):Int) ((a0.Signals.length:Nat):Int)),0)
 )
theorem Jhm (a0:Je) (r:(Qa×Int)) (h:Hn a0=some r):Kq Go.Proofs.Tryz.prog GlS 8 [Enc.pv a0] (.tup [Enc.pv r.1,Enc.pv r.2]):=by
 unfold Hn at h
 refine Js Go.Proofs.Tryz.func8 (by rfl) rfl Go.Proofs.Tryz.ntmps8 (by rfl) rfl ?_
 refine Ja (Jg (zE (Jc (Ja (Jg (zR 1 ?_))))))
 obtain ⟨r1,h1,h⟩:=Ji h
 refine Jy (Jld _ r1 h1) (by kernel_rfl) (by kernel_rfl) (zE (Jc (Ja (Ja (Jg (zE (Jc ?_)))))))
 rcases Jl h with ⟨hb,h⟩|⟨hb,h⟩
 ·refine zT hb (Ja (Jg (zE (Jc (Jq (Jn ?_))))))
  cases h
  exact zQ
 refine zU hb (Jk (Jc (Ja (Qb (by kernel_rfl) (by kernel_rfl) (zR 1 ?_)))))
 obtain ⟨r2,h2,h⟩:=Ji h
 refine Jy (Jf5 _ r2 h2) (by kernel_rfl) (by kernel_rfl) (zR 2 ?_)
 refine Kl (L:=(a0.Sections:(List ByteArray))) (by kernel_rfl) ?_
 refine zR 2 ?_
 refine Kl (L:=(a0.Signals:(List Ki))) (by kernel_rfl) ?_
 refine zE (Jc (Ja (Ja (Jg (zR 1 ?_)))))
 refine Kl (L:=(r1.1:(List Jm))) (by kernel_rfl) ?_
 refine zE (Jc (Jo ?_))
 refine Ke (Mu 6 0 200600 14 264 (cs:=[.nil,Jp .frozen (r2:(List Int)),.nil,.int .i64 ((a0.Sections.length:Nat):Int),.int .i64 ((a0.Signals.length:Nat):Int)]) (by kernel_rfl) (by kernel_rfl) (by kernel_rfl)) ?_
 obtain ⟨o16,h16,h⟩:=Ko h
 refine Kh 63 0 (fun (x12,x13)=>⟨[(1,.ref 1 0),(2,.ref 2 0),(6,.ref 6 0),(29,Jp .frozen (r1.1:(List Jm))),(30,.int .i64 ((r1.1.length:Nat):Int)),(31,.int .i64 x12)],[(1,.cells (cellsOf a0)),(2,.cells ([.nil,.nil,.nil,.int .i64 0,.int .i64 0])),(6,.cells ([Jp (.own 200600) (x13:(List Jm)),Jp .frozen (r2:(List Int)),.nil,.int .i64 ((a0.Sections.length:Nat):Int),.int .i64 ((a0.Signals.length:Nat):Int)]))],[(200600,(((x13).map cellsOf).length,14))],[]⟩) (fun x18=>⟨[(1,.ref 1 0),(2,.ref 2 0),(6,.ref 6 0)],[(1,.cells (cellsOf a0)),(2,.cells ([.nil,.nil,.nil,.int .i64 0,.int .i64 0])),(6,.cells ([Jp (.own 200600) (x18:(List Jm)),Jp .frozen (r2:(List Int)),.nil,.int .i64 ((a0.Sections.length:Nat):Int),.int .i64 ((a0.Signals.length:Nat):Int)]))],[(200600,(((x18).map cellsOf).length,14))],[]⟩) h16 (by kernel_rfl) (fun _=>by kernel_rfl) ?_ ?_
 ·rintro ⟨x12,x13⟩ oh15 h15
  unfold Il at h15
  refine Ja (Jg (zE (Jc (Ja ?_))))
  rcases Jl h15 with ⟨hb,h15⟩|⟨hb,h15⟩
  ·refine zT hb (Jk (Jc (Ja (Jo (Ja (Jg ?_))))))
   obtain ⟨x19,h17,h15⟩:=Ji h15
   refine zI h17 (zE (Jc (Qb (by kernel_rfl) (by kernel_rfl) (zR 5 ?_))))
   obtain ⟨r20,h18,h15⟩:=Ji h15
   refine Jy (Ji8 _ _ r20 h18) (by kernel_rfl) (by kernel_rfl) ?_
   obtain ⟨r21,h19,h15⟩:=Ji h15
   refine Jy (Jjn _ _ r21 h19) (by kernel_rfl) (by kernel_rfl) (zR 1 ?_)
   obtain ⟨x22,h20,h15⟩:=Ji h15
   refine Vv (tk:=200600) h20 (by kernel_rfl) (by kernel_rfl) ?_
   refine zE (Kb (Jc (Jg (zE ?_))))
   cases h15
   exact zB
  refine zU hb (Ka (Jx ?_))
  cases h15
  exact zX
 rintro x18 s' rfl hs
 have h:=Kd h
 refine Jv (Jc (Ke hs (Ja (Ja (Jg (zR 2 ?_))))))
 refine Kl (L:=(r2:(List Int))) (by kernel_rfl) ?_
 refine zE (Jc (Jo ?_))
 refine Ke (Mu 6 2 200602 1 8 (cs:=[Jp (.own 200600) (x18:(List Jm)),Jp .frozen (r2:(List Int)),.nil,.int .i64 ((a0.Sections.length:Nat):Int),.int .i64 ((a0.Signals.length:Nat):Int)]) (by kernel_rfl) (by kernel_rfl) (by kernel_rfl)) ?_
 obtain ⟨o31,h31,h⟩:=Ko h
 refine Kh 63 2 (fun (x30,x31)=>⟨[(1,.ref 1 0),(2,.ref 2 0),(6,.ref 6 0),(47,Jp .frozen (r2:(List Int))),(48,.int .i64 ((r2.length:Nat):Int)),(49,.int .i64 x30)],[(1,.cells (cellsOf a0)),(2,.cells ([.nil,.nil,.nil,.int .i64 0,.int .i64 0])),(6,.cells ([Jp (.own 200600) (x18:(List Jm)),Jp .frozen (r2:(List Int)),Jp (.own 200602) (x31:(List Int)),.int .i64 ((a0.Sections.length:Nat):Int),.int .i64 ((a0.Signals.length:Nat):Int)]))],[(200600,(((x18).map cellsOf).length,14)),(200602,(((x31).map cellsOf).length,1))],[]⟩) (fun x35=>⟨[(2,.ref 2 0),(6,.ref 6 0)],[(2,.cells ([.nil,.nil,.nil,.int .i64 0,.int .i64 0])),(6,.cells ([Jp (.own 200600) (x18:(List Jm)),Jp .frozen (r2:(List Int)),Jp (.own 200602) (x35:(List Int)),.int .i64 ((a0.Sections.length:Nat):Int),.int .i64 ((a0.Signals.length:Nat):Int)]))],[(200600,(((x18).map cellsOf).length,14)),(200602,(((x35).map cellsOf).length,1))],[]⟩) h31 (by kernel_rfl) (fun _=>by kernel_rfl) ?_ ?_
 ·rintro ⟨x30,x31⟩ oh30 h30
  unfold Ip at h30
  refine Ja (Jg (zE (Jc (Ja ?_))))
  rcases Jl h30 with ⟨hb,h30⟩|⟨hb,h30⟩
  ·refine zT hb (Jk (Jc (Ja (Jo (Ja (Jg ?_))))))
   obtain ⟨x36,h32,h30⟩:=Ji h30
   refine zI h32 (zE (Jc (Qb (by kernel_rfl) (by kernel_rfl) (zR 4 ?_))))
   obtain ⟨r37,h33,h30⟩:=Ji h30
   refine Jy (Zk _ _ r37 h33) (by kernel_rfl) (by kernel_rfl) (zR 1 ?_)
   obtain ⟨x38,h34,h30⟩:=Ji h30
   refine Vv (tk:=200602) h34 (by kernel_rfl) (by kernel_rfl) ?_
   refine zE (Kb (Jc (Jg (zE ?_))))
   cases h30
   exact zB
  refine zU hb (Ka (Jx ?_))
  cases h30
  exact zX
 rintro x35 s' rfl hs
 have h:=Kd h
 refine Jv (Jc (Ke hs (Ja (Jg (zE (Jc (Jq ?_)))))))
 cases h
 exact zQ
/-! signallingref07.SameInts -/
noncomputable def Rv (a0:(List Int)) (a1:(List Int)):Int→Option (Int⊕(Unit⊕Bool)):=fun x3 =>
 bif decide (x3<((a0.length:Nat):Int)) then (
  (ixO a0 x3).bind fun x6 =>
  (ixO a1 x3).bind fun x7 =>
  bif (!(decide (x6=x7))) then (
   some (.inr (.inr false))
  ) else (
   some (.inl (w64 (x3+1)))
  )
 ) else (
  some (.inr (.inl ()))
 )
noncomputable def Bx (a0:(List Int)) (a1:(List Int)):Option Bool :=
 bif (!(decide (((a0.length:Nat):Int)=((a1.length:Nat):Int)))) then (
  some false
 ) else (
  onInl (α:=Unit) (β:=Bool) (Km (Rv a0 a1) 0) fun _ =>
  some true
 )
theorem Pr (a0:(List Int)) (a1:(List Int)) (r:Bool) (h:Bx a0 a1=some r):Kq Go.Proofs.Tryz.prog GlS 24 [Enc.pv a0,Enc.pv a1] (Enc.pv r):=by
 unfold Bx at h
 refine Js Go.Proofs.Tryz.func24 (by rfl) rfl Go.Proofs.Tryz.ntmps24 (by rfl) rfl ?_
 refine Ja (Jg (zE (Jc (Ja (Ja (Jg (zR 1 ?_)))))))
 refine Kl (L:=(a0:(List Int))) (by kernel_rfl) ?_
 refine zR 1 ?_
 refine Kl (L:=(a1:(List Int))) (by kernel_rfl) ?_
 refine zE (Jc ?_)
 rcases Jl h with ⟨hb,h⟩|⟨hb,h⟩
 ·refine zT hb (Ja (Jg (zE (Jc (Jq (Jn ?_))))))
  cases h
  exact zQ
 refine zU hb (Jk (Jc (Ja (Ja (Jg (zR 1 ?_))))))
 refine Kl (L:=(a0:(List Int))) (by kernel_rfl) ?_
 refine zE (Jc (Jo ?_))
 obtain ⟨o8,h8,h⟩:=Ko h
 refine Kh 26 0 (fun x3=>⟨[(0,Jp .frozen (a0:(List Int))),(1,Jp .frozen (a1:(List Int))),(12,.int .i64 ((a0.length:Nat):Int)),(13,.int .i64 x3)],[],[],[]⟩) (fun (_:Unit)=>⟨[],[],[],[]⟩) h8 (by kernel_rfl) (fun _=>by kernel_rfl) ?_ ?_
 ·rintro x3 oh7 h7
  unfold Rv at h7
  refine Ja (Jg (zE (Jc (Ja ?_))))
  rcases Jl h7 with ⟨hb,h7⟩|⟨hb,h7⟩
  ·refine zT hb (Jk (Jc (Ja (Jo (Ja (Jg (zE (Jc (Ja (Qb (by kernel_rfl) (by kernel_rfl) (zR 2 ?_)))))))))))
   obtain ⟨x6,h9,h7⟩:=Ji h7
   refine zI h9 (zR 3 ?_)
   obtain ⟨x7,h10,h7⟩:=Ji h7
   refine zI h10 (zE (Jc ?_))
   rcases Jl h7 with ⟨hb,h7⟩|⟨hb,h7⟩
   ·refine zT hb (Ja (Jg (zE (Jc (Jq (Jr (Jn ?_)))))))
    cases h7
    refine Kf fun he=>?_
    subst he
    have h11:=Qd h
    refine Jr (Jn ?_)
    cases h11
    exact zQ
   refine zU hb (Jk (Kb (Jc (Jg (zE ?_)))))
   cases h7
   exact zB
  refine zU hb (Ka (Jx ?_))
  cases h7
  exact zX
 rintro _ s' rfl hs
 have h:=Kd h
 refine Jv (Jc (Ke hs (Ja (Jg (zE (Jc (Jq ?_)))))))
 cases h
 exact zQ
/-! signallingref09.SameSteps -/
noncomputable def Ps (a0:(List Jd)) (a1:(List Jd)):Int→Option (Int⊕(Unit⊕Bool)):=fun x3 =>
 bif decide (x3<((a0.length:Nat):Int)) then (
  (ixO a0 x3).bind fun x6 =>
  (ixO a1 x3).bind fun x7 =>
  bif (!(Tt x6 x7)) then (
   some (.inr (.inr false))
  ) else (
   some (.inl (w64 (x3+1)))
  )
 ) else (
  some (.inr (.inl ()))
 )
noncomputable def Ee (a0:(List Jd)) (a1:(List Jd)):Option Bool :=
 bif (!(decide (((a0.length:Nat):Int)=((a1.length:Nat):Int)))) then (
  some false
 ) else (
  onInl (α:=Unit) (β:=Bool) (Km (Ps a0 a1) 0) fun _ =>
  some true
 )
theorem Jcn (a0:(List Jd)) (a1:(List Jd)) (r:Bool) (h:Ee a0 a1=some r):Kq Go.Proofs.Tryz.prog GlS 114 [Enc.pv a0,Enc.pv a1] (Enc.pv r):=by
 unfold Ee at h
 refine Js Go.Proofs.Tryz.func114 (by rfl) rfl Go.Proofs.Tryz.ntmps114 (by rfl) rfl ?_
 refine Ja (Jg (zE (Jc (Ja (Ja (Jg (zR 1 ?_)))))))
 refine Kl (L:=(a0:(List Jd))) (by kernel_rfl) ?_
 refine zR 1 ?_
 refine Kl (L:=(a1:(List Jd))) (by kernel_rfl) ?_
 refine zE (Jc ?_)
 rcases Jl h with ⟨hb,h⟩|⟨hb,h⟩
 ·refine zT hb (Ja (Jg (zE (Jc (Jq (Jn ?_))))))
  cases h
  exact zQ
 refine zU hb (Jk (Jc (Ja (Ja (Jg (zE (Jc (Jo ?_))))))))
 obtain ⟨o8,h8,h⟩:=Ko h
 refine Kh 26 0 (fun x3=>⟨[(0,Jp .frozen (a0:(List Jd))),(1,Jp .frozen (a1:(List Jd))),(5,.int .i64 x3)],[],[],[]⟩) (fun (_:Unit)=>⟨[],[],[],[]⟩) h8 (by kernel_rfl) (fun _=>by kernel_rfl) ?_ ?_
 ·rintro x3 oh7 h7
  unfold Ps at h7
  refine Ja (Ja (Jg (zR 2 ?_)))
  refine Kl (L:=(a0:(List Jd))) (by kernel_rfl) ?_
  refine zE (Jc ?_)
  rcases Jl h7 with ⟨hb,h7⟩|⟨hb,h7⟩
  ·refine zT hb (Jk (Jc (Ja (Jo (Ja (Qb (by kernel_rfl) (by kernel_rfl) (zR 2 ?_)))))))
   obtain ⟨x6,h9,h7⟩:=Ji h7
   refine zI h9 (zR 3 ?_)
   obtain ⟨x7,h10,h7⟩:=Ji h7
   refine zI h10 (zE (Jc ?_))
   rcases Jl h7 with ⟨hb,h7⟩|⟨hb,h7⟩
   ·refine zT hb (Ja (Jg (zE (Jc (Jq (Jr (Jn ?_)))))))
    cases h7
    refine Kf fun he=>?_
    subst he
    have h11:=Qd h
    refine Jr (Jn ?_)
    cases h11
    exact zQ
   refine zU hb (Jk (Kb (Jc (Jg (zE ?_)))))
   cases h7
   exact zB
  refine zU hb (Ka (Jx ?_))
  cases h7
  exact zX
 rintro _ s' rfl hs
 have h:=Kd h
 refine Jv (Jc (Ke hs (Ja (Jg (zE (Jc (Jq ?_)))))))
 cases h
 exact zQ
/-! signallingref12.SameSteps -/
noncomputable def Bo (a0:(List Jd)) (a1:(List Jd)):Option Bool :=
 (Ee a0 a1).bind fun r1 =>
 some r1
theorem Oc (a0:(List Jd)) (a1:(List Jd)) (r:Bool) (h:Bo a0 a1=some r):Kq Go.Proofs.Tryz.prog GlS 60 [Enc.pv a0,Enc.pv a1] (Enc.pv r):=by
 unfold Bo at h
 refine Js Go.Proofs.Tryz.func60 (by rfl) rfl Go.Proofs.Tryz.ntmps60 (by rfl) rfl ?_
 refine Ja (Jg (zE (Jc (Ja (Jg (zR 2 ?_))))))
 obtain ⟨r1,h1,h⟩:=Ji h
 refine Jy (Jcn _ _ r1 h1) (by kernel_rfl) (by kernel_rfl) (zE (Jc (Jq ?_)))
 cases h
 exact zQ
/-! signallingref09.SameSettings -/
noncomputable def Mf (a0:(List Jh)) (a1:(List Jh)):Int→Option (Int⊕(Unit⊕Bool)):=fun x3 =>
 bif decide (x3<((a0.length:Nat):Int)) then (
  (ixO a0 x3).bind fun x6 =>
  (ixO a1 x3).bind fun x7 =>
  bif (!(Wd x6 x7)) then (
   some (.inr (.inr false))
  ) else (
   some (.inl (w64 (x3+1)))
  )
 ) else (
  some (.inr (.inl ()))
 )
noncomputable def Bg (a0:(List Jh)) (a1:(List Jh)):Option Bool :=
 bif (!(decide (((a0.length:Nat):Int)=((a1.length:Nat):Int)))) then (
  some false
 ) else (
  onInl (α:=Unit) (β:=Bool) (Km (Mf a0 a1) 0) fun _ =>
  some true
 )
theorem Xs (a0:(List Jh)) (a1:(List Jh)) (r:Bool) (h:Bg a0 a1=some r):Kq Go.Proofs.Tryz.prog GlS 115 [Enc.pv a0,Enc.pv a1] (Enc.pv r):=by
 unfold Bg at h
 refine Js Go.Proofs.Tryz.func115 (by rfl) rfl Go.Proofs.Tryz.ntmps115 (by rfl) rfl ?_
 refine Ja (Jg (zE (Jc (Ja (Ja (Jg (zR 1 ?_)))))))
 refine Kl (L:=(a0:(List Jh))) (by kernel_rfl) ?_
 refine zR 1 ?_
 refine Kl (L:=(a1:(List Jh))) (by kernel_rfl) ?_
 refine zE (Jc ?_)
 rcases Jl h with ⟨hb,h⟩|⟨hb,h⟩
 ·refine zT hb (Ja (Jg (zE (Jc (Jq (Jn ?_))))))
  cases h
  exact zQ
 refine zU hb (Jk (Jc (Ja (Ja (Jg (zE (Jc (Jo ?_))))))))
 obtain ⟨o8,h8,h⟩:=Ko h
 refine Kh 26 0 (fun x3=>⟨[(0,Jp .frozen (a0:(List Jh))),(1,Jp .frozen (a1:(List Jh))),(5,.int .i64 x3)],[],[],[]⟩) (fun (_:Unit)=>⟨[],[],[],[]⟩) h8 (by kernel_rfl) (fun _=>by kernel_rfl) ?_ ?_
 ·rintro x3 oh7 h7
  unfold Mf at h7
  refine Ja (Ja (Jg (zR 2 ?_)))
  refine Kl (L:=(a0:(List Jh))) (by kernel_rfl) ?_
  refine zE (Jc ?_)
  rcases Jl h7 with ⟨hb,h7⟩|⟨hb,h7⟩
  ·refine zT hb (Jk (Jc (Ja (Jo (Ja (Qb (by kernel_rfl) (by kernel_rfl) (zR 2 ?_)))))))
   obtain ⟨x6,h9,h7⟩:=Ji h7
   refine zI h9 (zR 3 ?_)
   obtain ⟨x7,h10,h7⟩:=Ji h7
   refine zI h10 (zE (Jc ?_))
   rcases Jl h7 with ⟨hb,h7⟩|⟨hb,h7⟩
   ·refine zT hb (Ja (Jg (zE (Jc (Jq (Jr (Jn ?_)))))))
    cases h7
    refine Kf fun he=>?_
    subst he
    have h11:=Qd h
    refine Jr (Jn ?_)
    cases h11
    exact zQ
   refine zU hb (Jk (Kb (Jc (Jg (zE ?_)))))
   cases h7
   exact zB
  refine zU hb (Ka (Jx ?_))
  cases h7
  exact zX
 rintro _ s' rfl hs
 have h:=Kd h
 refine Jv (Jc (Ke hs (Ja (Jg (zE (Jc (Jq ?_)))))))
 cases h
 exact zQ
/-! signallingref12.SameSettings -/
noncomputable def Wc (a0:(List Jh)) (a1:(List Jh)):Option Bool :=
 (Bg a0 a1).bind fun r1 =>
 some r1
theorem Cm (a0:(List Jh)) (a1:(List Jh)) (r:Bool) (h:Wc a0 a1=some r):Kq Go.Proofs.Tryz.prog GlS 61 [Enc.pv a0,Enc.pv a1] (Enc.pv r):=by
 unfold Wc at h
 refine Js Go.Proofs.Tryz.func61 (by rfl) rfl Go.Proofs.Tryz.ntmps61 (by rfl) rfl ?_
 refine Ja (Jg (zE (Jc (Ja (Jg (zR 2 ?_))))))
 obtain ⟨r1,h1,h⟩:=Ji h
 refine Jy (Xs _ _ r1 h1) (by kernel_rfl) (by kernel_rfl) (zE (Jc (Jq ?_)))
 cases h
 exact zQ
/-! signallingref09.SameInts -/
noncomputable def Rj (a0:(List Int)) (a1:(List Int)):Int→Option (Int⊕(Unit⊕Bool)):=fun x3 =>
 bif decide (x3<((a0.length:Nat):Int)) then (
  (ixO a0 x3).bind fun x6 =>
  (ixO a1 x3).bind fun x7 =>
  bif (!(decide (x6=x7))) then (
   some (.inr (.inr false))
  ) else (
   some (.inl (w64 (x3+1)))
  )
 ) else (
  some (.inr (.inl ()))
 )
noncomputable def Fv (a0:(List Int)) (a1:(List Int)):Option Bool :=
 bif (!(decide (((a0.length:Nat):Int)=((a1.length:Nat):Int)))) then (
  some false
 ) else (
  onInl (α:=Unit) (β:=Bool) (Km (Rj a0 a1) 0) fun _ =>
  some true
 )
theorem Jdr (a0:(List Int)) (a1:(List Int)) (r:Bool) (h:Fv a0 a1=some r):Kq Go.Proofs.Tryz.prog GlS 116 [Enc.pv a0,Enc.pv a1] (Enc.pv r):=by
 unfold Fv at h
 refine Js Go.Proofs.Tryz.func116 (by rfl) rfl Go.Proofs.Tryz.ntmps116 (by rfl) rfl ?_
 refine Ja (Jg (zE (Jc (Ja (Ja (Jg (zR 1 ?_)))))))
 refine Kl (L:=(a0:(List Int))) (by kernel_rfl) ?_
 refine zR 1 ?_
 refine Kl (L:=(a1:(List Int))) (by kernel_rfl) ?_
 refine zE (Jc ?_)
 rcases Jl h with ⟨hb,h⟩|⟨hb,h⟩
 ·refine zT hb (Ja (Jg (zE (Jc (Jq (Jn ?_))))))
  cases h
  exact zQ
 refine zU hb (Jk (Jc (Ja (Ja (Jg (zE (Jc (Jo ?_))))))))
 obtain ⟨o8,h8,h⟩:=Ko h
 refine Kh 26 0 (fun x3=>⟨[(0,Jp .frozen (a0:(List Int))),(1,Jp .frozen (a1:(List Int))),(5,.int .i64 x3)],[],[],[]⟩) (fun (_:Unit)=>⟨[],[],[],[]⟩) h8 (by kernel_rfl) (fun _=>by kernel_rfl) ?_ ?_
 ·rintro x3 oh7 h7
  unfold Rj at h7
  refine Ja (Ja (Jg (zR 2 ?_)))
  refine Kl (L:=(a0:(List Int))) (by kernel_rfl) ?_
  refine zE (Jc ?_)
  rcases Jl h7 with ⟨hb,h7⟩|⟨hb,h7⟩
  ·refine zT hb (Jk (Jc (Ja (Jo (Ja (Qb (by kernel_rfl) (by kernel_rfl) (zR 2 ?_)))))))
   obtain ⟨x6,h9,h7⟩:=Ji h7
   refine zI h9 (zR 3 ?_)
   obtain ⟨x7,h10,h7⟩:=Ji h7
   refine zI h10 (zE (Jc ?_))
   rcases Jl h7 with ⟨hb,h7⟩|⟨hb,h7⟩
   ·refine zT hb (Ja (Jg (zE (Jc (Jq (Jr (Jn ?_)))))))
    cases h7
    refine Kf fun he=>?_
    subst he
    have h11:=Qd h
    refine Jr (Jn ?_)
    cases h11
    exact zQ
   refine zU hb (Jk (Kb (Jc (Jg (zE ?_)))))
   cases h7
   exact zB
  refine zU hb (Ka (Jx ?_))
  cases h7
  exact zX
 rintro _ s' rfl hs
 have h:=Kd h
 refine Jv (Jc (Ke hs (Ja (Jg (zE (Jc (Jq ?_)))))))
 cases h
 exact zQ
/-! signallingref12.SameInts -/
noncomputable def Zd (a0:(List Int)) (a1:(List Int)):Option Bool :=
 (Fv a0 a1).bind fun r1 =>
 some r1
theorem Hb (a0:(List Int)) (a1:(List Int)) (r:Bool) (h:Zd a0 a1=some r):Kq Go.Proofs.Tryz.prog GlS 62 [Enc.pv a0,Enc.pv a1] (Enc.pv r):=by
 unfold Zd at h
 refine Js Go.Proofs.Tryz.func62 (by rfl) rfl Go.Proofs.Tryz.ntmps62 (by rfl) rfl ?_
 refine Ja (Jg (zE (Jc (Ja (Jg (zR 2 ?_))))))
 obtain ⟨r1,h1,h⟩:=Ji h
 refine Jy (Jdr _ _ r1 h1) (by kernel_rfl) (by kernel_rfl) (zE (Jc (Jq ?_)))
 cases h
 exact zQ
/-! signallingref12.sameEnds -/
noncomputable def Re (a0:(List Jj)) (a1:(List Jj)):Int→Option (Int⊕(Unit⊕Bool)):=fun x3 =>
 bif decide (x3<((a0.length:Nat):Int)) then (
  (ixO a0 x3).bind fun x6 =>
  (ixO a1 x3).bind fun x7 =>
  bif (!(Ku x6 x7)) then (
   some (.inr (.inr false))
  ) else (
   some (.inl (w64 (x3+1)))
  )
 ) else (
  some (.inr (.inl ()))
 )
noncomputable def Ft (a0:(List Jj)) (a1:(List Jj)):Option Bool :=
 bif (!(decide (((a0.length:Nat):Int)=((a1.length:Nat):Int)))) then (
  some false
 ) else (
  onInl (α:=Unit) (β:=Bool) (Km (Re a0 a1) 0) fun _ =>
  some true
 )
theorem Jdq (a0:(List Jj)) (a1:(List Jj)) (r:Bool) (h:Ft a0 a1=some r):Kq Go.Proofs.Tryz.prog GlS 63 [Enc.pv a0,Enc.pv a1] (Enc.pv r):=by
 unfold Ft at h
 refine Js Go.Proofs.Tryz.func63 (by rfl) rfl Go.Proofs.Tryz.ntmps63 (by rfl) rfl ?_
 refine Ja (Jg (zE (Jc (Ja (Ja (Jg (zR 1 ?_)))))))
 refine Kl (L:=(a0:(List Jj))) (by kernel_rfl) ?_
 refine zR 1 ?_
 refine Kl (L:=(a1:(List Jj))) (by kernel_rfl) ?_
 refine zE (Jc ?_)
 rcases Jl h with ⟨hb,h⟩|⟨hb,h⟩
 ·refine zT hb (Ja (Jg (zE (Jc (Jq (Jn ?_))))))
  cases h
  exact zQ
 refine zU hb (Jk (Jc (Ja (Ja (Jg (zE (Jc (Jo ?_))))))))
 obtain ⟨o8,h8,h⟩:=Ko h
 refine Kh 26 0 (fun x3=>⟨[(0,Jp .frozen (a0:(List Jj))),(1,Jp .frozen (a1:(List Jj))),(5,.int .i64 x3)],[],[],[]⟩) (fun (_:Unit)=>⟨[],[],[],[]⟩) h8 (by kernel_rfl) (fun _=>by kernel_rfl) ?_ ?_
 ·rintro x3 oh7 h7
  unfold Re at h7
  refine Ja (Ja (Jg (zR 2 ?_)))
  refine Kl (L:=(a0:(List Jj))) (by kernel_rfl) ?_
  refine zE (Jc ?_)
  rcases Jl h7 with ⟨hb,h7⟩|⟨hb,h7⟩
  ·refine zT hb (Jk (Jc (Ja (Jo (Ja (Qb (by kernel_rfl) (by kernel_rfl) (zR 2 ?_)))))))
   obtain ⟨x6,h9,h7⟩:=Ji h7
   refine zI h9 (zR 3 ?_)
   obtain ⟨x7,h10,h7⟩:=Ji h7
   refine zI h10 (zE (Jc ?_))
   rcases Jl h7 with ⟨hb,h7⟩|⟨hb,h7⟩
   ·refine zT hb (Ja (Jg (zE (Jc (Jq (Jr (Jn ?_)))))))
    cases h7
    refine Kf fun he=>?_
    subst he
    have h11:=Qd h
    refine Jr (Jn ?_)
    cases h11
    exact zQ
   refine zU hb (Jk (Kb (Jc (Jg (zE ?_)))))
   cases h7
   exact zB
  refine zU hb (Ka (Jx ?_))
  cases h7
  exact zX
 rintro _ s' rfl hs
 have h:=Kd h
 refine Jv (Jc (Ke hs (Ja (Jg (zE (Jc (Jq ?_)))))))
 cases h
 exact zQ
/-! signallingref12.Same -/
noncomputable def Lo (a0:Jm) (a1:Jm):Option Bool :=
 bif (((((!(decide (a0.Name=a1.Name)))||(!(decide (a0.Entry=a1.Entry))))||(!(decide (a0.Exit=a1.Exit))))||(!(decide (a0.Approach=a1.Approach))))||(!(decide (a0.Length=a1.Length)))) then (
  some false
 ) else (
  (Bo a0.Path a1.Path).bind fun r1 =>
  ((bif (!r1) then some true else (
   (Wc a0.Points a1.Points).bind fun r3 =>
   some (!r3)
  )):Option Bool).bind fun b2 =>
  ((bif b2 then some true else (
   (Zd a0.Sections a1.Sections).bind fun r5 =>
   some (!r5)
  )):Option Bool).bind fun b4 =>
  bif b4 then (
   some false
  ) else (
   (Bo a0.Over a1.Over).bind fun r6 =>
   ((bif r6 then (
    (Wc a0.OverPoints a1.OverPoints).bind fun r8 =>
    some r8
   ) else some false):Option Bool).bind fun b7 =>
   ((bif b7 then (
    (Zd a0.OverSections a1.OverSections).bind fun r10 =>
    some r10
   ) else some false):Option Bool).bind fun b9 =>
   ((bif b9 then (
    (Wc a0.Flank a1.Flank).bind fun r12 =>
    some r12
   ) else some false):Option Bool).bind fun b11 =>
   ((bif b11 then (
    (Zd a0.Guards a1.Guards).bind fun r14 =>
    some r14
   ) else some false):Option Bool).bind fun b13 =>
   ((bif b13 then (
    (Ft a0.Gaps a1.Gaps).bind fun r16 =>
    some r16
   ) else some false):Option Bool).bind fun b15 =>
   some b15
  )
 )
theorem Jji (a0:Jm) (a1:Jm) (r:Bool) (h:Lo a0 a1=some r):Kq Go.Proofs.Tryz.prog GlS 25 [Enc.pv a0,Enc.pv a1] (Enc.pv r):=by
 unfold Lo at h
 refine Js Go.Proofs.Tryz.func25 (by rfl) rfl Go.Proofs.Tryz.ntmps25 (by rfl) rfl ?_
 refine Ja (Jg (zE (Jc (Ja (Ja (Jg (zR 6 ?_)))))))
 refine Kx 6 16 ((!(decide (a0.Name=a1.Name)))||(!(decide (a0.Entry=a1.Entry)))) (fun x hx=>?_) ?_
 ·rcases Wx hx with ⟨hb,hx⟩|⟨hb,hx⟩
  ·refine zS 10 hb ?_
   subst hx
   exact zF
  refine zS 10 hb ?_
  subst hx
  exact zF
 refine zR 1 ?_
 refine Kx 6 23 (((!(decide (a0.Name=a1.Name)))||(!(decide (a0.Entry=a1.Entry))))||(!(decide (a0.Exit=a1.Exit)))) (fun x hx=>?_) ?_
 ·rcases Wx hx with ⟨hb,hx⟩|⟨hb,hx⟩
  ·refine zS 17 hb ?_
   subst hx
   exact zF
  refine zS 17 hb ?_
  subst hx
  exact zF
 refine zR 1 ?_
 refine Kx 6 30 ((((!(decide (a0.Name=a1.Name)))||(!(decide (a0.Entry=a1.Entry))))||(!(decide (a0.Exit=a1.Exit))))||(!(decide (a0.Approach=a1.Approach)))) (fun x hx=>?_) ?_
 ·rcases Wx hx with ⟨hb,hx⟩|⟨hb,hx⟩
  ·refine zS 24 hb ?_
   subst hx
   exact zF
  refine zS 24 hb ?_
  subst hx
  exact zF
 refine zR 1 ?_
 refine Kx 6 37 (((((!(decide (a0.Name=a1.Name)))||(!(decide (a0.Entry=a1.Entry))))||(!(decide (a0.Exit=a1.Exit))))||(!(decide (a0.Approach=a1.Approach))))||(!(decide (a0.Length=a1.Length)))) (fun x hx=>?_) ?_
 ·rcases Wx hx with ⟨hb,hx⟩|⟨hb,hx⟩
  ·refine zS 31 hb ?_
   subst hx
   exact zF
  refine zS 31 hb ?_
  subst hx
  exact zF
 refine zN (Jc ?_)
 rcases Jl h with ⟨hb,h⟩|⟨hb,h⟩
 ·refine zT hb (Ja (Jg (zE (Jc (Jq (Jn ?_))))))
  cases h
  exact zQ
 refine zU hb (Jk (Jc (Ja (Ja (Jg (zR 4 ?_))))))
 obtain ⟨r1,h1,h⟩:=Ji h
 refine Jy (Oc _ _ r1 h1) (by kernel_rfl) (by kernel_rfl) ?_
 obtain ⟨b2,h2,h⟩:=Ji h
 refine zR 2 ?_
 refine Qf 7 51 (.bool b2) ?_ ?_
 ·rcases Jl h2 with ⟨hb,h2⟩|⟨hb,h2⟩
  ·refine zS 44 hb ?_
   cases h2
   exact zF
  refine zS 44 hb (zR 4 ?_)
  obtain ⟨r3,h3,h2⟩:=Ji h2
  refine Jy (Cm _ _ r3 h3) (by kernel_rfl) (by kernel_rfl) ?_
  cases h2
  exact zF
 obtain ⟨b4,h4,h⟩:=Ji h
 refine zR 1 ?_
 refine Qf 7 59 (.bool b4) ?_ ?_
 ·rcases Jl h4 with ⟨hb,h4⟩|⟨hb,h4⟩
  ·refine zS 52 hb ?_
   cases h4
   exact zF
  refine zS 52 hb (zR 4 ?_)
  obtain ⟨r5,h5,h4⟩:=Ji h4
  refine Jy (Hb _ _ r5 h5) (by kernel_rfl) (by kernel_rfl) ?_
  cases h4
  exact zF
 refine zN (Jc ?_)
 rcases Jl h with ⟨hb,h⟩|⟨hb,h⟩
 ·refine zT hb (Ja (Jg (zE (Jc (Jq (Jn ?_))))))
  cases h
  exact zQ
 refine zU hb (Jk (Jc (Ja (Jg (zR 4 ?_)))))
 obtain ⟨r6,h6,h⟩:=Ji h
 refine Jy (Oc _ _ r6 h6) (by kernel_rfl) (by kernel_rfl) ?_
 obtain ⟨b7,h7,h⟩:=Ji h
 refine zR 1 ?_
 refine Qf 6 71 (.bool b7) ?_ ?_
 ·rcases Jl h7 with ⟨hb,h7⟩|⟨hb,h7⟩
  ·refine zS 65 hb (zR 4 ?_)
   obtain ⟨r8,h8,h7⟩:=Ji h7
   refine Jy (Cm _ _ r8 h8) (by kernel_rfl) (by kernel_rfl) ?_
   cases h7
   exact zF
  refine zS 65 hb ?_
  cases h7
  exact zF
 obtain ⟨b9,h9,h⟩:=Ji h
 refine zR 1 ?_
 refine Qf 6 78 (.bool b9) ?_ ?_
 ·rcases Jl h9 with ⟨hb,h9⟩|⟨hb,h9⟩
  ·refine zS 72 hb (zR 4 ?_)
   obtain ⟨r10,h10,h9⟩:=Ji h9
   refine Jy (Hb _ _ r10 h10) (by kernel_rfl) (by kernel_rfl) ?_
   cases h9
   exact zF
  refine zS 72 hb ?_
  cases h9
  exact zF
 obtain ⟨b11,h11,h⟩:=Ji h
 refine zR 1 ?_
 refine Qf 6 85 (.bool b11) ?_ ?_
 ·rcases Jl h11 with ⟨hb,h11⟩|⟨hb,h11⟩
  ·refine zS 79 hb (zR 4 ?_)
   obtain ⟨r12,h12,h11⟩:=Ji h11
   refine Jy (Cm _ _ r12 h12) (by kernel_rfl) (by kernel_rfl) ?_
   cases h11
   exact zF
  refine zS 79 hb ?_
  cases h11
  exact zF
 obtain ⟨b13,h13,h⟩:=Ji h
 refine zR 1 ?_
 refine Qf 6 92 (.bool b13) ?_ ?_
 ·rcases Jl h13 with ⟨hb,h13⟩|⟨hb,h13⟩
  ·refine zS 86 hb (zR 4 ?_)
   obtain ⟨r14,h14,h13⟩:=Ji h13
   refine Jy (Hb _ _ r14 h14) (by kernel_rfl) (by kernel_rfl) ?_
   cases h13
   exact zF
  refine zS 86 hb ?_
  cases h13
  exact zF
 obtain ⟨b15,h15,h⟩:=Ji h
 refine zR 1 ?_
 refine Qf 6 99 (.bool b15) ?_ ?_
 ·rcases Jl h15 with ⟨hb,h15⟩|⟨hb,h15⟩
  ·refine zS 93 hb (zR 4 ?_)
   obtain ⟨r16,h16,h15⟩:=Ji h15
   refine Jy (Jdq _ _ r16 h16) (by kernel_rfl) (by kernel_rfl) ?_
   cases h15
   exact zF
  refine zS 93 hb ?_
  cases h15
  exact zF
 refine zE (Jc (Jq ?_))
 cases h
 exact zQ
/-! signallingref16.Same -/
noncomputable def Mt (a0:Qa) (a1:Qa):Int→Option (Int⊕(Unit⊕Bool)):=fun x8 =>
 bif decide (x8<((a0.Routes.length:Nat):Int)) then (
  (ixO a0.Routes x8).bind fun x12 =>
  (ixO a1.Routes x8).bind fun x13 =>
  (Lo x12 x13).bind fun r14 =>
  bif (!r14) then (
   some (.inr (.inr false))
  ) else (
   some (.inl (w64 (x8+1)))
  )
 ) else (
  some (.inr (.inl ()))
 )
noncomputable def Mp (a0:Qa) (a1:Qa):Option Bool :=
 ((bif (!(decide (((a0.Routes.length:Nat):Int)=((a1.Routes.length:Nat):Int)))) then some true else (
  (Bx a0.Points a1.Points).bind fun r2 =>
  some (!r2)
 )):Option Bool).bind fun b1 =>
 ((bif b1 then some true else (
  (Bx a0.Homes a1.Homes).bind fun r4 =>
  some (!r4)
 )):Option Bool).bind fun b3 =>
 bif ((b3||(!(decide (a0.Sections=a1.Sections))))||(!(decide (a0.Signals=a1.Signals)))) then (
  some false
 ) else (
  onInl (α:=Unit) (β:=Bool) (Km (Mt a0 a1) 0) fun _ =>
  some true
 )
theorem Ji6 (a0:Qa) (a1:Qa) (r:Bool) (h:Mp a0 a1=some r):Kq Go.Proofs.Tryz.prog GlS 9 [Enc.pv a0,Enc.pv a1] (Enc.pv r):=by
 unfold Mp at h
 refine Js Go.Proofs.Tryz.func9 (by rfl) rfl Go.Proofs.Tryz.ntmps9 (by rfl) rfl ?_
 refine Ja (Jg (zE (Jc (Ja (Ja (Jg (zR 2 ?_)))))))
 refine Kl (L:=(a0.Routes:(List Jm))) (by kernel_rfl) ?_
 refine zR 2 ?_
 refine Kl (L:=(a1.Routes:(List Jm))) (by kernel_rfl) ?_
 obtain ⟨b1,h1,h⟩:=Ji h
 refine zR 2 ?_
 refine Qf 7 20 (.bool b1) ?_ ?_
 ·rcases Jl h1 with ⟨hb,h1⟩|⟨hb,h1⟩
  ·refine zS 13 hb ?_
   cases h1
   exact zF
  refine zS 13 hb (zR 4 ?_)
  obtain ⟨r2,h2,h1⟩:=Ji h1
  refine Jy (Pr _ _ r2 h2) (by kernel_rfl) (by kernel_rfl) ?_
  cases h1
  exact zF
 obtain ⟨b3,h3,h⟩:=Ji h
 refine zR 1 ?_
 refine Qf 7 28 (.bool b3) ?_ ?_
 ·rcases Jl h3 with ⟨hb,h3⟩|⟨hb,h3⟩
  ·refine zS 21 hb ?_
   cases h3
   exact zF
  refine zS 21 hb (zR 4 ?_)
  obtain ⟨r4,h4,h3⟩:=Ji h3
  refine Jy (Pr _ _ r4 h4) (by kernel_rfl) (by kernel_rfl) ?_
  cases h3
  exact zF
 refine zR 1 ?_
 refine Kx 6 35 (b3||(!(decide (a0.Sections=a1.Sections)))) (fun x hx=>?_) ?_
 ·rcases Wx hx with ⟨hb,hx⟩|⟨hb,hx⟩
  ·refine zS 29 hb ?_
   subst hx
   exact zF
  refine zS 29 hb ?_
  subst hx
  exact zF
 refine zR 1 ?_
 refine Kx 6 42 ((b3||(!(decide (a0.Sections=a1.Sections))))||(!(decide (a0.Signals=a1.Signals)))) (fun x hx=>?_) ?_
 ·rcases Wx hx with ⟨hb,hx⟩|⟨hb,hx⟩
  ·refine zS 36 hb ?_
   subst hx
   exact zF
  refine zS 36 hb ?_
  subst hx
  exact zF
 refine zN (Jc ?_)
 rcases Jl h with ⟨hb,h⟩|⟨hb,h⟩
 ·refine zT hb (Ja (Jg (zE (Jc (Jq (Jn ?_))))))
  cases h
  exact zQ
 refine zU hb (Jk (Jc (Ja (Ja (Jg (zR 2 ?_))))))
 refine Kl (L:=(a0.Routes:(List Jm))) (by kernel_rfl) ?_
 refine zE (Jc (Jo ?_))
 obtain ⟨o14,h14,h⟩:=Ko h
 refine Kh 62 0 (fun x8=>⟨[(2,.ref 2 0),(3,.ref 3 0),(45,.int .i64 ((a0.Routes.length:Nat):Int)),(46,.int .i64 x8)],[(2,.cells (cellsOf a0)),(3,.cells (cellsOf a1))],[],[]⟩) (fun (_:Unit)=>⟨[],[],[],[]⟩) h14 (by kernel_rfl) (fun _=>by kernel_rfl) ?_ ?_
 ·rintro x8 oh13 h13
  unfold Mt at h13
  refine Ja (Jg (zE (Jc (Ja ?_))))
  rcases Jl h13 with ⟨hb,h13⟩|⟨hb,h13⟩
  ·refine zT hb (Jk (Jc (Ja (Jo (Ja (Jg (zE (Jc (Ja (Qb (by kernel_rfl) (by kernel_rfl) (zR 3 ?_)))))))))))
   obtain ⟨x12,h15,h13⟩:=Ji h13
   refine zI h15 (zR 4 ?_)
   obtain ⟨x13,h16,h13⟩:=Ji h13
   refine zI h16 (zR 1 ?_)
   obtain ⟨r14,h17,h13⟩:=Ji h13
   refine Jy (Jji _ _ r14 h17) (by kernel_rfl) (by kernel_rfl) (zE (Jc ?_))
   rcases Jl h13 with ⟨hb,h13⟩|⟨hb,h13⟩
   ·refine zT hb (Ja (Jg (zE (Jc (Jq (Jr (Jn ?_)))))))
    cases h13
    refine Kf fun he=>?_
    subst he
    have h18:=Qd h
    refine Jr (Jn ?_)
    cases h18
    exact zQ
   refine zU hb (Jk (Kb (Jc (Jg (zE ?_)))))
   cases h13
   exact zB
  refine zU hb (Ka (Jx ?_))
  cases h13
  exact zX
 rintro _ s' rfl hs
 have h:=Kd h
 refine Jv (Jc (Ke hs (Ja (Jg (zE (Jc (Jq ?_)))))))
 cases h
 exact zQ
/-! claims.follow$1$1 -/
noncomputable def Zs (a0:Jd) (c0:Jd):Option Bool :=
 some (decide (a0.El=c0.El))
theorem Tw (a0:Jd) (c0:Jd) (r:Bool) (h:Zs a0 c0=some r):Kq Go.Proofs.Tryz.prog GlS 82 [Enc.pv a0,.cptr (cellsOf c0)] (Enc.pv r):=by
 unfold Zs at h
 refine Js Go.Proofs.Tryz.func82 (by rfl) rfl Go.Proofs.Tryz.ntmps82 (by rfl) rfl ?_
 refine Ja (Jg (zE (Jc (Ja (Jg (zE (Jc (Jq ?_))))))))
 cases h
 exact zQ
/-! slices.IndexFunc[[]api.Step,api.Step] -/
noncomputable def Vq (a0:(List Jd)) (a1_0:Jd):Int→Option (Int⊕(Unit⊕Int)):=fun x3 =>
 bif decide (x3<((a0.length:Nat):Int)) then (
  (ixO a0 x3).bind fun x6 =>
  (Zs x6 a1_0).bind fun r7 =>
  bif r7 then (
   some (.inr (.inr x3))
  ) else (
   some (.inl (w64 (x3+1)))
  )
 ) else (
  some (.inr (.inl ()))
 )
noncomputable def Qz (a0:(List Jd)) (a1_0:Jd):Option Int :=
 onInl (α:=Unit) (β:=Int) (Km (Vq a0 a1_0) 0) fun _ =>
 some (-1)
theorem Ze (a0:(List Jd)) (a1_0:Jd) (r:Int) (h:Qz a0 a1_0=some r):Kq Go.Proofs.Tryz.prog GlS 123 [Enc.pv a0,.fn 82 [.cptr (cellsOf a1_0)]] (Enc.pv r):=by
 unfold Qz at h
 refine Js Go.Proofs.Tryz.func123 (by rfl) rfl Go.Proofs.Tryz.ntmps123 (by rfl) rfl ?_
 refine Ja (Jg (zE (Jc (Ja (Ja (Jg (zR 1 ?_)))))))
 refine Kl (L:=(a0:(List Jd))) (by kernel_rfl) ?_
 refine zE (Jc (Jo ?_))
 obtain ⟨o8,h8,h⟩:=Ko h
 refine Kh 19 0 (fun x3=>⟨[(0,Jp .frozen (a0:(List Jd))),(1,.fn 82 [.cptr (cellsOf a1_0)]),(7,.int .i64 ((a0.length:Nat):Int)),(8,.int .i64 x3)],[],[],[]⟩) (fun (_:Unit)=>⟨[],[],[],[]⟩) h8 (by kernel_rfl) (fun _=>by kernel_rfl) ?_ ?_
 ·rintro x3 oh7 h7
  unfold Vq at h7
  refine Ja (Jg (zE (Jc (Ja ?_))))
  rcases Jl h7 with ⟨hb,h7⟩|⟨hb,h7⟩
  ·refine zT hb (Jk (Jc (Ja (Jo (Ja (Jg (zE (Jc (Ja (Jg (zR 3 ?_)))))))))))
   obtain ⟨x6,h9,h7⟩:=Ji h7
   refine zI h9 (zR 1 ?_)
   obtain ⟨r7,h10,h7⟩:=Ji h7
   refine Jy (Tw _ _ r7 h10) (by kernel_rfl) (by kernel_rfl) (zN (Jc ?_))
   rcases Jl h7 with ⟨hb,h7⟩|⟨hb,h7⟩
   ·refine zT hb (Ja (Jg (zE (Jc (Jq (Jr (Jn ?_)))))))
    cases h7
    refine Kf fun he=>?_
    subst he
    have h11:=Qd h
    refine Jr (Jn ?_)
    cases h11
    exact zQ
   refine zU hb (Jk (Kb (Jc (Jg (zE ?_)))))
   cases h7
   exact zB
  refine zU hb (Ka (Jx ?_))
  cases h7
  exact zX
 rintro _ s' rfl hs
 have h:=Kd h
 refine Jv (Jc (Ke hs (Ja (Jg (zE (Jc (Jq ?_)))))))
 cases h
 exact zQ
/-! slices.ContainsFunc[[]api.Step,api.Step] -/
noncomputable def Qq (a0:(List Jd)) (a1_0:Jd):Option Bool :=
 (Qz a0 a1_0).bind fun r1 =>
 some (decide (0≤r1))
theorem Yk (a0:(List Jd)) (a1_0:Jd) (r:Bool) (h:Qq a0 a1_0=some r):Kq Go.Proofs.Tryz.prog GlS 81 [Enc.pv a0,.fn 82 [.cptr (cellsOf a1_0)]] (Enc.pv r):=by
 unfold Qq at h
 refine Js Go.Proofs.Tryz.func81 (by rfl) rfl Go.Proofs.Tryz.ntmps81 (by rfl) rfl ?_
 refine Ja (Jg (zE (Jc (Ja (Jg (zR 2 ?_))))))
 obtain ⟨r1,h1,h⟩:=Ji h
 refine Jy (Ze _ _ r1 h1) (by kernel_rfl) (by kernel_rfl) (zE (Jc (Jq ?_)))
 cases h
 exact zQ
/-! claims.follow$1 -/
noncomputable def Zj (a0:Jd) (c0:Kj):Option Bool :=
 (Qq c0.Steps a0).bind fun r1 =>
 some r1
theorem Jbm (a0:Jd) (c0:Kj) (r:Bool) (h:Zj a0 c0=some r):Kq Go.Proofs.Tryz.prog GlS 80 [Enc.pv a0,.cptr (cellsOf c0)] (Enc.pv r):=by
 unfold Zj at h
 refine Js Go.Proofs.Tryz.func80 (by rfl) rfl Go.Proofs.Tryz.ntmps80 (by rfl) rfl ?_
 refine Ja (Jg (zE (Jc (Ja ?_))))
 refine Jx1 2 [] (cs:=cellsOf a0) (cs':=cellsOf a0) (by kernel_rfl) (by kernel_rfl) (by kernel_rfl) (by kernel_rfl) ?_
 refine Jg (zR 3 ?_)
 obtain ⟨r1,h1,h⟩:=Ji h
 refine Jy (Yk _ _ r1 h1) (by kernel_rfl) (by kernel_rfl) (zE (Jc (Jq ?_)))
 cases h
 exact zQ
/-! slices.IndexFunc[[]api.Step,api.Step] -/
noncomputable def Ub (a0:(List Jd)) (a1_0:Kj):Int→Option (Int⊕(Unit⊕Int)):=fun x3 =>
 bif decide (x3<((a0.length:Nat):Int)) then (
  (ixO a0 x3).bind fun x6 =>
  (Zj x6 a1_0).bind fun r7 =>
  bif r7 then (
   some (.inr (.inr x3))
  ) else (
   some (.inl (w64 (x3+1)))
  )
 ) else (
  some (.inr (.inl ()))
 )
noncomputable def Ue (a0:(List Jd)) (a1_0:Kj):Option Int :=
 onInl (α:=Unit) (β:=Int) (Km (Ub a0 a1_0) 0) fun _ =>
 some (-1)
theorem Zv (a0:(List Jd)) (a1_0:Kj) (r:Int) (h:Ue a0 a1_0=some r):Kq Go.Proofs.Tryz.prog GlS 123 [Enc.pv a0,.fn 80 [.cptr (cellsOf a1_0)]] (Enc.pv r):=by
 unfold Ue at h
 refine Js Go.Proofs.Tryz.func123 (by rfl) rfl Go.Proofs.Tryz.ntmps123 (by rfl) rfl ?_
 refine Ja (Jg (zE (Jc (Ja (Ja (Jg (zR 1 ?_)))))))
 refine Kl (L:=(a0:(List Jd))) (by kernel_rfl) ?_
 refine zE (Jc (Jo ?_))
 obtain ⟨o8,h8,h⟩:=Ko h
 refine Kh 19 0 (fun x3=>⟨[(0,Jp .frozen (a0:(List Jd))),(1,.fn 80 [.cptr (cellsOf a1_0)]),(7,.int .i64 ((a0.length:Nat):Int)),(8,.int .i64 x3)],[],[],[]⟩) (fun (_:Unit)=>⟨[],[],[],[]⟩) h8 (by kernel_rfl) (fun _=>by kernel_rfl) ?_ ?_
 ·rintro x3 oh7 h7
  unfold Ub at h7
  refine Ja (Jg (zE (Jc (Ja ?_))))
  rcases Jl h7 with ⟨hb,h7⟩|⟨hb,h7⟩
  ·refine zT hb (Jk (Jc (Ja (Jo (Ja (Jg (zE (Jc (Ja (Jg (zR 3 ?_)))))))))))
   obtain ⟨x6,h9,h7⟩:=Ji h7
   refine zI h9 (zR 1 ?_)
   obtain ⟨r7,h10,h7⟩:=Ji h7
   refine Jy (Jbm _ _ r7 h10) (by kernel_rfl) (by kernel_rfl) (zN (Jc ?_))
   rcases Jl h7 with ⟨hb,h7⟩|⟨hb,h7⟩
   ·refine zT hb (Ja (Jg (zE (Jc (Jq (Jr (Jn ?_)))))))
    cases h7
    refine Kf fun he=>?_
    subst he
    have h11:=Qd h
    refine Jr (Jn ?_)
    cases h11
    exact zQ
   refine zU hb (Jk (Kb (Jc (Jg (zE ?_)))))
   cases h7
   exact zB
  refine zU hb (Ka (Jx ?_))
  cases h7
  exact zX
 rintro _ s' rfl hs
 have h:=Kd h
 refine Jv (Jc (Ke hs (Ja (Jg (zE (Jc (Jq ?_)))))))
 cases h
 exact zQ
/-! slices.ContainsFunc[[]api.Step,api.Step] -/
noncomputable def Qn (a0:(List Jd)) (a1_0:Kj):Option Bool :=
 (Ue a0 a1_0).bind fun r1 =>
 some (decide (0≤r1))
theorem Yx (a0:(List Jd)) (a1_0:Kj) (r:Bool) (h:Qn a0 a1_0=some r):Kq Go.Proofs.Tryz.prog GlS 81 [Enc.pv a0,.fn 80 [.cptr (cellsOf a1_0)]] (Enc.pv r):=by
 unfold Qn at h
 refine Js Go.Proofs.Tryz.func81 (by rfl) rfl Go.Proofs.Tryz.ntmps81 (by rfl) rfl ?_
 refine Ja (Jg (zE (Jc (Ja (Jg (zR 2 ?_))))))
 obtain ⟨r1,h1,h⟩:=Ji h
 refine Jy (Zv _ _ r1 h1) (by kernel_rfl) (by kernel_rfl) (zE (Jc (Jq ?_)))
 cases h
 exact zQ
/-! slices.Index[[]int,int] -/
noncomputable def Bn (a0:(List Int)) (a1:Int):Int→Option (Int⊕(Unit⊕Int)):=fun x2 =>
 bif decide (x2<((a0.length:Nat):Int)) then (
  (ixO a0 x2).bind fun x4 =>
  bif decide (a1=x4) then (
   some (.inr (.inr x2))
  ) else (
   some (.inl (w64 (x2+1)))
  )
 ) else (
  some (.inr (.inl ()))
 )
noncomputable def Cy (a0:(List Int)) (a1:Int):Option Int :=
 onInl (α:=Unit) (β:=Int) (Km (Bn a0 a1) 0) fun _ =>
 some (-1)
theorem Jbl (a0:(List Int)) (a1:Int) (r:Int) (h:Cy a0 a1=some r):Kq Go.Proofs.Tryz.prog GlS 124 [Enc.pv a0,Enc.pv a1] (Enc.pv r):=by
 unfold Cy at h
 refine Js Go.Proofs.Tryz.func124 (by rfl) rfl Go.Proofs.Tryz.ntmps124 (by rfl) rfl ?_
 refine Ja (Jg (zE (Jc (Ja (Ja (Jg (zR 1 ?_)))))))
 refine Kl (L:=(a0:(List Int))) (by kernel_rfl) ?_
 refine zE (Jc (Jo ?_))
 obtain ⟨o6,h6,h⟩:=Ko h
 refine Kh 19 0 (fun x2=>⟨[(0,Jp .frozen (a0:(List Int))),(1,.int .i64 a1),(7,.int .i64 ((a0.length:Nat):Int)),(8,.int .i64 x2)],[],[],[]⟩) (fun (_:Unit)=>⟨[],[],[],[]⟩) h6 (by kernel_rfl) (fun _=>by kernel_rfl) ?_ ?_
 ·rintro x2 oh5 h5
  unfold Bn at h5
  refine Ja (Jg (zE (Jc (Ja ?_))))
  rcases Jl h5 with ⟨hb,h5⟩|⟨hb,h5⟩
  ·refine zT hb (Jk (Jc (Ja (Jo (Ja (Jg (zE (Jc (Ja (Jg (zR 3 ?_)))))))))))
   obtain ⟨x4,h7,h5⟩:=Ji h5
   refine zI h7 (zE (Jc ?_))
   rcases Jl h5 with ⟨hb,h5⟩|⟨hb,h5⟩
   ·refine zT hb (Ja (Jg (zE (Jc (Jq (Jr (Jn ?_)))))))
    cases h5
    refine Kf fun he=>?_
    subst he
    have h8:=Qd h
    refine Jr (Jn ?_)
    cases h8
    exact zQ
   refine zU hb (Jk (Kb (Jc (Jg (zE ?_)))))
   cases h5
   exact zB
  refine zU hb (Ka (Jx ?_))
  cases h5
  exact zX
 rintro _ s' rfl hs
 have h:=Kd h
 refine Jv (Jc (Ke hs (Ja (Jg (zE (Jc (Jq ?_)))))))
 cases h
 exact zQ
/-! slices.Contains[[]int,int] -/
noncomputable def Vr (a0:(List Int)) (a1:Int):Option Bool :=
 (Cy a0 a1).bind fun r1 =>
 some (decide (0≤r1))
theorem Tl (a0:(List Int)) (a1:Int) (r:Bool) (h:Vr a0 a1=some r):Kq Go.Proofs.Tryz.prog GlS 83 [Enc.pv a0,Enc.pv a1] (Enc.pv r):=by
 unfold Vr at h
 refine Js Go.Proofs.Tryz.func83 (by rfl) rfl Go.Proofs.Tryz.ntmps83 (by rfl) rfl ?_
 refine Ja (Jg (zE (Jc (Ja (Jg (zR 2 ?_))))))
 obtain ⟨r1,h1,h⟩:=Ji h
 refine Jy (Jbl _ _ r1 h1) (by kernel_rfl) (by kernel_rfl) (zE (Jc (Jq ?_)))
 cases h
 exact zQ
end PM
