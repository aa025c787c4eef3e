/-
 Plain functions for the program's functions, and the proofs that the program does them. Printed by den.py.
-/
import Derived.Test.YtmklahiganfdmaaGreatDoorDen0
namespace PM
open Go Go.RowKit
attribute [local irreducible] Qc pwp
/-! walk.Valid -/
noncomputable def Fb (x49:Jd) (x51:(List Jd)):Int→Option (Int⊕(Unit⊕(Unit⊕(Int⊕(Unit⊕Bool))))):=fun x53 =>
 bif decide (x53<((x51.length:Nat):Int)) then (
  (ixO x51 x53).bind fun x55 =>
  bif decide (x55.El=x49.El) then (
   some (.inr (.inr (.inr (.inr (.inr false)))))
  ) else (
   some (.inl (w64 (x53+1)))
  )
 ) else (
  some (.inr (.inl ()))
 )
noncomputable def Lv (a0:Je) (a1:(List Jd)) (r2:Je):Int→Option (Int⊕(Unit⊕Bool)):=fun x21 =>
 bif decide (x21<((a1.length:Nat):Int)) then (
  onInl (α:=Unit) (β:=(Int⊕(Unit⊕Bool))) (
   (ixO a1 x21).bind fun x49 =>
   (Df a0 x49).bind fun r50 =>
   bif (!r50.2) then (
    some (.inr (.inr (.inr false)))
   ) else (
    (slO a1 none (some x21) none).bind fun x51 =>
    onInl (α:=Unit) (β:=(Unit⊕(Int⊕(Unit⊕Bool)))) (Km (Fb x49 x51) 0) fun _ =>
    bif decide (x21=0) then (
     some (.inl ())
    ) else (
     (ixO a1 (w64 (x21 - 1))).bind fun x56 =>
     (Co x56 r2).bind fun r57 =>
     bif (((!r57.2)||(!(decide (r57.1.El=x49.El))))||(!(decide (r57.1.Side=x49.In)))) then (
      some (.inr (.inr (.inr false)))
     ) else (
      some (.inl ())
     )
    )
   )
  ) fun _ =>
  some (.inl (w64 (x21+1)))
 ) else (
  some (.inr (.inl ()))
 )
noncomputable def Db (a0:Je) (a1:(List Jd)):Option Bool :=
 ((bif decide (((a1.length:Nat):Int)=0) then some true else (
  some (decide (64<((a1.length:Nat):Int)))
 )):Option Bool).bind fun b1 =>
 bif b1 then (
  some false
 ) else (
  (Lq a0).bind fun r2 =>
  onInl (α:=Unit) (β:=Bool) (Km (Lv a0 a1 r2) 0) fun _ =>
  some true
 )
theorem Pe (a0:Je) (a1:(List Jd)) (r:Bool) (h:Db a0 a1=some r):Kq Go.Proofs.Tryz.prog GlS 26 [Enc.pv a0,Enc.pv a1] (Enc.pv r):=by
 unfold Db at h
 refine Js Go.Proofs.Tryz.func26 (by rfl) rfl Go.Proofs.Tryz.ntmps26 (by rfl) rfl ?_
 refine Ja (Jg (zE (Jc (Ja (Ja (Jg (zR 1 ?_)))))))
 refine Kl (L:=(a1:(List Jd))) (by kernel_rfl) ?_
 obtain ⟨b1,h1,h⟩:=Ji h
 refine zR 2 ?_
 refine Qf 4 21 (.bool b1) ?_ ?_
 ·rcases Jl h1 with ⟨hb,h1⟩|⟨hb,h1⟩
  ·refine zS 17 hb ?_
   cases h1
   exact zF
  refine zS 17 hb (zR 1 ?_)
  refine Kl (L:=(a1:(List Jd))) (by kernel_rfl) ?_
  cases h1
  exact zF
 refine zN (Jc ?_)
 rcases Jl h with ⟨hb,h⟩|⟨hb,h⟩
 ·refine zT hb (Ja (Jg (zE (Jc (Jq (Jn ?_))))))
  cases h
  exact zQ
 refine zU hb (Jk (Jc (Ja (Jg (zR 1 ?_)))))
 obtain ⟨r2,h2,h⟩:=Ji h
 refine Jy (Jfq _ r2 h2) (by kernel_rfl) (by kernel_rfl) (zE (Jc (Ja (Ja (Jg (zR 1 ?_))))))
 refine Kl (L:=(a1:(List Jd))) (by kernel_rfl) ?_
 refine zE (Jc (Jo ?_))
 obtain ⟨o98,h98,h⟩:=Ko h
 refine Kh 82 0 (fun x21=>⟨[(1,Jp .frozen (a1:(List Jd))),(2,.ref 2 0),(5,.fn 117 [.cptr (cellsOf r2)]),(24,Jp .frozen (a1:(List Jd))),(25,.int .i64 ((a1.length:Nat):Int)),(26,.int .i64 x21)],[(2,.cells (cellsOf a0))],[],[]⟩) (fun (_:Unit)=>⟨[],[],[],[]⟩) h98 (by kernel_rfl) (fun _=>by kernel_rfl) ?_ ?_
 ·rintro x21 oh97 h97
  unfold Lv at h97
  refine Ja (Jg (zE (Jc (Ja ?_))))
  rcases Jl h97 with ⟨hb,h97⟩|⟨hb,h97⟩
  ·refine zT hb (Jk (Jc ?_))
   obtain ⟨o122,h122,h97⟩:=Ko h97
   refine Um (o:=o122) 82 (fun (_:Unit)=>⟨[(1,Jp .frozen (a1:(List Jd))),(2,.ref 2 0),(5,.fn 117 [.cptr (cellsOf r2)]),(24,Jp .frozen (a1:(List Jd))),(25,.int .i64 ((a1.length:Nat):Int)),(26,.int .i64 x21)],[(2,.cells (cellsOf a0))],[],[]⟩) ?_ ?_
   ·refine Jo (Ja (Jg (zR 1 ?_)))
    obtain ⟨x49,h123,h122⟩:=Ji h122
    refine zI h123 (zE (Jc (Ja (Ja (Jg (zR 2 ?_))))))
    obtain ⟨r50,h124,h122⟩:=Ji h122
    refine Jy (Jek _ _ r50 h124) (by kernel_rfl) (by kernel_rfl) (zE (Jc (Ja (Jg (zE (Jc ?_))))))
    rcases Jl h122 with ⟨hb,h122⟩|⟨hb,h122⟩
    ·refine zT hb (Ja (Jg (zE (Jc (Jq (Jn (Jr ?_)))))))
     cases h122
     refine Jaf ?_
     have h125:=Qd h97
     cases h125
     refine Kf fun he=>?_
     subst he
     have h126:=Qd h
     refine Jr (Jn ?_)
     cases h126
     exact zQ
    refine zU hb (Jk (Jc (Ja (Ja (Jg (zR 2 ?_))))))
    obtain ⟨x51,h127,h122⟩:=Ji h122
    refine Kea h127 .frozen (by kernel_rfl) (by kernel_rfl) (by kernel_rfl) ?_
    refine Kl (L:=(x51:(List Jd))) (by kernel_rfl) ?_
    refine zE (Jc (Jo ?_))
    obtain ⟨o137,h137,h122⟩:=Ko h122
    refine Kh 82 2 (fun x53=>⟨[(1,Jp .frozen (a1:(List Jd))),(2,.ref 2 0),(5,.fn 117 [.cptr (cellsOf r2)]),(6,.int .i64 x21),(7,.ref 7 0),(24,Jp .frozen (a1:(List Jd))),(25,.int .i64 ((a1.length:Nat):Int)),(26,.int .i64 x21),(41,Jp .frozen (x51:(List Jd))),(42,.int .i64 ((x51.length:Nat):Int)),(43,.int .i64 x53)],[(2,.cells (cellsOf a0)),(7,.cells (cellsOf x49))],[],[]⟩) (fun (_:Unit)=>⟨[(1,Jp .frozen (a1:(List Jd))),(2,.ref 2 0),(5,.fn 117 [.cptr (cellsOf r2)]),(6,.int .i64 x21),(7,.ref 7 0),(24,Jp .frozen (a1:(List Jd))),(25,.int .i64 ((a1.length:Nat):Int)),(26,.int .i64 x21)],[(2,.cells (cellsOf a0)),(7,.cells (cellsOf x49))],[],[]⟩) h137 (by kernel_rfl) (fun _=>by kernel_rfl) ?_ ?_
    ·rintro x53 oh136 h136
     unfold Fb at h136
     refine Ja (Jg (zE (Jc (Ja ?_))))
     rcases Jl h136 with ⟨hb,h136⟩|⟨hb,h136⟩
     ·refine zT hb (Jk (Jc (Ja (Jo (Ja (Jg ?_))))))
      obtain ⟨x55,h138,h136⟩:=Ji h136
      refine zI h138 (zE (Jc (Ja (Jg (zE (Jc ?_))))))
      rcases Jl h136 with ⟨hb,h136⟩|⟨hb,h136⟩
      ·refine zT hb (Ja (Jg (zE (Jc (Jq (Jr (Jn ?_)))))))
       cases h136
       refine Kf fun he=>?_
       subst he
       have h139:=Qd h122
       refine Jr (Jn (Jr ?_))
       cases h139
       refine Jaf ?_
       have h140:=Qd h97
       cases h140
       refine Kf fun he=>?_
       subst he
       have h141:=Qd h
       refine Jr (Jn ?_)
       cases h141
       exact zQ
      refine zU hb (Jk (Kb (Jc (Jg (zE ?_)))))
      cases h136
      exact zB
     refine zU hb (Ka (Jx ?_))
     cases h136
     exact zX
    rintro _ s' rfl hs
    have h122:=Kd h122
    refine Jv (Jc (Ke hs (Ja (Ja (Jg (zE (Jc ?_)))))))
    rcases Jl h122 with ⟨hb,h122⟩|⟨hb,h122⟩
    ·refine zT hb (Ka (Jx (Jv ?_)))
     cases h122
     exact zJ
    refine zU hb (Jk (Jc (Ja (Jg (zR 4 ?_)))))
    obtain ⟨x56,h142,h122⟩:=Ji h122
    refine zI h142 (zR 1 ?_)
    obtain ⟨r57,h143,h122⟩:=Ji h122
    refine Jy (Jdn _ _ r57 h143) (by kernel_rfl) (by kernel_rfl) (zE (Jc (Ja (Jg (zR 3 ?_)))))
    refine Kx 6 73 ((!r57.2)||(!(decide (r57.1.El=x49.El)))) (fun x hx=>?_) ?_
    ·rcases Wx hx with ⟨hb,hx⟩|⟨hb,hx⟩
     ·refine zS 67 hb ?_
      subst hx
      exact zF
     refine zS 67 hb ?_
     subst hx
     exact zF
    refine zR 1 ?_
    refine Kx 6 80 (((!r57.2)||(!(decide (r57.1.El=x49.El))))||(!(decide (r57.1.Side=x49.In)))) (fun x hx=>?_) ?_
    ·rcases Wx hx with ⟨hb,hx⟩|⟨hb,hx⟩
     ·refine zS 74 hb ?_
      subst hx
      exact zF
     refine zS 74 hb ?_
     subst hx
     exact zF
    refine zN (Jc ?_)
    rcases Jl h122 with ⟨hb,h122⟩|⟨hb,h122⟩
    ·refine zT hb (Ja (Jg (zE (Jc (Jq (Jr ?_))))))
     cases h122
     refine Jaf ?_
     have h144:=Qd h97
     cases h144
     refine Kf fun he=>?_
     subst he
     have h145:=Qd h
     refine Jr (Jn ?_)
     cases h145
     exact zQ
    refine zU hb (Jk (Kb ?_))
    cases h122
    exact zJ
   rintro _ rfl
   have h97:=Kd h97
   refine Jg (zE ?_)
   cases h97
   exact zB
  refine zU hb (Ka (Jx ?_))
  cases h97
  exact zX
 rintro _ s' rfl hs
 have h:=Kd h
 refine Jv (Jc (Ke hs (Ja (Jg (zE (Jc (Jq ?_)))))))
 cases h
 exact zQ
/-! profile.coordinate -/
noncomputable def Vh (a0:Int):Option Bool :=
 some ((decide ((-1073741824)≤a0))&&(decide (a0≤1073741824)))
theorem Ca (a0:Int) (r:Bool) (h:Vh a0=some r):Kq Go.Proofs.Tryz.prog GlS 71 [Enc.pv a0] (Enc.pv r):=by
 unfold Vh at h
 refine Js Go.Proofs.Tryz.func71 (by rfl) rfl Go.Proofs.Tryz.ntmps71 (by rfl) rfl ?_
 refine Ja (Jg (zE (Jc (Ja (Jg (zR 3 ?_))))))
 refine Kx 3 8 ((decide ((-1073741824)≤a0))&&(decide (a0≤1073741824))) (fun x hx=>?_) ?_
 ·rcases Wb hx with ⟨hb,hx⟩|⟨hb,hx⟩
  ·refine zS 5 hb ?_
   subst hx
   exact zF
  refine zS 5 hb ?_
  subst hx
  exact zF
 refine zE (Jc (Jq ?_))
 cases h
 exact zQ
/-! profile.gradient -/
noncomputable def Zl (a0:Jw) (a1:Jd):Option Int :=
 bif ((decide (a1.In=0))||((decide (a1.In=2))&&(decide (a0.Kind=3)))) then (
  some a0.Grade
 ) else (
  some (w64 (0 - a0.Grade))
 )
theorem Jbk (a0:Jw) (a1:Jd) (r:Int) (h:Zl a0 a1=some r):Kq Go.Proofs.Tryz.prog GlS 72 [Enc.pv a0,Enc.pv a1] (Enc.pv r):=by
 unfold Zl at h
 refine Js Go.Proofs.Tryz.func72 (by rfl) rfl Go.Proofs.Tryz.ntmps72 (by rfl) rfl ?_
 refine Ja (Jg (zE (Jc (Ja (Ja (Jg (zR 4 ?_)))))))
 refine Kx 9 17 ((decide (a1.In=0))||((decide (a1.In=2))&&(decide (a0.Kind=3)))) (fun x hx=>?_) ?_
 ·rcases Wx hx with ⟨hb,hx⟩|⟨hb,hx⟩
  ·refine zS 8 hb ?_
   subst hx
   exact zF
  refine zS 8 hb (zR 4 ?_)
  refine Tv 4 16 ((decide (a1.In=2))&&(decide (a0.Kind=3))) (fun x hx=>?_) ?_
  ·rcases Wb hx with ⟨hb,hx⟩|⟨hb,hx⟩
   ·refine zS 12 hb ?_
    subst hx
    exact zF
   refine zS 12 hb ?_
   subst hx
   exact zF
  subst hx
  exact zF
 refine zN (Jc ?_)
 rcases Jl h with ⟨hb,h⟩|⟨hb,h⟩
 ·refine zT hb (Ja (Jg (zE (Jc (Jq (Jn ?_))))))
  cases h
  exact zQ
 refine zU hb (Jk (Jc (Ja (Jg (zE (Jc (Jq ?_)))))))
 cases h
 exact zQ
/-! profile.speed -/
noncomputable def Dn (a0:Jw) (a1:Jd):Option Int :=
 bif ((decide (a0.Kind=2))&&((decide (a1.In=2))||(decide (a1.Out=2)))) then (
  some a0.Slow
 ) else (
  some a0.Speed
 )
theorem Jey (a0:Jw) (a1:Jd) (r:Int) (h:Dn a0 a1=some r):Kq Go.Proofs.Tryz.prog GlS 73 [Enc.pv a0,Enc.pv a1] (Enc.pv r):=by
 unfold Dn at h
 refine Js Go.Proofs.Tryz.func73 (by rfl) rfl Go.Proofs.Tryz.ntmps73 (by rfl) rfl ?_
 refine Ja (Jg (zE (Jc (Ja (Ja (Jg (zR 4 ?_)))))))
 refine Kx 9 17 ((decide (a0.Kind=2))&&((decide (a1.In=2))||(decide (a1.Out=2)))) (fun x hx=>?_) ?_
 ·rcases Wb hx with ⟨hb,hx⟩|⟨hb,hx⟩
  ·refine zS 8 hb (zR 4 ?_)
   refine Tv 4 16 ((decide (a1.In=2))||(decide (a1.Out=2))) (fun x hx=>?_) ?_
   ·rcases Wx hx with ⟨hb,hx⟩|⟨hb,hx⟩
    ·refine zS 12 hb ?_
     subst hx
     exact zF
    refine zS 12 hb ?_
    subst hx
    exact zF
   subst hx
   exact zF
  refine zS 8 hb ?_
  subst hx
  exact zF
 refine zN (Jc ?_)
 rcases Jl h with ⟨hb,h⟩|⟨hb,h⟩
 ·refine zT hb (Ja (Jg (zE (Jc (Jq (Jn ?_))))))
  cases h
  exact zQ
 refine zU hb (Jk (Jc (Ja (Jg (zE (Jc (Jq ?_)))))))
 cases h
 exact zQ
/-! profile.Valid -/
noncomputable def Em (a0:(List Jf)):Int→Option (Int⊕(Unit⊕Bool)):=fun x7 =>
 bif decide (x7<((a0.length:Nat):Int)) then (
  (ixO a0 x7).bind fun x14 =>
  (Vh x14.From).bind fun r15 =>
  ((bif (!r15) then some true else (
   (Vh x14.To).bind fun r17 =>
   some (!r17)
  )):Option Bool).bind fun b16 =>
  bif (((((b16||(decide (x14.To≤x14.From)))||(decide (x14.Grade<(-50))))||(decide (50<x14.Grade)))||(decide (x14.Speed<1)))||(decide (10000<x14.Speed))) then (
   some (.inr (.inr false))
  ) else (
   ((bif decide (0<x7) then (
    (ixO a0 (w64 (x7 - 1))).bind fun x19 =>
    some (!(decide (x14.From=x19.To)))
   ) else some false):Option Bool).bind fun b18 =>
   bif b18 then (
    some (.inr (.inr false))
   ) else (
    some (.inl (w64 (x7+1)))
   )
  )
 ) else (
  some (.inr (.inl ()))
 )
noncomputable def Uz (a0:(List Jf)):Option Bool :=
 bif decide (128<((a0.length:Nat):Int)) then (
  some false
 ) else (
  onInl (α:=Unit) (β:=Bool) (Km (Em a0) 0) fun _ =>
  some true
 )
theorem Wy (a0:(List Jf)) (r:Bool) (h:Uz a0=some r):Kq Go.Proofs.Tryz.prog GlS 45 [Enc.pv a0] (Enc.pv r):=by
 unfold Uz at h
 refine Js Go.Proofs.Tryz.func45 (by rfl) rfl Go.Proofs.Tryz.ntmps45 (by rfl) rfl ?_
 refine Ja (Jg (zE (Jc (Ja (Ja (Jg (zR 1 ?_)))))))
 refine Kl (L:=(a0:(List Jf))) (by kernel_rfl) ?_
 refine zE (Jc ?_)
 rcases Jl h with ⟨hb,h⟩|⟨hb,h⟩
 ·refine zT hb (Ja (Jg (zE (Jc (Jq (Jn ?_))))))
  cases h
  exact zQ
 refine zU hb (Jk (Jc (Ja (Ja (Jg (zR 1 ?_))))))
 refine Kl (L:=(a0:(List Jf))) (by kernel_rfl) ?_
 refine zE (Jc (Jo ?_))
 obtain ⟨o18,h18,h⟩:=Ko h
 refine Kh 66 0 (fun x7=>⟨[(0,Jp .frozen (a0:(List Jf))),(8,Jp .frozen (a0:(List Jf))),(9,.int .i64 ((a0.length:Nat):Int)),(10,.int .i64 x7)],[],[],[]⟩) (fun (_:Unit)=>⟨[],[],[],[]⟩) h18 (by kernel_rfl) (fun _=>by kernel_rfl) ?_ ?_
 ·rintro x7 oh17 h17
  unfold Em at h17
  refine Ja (Jg (zE (Jc (Ja ?_))))
  rcases Jl h17 with ⟨hb,h17⟩|⟨hb,h17⟩
  ·refine zT hb (Jk (Jc (Ja (Jo (Ja (Jg (zR 1 ?_)))))))
   obtain ⟨x14,h19,h17⟩:=Ji h17
   refine zI h19 (zE (Jc (Ja (Ja (Jg (zR 2 ?_))))))
   obtain ⟨r15,h20,h17⟩:=Ji h17
   refine Jy (Ca _ r15 h20) (by kernel_rfl) (by kernel_rfl) ?_
   obtain ⟨b16,h21,h17⟩:=Ji h17
   refine zR 2 ?_
   refine Qf 5 24 (.bool b16) ?_ ?_
   ·rcases Jl h21 with ⟨hb,h21⟩|⟨hb,h21⟩
    ·refine zS 19 hb ?_
     cases h21
     exact zF
    refine zS 19 hb (zR 2 ?_)
    obtain ⟨r17,h22,h21⟩:=Ji h21
    refine Jy (Ca _ r17 h22) (by kernel_rfl) (by kernel_rfl) ?_
    cases h21
    exact zF
   refine zR 1 ?_
   refine Kx 6 31 (b16||(decide (x14.To≤x14.From))) (fun x hx=>?_) ?_
   ·rcases Wx hx with ⟨hb,hx⟩|⟨hb,hx⟩
    ·refine zS 25 hb ?_
     subst hx
     exact zF
    refine zS 25 hb ?_
    subst hx
    exact zF
   refine zR 1 ?_
   refine Kx 4 36 ((b16||(decide (x14.To≤x14.From)))||(decide (x14.Grade<(-50)))) (fun x hx=>?_) ?_
   ·rcases Wx hx with ⟨hb,hx⟩|⟨hb,hx⟩
    ·refine zS 32 hb ?_
     subst hx
     exact zF
    refine zS 32 hb ?_
    subst hx
    exact zF
   refine zR 1 ?_
   refine Kx 4 41 (((b16||(decide (x14.To≤x14.From)))||(decide (x14.Grade<(-50))))||(decide (50<x14.Grade))) (fun x hx=>?_) ?_
   ·rcases Wx hx with ⟨hb,hx⟩|⟨hb,hx⟩
    ·refine zS 37 hb ?_
     subst hx
     exact zF
    refine zS 37 hb ?_
    subst hx
    exact zF
   refine zR 1 ?_
   refine Kx 4 46 ((((b16||(decide (x14.To≤x14.From)))||(decide (x14.Grade<(-50))))||(decide (50<x14.Grade)))||(decide (x14.Speed<1))) (fun x hx=>?_) ?_
   ·rcases Wx hx with ⟨hb,hx⟩|⟨hb,hx⟩
    ·refine zS 42 hb ?_
     subst hx
     exact zF
    refine zS 42 hb ?_
    subst hx
    exact zF
   refine zR 1 ?_
   refine Kx 4 51 (((((b16||(decide (x14.To≤x14.From)))||(decide (x14.Grade<(-50))))||(decide (50<x14.Grade)))||(decide (x14.Speed<1)))||(decide (10000<x14.Speed))) (fun x hx=>?_) ?_
   ·rcases Wx hx with ⟨hb,hx⟩|⟨hb,hx⟩
    ·refine zS 47 hb ?_
     subst hx
     exact zF
    refine zS 47 hb ?_
    subst hx
    exact zF
   refine zN (Jc ?_)
   rcases Jl h17 with ⟨hb,h17⟩|⟨hb,h17⟩
   ·refine zT hb (Ja (Jg (zE (Jc (Jq (Jn (Jr (Jn ?_))))))))
    cases h17
    refine Kf fun he=>?_
    subst he
    have h23:=Qd h
    refine Jr (Jn ?_)
    cases h23
    exact zQ
   refine zU hb (Jk (Jc (Ja (Qb (by kernel_rfl) (by kernel_rfl) ?_))))
   obtain ⟨b18,h24,h17⟩:=Ji h17
   refine zR 3 ?_
   refine Qf 10 64 (.bool b18) ?_ ?_
   ·rcases Jl h24 with ⟨hb,h24⟩|⟨hb,h24⟩
    ·refine zS 54 hb (zR 5 ?_)
     obtain ⟨x19,h25,h24⟩:=Ji h24
     refine zI h25 ?_
     cases h24
     exact zF
    refine zS 54 hb ?_
    cases h24
    exact zF
   refine zN (Jc ?_)
   rcases Jl h17 with ⟨hb,h17⟩|⟨hb,h17⟩
   ·refine zT hb (Ja (Jg (zE (Jc (Jq (Jr (Jn ?_)))))))
    cases h17
    refine Kf fun he=>?_
    subst he
    have h26:=Qd h
    refine Jr (Jn ?_)
    cases h26
    exact zQ
   refine zU hb (Jk (Kb (Jc (Jg (zE ?_)))))
   cases h17
   exact zB
  refine zU hb (Ka (Jx ?_))
  cases h17
  exact zX
 rintro _ s' rfl hs
 have h:=Kd h
 refine Jv (Jc (Ke hs (Ja (Jg (zE (Jc (Jq ?_)))))))
 cases h
 exact zQ
/-! profile.Of -/
noncomputable def Mc (a0:Je) (a1:(List Jd)):(Int×Int×(List Jf))→Option ((Int×Int×(List Jf))⊕((List Jf)⊕(List Jf))):=fun (x21,x22,x23) =>
 bif decide (x22<((a1.length:Nat):Int)) then (
  (ixO a1 x22).bind fun x34 =>
  ((bif decide (x34.El<0) then some true else (
   some (decide (((a0.Elements.length:Nat):Int)≤x34.El))
  )):Option Bool).bind fun b35 =>
  bif b35 then (
   some (.inr (.inr ([]:(List Jf))))
  ) else (
   (ixO a0.Elements x34.El).bind fun x36 =>
   (Lk x36.Kind x34.In x34.Out).bind fun r37 =>
   ((bif (!r37.2) then some true else (
    (Vh x21).bind fun r39 =>
    some (!r39)
   )):Option Bool).bind fun b38 =>
   bif b38 then (
    some (.inr (.inr ([]:(List Jf))))
   ) else (
    (Zl x36 x34).bind fun r40 =>
    (Dn x36 x34).bind fun r41 =>
    (Vg x23 [(Jf.mk x21 (w64 (x21+x36.Length)) r40 r41)]).bind fun x42 =>
    some (.inl (w64 (x21+x36.Length),w64 (x22+1),x42))
   )
  )
 ) else (
  some (.inr (.inl x23))
 )
noncomputable def Ge (a0:Je) (a1:(List Jd)) (a2:Int):Option (List Jf) :=
 bif decide (128<((a1.length:Nat):Int)) then (
  some ([]:(List Jf))
 ) else (
  onInl (α:=(List Jf)) (β:=(List Jf)) (Km (Mc a0 a1) (a2,0,([]:(List Jf)))) fun x33 =>
  (Uz x33).bind fun r43 =>
  bif (!r43) then (
   some ([]:(List Jf))
  ) else (
   some x33
  )
 )
theorem Ji5 (a0:Je) (a1:(List Jd)) (a2:Int) (r:(List Jf)) (h:Ge a0 a1 a2=some r):Kq Go.Proofs.Tryz.prog GlS 29 [Enc.pv a0,Enc.pv a1,Enc.pv a2] (Enc.pv r):=by
 unfold Ge at h
 refine Js Go.Proofs.Tryz.func29 (by rfl) rfl Go.Proofs.Tryz.ntmps29 (by rfl) rfl ?_
 refine Ja (Jg (zE (Jc (Ja (Ja (Jg (zR 1 ?_)))))))
 refine Kl (L:=(a1:(List Jd))) (by kernel_rfl) ?_
 refine zE (Jc ?_)
 rcases Jl h with ⟨hb,h⟩|⟨hb,h⟩
 ·refine zT hb (Ja (Jg (zE (Jc (Jq (Jn ?_))))))
  cases h
  exact zQ
 refine zU hb (Jk (Jc (Ja (Jg (zE (Jc (Ja (Jg (zE (Jc (Ja (Ja (Jg (zR 1 ?_))))))))))))))
 refine Kl (L:=(a1:(List Jd))) (by kernel_rfl) ?_
 refine zE (Jc (Jo (Cs 7 100007 4 32 (by kernel_rfl) (by kernel_rfl) ?_)))
 obtain ⟨o35,h35,h⟩:=Ko h
 refine Kh 81 0 (fun (x21,x22,x23)=>⟨[(3,.ref 3 0),(7,Jp (.own 100007) (x23:(List Jf))),(8,.int .i64 x21),(19,Jp .frozen (a1:(List Jd))),(20,.int .i64 ((a1.length:Nat):Int)),(21,.int .i64 x22)],[(3,.cells (cellsOf a0))],[(100007,(((x23).map cellsOf).length,4))],[]⟩) (fun x33=>⟨[(7,Jp (.own 100007) (x33:(List Jf)))],[],[(100007,(((x33).map cellsOf).length,4))],[]⟩) h35 (by kernel_rfl) (fun _=>by kernel_rfl) ?_ ?_
 ·rintro ⟨x21,x22,x23⟩ oh34 h34
  unfold Mc at h34
  refine Ja (Jg (zE (Jc (Ja ?_))))
  rcases Jl h34 with ⟨hb,h34⟩|⟨hb,h34⟩
  ·refine zT hb (Jk (Jc (Ja (Jo (Ja (Jg ?_))))))
   obtain ⟨x34,h36,h34⟩:=Ji h34
   refine zI h36 (zE (Jc (Ja (Ja (Jg ?_)))))
   obtain ⟨b35,h37,h34⟩:=Ji h34
   refine zR 4 ?_
   refine Qf 7 35 (.bool b35) ?_ ?_
   ·rcases Jl h37 with ⟨hb,h37⟩|⟨hb,h37⟩
    ·refine zS 28 hb ?_
     cases h37
     exact zF
    refine zS 28 hb (zR 4 ?_)
    refine Kl (L:=(a0.Elements:(List Jw))) (by kernel_rfl) ?_
    cases h37
    exact zF
   refine zN (Jc ?_)
   rcases Jl h34 with ⟨hb,h34⟩|⟨hb,h34⟩
   ·refine zT hb (Ja (Jg (zE (Jc (Jq (Jn (Jr (Jn ?_))))))))
    cases h34
    refine Kf fun he=>?_
    subst he
    have h38:=Qd h
    refine Jr (Jn ?_)
    cases h38
    exact zQ
   refine zU hb (Jk (Jc (Ja (Jg (zR 4 ?_)))))
   obtain ⟨x36,h39,h34⟩:=Ji h34
   refine zI h39 (zE (Jc (Ja (Ja (Jg (zR 6 ?_))))))
   obtain ⟨r37,h40,h34⟩:=Ji h34
   refine Jy (Jc1 _ _ _ r37 h40) (by kernel_rfl) (by kernel_rfl) (zE (Jc (Ja (Jg ?_))))
   obtain ⟨b38,h41,h34⟩:=Ji h34
   refine zR 3 ?_
   refine Qf 4 58 (.bool b38) ?_ ?_
   ·rcases Jl h41 with ⟨hb,h41⟩|⟨hb,h41⟩
    ·refine zS 54 hb ?_
     cases h41
     exact zF
    refine zS 54 hb (zR 1 ?_)
    obtain ⟨r39,h42,h41⟩:=Ji h41
    refine Jy (Ca _ r39 h42) (by kernel_rfl) (by kernel_rfl) ?_
    cases h41
    exact zF
   refine zN (Jc ?_)
   rcases Jl h34 with ⟨hb,h34⟩|⟨hb,h34⟩
   ·refine zT hb (Ja (Jg (zE (Jc (Jq (Jn (Jr (Jn ?_))))))))
    cases h34
    refine Kf fun he=>?_
    subst he
    have h43:=Qd h
    refine Jr (Jn ?_)
    cases h43
    exact zQ
   refine zU hb (Jk (Jc (Ja (Jg (zE (Jc (Ja (Qb (by kernel_rfl) (by kernel_rfl) (zR 5 ?_)))))))))
   obtain ⟨r40,h44,h34⟩:=Ji h34
   refine Jy (Jbk _ _ r40 h44) (by kernel_rfl) (by kernel_rfl) (zR 2 ?_)
   obtain ⟨r41,h45,h34⟩:=Ji h34
   refine Jy (Jey _ _ r41 h45) (by kernel_rfl) (by kernel_rfl) (zR 2 ?_)
   obtain ⟨x42,h46,h34⟩:=Ji h34
   refine Vv (tk:=100007) h46 (by kernel_rfl) (by kernel_rfl) ?_
   refine zE (Jc (Jg (zE (Kb (Jc (Jg (zE ?_)))))))
   cases h34
   exact zB
  refine zU hb (Ka (Jx ?_))
  cases h34
  exact zX
 rintro x33 s' rfl hs
 have h:=Kd h
 refine Jv (Jc (Ke hs (Ja (Ja (Jg (zR 1 ?_))))))
 obtain ⟨r43,h47,h⟩:=Ji h
 refine Jy (Wy _ r43 h47) (by kernel_rfl) (by kernel_rfl) (zE (Jc ?_))
 rcases Jl h with ⟨hb,h⟩|⟨hb,h⟩
 ·refine zT hb (Ja (Jg (zE (Jc (Jq (Jn ?_))))))
  cases h
  exact zQ
 refine zU hb (Jk (Jc (Ja (Jg (zE (Jc (Jq ?_)))))))
 cases h
 exact zQ
/-! slices.Clone[[]api.Segment,api.Segment] -/
noncomputable def Wn (a0:(List Jf)):Option (List Jf) :=
 (Vg ([]:(List Jf)) a0).bind fun x1 =>
 some x1
theorem Ox (a0:(List Jf)) (r:(List Jf)) (h:Wn a0=some r):Kq Go.Proofs.Tryz.prog GlS 67 [Enc.pv a0] (Jp (.own 7) r):=by
 unfold Wn at h
 refine Js Go.Proofs.Tryz.func67 (by rfl) rfl Go.Proofs.Tryz.ntmps67 (by rfl) rfl ?_
 refine Ja (Jg (zE (Jc (Ja (Ja (Jg (zE (Jc ?_))))))))
 refine Jhk (e:=((a0:(List Jf)).map cellsOf).isEmpty) (by kernel_rfl) (fun hub=>?_) ?_
 ·have hN:=Jh3 (Jtj hub) h
  refine Ja (Jg (zE (Jc (Cs 2 7 4 32 (by kernel_rfl) (by kernel_rfl) (Jq (Jn ?_))))))
  cases hN
  exact zQ
 refine Jk (Jc (Ja (Jg (zR 2 ?_))))
 obtain ⟨x1,h1,h⟩:=Ji h
 refine Jcl (tk:=7) h1 (by kernel_rfl) ?_
 refine zE (Jc (Jq ?_))
 cases h
 exact zQ
/-! restriction.Check -/
noncomputable def Yn (a0:Je) (a1:Ju):Option Int :=
 ((bif (((decide (a1.Id<1))||(decide (1073741824<a1.Id)))||(decide (a1.El<0))) then some true else (
  some (decide (((a0.Elements.length:Nat):Int)≤a1.El))
 )):Option Bool).bind fun b1 =>
 bif b1 then (
  some 1
 ) else (
  ((bif ((decide (a1.From<0))||(decide (a1.To≤a1.From))) then some true else (
   (ixO a0.Elements a1.El).bind fun x3 =>
   some (decide (x3.Length<a1.To))
  )):Option Bool).bind fun b2 =>
  bif ((b2||(decide (a1.Speed<100)))||(decide (10000<a1.Speed))) then (
   some 1
  ) else (
   some 0
  )
 )
theorem Jak (a0:Je) (a1:Ju) (r:Int) (h:Yn a0 a1=some r):Kq Go.Proofs.Tryz.prog GlS 68 [Enc.pv a0,Enc.pv a1] (Enc.pv r):=by
 unfold Yn at h
 refine Js Go.Proofs.Tryz.func68 (by rfl) rfl Go.Proofs.Tryz.ntmps68 (by rfl) rfl ?_
 refine Ja (Jg (zE (Jc (Ja (Ja (Jg (zR 4 ?_)))))))
 refine Kx 4 12 ((decide (a1.Id<1))||(decide (1073741824<a1.Id))) (fun x hx=>?_) ?_
 ·rcases Wx hx with ⟨hb,hx⟩|⟨hb,hx⟩
  ·refine zS 8 hb ?_
   subst hx
   exact zF
  refine zS 8 hb ?_
  subst hx
  exact zF
 refine zR 1 ?_
 refine Kx 4 17 (((decide (a1.Id<1))||(decide (1073741824<a1.Id)))||(decide (a1.El<0))) (fun x hx=>?_) ?_
 ·rcases Wx hx with ⟨hb,hx⟩|⟨hb,hx⟩
  ·refine zS 13 hb ?_
   subst hx
   exact zF
  refine zS 13 hb ?_
  subst hx
  exact zF
 obtain ⟨b1,h1,h⟩:=Ji h
 refine zR 1 ?_
 refine Qf 7 25 (.bool b1) ?_ ?_
 ·rcases Jl h1 with ⟨hb,h1⟩|⟨hb,h1⟩
  ·refine zS 18 hb ?_
   cases h1
   exact zF
  refine zS 18 hb (zR 4 ?_)
  refine Kl (L:=(a0.Elements:(List Jw))) (by kernel_rfl) ?_
  cases h1
  exact zF
 refine zN (Jc ?_)
 rcases Jl h with ⟨hb,h⟩|⟨hb,h⟩
 ·refine zT hb (Ja (Jg (zE (Jc (Jq (Jn ?_))))))
  cases h
  exact zQ
 refine zU hb (Jk (Jc (Ja (Ja (Qb (by kernel_rfl) (by kernel_rfl) (zR 4 ?_))))))
 refine Kx 6 35 ((decide (a1.From<0))||(decide (a1.To≤a1.From))) (fun x hx=>?_) ?_
 ·rcases Wx hx with ⟨hb,hx⟩|⟨hb,hx⟩
  ·refine zS 29 hb ?_
   subst hx
   exact zF
  refine zS 29 hb ?_
  subst hx
  exact zF
 obtain ⟨b2,h2,h⟩:=Ji h
 refine zR 1 ?_
 refine Qf 11 47 (.bool b2) ?_ ?_
 ·rcases Jl h2 with ⟨hb,h2⟩|⟨hb,h2⟩
  ·refine zS 36 hb ?_
   cases h2
   exact zF
  refine zS 36 hb (zR 6 ?_)
  obtain ⟨x3,h3,h2⟩:=Ji h2
  refine zI h3 ?_
  cases h2
  exact zF
 refine zR 1 ?_
 refine Kx 4 52 (b2||(decide (a1.Speed<100))) (fun x hx=>?_) ?_
 ·rcases Wx hx with ⟨hb,hx⟩|⟨hb,hx⟩
  ·refine zS 48 hb ?_
   subst hx
   exact zF
  refine zS 48 hb ?_
  subst hx
  exact zF
 refine zR 1 ?_
 refine Kx 4 57 ((b2||(decide (a1.Speed<100)))||(decide (10000<a1.Speed))) (fun x hx=>?_) ?_
 ·rcases Wx hx with ⟨hb,hx⟩|⟨hb,hx⟩
  ·refine zS 53 hb ?_
   subst hx
   exact zF
  refine zS 53 hb ?_
  subst hx
  exact zF
 refine zN (Jc ?_)
 rcases Jl h with ⟨hb,h⟩|⟨hb,h⟩
 ·refine zT hb (Ja (Jg (zE (Jc (Jq (Jn ?_))))))
  cases h
  exact zQ
 refine zU hb (Jk (Jc (Ja (Jg (zE (Jc (Jq ?_)))))))
 cases h
 exact zQ
/-! (profile.span).part -/
noncomputable def Wp (a0:Cj) (a1:Jf):Option (Jf×Bool) :=
 some ((Jf.mk (max a1.From a0.from_) (min a1.To a0.to_) a1.Grade a1.Speed),decide ((max a1.From a0.from_)<(min a1.To a0.to_)))
theorem Md (a0:Cj) (a1:Jf) (r:(Jf×Bool)) (h:Wp a0 a1=some r):Kq Go.Proofs.Tryz.prog GlS 74 [Enc.pv a0,Enc.pv a1] (.tup [Enc.pv r.1,Enc.pv r.2]):=by
 unfold Wp at h
 refine Js Go.Proofs.Tryz.func74 (by rfl) rfl Go.Proofs.Tryz.ntmps74 (by rfl) rfl ?_
 refine Ja (Jg (zE (Jc (Ja ?_))))
 refine Jpe 24 ⟨[(3,.ref 3 0),(4,.ref 4 0)],[(3,.cells ([.int .i64 (max a1.From a0.from_),.int .i64 (min a1.To a0.to_),.int .i64 a1.Grade,.int .i64 a1.Speed])),(4,.cells ([.int .i64 0,.int .i64 0,.int .i64 0,.int .i64 0]))],[],[]⟩ (by kernel_rfl) ?_ ?_
 ·refine Cc [0,1,2,3,4,5,6,7,10] 5 (by kernel_rfl) ?_
  refine zR 9 (Uq (by kernel_rfl) ?_)
  refine Nx (n:=4) [8,11] (by kernel_rfl) ⟨?_, ?_,trivial⟩
  ·refine ⟨_,rfl, ?_⟩
   refine zR 1 (Uq (by kernel_rfl) ?_)
   refine Cc [9,11,12,13] 0 (by kernel_rfl) ?_
   refine zR 4 (Uq (by kernel_rfl) ?_)
   exact Bu (by kernel_rfl) (.of (by kernel_rfl) (by kernel_rfl))
  refine ⟨_,rfl, ?_⟩
  refine zR 1 (Uq (by kernel_rfl) ?_)
  refine Cc [8,9,12,13] 0 (by kernel_rfl) ?_
  refine zR 4 (Uq (by kernel_rfl) ?_)
  exact Bu (by kernel_rfl) (.of (by kernel_rfl) (by kernel_rfl))
 refine Jc (Ja ?_)
 refine Jpe 24 ⟨[(4,.ref 4 0),(5,.bool (decide ((max a1.From a0.from_)<(min a1.To a0.to_))))],[(4,.cells ([.int .i64 (max a1.From a0.from_),.int .i64 (min a1.To a0.to_),.int .i64 a1.Grade,.int .i64 a1.Speed]))],[],[]⟩ (by kernel_rfl) ?_ ?_
 ·refine Cc [0,1,3] 5 (by kernel_rfl) ?_
  refine zR 3 (Uq (by kernel_rfl) ?_)
  refine Nx (n:=4) [2,4,6] (by kernel_rfl) ⟨?_, ?_, ?_,trivial⟩
  ·refine ⟨_,rfl, ?_⟩
   refine zR 1 (Uq (by kernel_rfl) ?_)
   refine Nx (n:=3) [4,6] (by kernel_rfl) ⟨?_, ?_,trivial⟩
   ·refine ⟨_,rfl, ?_⟩
    refine zR 1 (Uq (by kernel_rfl) ?_)
    refine Cc [5,6,7] 0 (by kernel_rfl) ?_
    refine zR 3 (Uq (by kernel_rfl) ?_)
    exact Bu (by kernel_rfl) (.of (by kernel_rfl) (by kernel_rfl))
   refine ⟨_,rfl, ?_⟩
   refine zR 1 (Uq (by kernel_rfl) ?_)
   refine Cc [4,5,7] 0 (by kernel_rfl) ?_
   refine zR 3 (Uq (by kernel_rfl) ?_)
   exact Bu (by kernel_rfl) (.of (by kernel_rfl) (by kernel_rfl))
  ·refine ⟨_,rfl, ?_⟩
   refine zR 1 (Uq (by kernel_rfl) ?_)
   refine Nx (n:=3) [2,6] (by kernel_rfl) ⟨?_, ?_,trivial⟩
   ·refine ⟨_,rfl, ?_⟩
    refine zR 1 (Uq (by kernel_rfl) ?_)
    refine Cc [5,6,7] 0 (by kernel_rfl) ?_
    refine zR 3 (Uq (by kernel_rfl) ?_)
    exact Bu (by kernel_rfl) (.of (by kernel_rfl) (by kernel_rfl))
   refine ⟨_,rfl, ?_⟩
   refine zR 1 (Uq (by kernel_rfl) ?_)
   refine Cc [2,5,7] 0 (by kernel_rfl) ?_
   refine zR 3 (Uq (by kernel_rfl) ?_)
   exact Bu (by kernel_rfl) (.of (by kernel_rfl) (by kernel_rfl))
  refine ⟨_,rfl, ?_⟩
  refine zR 1 (Uq (by kernel_rfl) ?_)
  refine Cc [2,4,5,7] 0 (by kernel_rfl) ?_
  refine zR 4 (Uq (by kernel_rfl) ?_)
  exact Bu (by kernel_rfl) (.of (by kernel_rfl) (by kernel_rfl))
 refine Jc (Jq ?_)
 cases h
 exact zQ
/-! profile.Limit -/
noncomputable def Ms (a3:Int) (x169:Jf) (r170:(Jf×Bool)):((List Jf)×Int)→Option (((List Jf)×Int)⊕((List Jf)⊕((List Jf)⊕((Int×(List Jf))⊕((List Jf)⊕(List Jf)))))):=fun (x177,x178) =>
 bif decide (x178<(([(Jf.mk x169.From r170.1.From x169.Grade x169.Speed),(Jf.mk r170.1.From r170.1.To r170.1.Grade (min r170.1.Speed a3)),(Jf.mk r170.1.To x169.To x169.Grade x169.Speed)].length:Nat):Int)) then (
  onInl (α:=(List Jf)) (β:=(((List Jf)×Int)⊕((List Jf)⊕((List Jf)⊕((Int×(List Jf))⊕((List Jf)⊕(List Jf))))))) (
   (ixO [(Jf.mk x169.From r170.1.From x169.Grade x169.Speed),(Jf.mk r170.1.From r170.1.To r170.1.Grade (min r170.1.Speed a3)),(Jf.mk r170.1.To x169.To x169.Grade x169.Speed)] x178).bind fun x188 =>
   bif decide (x188.From<x188.To) then (
    (Vg x177 [x188]).bind fun x189 =>
    some (.inl x189)
   ) else (
    some (.inl x177)
   )
  ) fun x187 =>
  some (.inl (x187,w64 (x178+1)))
 ) else (
  some (.inr (.inl x177))
 )
noncomputable def Ep (a0:(List Jf)) (a1:Int) (a2:Int) (a3:Int):(Int×(List Jf))→Option ((Int×(List Jf))⊕((List Jf)⊕(List Jf))):=fun (x101,x102) =>
 bif decide (x101<((a0.length:Nat):Int)) then (
  onInl (α:=(List Jf)) (β:=((Int×(List Jf))⊕((List Jf)⊕(List Jf)))) (
   (ixO a0 x101).bind fun x169 =>
   (Wp (Cj.mk a1 a2) x169).bind fun r170 =>
   bif (!r170.2) then (
    (Vg x102 [x169]).bind fun x171 =>
    some (.inl x171)
   ) else (
    onInl (α:=(List Jf)) (β:=((List Jf)⊕((Int×(List Jf))⊕((List Jf)⊕(List Jf))))) (Km (Ms a3 x169 r170) (x102,0)) fun x184 =>
    some (.inl x184)
   )
  ) fun x168 =>
  some (.inl (w64 (x101+1),x168))
 ) else (
  some (.inr (.inl x102))
 )
noncomputable def Yj (a0:(List Jf)) (a1:Int) (a2:Int) (a3:Int):Option (List Jf) :=
 (Uz a0).bind fun r1 =>
 bif ((!r1)||(decide (a3<1))) then (
  some ([]:(List Jf))
 ) else (
  onInl (α:=(List Jf)) (β:=(List Jf)) (Km (Ep a0 a1 a2 a3) (0,([]:(List Jf)))) fun x146 =>
  bif decide (128<((x146.length:Nat):Int)) then (
   some ([]:(List Jf))
  ) else (
   some x146
  )
 )
theorem Jex (a0:(List Jf)) (a1:Int) (a2:Int) (a3:Int) (r:(List Jf)) (h:Yj a0 a1 a2 a3=some r):Kq Go.Proofs.Tryz.prog GlS 120 [Enc.pv a0,Enc.pv a1,Enc.pv a2,Enc.pv a3] (Enc.pv r):=by
 unfold Yj at h
 refine Js Go.Proofs.Tryz.func120 (by rfl) rfl Go.Proofs.Tryz.ntmps120 (by rfl) rfl ?_
 refine Ja (Jg (zE (Jc (Ja (Ja (Jg (zR 1 ?_)))))))
 obtain ⟨r1,h1,h⟩:=Ji h
 refine Jy (Wy _ r1 h1) (by kernel_rfl) (by kernel_rfl) (zR 2 ?_)
 refine Kx 3 24 ((!r1)||(decide (a3<1))) (fun x hx=>?_) ?_
 ·rcases Wx hx with ⟨hb,hx⟩|⟨hb,hx⟩
  ·refine zS 21 hb ?_
   subst hx
   exact zF
  refine zS 21 hb ?_
  subst hx
  exact zF
 refine zN (Jc ?_)
 rcases Jl h with ⟨hb,h⟩|⟨hb,h⟩
 ·refine zT hb (Ja (Jg (zE (Jc (Jq (Jn ?_))))))
  cases h
  exact zQ
 refine zU hb (Jk (Jc (Ja (Jg (zE (Jc (Ja (Ja (Jg (zR 1 ?_))))))))))
 refine Kl (L:=(a0:(List Jf))) (by kernel_rfl) ?_
 refine zE (Jc (Jo (Cs 9 100009 4 32 (by kernel_rfl) (by kernel_rfl) ?_)))
 obtain ⟨o136,h136,h⟩:=Ko h
 refine Kh 82 0 (fun (x101,x102)=>⟨[(1,.int .i64 a1),(2,.int .i64 a2),(3,.int .i64 a3),(9,Jp (.own 100009) (x102:(List Jf))),(25,Jp .frozen (a0:(List Jf))),(26,.int .i64 ((a0.length:Nat):Int)),(27,.int .i64 x101)],[],[(100009,(((x102).map cellsOf).length,4))],[]⟩) (fun x146=>⟨[(9,Jp (.own 100009) (x146:(List Jf)))],[],[(100009,(((x146).map cellsOf).length,4))],[]⟩) h136 (by kernel_rfl) (fun _=>by kernel_rfl) ?_ ?_
 ·rintro ⟨x101,x102⟩ oh135 h135
  unfold Ep at h135
  refine Ja (Jg (zE (Jc (Ja ?_))))
  rcases Jl h135 with ⟨hb,h135⟩|⟨hb,h135⟩
  ·refine zT hb (Jk (Jc ?_))
   obtain ⟨o157,h157,h135⟩:=Ko h135
   refine Um (o:=o157) 82 (fun x168=>⟨[(1,.int .i64 a1),(2,.int .i64 a2),(3,.int .i64 a3),(9,Jp (.own 100009) (x168:(List Jf))),(25,Jp .frozen (a0:(List Jf))),(26,.int .i64 ((a0.length:Nat):Int)),(27,.int .i64 x101)],[],[(100009,(((x168).map cellsOf).length,4))],[]⟩) ?_ ?_
   ·refine Jo (Ja (Jg ?_))
    obtain ⟨x169,h158,h157⟩:=Ji h157
    refine zI h158 (zE (Jc (Ja (Jg (zR 4 ?_)))))
    obtain ⟨r170,h159,h157⟩:=Ji h157
    refine Jy (Md _ _ r170 h159) (by kernel_rfl) (by kernel_rfl) (zE (Jc (Ja (Ja (Jg (zE (Jc ?_)))))))
    rcases Jl h157 with ⟨hb,h157⟩|⟨hb,h157⟩
    ·refine zT hb (Ja (Jg (zR 3 ?_)))
     obtain ⟨x171,h160,h157⟩:=Ji h157
     refine Vv (tk:=100009) h160 (by kernel_rfl) (by kernel_rfl) ?_
     refine zE (Jc (Ka (Jx (Jv ?_))))
     cases h157
     exact zJ
    refine zU hb (Jk (Jc (Ja ?_)))
    refine Jpe 82 ⟨[(1,.int .i64 a1),(2,.int .i64 a2),(3,.int .i64 a3),(9,Jp (.own 100009) (x102:(List Jf))),(12,.ref 12 0),(14,.ref 14 0),(15,.ref 15 0),(25,Jp .frozen (a0:(List Jf))),(26,.int .i64 ((a0.length:Nat):Int)),(27,.int .i64 x101)],[(12,.cells (cellsOf r170.1)),(14,.cells (cellsOf x169)),(15,.cells (cellsOf x169))],[(100009,(((x102).map cellsOf).length,4))],[]⟩ (by kernel_rfl) ?_ ?_
    ·refine Cc [0] 5 (by kernel_rfl) ?_
     refine zR 1 (Uq (by kernel_rfl) ?_)
     refine Nx (n:=4) [1,2,3] (by kernel_rfl) ⟨?_, ?_, ?_,trivial⟩
     ·refine ⟨_,rfl, ?_⟩
      refine zR 1 (Uq (by kernel_rfl) ?_)
      refine Cc [2,3,4,5] 0 (by kernel_rfl) ?_
      refine zR 4 (Uq (by kernel_rfl) ?_)
      exact Bu (by kernel_rfl) (.of (by kernel_rfl) (by kernel_rfl))
     ·refine ⟨_,rfl, ?_⟩
      refine zR 1 (Uq (by kernel_rfl) ?_)
      refine Nx (n:=3) [1,3] (by kernel_rfl) ⟨?_, ?_,trivial⟩
      ·refine ⟨_,rfl, ?_⟩
       refine zR 1 (Uq (by kernel_rfl) ?_)
       refine Cc [3,4,5] 0 (by kernel_rfl) ?_
       refine zR 3 (Uq (by kernel_rfl) ?_)
       exact Bu (by kernel_rfl) (.of (by kernel_rfl) (by kernel_rfl))
      refine ⟨_,rfl, ?_⟩
      refine zR 1 (Uq (by kernel_rfl) ?_)
      refine Nx (n:=2) [1,4] (by kernel_rfl) ⟨?_, ?_,trivial⟩
      ·refine ⟨_,rfl, ?_⟩
       refine zR 1 (Uq (by kernel_rfl) ?_)
       refine Cc [4,5] 0 (by kernel_rfl) ?_
       refine zR 2 (Uq (by kernel_rfl) ?_)
       exact Bu (by kernel_rfl) (.of (by kernel_rfl) (by kernel_rfl))
      refine ⟨_,rfl, ?_⟩
      refine zR 1 (Uq (by kernel_rfl) ?_)
      refine Cc [1,5] 0 (by kernel_rfl) ?_
      refine zR 2 (Uq (by kernel_rfl) ?_)
      exact Bu (by kernel_rfl) (.of (by kernel_rfl) (by kernel_rfl))
     refine ⟨_,rfl, ?_⟩
     refine zR 1 (Uq (by kernel_rfl) ?_)
     refine Nx (n:=3) [1,2] (by kernel_rfl) ⟨?_, ?_,trivial⟩
     ·refine ⟨_,rfl, ?_⟩
      refine zR 1 (Uq (by kernel_rfl) ?_)
      refine Cc [2,4,5] 0 (by kernel_rfl) ?_
      refine zR 3 (Uq (by kernel_rfl) ?_)
      exact Bu (by kernel_rfl) (.of (by kernel_rfl) (by kernel_rfl))
     refine ⟨_,rfl, ?_⟩
     refine zR 1 (Uq (by kernel_rfl) ?_)
     refine Nx (n:=2) [1,4] (by kernel_rfl) ⟨?_, ?_,trivial⟩
     ·refine ⟨_,rfl, ?_⟩
      refine zR 1 (Uq (by kernel_rfl) ?_)
      refine Cc [4,5] 0 (by kernel_rfl) ?_
      refine zR 2 (Uq (by kernel_rfl) ?_)
      exact Bu (by kernel_rfl) (.of (by kernel_rfl) (by kernel_rfl))
     refine ⟨_,rfl, ?_⟩
     refine zR 1 (Uq (by kernel_rfl) ?_)
     refine Cc [1,5] 0 (by kernel_rfl) ?_
     refine zR 2 (Uq (by kernel_rfl) ?_)
     exact Bu (by kernel_rfl) (.of (by kernel_rfl) (by kernel_rfl))
    refine Jc (Ja ?_)
    refine Jpe 82 ⟨[(1,.int .i64 a1),(2,.int .i64 a2),(3,.int .i64 a3),(9,Jp (.own 100009) (x102:(List Jf))),(12,.ref 12 0),(14,.ref 14 0),(15,.ref 15 0),(25,Jp .frozen (a0:(List Jf))),(26,.int .i64 ((a0.length:Nat):Int)),(27,.int .i64 x101)],[(12,.cells (cellsOf r170.1)),(14,.cells ([.int .i64 x169.From,.int .i64 r170.1.From,.int .i64 x169.Grade,.int .i64 x169.Speed])),(15,.cells ([.int .i64 r170.1.To,.int .i64 x169.To,.int .i64 x169.Grade,.int .i64 x169.Speed]))],[(100009,(((x102).map cellsOf).length,4))],[]⟩ (by kernel_rfl) ?_ ?_
    ·refine Cc [0,1,2,4] 4 (by kernel_rfl) ?_
     refine zR 4 (Uq (by kernel_rfl) ?_)
     refine Nx (n:=3) [3,5] (by kernel_rfl) ⟨?_, ?_,trivial⟩
     ·refine ⟨_,rfl, ?_⟩
      refine zR 1 (Uq (by kernel_rfl) ?_)
      refine Cc [5,6,7] 0 (by kernel_rfl) ?_
      refine zR 3 (Uq (by kernel_rfl) ?_)
      exact Bu (by kernel_rfl) (.of (by kernel_rfl) (by kernel_rfl))
     refine ⟨_,rfl, ?_⟩
     refine zR 1 (Uq (by kernel_rfl) ?_)
     refine Cc [3,6,7] 0 (by kernel_rfl) ?_
     refine zR 3 (Uq (by kernel_rfl) ?_)
     exact Bu (by kernel_rfl) (.of (by kernel_rfl) (by kernel_rfl))
    refine Jc (Ja (Jg (zE (Jc (Ja (Jg (zR 4 ?_)))))))
    refine Kl (L:=([(Jf.mk x169.From r170.1.From x169.Grade x169.Speed),(Jf.mk r170.1.From r170.1.To r170.1.Grade (min r170.1.Speed a3)),(Jf.mk r170.1.To x169.To x169.Grade x169.Speed)]:(List Jf))) (by kernel_rfl) ?_
    refine zE (Jc (Jo ?_))
    obtain ⟨o172,h172,h157⟩:=Ko h157
    refine Kh 82 2 (fun (x177,x178)=>⟨[(1,.int .i64 a1),(2,.int .i64 a2),(3,.int .i64 a3),(9,Jp (.own 100009) (x177:(List Jf))),(25,Jp .frozen (a0:(List Jf))),(26,.int .i64 ((a0.length:Nat):Int)),(27,.int .i64 x101),(61,Jp .full ([(Jf.mk x169.From r170.1.From x169.Grade x169.Speed),(Jf.mk r170.1.From r170.1.To r170.1.Grade (min r170.1.Speed a3)),(Jf.mk r170.1.To x169.To x169.Grade x169.Speed)]:(List Jf))),(62,.int .i64 (([(Jf.mk x169.From r170.1.From x169.Grade x169.Speed),(Jf.mk r170.1.From r170.1.To r170.1.Grade (min r170.1.Speed a3)),(Jf.mk r170.1.To x169.To x169.Grade x169.Speed)].length:Nat):Int)),(63,.int .i64 x178)],[],[(100009,(((x177).map cellsOf).length,4))],[]⟩) (fun x184=>⟨[(1,.int .i64 a1),(2,.int .i64 a2),(3,.int .i64 a3),(9,Jp (.own 100009) (x184:(List Jf))),(25,Jp .frozen (a0:(List Jf))),(26,.int .i64 ((a0.length:Nat):Int)),(27,.int .i64 x101)],[],[(100009,(((x184).map cellsOf).length,4))],[]⟩) h172 (by kernel_rfl) (fun _=>by kernel_rfl) ?_ ?_
    ·rintro ⟨x177,x178⟩ oh171 h171
     unfold Ms at h171
     refine Ja (Jg (zE (Jc (Ja ?_))))
     rcases Jl h171 with ⟨hb,h171⟩|⟨hb,h171⟩
     ·refine zT hb (Jk (Jc ?_))
      obtain ⟨o175,h175,h171⟩:=Ko h171
      refine Um (o:=o175) 82 (fun x187=>⟨[(1,.int .i64 a1),(2,.int .i64 a2),(3,.int .i64 a3),(9,Jp (.own 100009) (x187:(List Jf))),(25,Jp .frozen (a0:(List Jf))),(26,.int .i64 ((a0.length:Nat):Int)),(27,.int .i64 x101),(61,Jp .full ([(Jf.mk x169.From r170.1.From x169.Grade x169.Speed),(Jf.mk r170.1.From r170.1.To r170.1.Grade (min r170.1.Speed a3)),(Jf.mk r170.1.To x169.To x169.Grade x169.Speed)]:(List Jf))),(62,.int .i64 (([(Jf.mk x169.From r170.1.From x169.Grade x169.Speed),(Jf.mk r170.1.From r170.1.To r170.1.Grade (min r170.1.Speed a3)),(Jf.mk r170.1.To x169.To x169.Grade x169.Speed)].length:Nat):Int)),(63,.int .i64 x178)],[],[(100009,(((x187).map cellsOf).length,4))],[]⟩) ?_ ?_
      ·refine Jo (Ja (Jg ?_))
       obtain ⟨x188,h176,h175⟩:=Ji h175
       refine zI h176 (zE (Jc (Ja (Jg (zE (Jc ?_))))))
       rcases Jl h175 with ⟨hb,h175⟩|⟨hb,h175⟩
       ·refine zT hb (Jg (zR 3 ?_))
        obtain ⟨x189,h177,h175⟩:=Ji h175
        refine Vv (tk:=100009) h177 (by kernel_rfl) (by kernel_rfl) ?_
        refine zE (Kb ?_)
        cases h175
        exact zJ
       refine zU hb (Jk (Kb ?_))
       cases h175
       exact zJ
      rintro x187 rfl
      have h171:=Kd h171
      refine Jg (zE ?_)
      cases h171
      exact zB
     refine zU hb (Ka (Jx ?_))
     cases h171
     exact zX
    rintro x184 s' rfl hs
    have h157:=Kd h157
    refine Jv (Kb ?_)
    cases h157
    exact Jzd hs (by kernel_rfl) (by kernel_rfl)
   rintro x168 rfl
   have h135:=Kd h135
   refine Jg (zE ?_)
   cases h135
   exact zB
  refine zU hb (Ka (Jx ?_))
  cases h135
  exact zX
 rintro x146 s' rfl hs
 have h:=Kd h
 refine Jv (Jc (Ke hs (Ja (Ja (Jg (zR 1 ?_))))))
 refine Kl (L:=(x146:(List Jf))) (by kernel_rfl) ?_
 refine zE (Jc ?_)
 rcases Jl h with ⟨hb,h⟩|⟨hb,h⟩
 ·refine zT hb (Ja (Jg (zE (Jc (Jq (Jn ?_))))))
  cases h
  exact zQ
 refine zU hb (Jk (Jc (Ja (Jg (zE (Jc (Jq ?_)))))))
 cases h
 exact zQ
/-! restriction.lowered -/
noncomputable def Yh (a0:Je) (a1:(List Jd)) (a4:Ju):((List Jf)×Int×Int)→Option (((List Jf)×Int×Int)⊕((List Jf)⊕(Option (List Jf)))):=fun (x31,x32,x33) =>
 bif decide (x33<((a1.length:Nat):Int)) then (
  onInl (α:=((List Jf)×Int)) (β:=(((List Jf)×Int×Int)⊕((List Jf)⊕(Option (List Jf))))) (
   (ixO a1 x33).bind fun x81 =>
   ((bif decide (x81.El<0) then some true else (
    some (decide (((a0.Elements.length:Nat):Int)≤x81.El))
   )):Option Bool).bind fun b82 =>
   bif b82 then (
    some (.inl (x31,x32))
   ) else (
    (ixO a0.Elements x81.El).bind fun x83 =>
    onInl (α:=(List Jf)) (β:=(((List Jf)×Int)⊕(((List Jf)×Int×Int)⊕((List Jf)⊕(Option (List Jf)))))) (
     bif decide (x81.El=a4.El) then (
      onInl (α:=(Int×Int)) (β:=((List Jf)⊕(((List Jf)×Int)⊕(((List Jf)×Int×Int)⊕((List Jf)⊕(Option (List Jf))))))) (
       bif ((decide (x81.In=0))||((decide (x81.In=2))&&(decide (x83.Kind=3)))) then (
        some (.inl (w64 (x32+a4.From),w64 (x32+a4.To)))
       ) else (
        some (.inl (w64 ((w64 (x32+x83.Length)) - a4.To),w64 ((w64 (x32+x83.Length)) - a4.From)))
       )
      ) fun (x90,x91) =>
      (Yj x31 x90 x91 a4.Speed).bind fun r92 =>
      onInl (α:=Unit) (β:=((List Jf)⊕(((List Jf)×Int)⊕(((List Jf)×Int×Int)⊕((List Jf)⊕(Option (List Jf))))))) (
       ((bif decide (((r92.length:Nat):Int)=0) then (
        some (decide (0<((x31.length:Nat):Int)))
       ) else some false):Option Bool).bind fun b94 =>
       bif b94 then (
        some (.inr (.inr (.inr (.inr (.inr none)))))
       ) else (
        some (.inl ())
       )
      ) fun _ =>
      some (.inl r92)
     ) else (
      some (.inl x31)
     )
    ) fun x89 =>
    some (.inl (x89,w64 (x32+x83.Length)))
   )
  ) fun (x79,x80) =>
  some (.inl (x79,x80,w64 (x33+1)))
 ) else (
  some (.inr (.inl x31))
 )
noncomputable def Wv (a0:Je) (a1:(List Jd)) (a2:Int) (a3:(List Jf)) (a4:Ju):Option (Option (List Jf)) :=
 onInl (α:=(List Jf)) (β:=(Option (List Jf))) (Km (Yh a0 a1 a4) (a3,a2,0)) fun x64 =>
 some (some x64)
theorem Hu (a0:Je) (a1:(List Jd)) (a2:Int) (a3:(List Jf)) (a4:Ju) (r:(Option (List Jf))) (h:Wv a0 a1 a2 a3 a4=some r):Jj9 Go.Proofs.Tryz.prog GlS 69 [Enc.pv a0,Enc.pv a1,Enc.pv a2,Enc.pv a3,Enc.pv a4] (r.map fun r=>Enc.pv r):=by
 unfold Wv at h
 refine Jm0 Go.Proofs.Tryz.func69 (by rfl) rfl Go.Proofs.Tryz.ntmps69 (by rfl) rfl ?_
 refine Ja (Jg (zE (Jc (Ja (Jg (zE (Jc (Ja (Ja (Jg (zR 1 ?_)))))))))))
 refine Kl (L:=(a1:(List Jd))) (by kernel_rfl) ?_
 refine zE (Jc (Jo ?_))
 obtain ⟨o124,h124,h⟩:=Ko h
 refine Kh 101 0 (fun (x31,x32,x33)=>⟨[(3,Jp .frozen (x31:(List Jf))),(5,.ref 5 0),(9,.ref 9 0),(11,.int .i64 x32),(20,Jp .frozen (a1:(List Jd))),(21,.int .i64 ((a1.length:Nat):Int)),(22,.int .i64 x33)],[(5,.cells (cellsOf a0)),(9,.cells (cellsOf a4))],[],[]⟩) (fun x64=>⟨[(3,Jp .frozen (x64:(List Jf)))],[],[],[]⟩) h124 (by kernel_rfl) (fun _=>by kernel_rfl) ?_ ?_
 ·rintro ⟨x31,x32,x33⟩ oh123 h123
  unfold Yh at h123
  refine Ja (Jg (zE (Jc (Ja ?_))))
  rcases Jl h123 with ⟨hb,h123⟩|⟨hb,h123⟩
  ·refine zT hb (Jk (Jc ?_))
   obtain ⟨o155,h155,h123⟩:=Ko h123
   refine Um (o:=o155) 101 (fun (x79,x80)=>⟨[(3,Jp .frozen (x79:(List Jf))),(5,.ref 5 0),(9,.ref 9 0),(11,.int .i64 x80),(20,Jp .frozen (a1:(List Jd))),(21,.int .i64 ((a1.length:Nat):Int)),(22,.int .i64 x33)],[(5,.cells (cellsOf a0)),(9,.cells (cellsOf a4))],[],[]⟩) ?_ ?_
   ·refine Jo (Ja (Jg ?_))
    obtain ⟨x81,h156,h155⟩:=Ji h155
    refine zI h156 (zE (Jc (Ja (Ja (Jg ?_)))))
    obtain ⟨b82,h157,h155⟩:=Ji h155
    refine zR 4 ?_
    refine Qf 7 36 (.bool b82) ?_ ?_
    ·rcases Jl h157 with ⟨hb,h157⟩|⟨hb,h157⟩
     ·refine zS 29 hb ?_
      cases h157
      exact zF
     refine zS 29 hb (zR 4 ?_)
     refine Kl (L:=(a0.Elements:(List Jw))) (by kernel_rfl) ?_
     cases h157
     exact zF
    refine zN (Jc ?_)
    rcases Jl h155 with ⟨hb,h155⟩|⟨hb,h155⟩
    ·refine zT hb (Ka (Jx (Jv ?_)))
     cases h155
     exact zJ
    refine zU hb (Jk (Jc (Ja (Jg (zR 4 ?_)))))
    obtain ⟨x83,h158,h155⟩:=Ji h155
    refine zI h158 (zE (Jc (Ja (Jg (zE (Jc ?_))))))
    obtain ⟨o172,h172,h155⟩:=Ko h155
    refine Um (o:=o172) 101 (fun x89=>⟨[(3,Jp .frozen (x89:(List Jf))),(5,.ref 5 0),(9,.ref 9 0),(15,.int .i64 (w64 (x32+x83.Length))),(20,Jp .frozen (a1:(List Jd))),(21,.int .i64 ((a1.length:Nat):Int)),(22,.int .i64 x33)],[(5,.cells (cellsOf a0)),(9,.cells (cellsOf a4))],[],[]⟩) ?_ ?_
    ·refine Ja (Jg (zE (Jc ?_)))
     rcases Jl h172 with ⟨hb,h172⟩|⟨hb,h172⟩
     ·refine zT hb (Ja (Qb (by kernel_rfl) (by kernel_rfl) (zE (Jc ?_))))
      obtain ⟨o173,h173,h172⟩:=Ko h172
      refine Um (o:=o173) 101 (fun (x90,x91)=>⟨[(3,Jp .frozen (x31:(List Jf))),(5,.ref 5 0),(9,.ref 9 0),(15,.int .i64 (w64 (x32+x83.Length))),(16,.int .i64 x90),(17,.int .i64 x91),(20,Jp .frozen (a1:(List Jd))),(21,.int .i64 ((a1.length:Nat):Int)),(22,.int .i64 x33)],[(5,.cells (cellsOf a0)),(9,.cells (cellsOf a4))],[],[]⟩) ?_ ?_
      ·refine Ja (Jg (zR 4 ?_))
       refine Kx 9 72 ((decide (x81.In=0))||((decide (x81.In=2))&&(decide (x83.Kind=3)))) (fun x hx=>?_) ?_
       ·rcases Wx hx with ⟨hb,hx⟩|⟨hb,hx⟩
        ·refine zS 63 hb ?_
         subst hx
         exact zF
        refine zS 63 hb (zR 4 ?_)
        refine Tv 4 71 ((decide (x81.In=2))&&(decide (x83.Kind=3))) (fun x hx=>?_) ?_
        ·rcases Wb hx with ⟨hb,hx⟩|⟨hb,hx⟩
         ·refine zS 67 hb ?_
          subst hx
          exact zF
         refine zS 67 hb ?_
         subst hx
         exact zF
        subst hx
        exact zF
       refine zN (Jc ?_)
       rcases Jl h173 with ⟨hb,h173⟩|⟨hb,h173⟩
       ·refine zT hb (Qb (by kernel_rfl) (by kernel_rfl) (zE ?_))
        cases h173
        exact zJ
       refine zU hb (Jk ?_)
       cases h173
       exact zJ
      rintro ⟨x90,x91⟩ rfl
      have h172:=Kd h172
      refine Ja (Jg (zR 5 ?_))
      obtain ⟨r92,h174,h172⟩:=Ji h172
      refine Jy (Jex _ _ _ _ r92 h174) (by kernel_rfl) (by kernel_rfl) (zE (Jc ?_))
      obtain ⟨o180,h180,h172⟩:=Ko h172
      refine Um (o:=o180) 101 (fun (_:Unit)=>⟨[(5,.ref 5 0),(9,.ref 9 0),(15,.int .i64 (w64 (x32+x83.Length))),(18,Jp .frozen (r92:(List Jf))),(20,Jp .frozen (a1:(List Jd))),(21,.int .i64 ((a1.length:Nat):Int)),(22,.int .i64 x33)],[(5,.cells (cellsOf a0)),(9,.cells (cellsOf a4))],[],[]⟩) ?_ ?_
      ·refine Ja (Jg (zR 1 ?_))
       refine Kl (L:=(r92:(List Jf))) (by kernel_rfl) ?_
       obtain ⟨b94,h181,h180⟩:=Ji h180
       refine zR 2 ?_
       refine Qf 4 94 (.bool b94) ?_ ?_
       ·rcases Jl h181 with ⟨hb,h181⟩|⟨hb,h181⟩
        ·refine zS 90 hb (zR 1 ?_)
         refine Kl (L:=(x31:(List Jf))) (by kernel_rfl) ?_
         cases h181
         exact zF
        refine zS 90 hb ?_
        cases h181
        exact zF
       refine zN (Jc ?_)
       rcases Jl h180 with ⟨hb,h180⟩|⟨hb,h180⟩
       ·refine zT hb (Jb2 (Nm 0 1 (zE ?_)))
        refine Kc7 (d:=96) (by kernel_rfl) fun ch hpan=>?_
        cases h180
        refine Cz ?_
        have h182:=Qd h172
        cases h182
        refine Cz ?_
        have h183:=Qd h155
        refine Tc ?_
        cases h183
        refine Cz ?_
        have h184:=Qd h123
        cases h184
        refine Jk0 fun he=>?_
        subst he
        have h185:=Qd h
        refine Tc (Jho ?_)
        cases h185
        exact Kc3 hpan
       refine zU hb (Jk ?_)
       cases h180
       exact zJ
      rintro _ rfl
      have h172:=Kd h172
      refine Jg (zE ?_)
      cases h172
      exact zJ
     refine zU hb (Jk ?_)
     cases h172
     exact zJ
    rintro x89 rfl
    have h155:=Kd h155
    refine Jg (zE (Kb ?_))
    cases h155
    exact zJ
   rintro ⟨x79,x80⟩ rfl
   have h123:=Kd h123
   refine Jg (zE ?_)
   cases h123
   exact zB
  refine zU hb (Ka (Jx ?_))
  cases h123
  exact zX
 rintro x64 s' rfl hs
 have h:=Kd h
 refine Jv (Jc (Ke hs (Ja (Jg (zE (Jc (Jq ?_)))))))
 cases h
 exact ⟨_,rfl,Jz4 (by kernel_rfl) (by kernel_rfl) (by kernel_rfl)⟩
/-! restriction.Apply -/
noncomputable def Zr (a0:(List Ju)) (a1:(List Jd)) (a2:Int) (a3:Je):(Int×(List Jf))→Option ((Int×(List Jf))⊕((List Jf)⊕(List Jf))):=fun (x24,x25) =>
 bif decide (x24<((a0.length:Nat):Int)) then (
  onInl (α:=(List Jf)) (β:=((Int×(List Jf))⊕((List Jf)⊕(List Jf)))) (
   (ixO a0 x24).bind fun x41 =>
   ((bif x41.Active then (
    (Yn a3 x41).bind fun r43 =>
    some (decide (r43=0))
   ) else some false):Option Bool).bind fun b42 =>
   bif b42 then (
    Kb5 (Wv a3 a1 a2 x25 x41) (
     some (.inr (.inr (.inr ([]:(List Jf)))))
    ) fun r44 =>
    some (.inl r44)
   ) else (
    some (.inl x25)
   )
  ) fun x40 =>
  some (.inl (w64 (x24+1),x40))
 ) else (
  some (.inr (.inl x25))
 )
noncomputable def Wo (a0:(List Ju)) (a1:(List Jd)) (a2:Int) (a3:Je) (a4:(List Jf)):Option (List Jf) :=
 (Wn a4).bind fun r1 =>
 (Uz a4).bind fun r2 =>
 ((bif (!r2) then some true else (
  (Db a3 a1).bind fun r4 =>
  some (!r4)
 )):Option Bool).bind fun b3 =>
 bif ((b3||(decide (a2<(-1073741824))))||(decide (1073741824<a2))) then (
  some r1
 ) else (
  onInl (α:=(List Jf)) (β:=(List Jf)) (Km (Zr a0 a1 a2 a3) (0,r1)) fun x35 =>
  some x35
 )
set_option maxRecDepth 100000 in
theorem Jaz (a0:(List Ju)) (a1:(List Jd)) (a2:Int) (a3:Je) (a4:(List Jf)) (r:(List Jf)) (h:Wo a0 a1 a2 a3 a4=some r):Kq Go.Proofs.Tryz.prog GlS 28 [Enc.pv a0,Enc.pv a1,Enc.pv a2,Enc.pv a3,Enc.pv a4] (Enc.pv r):=by
 unfold Wo at h
 refine Jnh Go.Proofs.Tryz.func28 (by rfl) rfl Go.Proofs.Tryz.ntmps28 (by rfl) rfl ?_
 refine Jgl (Jg (zE (Jj7 ?_)))
 refine Jeg 1 66 [.ref 10 0] (by rfl) ?_
 refine zE ?_
 refine ⟨by kernel_rfl,by kernel_rfl,by kernel_rfl, ?_⟩
 refine Ja (Jg (zR 1 ?_))
 obtain ⟨r1,h1,h⟩:=Ji h
 refine Jy (Ox _ r1 h1) (by kernel_rfl) (by kernel_rfl) (zE (Jc (Ja (Ja (Jg (zR 1 ?_))))))
 obtain ⟨r2,h2,h⟩:=Ji h
 refine Jy (Wy _ r2 h2) (by kernel_rfl) (by kernel_rfl) ?_
 obtain ⟨b3,h3,h⟩:=Ji h
 refine zR 2 ?_
 refine Qf 5 24 (.bool b3) ?_ ?_
 ·rcases Jl h3 with ⟨hb,h3⟩|⟨hb,h3⟩
  ·refine zS 19 hb ?_
   cases h3
   exact zF
  refine zS 19 hb (zR 2 ?_)
  obtain ⟨r4,h4,h3⟩:=Ji h3
  refine Jy (Pe _ _ r4 h4) (by kernel_rfl) (by kernel_rfl) ?_
  cases h3
  exact zF
 refine zR 1 ?_
 refine Kx 3 28 (b3||(decide (a2<(-1073741824)))) (fun x hx=>?_) ?_
 ·rcases Wx hx with ⟨hb,hx⟩|⟨hb,hx⟩
  ·refine zS 25 hb ?_
   subst hx
   exact zF
  refine zS 25 hb ?_
  subst hx
  exact zF
 refine zR 1 ?_
 refine Kx 3 32 ((b3||(decide (a2<(-1073741824))))||(decide (1073741824<a2))) (fun x hx=>?_) ?_
 ·rcases Wx hx with ⟨hb,hx⟩|⟨hb,hx⟩
  ·refine zS 29 hb ?_
   subst hx
   exact zF
  refine zS 29 hb ?_
  subst hx
  exact zF
 refine zN (Jc ?_)
 rcases Jl h with ⟨hb,h⟩|⟨hb,h⟩
 ·refine zT hb (Ja (Jg (zE (Jc (Jq (Jn ?_))))))
  refine Jzn (Jpk (pan:=false) (caps:=[.ref 10 0]) (by kernel_rfl) Go.Proofs.Tryz.func66 (by rfl) rfl Go.Proofs.Tryz.ntmps66 (by rfl) ?_)
  refine Jmn ((Jab 1 (by kernel_rfl)).trans (.of (j:=⟨[(0,.ref 1010 0),(13,.ref 1010 0),(59,.fn 66 [.ref 1010 0])],[(1010,.cells ([Jp (.own 1015007) (r1:(List Jf))]))],[(1015007,(((r1).map cellsOf).length,4))],[]⟩) (n:=5700060) (by kernel_rfl) (by kernel_rfl))) ?_
  refine Jhr ⟨rfl,rfl,rfl,rfl,fun _ _=>rfl,(fun a _ _ _ h=>by simp [Act.eval] at h; simp [go_sem,h]),(fun a _ h=>by simp [Act.eval] at h; simp [go_sem,h])⟩ (by kernel_rfl) ?_
  refine Jce (b:=false) rfl (by kernel_rfl) ?_
  refine Jk ?_
  cases h
  exact Jfg (by kernel_rfl) (by kernel_rfl) (by kernel_rfl)
 refine zU hb (Jk (Jc (Ja (Ja (Jg (zR 1 ?_))))))
 refine Kl (L:=(a0:(List Ju))) (by kernel_rfl) ?_
 refine zE (Jc (Jo ?_))
 obtain ⟨o45,h45,h⟩:=Ko h
 refine Kh 100057 0 (fun (x24,x25)=>⟨[(1,Jp .frozen (a1:(List Jd))),(2,.int .i64 a2),(8,.ref 8 0),(10,.ref 10 0),(34,Jp .frozen (a0:(List Ju))),(35,.int .i64 ((a0.length:Nat):Int)),(36,.int .i64 x24),(56,.fn 66 [.ref 10 0])],[(8,.cells (cellsOf a3)),(10,.cells ([Jp .frozen (x25:(List Jf))]))],[],[]⟩) (fun x35=>⟨[(10,.ref 10 0),(56,.fn 66 [.ref 10 0])],[(10,.cells ([Jp .frozen (x35:(List Jf))]))],[],[]⟩) h45 (by kernel_rfl) (fun _=>by kernel_rfl) ?_ ?_
 ·rintro ⟨x24,x25⟩ oh44 h44
  unfold Zr at h44
  refine Ja (Jg (zE (Jc (Ja ?_))))
  rcases Jl h44 with ⟨hb,h44⟩|⟨hb,h44⟩
  ·refine zT hb (Jk (Jc ?_))
   obtain ⟨o52,h52,h44⟩:=Ko h44
   refine Um (o:=o52) 100057 (fun x40=>⟨[(1,Jp .frozen (a1:(List Jd))),(2,.int .i64 a2),(8,.ref 8 0),(10,.ref 10 0),(34,Jp .frozen (a0:(List Ju))),(35,.int .i64 ((a0.length:Nat):Int)),(36,.int .i64 x24),(56,.fn 66 [.ref 10 0])],[(8,.cells (cellsOf a3)),(10,.cells ([Jp .frozen (x40:(List Jf))]))],[],[]⟩) ?_ ?_
   ·refine Jo (Ja (Jg ?_))
    obtain ⟨x41,h53,h52⟩:=Ji h52
    refine zI h53 (zE (Jc (Ja (Jg ?_))))
    obtain ⟨b42,h54,h52⟩:=Ji h52
    refine zR 3 ?_
    refine Qf 5 47 (.bool b42) ?_ ?_
    ·rcases Jl h54 with ⟨hb,h54⟩|⟨hb,h54⟩
     ·refine zS 42 hb (zR 2 ?_)
      obtain ⟨r43,h55,h54⟩:=Ji h54
      refine Jy (Jak _ _ r43 h55) (by kernel_rfl) (by kernel_rfl) ?_
      cases h54
      exact zF
     refine zS 42 hb ?_
     cases h54
     exact zF
    refine zN (Jc ?_)
    rcases Jl h52 with ⟨hb,h52⟩|⟨hb,h52⟩
    ·refine zT hb (Jb2 (Nm 0 5 (zE ?_)))
     rcases Ker h52 with ⟨h56,h52⟩|⟨r44,h56,h52⟩
     ·refine Kav (Hu _ _ _ _ _ none h56) (by kernel_rfl) fun ch hpan=>?_
      refine Tc ?_
      cases h52
      refine Cz ?_
      have h57:=Qd h44
      cases h57
      refine Jk0 fun he=>?_
      subst he
      have h58:=Qd h
      refine Tc (Jho ?_)
      refine Kdl hpan (Jpk (pan:=true) (caps:=[.ref 10 0]) (by kernel_rfl) Go.Proofs.Tryz.func66 (by rfl) rfl Go.Proofs.Tryz.ntmps66 (by rfl) ?_)
      refine Jmn ((Jab 17 (by kernel_rfl)).trans (.of (j:=⟨[(0,.ref 17010 0),(13,.ref 17010 0),(59,.fn 66 [.ref 17010 0])],[(17010,.cells ([Jp .frozen (x25:(List Jf))]))],[],[]⟩) (n:=5700060) (by kernel_rfl) (by kernel_rfl))) ?_
      refine Jhr ⟨rfl,rfl,rfl,rfl,fun _ _=>rfl,(fun a _ _ _ h=>by simp [Act.eval] at h; simp [go_sem,h]),(fun a _ h=>by simp [Act.eval] at h; simp [go_sem,h])⟩ (by kernel_rfl) ?_
      refine Jb5 (b:=true) rfl (by kernel_rfl) ?_
      refine Jg (zE ?_)
      cases h58
      exact Jfg (by kernel_rfl) (by kernel_rfl) (by kernel_rfl)
     refine Ka2 (Hu _ _ _ _ _ (some r44) h56) (by kernel_rfl) (by kernel_rfl) (Nm 6 1 (zE (Juq (Kb ?_))))
     cases h52
     exact zJ
    refine zU hb (Jk (Kb ?_))
    cases h52
    exact zJ
   rintro x40 rfl
   have h44:=Kd h44
   refine Jg (zE ?_)
   cases h44
   exact zB
  refine zU hb (Ka (Jx ?_))
  cases h44
  exact zX
 rintro x35 s' rfl hs
 have h:=Kd h
 refine Jv (Jc (Ke hs (Ja (Jg (zE (Jc (Jq ?_)))))))
 refine Jzn (Jpk (pan:=false) (caps:=[.ref 10 0]) (by kernel_rfl) Go.Proofs.Tryz.func66 (by rfl) rfl Go.Proofs.Tryz.ntmps66 (by rfl) ?_)
 refine Jmn ((Jab 19 (by kernel_rfl)).trans (.of (j:=⟨[(0,.ref 19010 0),(13,.ref 19010 0),(59,.fn 66 [.ref 19010 0])],[(19010,.cells ([Jp .frozen (x35:(List Jf))]))],[],[]⟩) (n:=5700060) (by kernel_rfl) (by kernel_rfl))) ?_
 refine Jhr ⟨rfl,rfl,rfl,rfl,fun _ _=>rfl,(fun a _ _ _ h=>by simp [Act.eval] at h; simp [go_sem,h]),(fun a _ h=>by simp [Act.eval] at h; simp [go_sem,h])⟩ (by kernel_rfl) ?_
 refine Jce (b:=false) rfl (by kernel_rfl) ?_
 refine Jk ?_
 cases h
 exact Jfg (by kernel_rfl) (by kernel_rfl) (by kernel_rfl)
/-! profile.Cut -/
noncomputable def Ii (a0:(List Jf)) (a1:Int) (a2:Int):(Int×(List Jf))→Option ((Int×(List Jf))⊕((List Jf)⊕(List Jf))):=fun (x17,x18) =>
 bif decide (x17<((a0.length:Nat):Int)) then (
  onInl (α:=(List Jf)) (β:=((Int×(List Jf))⊕((List Jf)⊕(List Jf)))) (
   (ixO a0 x17).bind fun x31 =>
   (Wp (Cj.mk a1 a2) x31).bind fun r32 =>
   bif r32.2 then (
    (Vg x18 [r32.1]).bind fun x33 =>
    some (.inl x33)
   ) else (
    some (.inl x18)
   )
  ) fun x30 =>
  some (.inl (w64 (x17+1),x30))
 ) else (
  some (.inr (.inl x18))
 )
noncomputable def Yt (a0:(List Jf)) (a1:Int) (a2:Int):Option (List Jf) :=
 (Uz a0).bind fun r1 =>
 bif (!r1) then (
  some ([]:(List Jf))
 ) else (
  onInl (α:=(List Jf)) (β:=(List Jf)) (Km (Ii a0 a1 a2) (0,([]:(List Jf)))) fun x26 =>
  some x26
 )
theorem Jgx (a0:(List Jf)) (a1:Int) (a2:Int) (r:(List Jf)) (h:Yt a0 a1 a2=some r):Kq Go.Proofs.Tryz.prog GlS 30 [Enc.pv a0,Enc.pv a1,Enc.pv a2] (Jp (.own 100007) r):=by
 unfold Yt at h
 refine Js Go.Proofs.Tryz.func30 (by rfl) rfl Go.Proofs.Tryz.ntmps30 (by rfl) rfl ?_
 refine Ja (Jg (zE (Jc (Ja (Ja (Jg (zR 1 ?_)))))))
 obtain ⟨r1,h1,h⟩:=Ji h
 refine Jy (Wy _ r1 h1) (by kernel_rfl) (by kernel_rfl) (zE (Jc ?_))
 rcases Jl h with ⟨hb,h⟩|⟨hb,h⟩
 ·refine zT hb (Ja (Jg (zE (Jc (Cs 6 100007 4 32 (by kernel_rfl) (by kernel_rfl) (Jq (Jn ?_)))))))
  cases h
  exact zQ
 refine zU hb (Jk (Jc (Ja (Jg (zE (Jc (Ja (Ja (Jg (zR 1 ?_))))))))))
 refine Kl (L:=(a0:(List Jf))) (by kernel_rfl) ?_
 refine zE (Jc (Jo (Cs 7 100007 4 32 (by kernel_rfl) (by kernel_rfl) ?_)))
 obtain ⟨o24,h24,h⟩:=Ko h
 refine Kh 36 0 (fun (x17,x18)=>⟨[(1,.int .i64 a1),(2,.int .i64 a2),(7,Jp (.own 100007) (x18:(List Jf))),(15,Jp .frozen (a0:(List Jf))),(16,.int .i64 ((a0.length:Nat):Int)),(17,.int .i64 x17)],[],[(100007,(((x18).map cellsOf).length,4))],[]⟩) (fun x26=>⟨[(7,Jp (.own 100007) (x26:(List Jf)))],[],[(100007,(((x26).map cellsOf).length,4))],[]⟩) h24 (by kernel_rfl) (fun _=>by kernel_rfl) ?_ ?_
 ·rintro ⟨x17,x18⟩ oh23 h23
  unfold Ii at h23
  refine Ja (Jg (zE (Jc (Ja ?_))))
  rcases Jl h23 with ⟨hb,h23⟩|⟨hb,h23⟩
  ·refine zT hb (Jk (Jc ?_))
   obtain ⟨o28,h28,h23⟩:=Ko h23
   refine Um (o:=o28) 36 (fun x30=>⟨[(1,.int .i64 a1),(2,.int .i64 a2),(7,Jp (.own 100007) (x30:(List Jf))),(15,Jp .frozen (a0:(List Jf))),(16,.int .i64 ((a0.length:Nat):Int)),(17,.int .i64 x17)],[],[(100007,(((x30).map cellsOf).length,4))],[]⟩) ?_ ?_
   ·refine Jo (Ja (Jg ?_))
    obtain ⟨x31,h29,h28⟩:=Ji h28
    refine zI h29 (zE (Jc (Ja (Jg (zR 4 ?_)))))
    obtain ⟨r32,h30,h28⟩:=Ji h28
    refine Jy (Md _ _ r32 h30) (by kernel_rfl) (by kernel_rfl) (zE (Jc (Ja (Jg (zE (Jc ?_))))))
    rcases Jl h28 with ⟨hb,h28⟩|⟨hb,h28⟩
    ·refine zT hb (Jg (zR 3 ?_))
     obtain ⟨x33,h31,h28⟩:=Ji h28
     refine Vv (tk:=100007) h31 (by kernel_rfl) (by kernel_rfl) ?_
     refine zE (Kb ?_)
     cases h28
     exact zJ
    refine zU hb (Jk (Kb ?_))
    cases h28
    exact zJ
   rintro x30 rfl
   have h23:=Kd h23
   refine Jg (zE ?_)
   cases h23
   exact zB
  refine zU hb (Ka (Jx ?_))
  cases h23
  exact zX
 rintro x26 s' rfl hs
 have h:=Kd h
 refine Jv (Jc (Ke hs (Ja (Jg (zE (Jc (Jq ?_)))))))
 cases h
 exact zQ
theorem Jhd (a0:(List Jf)) (a1:Int) (a2:Int) (r:(List Jf)) (h:Yt a0 a1 a2=some r):Kq Go.Proofs.Tryz.prog GlS 30 [Enc.pv a0,Enc.pv a1,Enc.pv a2] (Enc.pv r) :=
 (Jgx a0 a1 a2 r h).freeze (by kernel_rfl) (by kernel_rfl) (by kernel_rfl)
/-! linking.passed -/
noncomputable def Bz (a0:Int) (a1:Jd):Option Bool :=
 bif decide (a0=1) then (
  some true
 ) else (
  onInl (α:=Bool) (β:=Bool) (
   bif decide (a0=2) then (
    some (.inl (decide (a0=2)))
   ) else (
    some (.inl (decide (a0=3)))
   )
  ) fun x1 =>
  bif x1 then (
   some (((decide (a1.In=0))&&(decide (a1.Out=1)))||((decide (a1.In=1))&&(decide (a1.Out=0))))
  ) else (
   some false
  )
 )
theorem Jdx (a0:Int) (a1:Jd) (r:Bool) (h:Bz a0 a1=some r):Kq Go.Proofs.Tryz.prog GlS 75 [Enc.pv a0,Enc.pv a1] (Enc.pv r):=by
 unfold Bz at h
 refine Js Go.Proofs.Tryz.func75 (by rfl) rfl Go.Proofs.Tryz.ntmps75 (by rfl) rfl ?_
 refine Ja (Jg (zE (Jc (Ja (Ja (Jg (zE (Jc (Jo (Ja (Jg (zE (Jc ?_)))))))))))))
 rcases Jl h with ⟨hb,h⟩|⟨hb,h⟩
 ·refine zT hb (Ja (Jg (zE (Jc (Jq (Jr (Jn ?_)))))))
  cases h
  exact zQ
 refine zU hb ?_
 obtain ⟨o1,h1,h⟩:=Ko h
 refine Um (o:=o1) 29 (fun x1=>⟨[(3,.ref 3 0),(8,.bool x1)],[(3,.cells (cellsOf a1))],[],[]⟩) ?_ ?_
 ·refine Ja (Jg (zE (Jc ?_)))
  rcases Jl h1 with ⟨hb,h1⟩|⟨hb,h1⟩
  ·refine zT hb (Jk ?_)
   cases h1
   exact zJ
  refine zU hb (Jg (zE ?_))
  cases h1
  exact zJ
 rintro x1 rfl
 have h:=Kd h
 rcases Jl h with ⟨hb,h⟩|⟨hb,h⟩
 ·refine zT hb (Ja (Jg (zR 4 ?_)))
  refine Kx 4 18 ((decide (a1.In=0))&&(decide (a1.Out=1))) (fun x hx=>?_) ?_
  ·rcases Wb hx with ⟨hb,hx⟩|⟨hb,hx⟩
   ·refine zS 14 hb ?_
    subst hx
    exact zF
   refine zS 14 hb ?_
   subst hx
   exact zF
  refine zR 1 ?_
  refine Kx 9 28 (((decide (a1.In=0))&&(decide (a1.Out=1)))||((decide (a1.In=1))&&(decide (a1.Out=0)))) (fun x hx=>?_) ?_
  ·rcases Wx hx with ⟨hb,hx⟩|⟨hb,hx⟩
   ·refine zS 19 hb ?_
    subst hx
    exact zF
   refine zS 19 hb (zR 4 ?_)
   refine Tv 4 27 ((decide (a1.In=1))&&(decide (a1.Out=0))) (fun x hx=>?_) ?_
   ·rcases Wb hx with ⟨hb,hx⟩|⟨hb,hx⟩
    ·refine zS 23 hb ?_
     subst hx
     exact zF
    refine zS 23 hb ?_
    subst hx
    exact zF
   subst hx
   exact zF
  refine zE (Jc (Jq (Jr (Jn ?_))))
  cases h
  exact zQ
 refine zU hb (Jk (Kb (Jc (Ja (Jg (zE (Jc (Jq ?_))))))))
 cases h
 exact zQ
/-! cmp.isNaN[int] -/
noncomputable def De (a0:Int):Option Bool :=
 some (!(decide (a0=a0)))
theorem Rr (a0:Int) (r:Bool) (h:De a0=some r):Kq Go.Proofs.Tryz.prog GlS 122 [Enc.pv a0] (Enc.pv r):=by
 unfold De at h
 refine Js Go.Proofs.Tryz.func122 (by rfl) rfl Go.Proofs.Tryz.ntmps122 (by rfl) rfl ?_
 refine Ja (Jg (zE (Jc (Ja (Jg (zE (Jc (Jq ?_))))))))
 cases h
 exact zQ
/-! cmp.Compare[int] -/
noncomputable def Yg (a0:Int) (a1:Int):Option Int :=
 (De a0).bind fun r1 =>
 (De a1).bind fun r2 =>
 bif r1 then (
  bif r2 then (
   some 0
  ) else (
   some (-1)
  )
 ) else (
  bif r2 then (
   some 1
  ) else (
   bif decide (a0<a1) then (
    some (-1)
   ) else (
    bif decide (a1<a0) then (
     some 1
    ) else (
     some 0
    )
   )
  )
 )
theorem Ot (a0:Int) (a1:Int) (r:Int) (h:Yg a0 a1=some r):Kq Go.Proofs.Tryz.prog GlS 79 [Enc.pv a0,Enc.pv a1] (Enc.pv r):=by
 unfold Yg at h
 refine Js Go.Proofs.Tryz.func79 (by rfl) rfl Go.Proofs.Tryz.ntmps79 (by rfl) rfl ?_
 refine Ja (Jg (zE (Jc (Ja (Jg (zR 1 ?_))))))
 obtain ⟨r1,h1,h⟩:=Ji h
 refine Jy (Rr _ r1 h1) (by kernel_rfl) (by kernel_rfl) (zE (Jc (Ja (Jg (zR 1 ?_)))))
 obtain ⟨r2,h2,h⟩:=Ji h
 refine Jy (Rr _ r2 h2) (by kernel_rfl) (by kernel_rfl) (zE (Jc (Ja (Ja (Jg (zE (Jc ?_)))))))
 rcases Jl h with ⟨hb,h⟩|⟨hb,h⟩
 ·refine zT hb (Ja (Ja (Jg (zE (Jc ?_)))))
  rcases Jl h with ⟨hb,h⟩|⟨hb,h⟩
  ·refine zT hb (Ja (Jg (zE (Jc (Jq (Jn (Jn ?_)))))))
   cases h
   exact zQ
  refine zU hb (Jk (Jc (Ja (Jg (zE (Jc (Jq (Jn ?_))))))))
  cases h
  exact zQ
 refine zU hb (Jk (Jc (Ja (Ja (Jg (zE (Jc ?_)))))))
 rcases Jl h with ⟨hb,h⟩|⟨hb,h⟩
 ·refine zT hb (Ja (Jg (zE (Jc (Jq (Jn ?_))))))
  cases h
  exact zQ
 refine zU hb (Jk (Jc (Ja (Ja (Jg (zE (Jc ?_)))))))
 rcases Jl h with ⟨hb,h⟩|⟨hb,h⟩
 ·refine zT hb (Ja (Jg (zE (Jc (Jq (Jn ?_))))))
  cases h
  exact zQ
 refine zU hb (Jk (Jc (Ja (Ja (Jg (zE (Jc ?_)))))))
 rcases Jl h with ⟨hb,h⟩|⟨hb,h⟩
 ·refine zT hb (Ja (Jg (zE (Jc (Jq (Jn ?_))))))
  cases h
  exact zQ
 refine zU hb (Jk (Jc (Ja (Jg (zE (Jc (Jq ?_)))))))
 cases h
 exact zQ
/-! cmp.Or[int] -/
noncomputable def Bv (a0:(List Int)):Int→Option (Int⊕(Unit⊕Int)):=fun x2 =>
 bif decide (x2<((a0.length:Nat):Int)) then (
  (ixO a0 x2).bind fun x4 =>
  bif (!(decide (x4=0))) then (
   some (.inr (.inr x4))
  ) else (
   some (.inl (w64 (x2+1)))
  )
 ) else (
  some (.inr (.inl ()))
 )
noncomputable def Lw (a0:(List Int)):Option Int :=
 onInl (α:=Unit) (β:=Int) (Km (Bv a0) 0) fun _ =>
 some 0
theorem Jjd (a0:(List Int)) (r:Int) (h:Lw a0=some r):Kq Go.Proofs.Tryz.prog GlS 78 [Enc.pv a0] (Enc.pv r):=by
 unfold Lw at h
 refine Js Go.Proofs.Tryz.func78 (by rfl) rfl Go.Proofs.Tryz.ntmps78 (by rfl) rfl ?_
 refine Ja (Jg (zE (Jc (Ja (Jg (zE (Jc (Ja (Ja (Jg (zR 1 ?_)))))))))))
 refine Kl (L:=(a0:(List Int))) (by kernel_rfl) ?_
 refine zE (Jc (Jo ?_))
 obtain ⟨o6,h6,h⟩:=Ko h
 refine Kh 18 0 (fun x2=>⟨[(3,.int .i64 0),(6,Jp .frozen (a0:(List Int))),(7,.int .i64 ((a0.length:Nat):Int)),(8,.int .i64 x2)],[],[],[]⟩) (fun (_:Unit)=>⟨[(3,.int .i64 0)],[],[],[]⟩) h6 (by kernel_rfl) (fun _=>by kernel_rfl) ?_ ?_
 ·rintro x2 oh5 h5
  unfold Bv at h5
  refine Ja (Jg (zE (Jc (Ja ?_))))
  rcases Jl h5 with ⟨hb,h5⟩|⟨hb,h5⟩
  ·refine zT hb (Jk (Jc (Ja (Jo (Ja (Jg ?_))))))
   obtain ⟨x4,h7,h5⟩:=Ji h5
   refine zI h7 (zE (Jc (Ja (Jg (zE (Jc ?_))))))
   rcases Jl h5 with ⟨hb,h5⟩|⟨hb,h5⟩
   ·refine zT hb (Ja (Jg (zE (Jc (Jq (Jr (Jn ?_)))))))
    cases h5
    refine Kf fun he=>?_
    subst he
    have h8:=Qd h
    refine Jr (Jn ?_)
    cases h8
    exact zQ
   refine zU hb (Jk (Kb (Jc (Jg (zE ?_)))))
   cases h5
   exact zB
  refine zU hb (Ka (Jx ?_))
  cases h5
  exact zX
 rintro _ s' rfl hs
 have h:=Kd h
 refine Jv (Jc (Ke hs (Ja (Jg (zE (Jc (Jq ?_)))))))
 cases h
 exact zQ
/-! linking.Of$1 -/
noncomputable def Wq (a0:Jb) (a1:Jb):Option Int :=
 (Yg a0.At a1.At).bind fun r1 =>
 (Yg a0.Id a1.Id).bind fun r2 =>
 (Lw [r1,r2]).bind fun r3 =>
 some r3
theorem Dd (a0:Jb) (a1:Jb) (r:Int) (h:Wq a0 a1=some r):Kq Go.Proofs.Tryz.prog GlS 77 [Enc.pv a0,Enc.pv a1] (Enc.pv r):=by
 unfold Wq at h
 refine Js Go.Proofs.Tryz.func77 (by rfl) rfl Go.Proofs.Tryz.ntmps77 (by rfl) rfl ?_
 refine Ja (Jg (zE (Jc (Ja (Qb (by kernel_rfl) (by kernel_rfl) (zR 4 ?_))))))
 obtain ⟨r1,h1,h⟩:=Ji h
 refine Jy (Ot _ _ r1 h1) (by kernel_rfl) (by kernel_rfl) (zR 4 ?_)
 obtain ⟨r2,h2,h⟩:=Ji h
 refine Jy (Ot _ _ r2 h2) (by kernel_rfl) (by kernel_rfl) (zR 1 ?_)
 obtain ⟨r3,h3,h⟩:=Ji h
 refine Jy (Jjd _ r3 h3) (by kernel_rfl) (by kernel_rfl) (zE (Jc (Jq ?_)))
 cases h
 exact zQ
/-! slices.insertionSortCmpFunc[api.Linked] -/
noncomputable def Qj (a0:(List Jb)) (a1:Int):(Int×(List Jb))→Option ((Int×(List Jb))⊕((List Jb)⊕((Int×(List Jb))⊕((List Jb)⊕(List Jb))))):=fun (x108,x109) =>
 ((bif decide (a1<x108) then (
  (Fc 0 (((a0:(List Jb)).map cellsOf).length) x108).bind fun j126 =>
  (Eb x109 (((a0:(List Jb)).map cellsOf).length) j126).bind fun x127 =>
  (Fc 0 (((a0:(List Jb)).map cellsOf).length) (w64 (x108 - 1))).bind fun j128 =>
  (Eb x109 (((a0:(List Jb)).map cellsOf).length) j128).bind fun x129 =>
  (Wq x127 x129).bind fun r130 =>
  some (decide (r130<0))
 ) else some false):Option Bool).bind fun b125 =>
 bif b125 then (
  (Fc 0 (((a0:(List Jb)).map cellsOf).length) (w64 (x108 - 1))).bind fun j131 =>
  (Eb x109 (((a0:(List Jb)).map cellsOf).length) j131).bind fun x132 =>
  (Fc 0 (((a0:(List Jb)).map cellsOf).length) x108).bind fun j133 =>
  (Eb x109 (((a0:(List Jb)).map cellsOf).length) j133).bind fun x134 =>
  (Fc 0 (((a0:(List Jb)).map cellsOf).length) x108).bind fun j135 =>
  (Eb x109 (((a0:(List Jb)).map cellsOf).length) j135).bind fun x136 =>
  (Fc 0 (((a0:(List Jb)).map cellsOf).length) (w64 (x108 - 1))).bind fun j137 =>
  (Eb (x109.set j135 x132) (((a0:(List Jb)).map cellsOf).length) j137).bind fun x138 =>
  some (.inl (w64 (x108 - 1),((x109.set j135 x132).set j137 x134)))
 ) else (
  some (.inr (.inl x109))
 )
noncomputable def Ql (a0:(List Jb)) (a1:Int) (a2:Int):(Int×(List Jb))→Option ((Int×(List Jb))⊕((List Jb)⊕(List Jb))):=fun (x46,x47) =>
 bif decide (x46<a2) then (
  onInl (α:=(List Jb)) (β:=((Int×(List Jb))⊕((List Jb)⊕(List Jb)))) (Km (Qj a0 a1) (x46,x47)) fun x124 =>
  some (.inl (w64 (x46+1),x124))
 ) else (
  some (.inr (.inl x47))
 )
noncomputable def Kv (a0:(List Jb)) (a1:Int) (a2:Int):Option (List Jb) :=
 onInl (α:=(List Jb)) (β:=(List Jb)) (Km (Ql a0 a1 a2) (w64 (a1+1),a0)) fun x93 =>
 some x93
theorem Uu (a0:(List Jb)) (a1:Int) (a2:Int) (r:(List Jb)) (h:Kv a0 a1 a2=some r):Xv Go.Proofs.Tryz.prog GlS 131 2 16 (a0.map cellsOf) [Enc.pv a1,Enc.pv a2,.fn 77 []] none (r.map cellsOf):=by
 unfold Kv at h
 refine Dz Go.Proofs.Tryz.func131 (by rfl) rfl Go.Proofs.Tryz.ntmps131 (by rfl) rfl ?_
 refine Ja (Jg (zE (Jc (Jo ?_))))
 obtain ⟨o90,h90,h⟩:=Ko h
 refine Kh 53 0 (fun (x46,x47)=>⟨[(0,.ex 1000000000 2 16 (((a0:(List Jb)).map cellsOf).length) 0 (((a0:(List Jb)).map cellsOf).length)),(1,.int .i64 a1),(2,.int .i64 a2),(3,.fn 77 []),(8,.int .i64 x46)],[],[(1000000000,(((a0:(List Jb)).map cellsOf).length,0))],[(1000000000,(2,(16,(x47:(List Jb)).map cellsOf)))]⟩) (fun x93=>⟨[],[],[(1000000000,(((a0:(List Jb)).map cellsOf).length,0))],[(1000000000,(2,(16,(x93:(List Jb)).map cellsOf)))]⟩) h90 (by kernel_rfl) (fun _=>by kernel_rfl) ?_ ?_
 ·rintro ⟨x46,x47⟩ oh89 h89
  unfold Ql at h89
  refine Ja (Ja (Jg (zE (Jc ?_))))
  rcases Jl h89 with ⟨hb,h89⟩|⟨hb,h89⟩
  ·refine zT hb (Jk (Jc (Ja (Jo (Ja (Jg (zE (Jc (Jo ?_)))))))))
   obtain ⟨o120,h120,h89⟩:=Ko h89
   refine Kh 53 2 (fun (x108,x109)=>⟨[(0,.ex 1000000000 2 16 (((a0:(List Jb)).map cellsOf).length) 0 (((a0:(List Jb)).map cellsOf).length)),(1,.int .i64 a1),(2,.int .i64 a2),(3,.fn 77 []),(8,.int .i64 x46),(9,.int .i64 x108)],[],[(1000000000,(((a0:(List Jb)).map cellsOf).length,0))],[(1000000000,(2,(16,(x109:(List Jb)).map cellsOf)))]⟩) (fun x124=>⟨[(0,.ex 1000000000 2 16 (((a0:(List Jb)).map cellsOf).length) 0 (((a0:(List Jb)).map cellsOf).length)),(1,.int .i64 a1),(2,.int .i64 a2),(3,.fn 77 []),(8,.int .i64 x46)],[],[(1000000000,(((a0:(List Jb)).map cellsOf).length,0))],[(1000000000,(2,(16,(x124:(List Jb)).map cellsOf)))]⟩) h120 (by kernel_rfl) (fun _=>by kernel_rfl) ?_ ?_
   ·rintro ⟨x108,x109⟩ oh119 h119
    unfold Qj at h119
    refine Ja (Ja (Qb (by kernel_rfl) (by kernel_rfl) ?_))
    obtain ⟨b125,h121,h119⟩:=Ji h119
    refine zR 4 ?_
    refine Qf 13 34 (.bool b125) ?_ ?_
    ·rcases Jl h121 with ⟨hb,h121⟩|⟨hb,h121⟩
     ·refine zS 21 hb (zR 3 ?_)
      obtain ⟨j126,h122,h121⟩:=Ji h121
      refine Bw (tk:=1000000000) (k:=2) (N:=((a0:(List Jb)).map cellsOf).length) h122 (by kernel_rfl) ?_
      obtain ⟨x127,h123,h121⟩:=Ji h121
      refine Na (L:=(x109:(List Jb))) (N:=((a0:(List Jb)).map cellsOf).length) (j:=j126) (y:=x127) (v:=Enc.pv x127) h123 true 2 0 (by kernel_rfl) (by kernel_rfl) ?_
      refine zR 3 ?_
      obtain ⟨j128,h124,h121⟩:=Ji h121
      refine Bw (tk:=1000000000) (k:=2) (N:=((a0:(List Jb)).map cellsOf).length) h124 (by kernel_rfl) ?_
      obtain ⟨x129,h125,h121⟩:=Ji h121
      refine Na (L:=(x109:(List Jb))) (N:=((a0:(List Jb)).map cellsOf).length) (j:=j128) (y:=x129) (v:=Enc.pv x129) h125 true 2 0 (by kernel_rfl) (by kernel_rfl) ?_
      obtain ⟨r130,h126,h121⟩:=Ji h121
      refine Jy (Dd _ _ r130 h126) (by kernel_rfl) (by kernel_rfl) ?_
      cases h121
      exact zF
     refine zS 21 hb ?_
     cases h121
     exact zF
    refine zN (Jc ?_)
    rcases Jl h119 with ⟨hb,h119⟩|⟨hb,h119⟩
    ·refine zT hb (Jk (Jc (Ja (Jo (Qb (by kernel_rfl) (by kernel_rfl) (zR 8 ?_))))))
     obtain ⟨j131,h127,h119⟩:=Ji h119
     refine Bw (tk:=1000000000) (k:=2) (N:=((a0:(List Jb)).map cellsOf).length) h127 (by kernel_rfl) ?_
     obtain ⟨x132,h128,h119⟩:=Ji h119
     refine Na (L:=(x109:(List Jb))) (N:=((a0:(List Jb)).map cellsOf).length) (j:=j131) (y:=x132) (v:=Enc.pv x132) h128 true 2 0 (by kernel_rfl) (by kernel_rfl) ?_
     refine zR 2 ?_
     obtain ⟨j133,h129,h119⟩:=Ji h119
     refine Bw (tk:=1000000000) (k:=2) (N:=((a0:(List Jb)).map cellsOf).length) h129 (by kernel_rfl) ?_
     obtain ⟨x134,h130,h119⟩:=Ji h119
     refine Na (L:=(x109:(List Jb))) (N:=((a0:(List Jb)).map cellsOf).length) (j:=j133) (y:=x134) (v:=Enc.pv x134) h130 true 2 0 (by kernel_rfl) (by kernel_rfl) ?_
     obtain ⟨j135,h131,h119⟩:=Ji h119
     refine Bw (tk:=1000000000) (k:=2) (N:=((a0:(List Jb)).map cellsOf).length) h131 (by kernel_rfl) ?_
     obtain ⟨x136,h132,h119⟩:=Ji h119
     refine Jiy (L:=(x109:(List Jb))) (tk:=1000000000) (N:=((a0:(List Jb)).map cellsOf).length) (j:=j135) (y:=x136) (y':=x132) h132 0 2 [.int .i64 x132.Id,.int .i64 x132.At] (by kernel_rfl) (by kernel_rfl) ?_
     obtain ⟨j137,h133,h119⟩:=Ji h119
     refine Bw (tk:=1000000000) (k:=2) (N:=((a0:(List Jb)).map cellsOf).length) h133 (by kernel_rfl) ?_
     obtain ⟨x138,h134,h119⟩:=Ji h119
     refine Jiy (L:=((x109.set j135 x132):(List Jb))) (tk:=1000000000) (N:=((a0:(List Jb)).map cellsOf).length) (j:=j137) (y:=x138) (y':=x134) h134 0 2 [.int .i64 x134.Id,.int .i64 x134.At] (by kernel_rfl) (by kernel_rfl) ?_
     refine zN (Kb (Jc (Jg (zE ?_))))
     cases h119
     exact zB
    refine zU hb (Ka (Jx ?_))
    cases h119
    exact zX
   rintro x124 s' rfl hs
   have h89:=Kd h89
   refine Jv (Kb (Jc (Ke hs (Jg (zE ?_)))))
   cases h89
   exact zB
  refine zU hb (Ka (Jx ?_))
  cases h89
  exact zX
 rintro x93 s' rfl hs
 have h:=Kd h
 refine Jv ?_
 cases h
 exact Jg6 hs (by kernel_rfl)
/-! slices.swapRangeCmpFunc[api.Linked] -/
noncomputable def Qp (a0:(List Jb)) (a1:Int) (a2:Int) (a3:Int):(Int×(List Jb))→Option ((Int×(List Jb))⊕((List Jb)⊕(List Jb))):=fun (x9,x10) =>
 bif decide (x9<a3) then (
  (Fc 0 (((a0:(List Jb)).map cellsOf).length) (w64 (a2+x9))).bind fun j20 =>
  (Eb x10 (((a0:(List Jb)).map cellsOf).length) j20).bind fun x21 =>
  (Fc 0 (((a0:(List Jb)).map cellsOf).length) (w64 (a1+x9))).bind fun j22 =>
  (Eb x10 (((a0:(List Jb)).map cellsOf).length) j22).bind fun x23 =>
  (Fc 0 (((a0:(List Jb)).map cellsOf).length) (w64 (a1+x9))).bind fun j24 =>
  (Eb x10 (((a0:(List Jb)).map cellsOf).length) j24).bind fun x25 =>
  (Fc 0 (((a0:(List Jb)).map cellsOf).length) (w64 (a2+x9))).bind fun j26 =>
  (Eb (x10.set j24 x21) (((a0:(List Jb)).map cellsOf).length) j26).bind fun x27 =>
  some (.inl (w64 (x9+1),((x10.set j24 x21).set j26 x23)))
 ) else (
  some (.inr (.inl x10))
 )
noncomputable def Kt (a0:(List Jb)) (a1:Int) (a2:Int) (a3:Int):Option (List Jb) :=
 onInl (α:=(List Jb)) (β:=(List Jb)) (Km (Qp a0 a1 a2 a3) (0,a0)) fun x19 =>
 some x19
theorem Uj (a0:(List Jb)) (a1:Int) (a2:Int) (a3:Int) (r:(List Jb)) (h:Kt a0 a1 a2 a3=some r):Xv Go.Proofs.Tryz.prog GlS 135 2 16 (a0.map cellsOf) [Enc.pv a1,Enc.pv a2,Enc.pv a3,.fn 77 []] none (r.map cellsOf):=by
 unfold Kt at h
 refine Dz Go.Proofs.Tryz.func135 (by rfl) rfl Go.Proofs.Tryz.ntmps135 (by rfl) rfl ?_
 refine Ja (Jg (zE (Jc (Jo ?_))))
 obtain ⟨o18,h18,h⟩:=Ko h
 refine Kh 38 0 (fun (x9,x10)=>⟨[(0,.ex 1000000000 2 16 (((a0:(List Jb)).map cellsOf).length) 0 (((a0:(List Jb)).map cellsOf).length)),(1,.int .i64 a1),(2,.int .i64 a2),(3,.int .i64 a3),(10,.int .i64 x9)],[],[(1000000000,(((a0:(List Jb)).map cellsOf).length,0))],[(1000000000,(2,(16,(x10:(List Jb)).map cellsOf)))]⟩) (fun x19=>⟨[],[],[(1000000000,(((a0:(List Jb)).map cellsOf).length,0))],[(1000000000,(2,(16,(x19:(List Jb)).map cellsOf)))]⟩) h18 (by kernel_rfl) (fun _=>by kernel_rfl) ?_ ?_
 ·rintro ⟨x9,x10⟩ oh17 h17
  unfold Qp at h17
  refine Ja (Ja (Jg (zE (Jc ?_))))
  rcases Jl h17 with ⟨hb,h17⟩|⟨hb,h17⟩
  ·refine zT hb (Jk (Jc (Ja (Jo (Qb (by kernel_rfl) (by kernel_rfl) (zR 12 ?_))))))
   obtain ⟨j20,h19,h17⟩:=Ji h17
   refine Bw (tk:=1000000000) (k:=2) (N:=((a0:(List Jb)).map cellsOf).length) h19 (by kernel_rfl) ?_
   obtain ⟨x21,h20,h17⟩:=Ji h17
   refine Na (L:=(x10:(List Jb))) (N:=((a0:(List Jb)).map cellsOf).length) (j:=j20) (y:=x21) (v:=Enc.pv x21) h20 true 2 0 (by kernel_rfl) (by kernel_rfl) ?_
   refine zR 4 ?_
   obtain ⟨j22,h21,h17⟩:=Ji h17
   refine Bw (tk:=1000000000) (k:=2) (N:=((a0:(List Jb)).map cellsOf).length) h21 (by kernel_rfl) ?_
   obtain ⟨x23,h22,h17⟩:=Ji h17
   refine Na (L:=(x10:(List Jb))) (N:=((a0:(List Jb)).map cellsOf).length) (j:=j22) (y:=x23) (v:=Enc.pv x23) h22 true 2 0 (by kernel_rfl) (by kernel_rfl) ?_
   obtain ⟨j24,h23,h17⟩:=Ji h17
   refine Bw (tk:=1000000000) (k:=2) (N:=((a0:(List Jb)).map cellsOf).length) h23 (by kernel_rfl) ?_
   obtain ⟨x25,h24,h17⟩:=Ji h17
   refine Jiy (L:=(x10:(List Jb))) (tk:=1000000000) (N:=((a0:(List Jb)).map cellsOf).length) (j:=j24) (y:=x25) (y':=x21) h24 0 2 [.int .i64 x21.Id,.int .i64 x21.At] (by kernel_rfl) (by kernel_rfl) ?_
   obtain ⟨j26,h25,h17⟩:=Ji h17
   refine Bw (tk:=1000000000) (k:=2) (N:=((a0:(List Jb)).map cellsOf).length) h25 (by kernel_rfl) ?_
   obtain ⟨x27,h26,h17⟩:=Ji h17
   refine Jiy (L:=((x10.set j24 x21):(List Jb))) (tk:=1000000000) (N:=((a0:(List Jb)).map cellsOf).length) (j:=j26) (y:=x27) (y':=x23) h26 0 2 [.int .i64 x23.Id,.int .i64 x23.At] (by kernel_rfl) (by kernel_rfl) ?_
   refine zN (Kb (Jc (Jg (zE ?_))))
   cases h17
   exact zB
  refine zU hb (Ka (Jx ?_))
  cases h17
  exact zX
 rintro x19 s' rfl hs
 have h:=Kd h
 refine Jv ?_
 cases h
 exact Jg6 hs (by kernel_rfl)
/-! slices.rotateCmpFunc[api.Linked] -/
noncomputable def Qw (a2:Int):(Int×(List Jb)×Int)→Option ((Int×(List Jb)×Int)⊕(((List Jb)×Int)⊕(List Jb))):=fun (x3,x4,x5) =>
 bif (!(decide (x3=x5))) then (
  bif decide (x5<x3) then (
   (Kt x4 (w64 (a2 - x3)) a2 x5).bind fun r10 =>
   some (.inl (w64 (x3 - x5),r10,x5))
  ) else (
   (Kt x4 (w64 (a2 - x3)) (w64 ((w64 (a2+x5)) - x3)) x3).bind fun r11 =>
   some (.inl (x3,r11,w64 (x5 - x3)))
  )
 ) else (
  some (.inr (.inl (x4,x3)))
 )
noncomputable def Qe (a0:(List Jb)) (a1:Int) (a2:Int) (a3:Int):Option (List Jb) :=
 onInl (α:=((List Jb)×Int)) (β:=(List Jb)) (Km (Qw a2) (w64 (a2 - a1),a0,w64 (a3 - a2))) fun (x8,x9) =>
 (Kt x8 (w64 (a2 - x9)) a2 x9).bind fun r12 =>
 some r12
theorem Zb (a0:(List Jb)) (a1:Int) (a2:Int) (a3:Int) (r:(List Jb)) (h:Qe a0 a1 a2 a3=some r):Xv Go.Proofs.Tryz.prog GlS 134 2 16 (a0.map cellsOf) [Enc.pv a1,Enc.pv a2,Enc.pv a3,.fn 77 []] none (r.map cellsOf):=by
 unfold Qe at h
 refine Dz Go.Proofs.Tryz.func134 (by rfl) rfl Go.Proofs.Tryz.ntmps134 (by rfl) rfl ?_
 refine Ja (Jg (zE (Jc (Ja (Jg (zE (Jc (Ja (Jo ?_)))))))))
 obtain ⟨o6,h6,h⟩:=Ko h
 refine Kh 58 0 (fun (x3,x4,x5)=>⟨[(0,.ex 1000000000 2 16 (((a0:(List Jb)).map cellsOf).length) 0 (((a0:(List Jb)).map cellsOf).length)),(2,.int .i64 a2),(4,.fn 77 []),(10,.int .i64 x3),(11,.int .i64 x5)],[],[(1000000000,(((a0:(List Jb)).map cellsOf).length,0))],[(1000000000,(2,(16,(x4:(List Jb)).map cellsOf)))]⟩) (fun (x8,x9)=>⟨[(0,.ex 1000000000 2 16 (((a0:(List Jb)).map cellsOf).length) 0 (((a0:(List Jb)).map cellsOf).length)),(2,.int .i64 a2),(4,.fn 77 []),(10,.int .i64 x9)],[],[(1000000000,(((a0:(List Jb)).map cellsOf).length,0))],[(1000000000,(2,(16,(x8:(List Jb)).map cellsOf)))]⟩) h6 (by kernel_rfl) (fun _=>by kernel_rfl) ?_ ?_
 ·rintro ⟨x3,x4,x5⟩ oh5 h5
  unfold Qw at h5
  refine Ja (Ja (Jg (zE (Jc ?_))))
  rcases Jl h5 with ⟨hb,h5⟩|⟨hb,h5⟩
  ·refine zT hb (Jk (Jc (Jo (Ja (Jg (zE (Jc ?_)))))))
   rcases Jl h5 with ⟨hb,h5⟩|⟨hb,h5⟩
   ·refine zT hb (Ja (Jg (zR 7 ?_)))
    obtain ⟨r10,h7,h5⟩:=Ji h5
    refine Ia (t:=1000000000) (L:=(x4:(List Jb))) (L':=(r10:(List Jb))) (N:=((a0:(List Jb)).map cellsOf).length) (by kernel_rfl) (by kernel_rfl) (by kernel_rfl) (Uj _ _ _ _ r10 h7) ?_
    refine zN (Jc (Jg (zE (Kb ?_))))
    cases h5
    exact zB
   refine zU hb (Ja (Jg (zR 11 ?_)))
   obtain ⟨r11,h8,h5⟩:=Ji h5
   refine Ia (t:=1000000000) (L:=(x4:(List Jb))) (L':=(r11:(List Jb))) (N:=((a0:(List Jb)).map cellsOf).length) (by kernel_rfl) (by kernel_rfl) (by kernel_rfl) (Uj _ _ _ _ r11 h8) ?_
   refine zN (Jc (Jg (zE (Kb ?_))))
   cases h5
   exact zB
  refine zU hb (Ka (Jx ?_))
  cases h5
  exact zX
 rintro ⟨x8,x9⟩ s' rfl hs
 have h:=Kd h
 refine Jv (Jc (Ke hs (Jg (zR 7 ?_))))
 obtain ⟨r12,h9,h⟩:=Ji h
 refine Ia (t:=1000000000) (L:=(x8:(List Jb))) (L':=(r12:(List Jb))) (N:=((a0:(List Jb)).map cellsOf).length) (by kernel_rfl) (by kernel_rfl) (by kernel_rfl) (Uj _ _ _ _ r12 h9) ?_
 refine zN ?_
 cases h
 exact Jdj (by kernel_rfl)
end PM
