/-
 Plain functions for the program's functions, and the proofs that the program does them. Printed by den.py.
-/
import Derived.Test.YtombbpdpmagngaaGreatDoorDen3
namespace PM
open Go Go.RowKit
attribute [local irreducible] Kp pwp
/-! walk.Valid -/
noncomputable def De (x49:Jb) (x51:(List Jb)):Int→Option (Int⊕(Unit⊕(Unit⊕(Int⊕(Unit⊕Bool))))):=fun x53 =>
 bif decide (x53<((x51.length:Nat):Int)) then (
  (ixO x51 x53).bind fun x55 =>
  bif decide (x55.El=x49.El) then (
   some (.inr (.inr (.inr (.inr (.inr false)))))
  ) else (
   some (.inl (w64 (x53+1)))
  )
 ) else (
  some (.inr (.inl ()))
 )
noncomputable def Ia (a0:Jd) (a1:(List Jb)) (r2:Jd):Int→Option (Int⊕(Unit⊕Bool)):=fun x21 =>
 bif decide (x21<((a1.length:Nat):Int)) then (
  onInl (α:=Unit) (β:=(Int⊕(Unit⊕Bool))) (
   (ixO a1 x21).bind fun x49 =>
   (Zh a0 x49).bind fun r50 =>
   bif (!r50.2) then (
    some (.inr (.inr (.inr false)))
   ) else (
    (slO a1 none (some x21) none).bind fun x51 =>
    onInl (α:=Unit) (β:=(Unit⊕(Int⊕(Unit⊕Bool)))) (Kl (De x49 x51) 0) fun _ =>
    bif decide (x21=0) then (
     some (.inl ())
    ) else (
     (ixO a1 (w64 (x21 - 1))).bind fun x56 =>
     (Ym x56 r2).bind fun r57 =>
     bif (((!r57.2)||(!(decide (r57.1.El=x49.El))))||(!(decide (r57.1.Side=x49.In)))) then (
      some (.inr (.inr (.inr false)))
     ) else (
      some (.inl ())
     )
    )
   )
  ) fun _ =>
  some (.inl (w64 (x21+1)))
 ) else (
  some (.inr (.inl ()))
 )
noncomputable def Ic (a0:Jd) (a1:(List Jb)):Option Bool :=
 ((bif decide (((a1.length:Nat):Int)=0) then some true else (
  some (decide (64<((a1.length:Nat):Int)))
 )):Option Bool).bind fun b1 =>
 bif b1 then (
  some false
 ) else (
  (Bo a0).bind fun r2 =>
  onInl (α:=Unit) (β:=Bool) (Kl (Ia a0 a1 r2) 0) fun _ =>
  some true
 )
theorem Jgz (a0:Jd) (a1:(List Jb)) (r:Bool) (h:Ic a0 a1=some r):Km Go.Proofs.Tryz.prog GlS 54 [Enc.pv a0,Enc.pv a1] (Enc.pv r):=by
 unfold Ic at h
 refine Jr Go.Proofs.Tryz.func54 (by rfl) rfl Go.Proofs.Tryz.ntmps54 (by rfl) rfl ?_
 refine Ja (Jf (zE (Jc (Ja (Ja (Jf (zR 1 ?_)))))))
 refine Kf (L:=(a1:(List Jb))) (by kernel_rfl) ?_
 obtain ⟨b1,h1,h⟩:=Jh h
 refine zR 2 ?_
 refine Kt 4 21 (.bool b1) ?_ ?_
 ·rcases Jk h1 with ⟨hb,h1⟩|⟨hb,h1⟩
  ·refine zS 17 hb ?_
   cases h1
   exact zF
  refine zS 17 hb (zR 1 ?_)
  refine Kf (L:=(a1:(List Jb))) (by kernel_rfl) ?_
  cases h1
  exact zF
 refine zN (Jc ?_)
 rcases Jk h with ⟨hb,h⟩|⟨hb,h⟩
 ·refine zT hb (Ja (Jf (zE (Jc (Jp (Ji ?_))))))
  cases h
  exact zQ
 refine zU hb (Jj (Jc (Ja (Jf (zR 1 ?_)))))
 obtain ⟨r2,h2,h⟩:=Jh h
 refine Ju (Pj _ r2 h2) (by kernel_rfl) (by kernel_rfl) (zE (Jc (Ja (Ja (Jf (zR 1 ?_))))))
 refine Kf (L:=(a1:(List Jb))) (by kernel_rfl) ?_
 refine zE (Jc (Jn ?_))
 obtain ⟨o98,h98,h⟩:=Kq h
 refine Ki 82 0 (fun x21=>⟨[(1,Jo .frozen (a1:(List Jb))),(2,.ref 2 0),(5,.fn 118 [.cptr (cellsOf r2)]),(24,Jo .frozen (a1:(List Jb))),(25,.int .i64 ((a1.length:Nat):Int)),(26,.int .i64 x21)],[(2,.cells (cellsOf a0))],[],[]⟩) (fun (_:Unit)=>⟨[],[],[],[]⟩) h98 (by kernel_rfl) (fun _=>by kernel_rfl) ?_ ?_
 ·rintro x21 oh97 h97
  unfold Ia at h97
  refine Ja (Jf (zE (Jc (Ja ?_))))
  rcases Jk h97 with ⟨hb,h97⟩|⟨hb,h97⟩
  ·refine zT hb (Jj (Jc ?_))
   obtain ⟨o122,h122,h97⟩:=Kq h97
   refine Vx (o:=o122) 82 (fun (_:Unit)=>⟨[(1,Jo .frozen (a1:(List Jb))),(2,.ref 2 0),(5,.fn 118 [.cptr (cellsOf r2)]),(24,Jo .frozen (a1:(List Jb))),(25,.int .i64 ((a1.length:Nat):Int)),(26,.int .i64 x21)],[(2,.cells (cellsOf a0))],[],[]⟩) ?_ ?_
   ·refine Jn (Ja (Jf (zR 1 ?_)))
    obtain ⟨x49,h123,h122⟩:=Jh h122
    refine zI h123 (zE (Jc (Ja (Ja (Jf (zR 2 ?_))))))
    obtain ⟨r50,h124,h122⟩:=Jh h122
    refine Ju (Og _ _ r50 h124) (by kernel_rfl) (by kernel_rfl) (zE (Jc (Ja (Jf (zE (Jc ?_))))))
    rcases Jk h122 with ⟨hb,h122⟩|⟨hb,h122⟩
    ·refine zT hb (Ja (Jf (zE (Jc (Jp (Ji (Jm ?_)))))))
     cases h122
     refine Gs ?_
     have h125:=Ku h97
     cases h125
     refine Kb fun he=>?_
     subst he
     have h126:=Ku h
     refine Jm (Ji ?_)
     cases h126
     exact zQ
    refine zU hb (Jj (Jc (Ja (Ja (Jf (zR 2 ?_))))))
    obtain ⟨x51,h127,h122⟩:=Jh h122
    refine p_sl h127 .frozen (by kernel_rfl) (by kernel_rfl) (by kernel_rfl) ?_
    refine Kf (L:=(x51:(List Jb))) (by kernel_rfl) ?_
    refine zE (Jc (Jn ?_))
    obtain ⟨o137,h137,h122⟩:=Kq h122
    refine Ki 82 2 (fun x53=>⟨[(1,Jo .frozen (a1:(List Jb))),(2,.ref 2 0),(5,.fn 118 [.cptr (cellsOf r2)]),(6,.int .i64 x21),(7,.ref 7 0),(24,Jo .frozen (a1:(List Jb))),(25,.int .i64 ((a1.length:Nat):Int)),(26,.int .i64 x21),(41,Jo .frozen (x51:(List Jb))),(42,.int .i64 ((x51.length:Nat):Int)),(43,.int .i64 x53)],[(2,.cells (cellsOf a0)),(7,.cells (cellsOf x49))],[],[]⟩) (fun (_:Unit)=>⟨[(1,Jo .frozen (a1:(List Jb))),(2,.ref 2 0),(5,.fn 118 [.cptr (cellsOf r2)]),(6,.int .i64 x21),(7,.ref 7 0),(24,Jo .frozen (a1:(List Jb))),(25,.int .i64 ((a1.length:Nat):Int)),(26,.int .i64 x21)],[(2,.cells (cellsOf a0)),(7,.cells (cellsOf x49))],[],[]⟩) h137 (by kernel_rfl) (fun _=>by kernel_rfl) ?_ ?_
    ·rintro x53 oh136 h136
     unfold De at h136
     refine Ja (Jf (zE (Jc (Ja ?_))))
     rcases Jk h136 with ⟨hb,h136⟩|⟨hb,h136⟩
     ·refine zT hb (Jj (Jc (Ja (Jn (Ja (Jf ?_))))))
      obtain ⟨x55,h138,h136⟩:=Jh h136
      refine zI h138 (zE (Jc (Ja (Jf (zE (Jc ?_))))))
      rcases Jk h136 with ⟨hb,h136⟩|⟨hb,h136⟩
      ·refine zT hb (Ja (Jf (zE (Jc (Jp (Jm (Ji ?_)))))))
       cases h136
       refine Kb fun he=>?_
       subst he
       have h139:=Ku h122
       refine Jm (Ji (Jm ?_))
       cases h139
       refine Gs ?_
       have h140:=Ku h97
       cases h140
       refine Kb fun he=>?_
       subst he
       have h141:=Ku h
       refine Jm (Ji ?_)
       cases h141
       exact zQ
      refine zU hb (Jj (Kd (Jc (Jf (zE ?_)))))
      cases h136
      exact zB
     refine zU hb (Kc (Jv ?_))
     cases h136
     exact zX
    rintro _ s' rfl hs
    have h122:=Kg h122
    refine Jt (Jc (Ke hs (Ja (Ja (Jf (zE (Jc ?_)))))))
    rcases Jk h122 with ⟨hb,h122⟩|⟨hb,h122⟩
    ·refine zT hb (Kc (Jv (Jt ?_)))
     cases h122
     exact zJ
    refine zU hb (Jj (Jc (Ja (Jf (zR 4 ?_)))))
    obtain ⟨x56,h142,h122⟩:=Jh h122
    refine zI h142 (zR 1 ?_)
    obtain ⟨r57,h143,h122⟩:=Jh h122
    refine Ju (Na _ _ r57 h143) (by kernel_rfl) (by kernel_rfl) (zE (Jc (Ja (Jf (zR 3 ?_)))))
    refine Qb 6 73 ((!r57.2)||(!(decide (r57.1.El=x49.El)))) (fun x hx=>?_) ?_
    ·rcases Ck hx with ⟨hb,hx⟩|⟨hb,hx⟩
     ·refine zS 67 hb ?_
      subst hx
      exact zF
     refine zS 67 hb ?_
     subst hx
     exact zF
    refine zR 1 ?_
    refine Qb 6 80 (((!r57.2)||(!(decide (r57.1.El=x49.El))))||(!(decide (r57.1.Side=x49.In)))) (fun x hx=>?_) ?_
    ·rcases Ck hx with ⟨hb,hx⟩|⟨hb,hx⟩
     ·refine zS 74 hb ?_
      subst hx
      exact zF
     refine zS 74 hb ?_
     subst hx
     exact zF
    refine zN (Jc ?_)
    rcases Jk h122 with ⟨hb,h122⟩|⟨hb,h122⟩
    ·refine zT hb (Ja (Jf (zE (Jc (Jp (Jm ?_))))))
     cases h122
     refine Gs ?_
     have h144:=Ku h97
     cases h144
     refine Kb fun he=>?_
     subst he
     have h145:=Ku h
     refine Jm (Ji ?_)
     cases h145
     exact zQ
    refine zU hb (Jj (Kd ?_))
    cases h122
    exact zJ
   rintro _ rfl
   have h97:=Kg h97
   refine Jf (zE ?_)
   cases h97
   exact zB
  refine zU hb (Kc (Jv ?_))
  cases h97
  exact zX
 rintro _ s' rfl hs
 have h:=Kg h
 refine Jt (Jc (Ke hs (Ja (Jf (zE (Jc (Jp ?_)))))))
 cases h
 exact zQ
/-! signallinglaw12.ends -/
noncomputable def Ew (a0:Jd) (a1:Jb):Option (Int×Bool) :=
 (Va a0 (Jg.mk a1.El a1.Out)).bind fun r1 =>
 (Ha a0 a1).bind fun r2 =>
 some (r1,((decide (0≤r1))||(!r2.2)))
theorem Xb (a0:Jd) (a1:Jb) (r:(Int×Bool)) (h:Ew a0 a1=some r):Km Go.Proofs.Tryz.prog GlS 55 [Enc.pv a0,Enc.pv a1] (.tup [Enc.pv r.1,Enc.pv r.2]):=by
 unfold Ew at h
 refine Jr Go.Proofs.Tryz.func55 (by rfl) rfl Go.Proofs.Tryz.ntmps55 (by rfl) rfl ?_
 refine Ja (Jf (zE (Jc (Ja (Jf (zR 6 ?_))))))
 obtain ⟨r1,h1,h⟩:=Jh h
 refine Ju (Yu _ _ r1 h1) (by kernel_rfl) (by kernel_rfl) (zE (Jc (Ja (Jf (zR 2 ?_)))))
 obtain ⟨r2,h2,h⟩:=Jh h
 refine Ju (Jai _ _ r2 h2) (by kernel_rfl) (by kernel_rfl) (zE (Jc (Ja (Jf (zR 4 ?_)))))
 refine Qb 3 28 ((decide (0≤r1))||(!r2.2)) (fun x hx=>?_) ?_
 ·rcases Ck hx with ⟨hb,hx⟩|⟨hb,hx⟩
  ·refine zS 25 hb ?_
   subst hx
   exact zF
  refine zS 25 hb ?_
  subst hx
  exact zF
 refine zE (Jc (Jp ?_))
 cases h
 exact zQ
/-! signallinglaw12.path -/
noncomputable def Dd (a0:Jd) (a2:(List Jb)):(Int×Int)→Option ((Int×Int)⊕(Int⊕(Int×Bool))):=fun (x23,x24) =>
 bif decide (x24<((a2.length:Nat):Int)) then (
  onInl (α:=Int) (β:=((Int×Int)⊕(Int⊕(Int×Bool)))) (
   (ixO a2 x24).bind fun x49 =>
   (Ew a0 x49).bind fun r50 =>
   bif (!(r50.2 == (decide (x24=(w64 (((a2.length:Nat):Int) - 1)))))) then (
    some (.inr (.inr (.inr (0,false))))
   ) else (
    ((bif decide (0<x24) then (
     (ixO a2 x24).bind fun x52 =>
     (Qe a0 x52.El).bind fun r53 =>
     (ixO a2 (w64 (x24 - 1))).bind fun x54 =>
     (Qe a0 x54.El).bind fun r55 =>
     some (!(decide (r53=r55)))
    ) else some false):Option Bool).bind fun b51 =>
    bif b51 then (
     some (.inl (w64 (x23+1)))
    ) else (
     some (.inl x23)
    )
   )
  ) fun x48 =>
  some (.inl (x48,w64 (x24+1)))
 ) else (
  some (.inr (.inl x23))
 )
noncomputable def Ek (a0:Jd) (a1:Jg) (a2:(List Jb)):Option (Int×Bool) :=
 ((bif decide (((a2.length:Nat):Int)=0) then some true else (
  some (decide (12<((a2.length:Nat):Int)))
 )):Option Bool).bind fun b1 =>
 ((bif b1 then some true else (
  (Ic a0 a2).bind fun r3 =>
  some (!r3)
 )):Option Bool).bind fun b2 =>
 ((bif b2 then some true else (
  (ixO a2 0).bind fun x5 =>
  some (!(decide (x5.El=a1.El)))
 )):Option Bool).bind fun b4 =>
 ((bif b4 then some true else (
  (ixO a2 0).bind fun x7 =>
  some (!(decide (x7.In=a1.Side)))
 )):Option Bool).bind fun b6 =>
 bif b6 then (
  some (0,false)
 ) else (
  onInl (α:=Int) (β:=(Int×Bool)) (Kl (Dd a0 a2) (1,0)) fun x40 =>
  (ixO a2 (w64 (((a2.length:Nat):Int) - 1))).bind fun x56 =>
  (Ew a0 x56).bind fun r57 =>
  (Vp a0 a2).bind fun r58 =>
  some (r57.1,decide (x40=((r58.length:Nat):Int)))
 )
theorem Xj (a0:Jd) (a1:Jg) (a2:(List Jb)) (r:(Int×Bool)) (h:Ek a0 a1 a2=some r):Km Go.Proofs.Tryz.prog GlS 23 [Enc.pv a0,Enc.pv a1,Enc.pv a2] (.tup [Enc.pv r.1,Enc.pv r.2]):=by
 unfold Ek at h
 refine Jr Go.Proofs.Tryz.func23 (by rfl) rfl Go.Proofs.Tryz.ntmps23 (by rfl) rfl ?_
 refine Ja (Jf (zE (Jc (Ja (Ja (Kv (by kernel_rfl) (by kernel_rfl) (zR 1 ?_)))))))
 refine Kf (L:=(a2:(List Jb))) (by kernel_rfl) ?_
 obtain ⟨b1,h1,h⟩:=Jh h
 refine zR 2 ?_
 refine Kt 4 21 (.bool b1) ?_ ?_
 ·rcases Jk h1 with ⟨hb,h1⟩|⟨hb,h1⟩
  ·refine zS 17 hb ?_
   cases h1
   exact zF
  refine zS 17 hb (zR 1 ?_)
  refine Kf (L:=(a2:(List Jb))) (by kernel_rfl) ?_
  cases h1
  exact zF
 obtain ⟨b2,h2,h⟩:=Jh h
 refine zR 1 ?_
 refine Kt 5 27 (.bool b2) ?_ ?_
 ·rcases Jk h2 with ⟨hb,h2⟩|⟨hb,h2⟩
  ·refine zS 22 hb ?_
   cases h2
   exact zF
  refine zS 22 hb (zR 2 ?_)
  obtain ⟨r3,h3,h2⟩:=Jh h2
  refine Ju (Jgz _ _ r3 h3) (by kernel_rfl) (by kernel_rfl) ?_
  cases h2
  exact zF
 obtain ⟨b4,h4,h⟩:=Jh h
 refine zR 1 ?_
 refine Kt 8 36 (.bool b4) ?_ ?_
 ·rcases Jk h4 with ⟨hb,h4⟩|⟨hb,h4⟩
  ·refine zS 28 hb ?_
   cases h4
   exact zF
  refine zS 28 hb (zR 1 ?_)
  obtain ⟨x5,h5,h4⟩:=Jh h4
  refine zI h5 ?_
  cases h4
  exact zF
 obtain ⟨b6,h6,h⟩:=Jh h
 refine zR 1 ?_
 refine Kt 8 45 (.bool b6) ?_ ?_
 ·rcases Jk h6 with ⟨hb,h6⟩|⟨hb,h6⟩
  ·refine zS 37 hb ?_
   cases h6
   exact zF
  refine zS 37 hb (zR 1 ?_)
  obtain ⟨x7,h7,h6⟩:=Jh h6
  refine zI h7 ?_
  cases h6
  exact zF
 refine zN (Jc ?_)
 rcases Jk h with ⟨hb,h⟩|⟨hb,h⟩
 ·refine zT hb (Ja (Jf (zE (Jc (Jp (Ji ?_))))))
  cases h
  exact zQ
 refine zU hb (Jj (Jc (Ja (Jf (zE (Jc (Ja (Ja (Jf (zR 1 ?_))))))))))
 refine Kf (L:=(a2:(List Jb))) (by kernel_rfl) ?_
 refine zE (Jc (Jn ?_))
 obtain ⟨o47,h47,h⟩:=Kq h
 refine Ki 108 0 (fun (x23,x24)=>⟨[(2,Jo .frozen (a2:(List Jb))),(3,.ref 3 0),(8,.int .i64 x23),(47,.int .i64 ((a2.length:Nat):Int)),(48,.int .i64 x24)],[(3,.cells (cellsOf a0))],[],[]⟩) (fun x40=>⟨[(2,Jo .frozen (a2:(List Jb))),(3,.ref 3 0),(8,.int .i64 x40)],[(3,.cells (cellsOf a0))],[],[]⟩) h47 (by kernel_rfl) (fun _=>by kernel_rfl) ?_ ?_
 ·rintro ⟨x23,x24⟩ oh46 h46
  unfold Dd at h46
  refine Ja (Jf (zE (Jc (Ja ?_))))
  rcases Jk h46 with ⟨hb,h46⟩|⟨hb,h46⟩
  ·refine zT hb (Jj (Jc ?_))
   obtain ⟨o57,h57,h46⟩:=Kq h46
   refine Vx (o:=o57) 108 (fun x48=>⟨[(2,Jo .frozen (a2:(List Jb))),(3,.ref 3 0),(8,.int .i64 x48),(47,.int .i64 ((a2.length:Nat):Int)),(48,.int .i64 x24)],[(3,.cells (cellsOf a0))],[],[]⟩) ?_ ?_
   ·refine Jn (Ja (Jf (zE (Jc (Ja (Ja (Kv (by kernel_rfl) (by kernel_rfl) (zR 3 ?_))))))))
    obtain ⟨x49,h58,h57⟩:=Jh h57
    refine zI h58 (zR 1 ?_)
    obtain ⟨r50,h59,h57⟩:=Jh h57
    refine Ju (Xb _ _ r50 h59) (by kernel_rfl) (by kernel_rfl) (zE (Jc (Ja (Jf (zR 3 ?_)))))
    refine Kf (L:=(a2:(List Jb))) (by kernel_rfl) ?_
    refine zE (Jc ?_)
    rcases Jk h57 with ⟨hb,h57⟩|⟨hb,h57⟩
    ·refine zT hb (Ja (Jf (zE (Jc (Jp (Ji (Jm ?_)))))))
     cases h57
     refine Gs ?_
     have h60:=Ku h46
     cases h60
     refine Kb fun he=>?_
     subst he
     have h61:=Ku h
     refine Jm (Ji ?_)
     cases h61
     exact zQ
    refine zU hb (Jj (Jc (Ja (Kv (by kernel_rfl) (by kernel_rfl) ?_))))
    obtain ⟨b51,h62,h57⟩:=Jh h57
    refine zR 3 ?_
    refine Kt 17 86 (.bool b51) ?_ ?_
    ·rcases Jk h62 with ⟨hb,h62⟩|⟨hb,h62⟩
     ·refine zS 69 hb (zR 3 ?_)
      obtain ⟨x52,h63,h62⟩:=Jh h62
      refine zI h63 (zR 2 ?_)
      obtain ⟨r53,h64,h62⟩:=Jh h62
      refine Ju (Qt _ _ r53 h64) (by kernel_rfl) (by kernel_rfl) (zR 4 ?_)
      obtain ⟨x54,h65,h62⟩:=Jh h62
      refine zI h65 (zR 2 ?_)
      obtain ⟨r55,h66,h62⟩:=Jh h62
      refine Ju (Qt _ _ r55 h66) (by kernel_rfl) (by kernel_rfl) ?_
      cases h62
      exact zF
     refine zS 69 hb ?_
     cases h62
     exact zF
    refine zN (Jc ?_)
    rcases Jk h57 with ⟨hb,h57⟩|⟨hb,h57⟩
    ·refine zT hb (Jf (zE (Kd ?_)))
     cases h57
     exact zJ
    refine zU hb (Jj (Kd ?_))
    cases h57
    exact zJ
   rintro x48 rfl
   have h46:=Kg h46
   refine Jf (zE ?_)
   cases h46
   exact zB
  refine zU hb (Kc (Jv ?_))
  cases h46
  exact zX
 rintro x40 s' rfl hs
 have h:=Kg h
 refine Jt (Jc (Ke hs (Ja (Kv (by kernel_rfl) (by kernel_rfl) (zR 3 ?_)))))
 refine Kf (L:=(a2:(List Jb))) (by kernel_rfl) ?_
 refine zR 1 ?_
 obtain ⟨x56,h67,h⟩:=Jh h
 refine zI h67 (zR 1 ?_)
 obtain ⟨r57,h68,h⟩:=Jh h
 refine Ju (Xb _ _ r57 h68) (by kernel_rfl) (by kernel_rfl) (zE (Jc (Ja (Jf (zR 4 ?_)))))
 obtain ⟨r58,h69,h⟩:=Jh h
 refine Ju (Oj _ _ r58 h69) (by kernel_rfl) (by kernel_rfl) ?_
 refine Kf (L:=(r58:(List Int))) (by kernel_rfl) ?_
 refine zE (Jc (Jp ?_))
 cases h
 exact zQ
/-! signallinglaw12.RouteWays -/
noncomputable def Be (a0:Jd) (a1:Int) (a2:(List Jb)) (r6:(Jg×Bool)) (r7:(List Jl)):(Int×Int)→Option ((Int×Int)⊕(Int⊕Bool)):=fun (x15,x16) =>
 bif decide (x16<((r7.length:Nat):Int)) then (
  onInl (α:=Int) (β:=((Int×Int)⊕(Int⊕Bool))) (
   (ixO r7 x16).bind fun x29 =>
   (Ek a0 r6.1 x29.Path).bind fun r30 =>
   bif ((((!r6.2)||(!r30.2))||(!(decide (r30.1=x29.Exit))))||(!(decide (x29.Entry=a1)))) then (
    some (.inr (.inr (.inr false)))
   ) else (
    (Uv x29.Path a2).bind fun r31 =>
    bif r31 then (
     some (.inl (w64 (x15+1)))
    ) else (
     some (.inl x15)
    )
   )
  ) fun x28 =>
  some (.inl (x28,w64 (x16+1)))
 ) else (
  some (.inr (.inl x15))
 )
noncomputable def Wi (a0:Jd) (a1:Int) (a2:(List Jb)):Option Bool :=
 (Vj a0).bind fun r1 =>
 ((bif ((!r1)||(decide (a1<0))) then some true else (
  some (decide (((a0.Signals.length:Nat):Int)≤a1))
 )):Option Bool).bind fun b2 =>
 ((bif b2 then some true else (
  some (decide (100<((a2.length:Nat):Int)))
 )):Option Bool).bind fun b3 =>
 bif b3 then (
  (Qx ).bind fun r4 =>
  some r4
 ) else (
  (ixO a0.Signals a1).bind fun x5 =>
  (Ww a0 x5.At).bind fun r6 =>
  (Um a0 a1).bind fun r7 =>
  onInl (α:=Int) (β:=Bool) (Kl (Be a0 a1 a2 r6 r7) (0,0)) fun x24 =>
  onInl (α:=Int) (β:=Bool) (
   (Ek a0 r6.1 a2).bind fun r34 =>
   bif (r34.2&&r6.2) then (
    some (.inl 1)
   ) else (
    some (.inl 0)
   )
  ) fun x33 =>
  ((bif decide (x24=x33) then (
   (Qx ).bind fun r36 =>
   some r36
  ) else some false):Option Bool).bind fun b35 =>
  some b35
 )
theorem Jam (a0:Jd) (a1:Int) (a2:(List Jb)) (r:Bool) (h:Wi a0 a1 a2=some r):Km Go.Proofs.Tryz.prog GlS 7 [Enc.pv a0,Enc.pv a1,Enc.pv a2] (Enc.pv r):=by
 unfold Wi at h
 refine Jr Go.Proofs.Tryz.func7 (by rfl) rfl Go.Proofs.Tryz.ntmps7 (by rfl) rfl ?_
 refine Ja (Jf (zE (Jc (Ja (Ja (Jf (zR 1 ?_)))))))
 obtain ⟨r1,h1,h⟩:=Jh h
 refine Ju (Zq _ r1 h1) (by kernel_rfl) (by kernel_rfl) (zR 2 ?_)
 refine Qb 3 23 ((!r1)||(decide (a1<0))) (fun x hx=>?_) ?_
 ·rcases Ck hx with ⟨hb,hx⟩|⟨hb,hx⟩
  ·refine zS 20 hb ?_
   subst hx
   exact zF
  refine zS 20 hb ?_
  subst hx
  exact zF
 obtain ⟨b2,h2,h⟩:=Jh h
 refine zR 1 ?_
 refine Kt 6 30 (.bool b2) ?_ ?_
 ·rcases Jk h2 with ⟨hb,h2⟩|⟨hb,h2⟩
  ·refine zS 24 hb ?_
   cases h2
   exact zF
  refine zS 24 hb (zR 3 ?_)
  refine Kf (L:=(a0.Signals:(List Js))) (by kernel_rfl) ?_
  cases h2
  exact zF
 obtain ⟨b3,h3,h⟩:=Jh h
 refine zR 1 ?_
 refine Kt 4 35 (.bool b3) ?_ ?_
 ·rcases Jk h3 with ⟨hb,h3⟩|⟨hb,h3⟩
  ·refine zS 31 hb ?_
   cases h3
   exact zF
  refine zS 31 hb (zR 1 ?_)
  refine Kf (L:=(a2:(List Jb))) (by kernel_rfl) ?_
  cases h3
  exact zF
 refine zN (Jc ?_)
 rcases Jk h with ⟨hb,h⟩|⟨hb,h⟩
 ·refine zT hb (Ja (Jf ?_))
  obtain ⟨r4,h4,h⟩:=Jh h
  refine Ju (Qv  r4 h4) (by kernel_rfl) (by kernel_rfl) (zE (Jc (Jp (Ji ?_))))
  cases h
  exact zQ
 refine zU hb (Jj (Jc (Ja (Kv (by kernel_rfl) (by kernel_rfl) (zR 4 ?_)))))
 obtain ⟨x5,h5,h⟩:=Jh h
 refine zI h5 (zR 2 ?_)
 obtain ⟨r6,h6,h⟩:=Jh h
 refine Ju (Gu _ _ r6 h6) (by kernel_rfl) (by kernel_rfl) (zE (Jc (Ja (Jf (zE (Jc (Ja (Ja (Jf (zR 2 ?_))))))))))
 obtain ⟨r7,h7,h⟩:=Jh h
 refine Ju (Ga _ _ r7 h7) (by kernel_rfl) (by kernel_rfl) ?_
 refine Kf (L:=(r7:(List Jl))) (by kernel_rfl) ?_
 refine zE (Jc (Jn ?_))
 obtain ⟨o31,h31,h⟩:=Kq h
 refine Ki 106 0 (fun (x15,x16)=>⟨[(1,.int .i64 a1),(2,Jo .frozen (a2:(List Jb))),(3,.ref 3 0),(7,.ref 7 0),(8,.bool r6.2),(9,.int .i64 x15),(50,Jo (.own 150008) (r7:(List Jl))),(51,.int .i64 ((r7.length:Nat):Int)),(52,.int .i64 x16)],[(3,.cells (cellsOf a0)),(7,.cells (cellsOf r6.1))],[(150008,(((r7).map cellsOf).length,14))],[]⟩) (fun x24=>⟨[(2,Jo .frozen (a2:(List Jb))),(3,.ref 3 0),(7,.ref 7 0),(8,.bool r6.2),(9,.int .i64 x24)],[(3,.cells (cellsOf a0)),(7,.cells (cellsOf r6.1))],[],[]⟩) h31 (by kernel_rfl) (fun _=>by kernel_rfl) ?_ ?_
 ·rintro ⟨x15,x16⟩ oh30 h30
  unfold Be at h30
  refine Ja (Jf (zE (Jc (Ja ?_))))
  rcases Jk h30 with ⟨hb,h30⟩|⟨hb,h30⟩
  ·refine zT hb (Jj (Jc ?_))
   obtain ⟨o37,h37,h30⟩:=Kq h30
   refine Vx (o:=o37) 106 (fun x28=>⟨[(1,.int .i64 a1),(2,Jo .frozen (a2:(List Jb))),(3,.ref 3 0),(7,.ref 7 0),(8,.bool r6.2),(9,.int .i64 x28),(50,Jo (.own 150008) (r7:(List Jl))),(51,.int .i64 ((r7.length:Nat):Int)),(52,.int .i64 x16)],[(3,.cells (cellsOf a0)),(7,.cells (cellsOf r6.1))],[(150008,(((r7).map cellsOf).length,14))],[]⟩) ?_ ?_
   ·refine Jn (Ja (Jf ?_))
    obtain ⟨x29,h38,h37⟩:=Jh h37
    refine zI h38 (zE (Jc (Ja (Jf (zR 4 ?_)))))
    obtain ⟨r30,h39,h37⟩:=Jh h37
    refine Ju (Xj _ _ _ r30 h39) (by kernel_rfl) (by kernel_rfl) (zE (Jc (Ja (Ja (Jf (zR 3 ?_))))))
    refine Qb 3 69 ((!r6.2)||(!r30.2)) (fun x hx=>?_) ?_
    ·rcases Ck hx with ⟨hb,hx⟩|⟨hb,hx⟩
     ·refine zS 66 hb ?_
      subst hx
      exact zF
     refine zS 66 hb ?_
     subst hx
     exact zF
    refine zR 1 ?_
    refine Qb 5 75 (((!r6.2)||(!r30.2))||(!(decide (r30.1=x29.Exit)))) (fun x hx=>?_) ?_
    ·rcases Ck hx with ⟨hb,hx⟩|⟨hb,hx⟩
     ·refine zS 70 hb ?_
      subst hx
      exact zF
     refine zS 70 hb ?_
     subst hx
     exact zF
    refine zR 1 ?_
    refine Qb 5 81 ((((!r6.2)||(!r30.2))||(!(decide (r30.1=x29.Exit))))||(!(decide (x29.Entry=a1)))) (fun x hx=>?_) ?_
    ·rcases Ck hx with ⟨hb,hx⟩|⟨hb,hx⟩
     ·refine zS 76 hb ?_
      subst hx
      exact zF
     refine zS 76 hb ?_
     subst hx
     exact zF
    refine zN (Jc ?_)
    rcases Jk h37 with ⟨hb,h37⟩|⟨hb,h37⟩
    ·refine zT hb (Ja (Jf (zE (Jc (Jp (Ji (Jm ?_)))))))
     cases h37
     refine Gs ?_
     have h40:=Ku h30
     cases h40
     refine Kb fun he=>?_
     subst he
     have h41:=Ku h
     refine Jm (Ji ?_)
     cases h41
     exact zQ
    refine zU hb (Jj (Jc (Ja (Jf (zR 3 ?_)))))
    obtain ⟨r31,h42,h37⟩:=Jh h37
    refine Ju (Ec _ _ r31 h42) (by kernel_rfl) (by kernel_rfl) (zN (Jc ?_))
    rcases Jk h37 with ⟨hb,h37⟩|⟨hb,h37⟩
    ·refine zT hb (Jf (zE (Kd ?_)))
     cases h37
     exact zJ
    refine zU hb (Jj (Kd ?_))
    cases h37
    exact zJ
   rintro x28 rfl
   have h30:=Kg h30
   refine Jf (zE ?_)
   cases h30
   exact zB
  refine zU hb (Kc (Jv ?_))
  cases h30
  exact zX
 rintro x24 s' rfl hs
 have h:=Kg h
 refine Jt (Jc (Ke hs (Ja (Jf (zE (Jc ?_))))))
 obtain ⟨o44,h44,h⟩:=Kq h
 refine Vx (o:=o44) 106 (fun x33=>⟨[(9,.int .i64 x24),(14,.int .i64 x33)],[],[],[]⟩) ?_ ?_
 ·refine Ja (Jf (zR 3 ?_))
  obtain ⟨r34,h45,h44⟩:=Jh h44
  refine Ju (Xj _ _ _ r34 h45) (by kernel_rfl) (by kernel_rfl) (zE (Jc (Ja (Jf (zR 2 ?_)))))
  refine Qb 2 99 (r34.2&&r6.2) (fun x hx=>?_) ?_
  ·rcases Bq hx with ⟨hb,hx⟩|⟨hb,hx⟩
   ·refine zS 97 hb ?_
    subst hx
    exact zF
   refine zS 97 hb ?_
   subst hx
   exact zF
  refine zN (Jc ?_)
  rcases Jk h44 with ⟨hb,h44⟩|⟨hb,h44⟩
  ·refine zT hb (Jf (zE ?_))
   cases h44
   exact zJ
  refine zU hb (Jj ?_)
  cases h44
  exact zJ
 rintro x33 rfl
 have h:=Kg h
 refine Ja (Jf ?_)
 obtain ⟨b35,h46,h⟩:=Jh h
 refine zR 4 ?_
 refine Kt 2 105 (.bool b35) ?_ ?_
 ·rcases Jk h46 with ⟨hb,h46⟩|⟨hb,h46⟩
  ·refine zS 103 hb ?_
   obtain ⟨r36,h47,h46⟩:=Jh h46
   refine Ju (Qv  r36 h47) (by kernel_rfl) (by kernel_rfl) ?_
   cases h46
   exact zF
  refine zS 103 hb ?_
  cases h46
  exact zF
 refine zE (Jc (Jp ?_))
 cases h
 exact zQ
end PM
