/-
 Plain functions for the program's functions, and the proofs that the program does them. Printed by den.py.
-/
import Derived.Test.YtombbpdpmagngaaGreatDoorDen2
namespace PM
open Go Go.RowKit
attribute [local irreducible] Kp pwp
/-! signallingref09.Branches -/
noncomputable def Yr (a1:Jg) (r3:(List Int)):(Int×(List Jb))→Option ((Int×(List Jb))⊕((List Jb)⊕(List Jb))):=fun (x9,x10) =>
 bif decide (x9<((r3.length:Nat):Int)) then (
  (ixO r3 x9).bind fun x14 =>
  (Vv x10 [(Jb.mk a1.El a1.Side x14)]).bind fun x15 =>
  some (.inl (w64 (x9+1),x15))
 ) else (
  some (.inr (.inl x10))
 )
noncomputable def Bi (a0:Jd) (a1:Jg):Option (List Jb) :=
 (Wc a0 a1.El).bind fun r1 =>
 bif (!r1) then (
  some ([]:(List Jb))
 ) else (
  (ixO a0.Elements a1.El).bind fun x2 =>
  (Cc x2.Kind a1.Side).bind fun r3 =>
  onInl (α:=(List Jb)) (β:=(List Jb)) (Kl (Yr a1 r3) (0,([]:(List Jb)))) fun x13 =>
  some x13
 )
theorem Jbr (a0:Jd) (a1:Jg) (r:(List Jb)) (h:Bi a0 a1=some r):Km Go.Proofs.Tryz.prog GlS 69 [Enc.pv a0,Enc.pv a1] (Jo (.own 100006) r):=by
 unfold Bi at h
 refine Jr Go.Proofs.Tryz.func69 (by rfl) rfl Go.Proofs.Tryz.ntmps69 (by rfl) rfl ?_
 refine Ja (Jf (zE (Jc (Ja (Ja (Jf (zR 3 ?_)))))))
 obtain ⟨r1,h1,h⟩:=Jh h
 refine Ju (Db _ _ r1 h1) (by kernel_rfl) (by kernel_rfl) (zE (Jc ?_))
 rcases Jk h with ⟨hb,h⟩|⟨hb,h⟩
 ·refine zT hb (Ja (Jf (zE (Jc (Df 4 100006 3 24 (by kernel_rfl) (by kernel_rfl) (Jp (Ji ?_)))))))
  cases h
  exact zQ
 refine zU hb (Jj (Jc (Ja (Kv (by kernel_rfl) (by kernel_rfl) (zR 4 ?_)))))
 obtain ⟨x2,h2,h⟩:=Jh h
 refine zI h2 (zR 4 ?_)
 obtain ⟨r3,h3,h⟩:=Jh h
 refine Ju (Jg0 _ _ r3 h3) (by kernel_rfl) (by kernel_rfl) (zE (Jc (Ja (Jf (zE (Jc (Ja (Ja (Jf (zE (Jc (Jn ?_))))))))))))
 refine Df 6 100006 3 24 (by kernel_rfl) (by kernel_rfl) ?_
 obtain ⟨o11,h11,h⟩:=Kq h
 refine Ki 42 0 (fun (x9,x10)=>⟨[(3,.ref 3 0),(5,Jo .frozen (r3:(List Int))),(6,Jo (.own 100006) (x10:(List Jb))),(7,.int .i64 x9)],[(3,.cells (cellsOf a1))],[(100006,(((x10).map cellsOf).length,3))],[]⟩) (fun x13=>⟨[(6,Jo (.own 100006) (x13:(List Jb)))],[],[(100006,(((x13).map cellsOf).length,3))],[]⟩) h11 (by kernel_rfl) (fun _=>by kernel_rfl) ?_ ?_
 ·rintro ⟨x9,x10⟩ oh10 h10
  unfold Yr at h10
  refine Ja (Ja (Jf (zR 2 ?_)))
  refine Kf (L:=(r3:(List Int))) (by kernel_rfl) ?_
  refine zE (Jc ?_)
  rcases Jk h10 with ⟨hb,h10⟩|⟨hb,h10⟩
  ·refine zT hb (Jj (Jc (Ja (Jn (Kv (by kernel_rfl) (by kernel_rfl) (zR 7 ?_))))))
   obtain ⟨x14,h12,h10⟩:=Jh h10
   refine zI h12 (zR 3 ?_)
   obtain ⟨x15,h13,h10⟩:=Jh h10
   refine Zz (tk:=100006) h13 (by kernel_rfl) (by kernel_rfl) ?_
   refine zE (Kd (Jc (Jf (zE ?_))))
   cases h10
   exact zB
  refine zU hb (Kc (Jv ?_))
  cases h10
  exact zX
 rintro x13 s' rfl hs
 have h:=Kg h
 refine Jt (Jc (Ke hs (Ja (Jf (zE (Jc (Jp ?_)))))))
 cases h
 exact zQ
/-! signallingref09.need -/
noncomputable def Ez (a0:Jd) (a1:Jb):Option (Int×Bool) :=
 (Wc a0 a1.El).bind fun r1 =>
 bif (!r1) then (
  some (0,false)
 ) else (
  (ixO a0.Elements a1.El).bind fun x2 =>
  (Ej x2.Kind a1.In a1.Out).bind fun r3 =>
  some (r3.1,r3.2)
 )
theorem Xh (a0:Jd) (a1:Jb) (r:(Int×Bool)) (h:Ez a0 a1=some r):Km Go.Proofs.Tryz.prog GlS 73 [Enc.pv a0,Enc.pv a1] (.tup [Enc.pv r.1,Enc.pv r.2]):=by
 unfold Ez at h
 refine Jr Go.Proofs.Tryz.func73 (by rfl) rfl Go.Proofs.Tryz.ntmps73 (by rfl) rfl ?_
 refine Ja (Jf (zE (Jc (Ja (Ja (Jf (zR 3 ?_)))))))
 obtain ⟨r1,h1,h⟩:=Jh h
 refine Ju (Db _ _ r1 h1) (by kernel_rfl) (by kernel_rfl) (zE (Jc ?_))
 rcases Jk h with ⟨hb,h⟩|⟨hb,h⟩
 ·refine zT hb (Ja (Jf (zE (Jc (Jp (Ji ?_))))))
  cases h
  exact zQ
 refine zU hb (Jj (Jc (Ja (Kv (by kernel_rfl) (by kernel_rfl) (zR 4 ?_)))))
 obtain ⟨x2,h2,h⟩:=Jh h
 refine zI h2 (zR 6 ?_)
 obtain ⟨r3,h3,h⟩:=Jh h
 refine Ju (Xg _ _ _ r3 h3) (by kernel_rfl) (by kernel_rfl) (zE (Jc (Jp ?_)))
 cases h
 exact zQ
/-! signallingref09.Next -/
noncomputable def Bv (a0:Jd) (a1:Jb):Option (Jg×Bool) :=
 (Yv a0 (Jg.mk a1.El a1.Out)).bind fun r1 =>
 some (r1.1,r1.2)
theorem Mn (a0:Jd) (a1:Jb) (r:(Jg×Bool)) (h:Bv a0 a1=some r):Km Go.Proofs.Tryz.prog GlS 71 [Enc.pv a0,Enc.pv a1] (.tup [Enc.pv r.1,Enc.pv r.2]):=by
 unfold Bv at h
 refine Jr Go.Proofs.Tryz.func71 (by rfl) rfl Go.Proofs.Tryz.ntmps71 (by rfl) rfl ?_
 refine Ja (Jf (zE (Jc (Ja (Jf (zR 6 ?_))))))
 obtain ⟨r1,h1,h⟩:=Jh h
 refine Ju (Ht _ _ r1 h1) (by kernel_rfl) (by kernel_rfl) (zE (Jc (Jp ?_)))
 cases h
 exact zQ
/-! signallingref09.Valid -/
noncomputable def Cf (a1:(List Jb)) (x23:Int):Int→Option (Int⊕(Unit⊕(Int⊕(Unit⊕Bool)))):=fun x61 =>
 bif decide (x61<x23) then (
  (ixO a1 x61).bind fun x64 =>
  (ixO a1 x23).bind fun x65 =>
  bif decide (x64.El=x65.El) then (
   some (.inr (.inr (.inr (.inr false))))
  ) else (
   some (.inl (w64 (x61+1)))
  )
 ) else (
  some (.inr (.inl ()))
 )
noncomputable def Gb (a0:Jd) (a1:(List Jb)):Int→Option (Int⊕(Unit⊕Bool)):=fun x23 =>
 bif decide (x23<((a1.length:Nat):Int)) then (
  (ixO a1 x23).bind fun x45 =>
  (Ez a0 x45).bind fun r46 =>
  bif (!r46.2) then (
   some (.inr (.inr false))
  ) else (
   onInl (α:=Unit) (β:=(Int⊕(Unit⊕Bool))) (
    bif decide (0<x23) then (
     (ixO a1 (w64 (x23 - 1))).bind fun x53 =>
     (Bv a0 x53).bind fun r54 =>
     ((bif (!r54.2) then some true else (
      (ixO a1 x23).bind fun x56 =>
      some (!(decide (r54.1.El=x56.El)))
     )):Option Bool).bind fun b55 =>
     ((bif b55 then some true else (
      (ixO a1 x23).bind fun x58 =>
      some (!(decide (r54.1.Side=x58.In)))
     )):Option Bool).bind fun b57 =>
     bif b57 then (
      some (.inr (.inr (.inr false)))
     ) else (
      some (.inl ())
     )
    ) else (
     some (.inl ())
    )
   ) fun _ =>
   onInl (α:=Unit) (β:=(Int⊕(Unit⊕Bool))) (Kl (Cf a1 x23) 0) fun _ =>
   some (.inl (w64 (x23+1)))
  )
 ) else (
  some (.inr (.inl ()))
 )
noncomputable def Ft (a0:Jd) (a1:(List Jb)):Option Bool :=
 ((bif decide (((a1.length:Nat):Int)=0) then some true else (
  some (decide (64<((a1.length:Nat):Int)))
 )):Option Bool).bind fun b1 =>
 bif b1 then (
  some false
 ) else (
  onInl (α:=Unit) (β:=Bool) (Kl (Gb a0 a1) 0) fun _ =>
  some true
 )
theorem Je6 (a0:Jd) (a1:(List Jb)) (r:Bool) (h:Ft a0 a1=some r):Km Go.Proofs.Tryz.prog GlS 101 [Enc.pv a0,Enc.pv a1] (Enc.pv r):=by
 unfold Ft at h
 refine Jr Go.Proofs.Tryz.func101 (by rfl) rfl Go.Proofs.Tryz.ntmps101 (by rfl) rfl ?_
 refine Ja (Jf (zE (Jc (Ja (Ja (Jf (zR 1 ?_)))))))
 refine Kf (L:=(a1:(List Jb))) (by kernel_rfl) ?_
 obtain ⟨b1,h1,h⟩:=Jh h
 refine zR 2 ?_
 refine Kt 4 18 (.bool b1) ?_ ?_
 ·rcases Jk h1 with ⟨hb,h1⟩|⟨hb,h1⟩
  ·refine zS 14 hb ?_
   cases h1
   exact zF
  refine zS 14 hb (zR 1 ?_)
  refine Kf (L:=(a1:(List Jb))) (by kernel_rfl) ?_
  cases h1
  exact zF
 refine zN (Jc ?_)
 rcases Jk h with ⟨hb,h⟩|⟨hb,h⟩
 ·refine zT hb (Ja (Jf (zE (Jc (Jp (Ji ?_))))))
  cases h
  exact zQ
 refine zU hb (Jj (Jc (Ja (Ja (Jf (zE (Jc (Jn ?_))))))))
 obtain ⟨o71,h71,h⟩:=Kq h
 refine Ki 86 0 (fun x23=>⟨[(1,Jo .frozen (a1:(List Jb))),(2,.ref 2 0),(5,.int .i64 x23)],[(2,.cells (cellsOf a0))],[],[]⟩) (fun (_:Unit)=>⟨[],[],[],[]⟩) h71 (by kernel_rfl) (fun _=>by kernel_rfl) ?_ ?_
 ·rintro x23 oh70 h70
  unfold Gb at h70
  refine Ja (Ja (Jf (zR 2 ?_)))
  refine Kf (L:=(a1:(List Jb))) (by kernel_rfl) ?_
  refine zE (Jc ?_)
  rcases Jk h70 with ⟨hb,h70⟩|⟨hb,h70⟩
  ·refine zT hb (Jj (Jc (Ja (Jn (Ja (Kv (by kernel_rfl) (by kernel_rfl) (zR 3 ?_)))))))
   obtain ⟨x45,h72,h70⟩:=Jh h70
   refine zI h72 (zR 1 ?_)
   obtain ⟨r46,h73,h70⟩:=Jh h70
   refine Ju (Xh _ _ r46 h73) (by kernel_rfl) (by kernel_rfl) (zE (Jc (Ja (Ja (Jf (zE (Jc ?_)))))))
   rcases Jk h70 with ⟨hb,h70⟩|⟨hb,h70⟩
   ·refine zT hb (Ja (Jf (zE (Jc (Jp (Ji (Jm (Ji ?_))))))))
    cases h70
    refine Kb fun he=>?_
    subst he
    have h74:=Ku h
    refine Jm (Ji ?_)
    cases h74
    exact zQ
   refine zU hb (Jj (Jc ?_))
   obtain ⟨o83,h83,h70⟩:=Kq h70
   refine Vx (o:=o83) 86 (fun (_:Unit)=>⟨[(1,Jo .frozen (a1:(List Jb))),(2,.ref 2 0),(5,.int .i64 x23)],[(2,.cells (cellsOf a0))],[],[]⟩) ?_ ?_
   ·refine Ja (Jf (zE (Jc ?_)))
    rcases Jk h83 with ⟨hb,h83⟩|⟨hb,h83⟩
    ·refine zT hb (Ja (Kv (by kernel_rfl) (by kernel_rfl) (zR 4 ?_)))
     obtain ⟨x53,h84,h83⟩:=Jh h83
     refine zI h84 (zR 1 ?_)
     obtain ⟨r54,h85,h83⟩:=Jh h83
     refine Ju (Mn _ _ r54 h85) (by kernel_rfl) (by kernel_rfl) (zE (Jc (Ja (Kv (by kernel_rfl) (by kernel_rfl) ?_))))
     obtain ⟨b55,h86,h83⟩:=Jh h83
     refine zR 3 ?_
     refine Kt 9 59 (.bool b55) ?_ ?_
     ·rcases Jk h86 with ⟨hb,h86⟩|⟨hb,h86⟩
      ·refine zS 50 hb ?_
       cases h86
       exact zF
      refine zS 50 hb (zR 4 ?_)
      obtain ⟨x56,h87,h86⟩:=Jh h86
      refine zI h87 ?_
      cases h86
      exact zF
     obtain ⟨b57,h88,h83⟩:=Jh h83
     refine zR 1 ?_
     refine Kt 9 69 (.bool b57) ?_ ?_
     ·rcases Jk h88 with ⟨hb,h88⟩|⟨hb,h88⟩
      ·refine zS 60 hb ?_
       cases h88
       exact zF
      refine zS 60 hb (zR 4 ?_)
      obtain ⟨x58,h89,h88⟩:=Jh h88
      refine zI h89 ?_
      cases h88
      exact zF
     refine zN (Jc ?_)
     rcases Jk h83 with ⟨hb,h83⟩|⟨hb,h83⟩
     ·refine zT hb (Ja (Jf (zE (Jc (Jp ?_)))))
      cases h83
      refine Gs ?_
      have h90:=Ku h70
      refine Jm (Ji ?_)
      cases h90
      refine Kb fun he=>?_
      subst he
      have h91:=Ku h
      refine Jm (Ji ?_)
      cases h91
      exact zQ
     refine zU hb (Jj ?_)
     cases h83
     exact zJ
    refine zU hb (Jj ?_)
    cases h83
    exact zJ
   rintro _ rfl
   have h70:=Kg h70
   refine Ja (Jf (zE (Jc (Jn ?_))))
   obtain ⟨o101,h101,h70⟩:=Kq h70
   refine Ki 86 2 (fun x61=>⟨[(1,Jo .frozen (a1:(List Jb))),(2,.ref 2 0),(5,.int .i64 x23),(10,.int .i64 x61)],[(2,.cells (cellsOf a0))],[],[]⟩) (fun (_:Unit)=>⟨[(1,Jo .frozen (a1:(List Jb))),(2,.ref 2 0),(5,.int .i64 x23)],[(2,.cells (cellsOf a0))],[],[]⟩) h101 (by kernel_rfl) (fun _=>by kernel_rfl) ?_ ?_
   ·rintro x61 oh100 h100
    unfold Cf at h100
    refine Ja (Ja (Jf (zE (Jc ?_))))
    rcases Jk h100 with ⟨hb,h100⟩|⟨hb,h100⟩
    ·refine zT hb (Jj (Jc (Ja (Jn (Ja (Kv (by kernel_rfl) (by kernel_rfl) (zR 2 ?_)))))))
     obtain ⟨x64,h102,h100⟩:=Jh h100
     refine zI h102 (zR 4 ?_)
     obtain ⟨x65,h103,h100⟩:=Jh h100
     refine zI h103 (zE (Jc ?_))
     rcases Jk h100 with ⟨hb,h100⟩|⟨hb,h100⟩
     ·refine zT hb (Ja (Jf (zE (Jc (Jp (Jm (Ji ?_)))))))
      cases h100
      refine Kb fun he=>?_
      subst he
      have h104:=Ku h70
      refine Jm (Jm (Ji ?_))
      cases h104
      refine Kb fun he=>?_
      subst he
      have h105:=Ku h
      refine Jm (Ji ?_)
      cases h105
      exact zQ
     refine zU hb (Jj (Kd (Jc (Jf (zE ?_)))))
     cases h100
     exact zB
    refine zU hb (Kc (Jv ?_))
    cases h100
    exact zX
   rintro _ s' rfl hs
   have h70:=Kg h70
   refine Jt (Kd (Jc (Ke hs (Jf (zE ?_)))))
   cases h70
   exact zB
  refine zU hb (Kc (Jv ?_))
  cases h70
  exact zX
 rintro _ s' rfl hs
 have h:=Kg h
 refine Jt (Jc (Ke hs (Ja (Jf (zE (Jc (Jp ?_)))))))
 cases h
 exact zQ
/-! signallingref07.Section -/
noncomputable def Ya (a0:Jd) (a1:Int):Option Int :=
 ((bif decide (a1<0) then some true else (
  some (decide (((a0.Elements.length:Nat):Int)≤a1))
 )):Option Bool).bind fun b1 =>
 bif b1 then (
  some (-1)
 ) else (
  (ixO a0.Elements a1).bind fun x2 =>
  some x2.Section
 )
theorem Gr (a0:Jd) (a1:Int) (r:Int) (h:Ya a0 a1=some r):Km Go.Proofs.Tryz.prog GlS 38 [Enc.pv a0,Enc.pv a1] (Enc.pv r):=by
 unfold Ya at h
 refine Jr Go.Proofs.Tryz.func38 (by rfl) rfl Go.Proofs.Tryz.ntmps38 (by rfl) rfl ?_
 refine Ja (Jf (zE (Jc (Ja (Ja (Jf ?_))))))
 obtain ⟨b1,h1,h⟩:=Jh h
 refine zR 3 ?_
 refine Kt 6 13 (.bool b1) ?_ ?_
 ·rcases Jk h1 with ⟨hb,h1⟩|⟨hb,h1⟩
  ·refine zS 7 hb ?_
   cases h1
   exact zF
  refine zS 7 hb (zR 3 ?_)
  refine Kf (L:=(a0.Elements:(List Jq))) (by kernel_rfl) ?_
  cases h1
  exact zF
 refine zN (Jc ?_)
 rcases Jk h with ⟨hb,h⟩|⟨hb,h⟩
 ·refine zT hb (Ja (Jf (zE (Jc (Jp (Ji ?_))))))
  cases h
  exact zQ
 refine zU hb (Jj (Jc (Ja (Jf (zR 3 ?_)))))
 obtain ⟨x2,h2,h⟩:=Jh h
 refine zI h2 (zE (Jc (Jp ?_)))
 cases h
 exact zQ
/-! signallingref09.has -/
noncomputable def Lu (a0:(List Int)) (a1:Int):Int→Option (Int⊕(Unit⊕Bool)):=fun x2 =>
 bif decide (x2<((a0.length:Nat):Int)) then (
  (ixO a0 x2).bind fun x4 =>
  bif decide (x4=a1) then (
   some (.inr (.inr true))
  ) else (
   some (.inl (w64 (x2+1)))
  )
 ) else (
  some (.inr (.inl ()))
 )
noncomputable def Mi (a0:(List Int)) (a1:Int):Option Bool :=
 onInl (α:=Unit) (β:=Bool) (Kl (Lu a0 a1) 0) fun _ =>
 some false
theorem Jjj (a0:(List Int)) (a1:Int) (r:Bool) (h:Mi a0 a1=some r):Km Go.Proofs.Tryz.prog GlS 76 [Enc.pv a0,Enc.pv a1] (Enc.pv r):=by
 unfold Mi at h
 refine Jr Go.Proofs.Tryz.func76 (by rfl) rfl Go.Proofs.Tryz.ntmps76 (by rfl) rfl ?_
 refine Ja (Jf (zE (Jc (Ja (Ja (Jf (zE (Jc (Jn ?_)))))))))
 obtain ⟨o6,h6,h⟩:=Kq h
 refine Ki 18 0 (fun x2=>⟨[(0,Jo .frozen (a0:(List Int))),(1,.int .i64 a1),(5,.int .i64 x2)],[],[],[]⟩) (fun (_:Unit)=>⟨[],[],[],[]⟩) h6 (by kernel_rfl) (fun _=>by kernel_rfl) ?_ ?_
 ·rintro x2 oh5 h5
  unfold Lu at h5
  refine Ja (Ja (Jf (zR 2 ?_)))
  refine Kf (L:=(a0:(List Int))) (by kernel_rfl) ?_
  refine zE (Jc ?_)
  rcases Jk h5 with ⟨hb,h5⟩|⟨hb,h5⟩
  ·refine zT hb (Jj (Jc (Ja (Jn (Ja (Jf (zR 2 ?_)))))))
   obtain ⟨x4,h7,h5⟩:=Jh h5
   refine zI h7 (zE (Jc ?_))
   rcases Jk h5 with ⟨hb,h5⟩|⟨hb,h5⟩
   ·refine zT hb (Ja (Jf (zE (Jc (Jp (Jm (Ji ?_)))))))
    cases h5
    refine Kb fun he=>?_
    subst he
    have h8:=Ku h
    refine Jm (Ji ?_)
    cases h8
    exact zQ
   refine zU hb (Jj (Kd (Jc (Jf (zE ?_)))))
   cases h5
   exact zB
  refine zU hb (Kc (Jv ?_))
  cases h5
  exact zX
 rintro _ s' rfl hs
 have h:=Kg h
 refine Jt (Jc (Ke hs (Ja (Jf (zE (Jc (Jp ?_)))))))
 cases h
 exact zQ
/-! signallingref09.Sections -/
noncomputable def Yw (a0:Jd) (a1:(List Jb)):(Int×(List Int))→Option ((Int×(List Int))⊕((List Int)⊕(List Int))):=fun (x40,x41) =>
 bif decide (x40<((a1.length:Nat):Int)) then (
  onInl (α:=(List Int)) (β:=((Int×(List Int))⊕((List Int)⊕(List Int)))) (
   (ixO a1 x40).bind fun x72 =>
   (Wc a0 x72.El).bind fun r73 =>
   ((bif r73 then (
    (ixO a1 x40).bind fun x75 =>
    (ixO a0.Elements x75.El).bind fun x76 =>
    (Mi x41 x76.Section).bind fun r77 =>
    some (!r77)
   ) else some false):Option Bool).bind fun b74 =>
   bif b74 then (
    (ixO a1 x40).bind fun x78 =>
    (ixO a0.Elements x78.El).bind fun x79 =>
    (Vv x41 [x79.Section]).bind fun x80 =>
    some (.inl x80)
   ) else (
    some (.inl x41)
   )
  ) fun x71 =>
  some (.inl (w64 (x40+1),x71))
 ) else (
  some (.inr (.inl x41))
 )
noncomputable def Vz (a0:Jd) (a1:(List Jb)):Option (List Int) :=
 onInl (α:=(List Int)) (β:=(List Int)) (Kl (Yw a0 a1) (0,([]:(List Int)))) fun x61 =>
 some x61
theorem Nd (a0:Jd) (a1:(List Jb)) (r:(List Int)) (h:Vz a0 a1=some r):Km Go.Proofs.Tryz.prog GlS 36 [Enc.pv a0,Enc.pv a1] (Jo (.own 100005) r):=by
 unfold Vz at h
 refine Jr Go.Proofs.Tryz.func36 (by rfl) rfl Go.Proofs.Tryz.ntmps36 (by rfl) rfl ?_
 refine Ja (Jf (zE (Jc (Ja (Jf (zE (Jc (Ja (Ja (Jf (zE (Jc (Jn ?_)))))))))))))
 refine Df 5 100005 1 8 (by kernel_rfl) (by kernel_rfl) ?_
 obtain ⟨o59,h59,h⟩:=Kq h
 refine Ki 49 0 (fun (x40,x41)=>⟨[(1,Jo .frozen (a1:(List Jb))),(2,.ref 2 0),(5,Jo (.own 100005) (x41:(List Int))),(6,.int .i64 x40)],[(2,.cells (cellsOf a0))],[(100005,(((x41).map cellsOf).length,1))],[]⟩) (fun x61=>⟨[(5,Jo (.own 100005) (x61:(List Int)))],[],[(100005,(((x61).map cellsOf).length,1))],[]⟩) h59 (by kernel_rfl) (fun _=>by kernel_rfl) ?_ ?_
 ·rintro ⟨x40,x41⟩ oh58 h58
  unfold Yw at h58
  refine Ja (Ja (Jf (zR 2 ?_)))
  refine Kf (L:=(a1:(List Jb))) (by kernel_rfl) ?_
  refine zE (Jc ?_)
  rcases Jk h58 with ⟨hb,h58⟩|⟨hb,h58⟩
  ·refine zT hb (Jj (Jc ?_))
   obtain ⟨o69,h69,h58⟩:=Kq h58
   refine Vx (o:=o69) 49 (fun x71=>⟨[(1,Jo .frozen (a1:(List Jb))),(2,.ref 2 0),(5,Jo (.own 100005) (x71:(List Int))),(6,.int .i64 x40)],[(2,.cells (cellsOf a0))],[(100005,(((x71).map cellsOf).length,1))],[]⟩) ?_ ?_
   ·refine Jn (Ja (Kv (by kernel_rfl) (by kernel_rfl) (zR 3 ?_)))
    obtain ⟨x72,h70,h69⟩:=Jh h69
    refine zI h70 (zR 2 ?_)
    obtain ⟨r73,h71,h69⟩:=Jh h69
    refine Ju (Db _ _ r73 h71) (by kernel_rfl) (by kernel_rfl) ?_
    obtain ⟨b74,h72,h69⟩:=Jh h69
    refine zR 1 ?_
    refine Kt 14 34 (.bool b74) ?_ ?_
    ·rcases Jk h72 with ⟨hb,h72⟩|⟨hb,h72⟩
     ·refine zS 20 hb (zR 5 ?_)
      obtain ⟨x75,h73,h72⟩:=Jh h72
      refine zI h73 (zR 2 ?_)
      obtain ⟨x76,h74,h72⟩:=Jh h72
      refine zI h74 (zR 2 ?_)
      obtain ⟨r77,h75,h72⟩:=Jh h72
      refine Ju (Jjj _ _ r77 h75) (by kernel_rfl) (by kernel_rfl) ?_
      cases h72
      exact zF
     refine zS 20 hb ?_
     cases h72
     exact zF
    refine zN (Jc ?_)
    rcases Jk h69 with ⟨hb,h69⟩|⟨hb,h69⟩
    ·refine zT hb (Kv (by kernel_rfl) (by kernel_rfl) (zR 5 ?_))
     obtain ⟨x78,h76,h69⟩:=Jh h69
     refine zI h76 (zR 2 ?_)
     obtain ⟨x79,h77,h69⟩:=Jh h69
     refine zI h77 (zR 3 ?_)
     obtain ⟨x80,h78,h69⟩:=Jh h69
     refine Zz (tk:=100005) h78 (by kernel_rfl) (by kernel_rfl) ?_
     refine zE (Kd ?_)
     cases h69
     exact zJ
    refine zU hb (Jj (Kd ?_))
    cases h69
    exact zJ
   rintro x71 rfl
   have h58:=Kg h58
   refine Jf (zE ?_)
   cases h58
   exact zB
  refine zU hb (Kc (Jv ?_))
  cases h58
  exact zX
 rintro x61 s' rfl hs
 have h:=Kg h
 refine Jt (Jc (Ke hs (Ja (Jf (zE (Jc (Jp ?_)))))))
 cases h
 exact zQ
theorem Jbx (a0:Jd) (a1:(List Jb)) (r:(List Int)) (h:Vz a0 a1=some r):Km Go.Proofs.Tryz.prog GlS 36 [Enc.pv a0,Enc.pv a1] (Enc.pv r) :=
 (Nd a0 a1 r h).freeze (by kernel_rfl) (by kernel_rfl) (by kernel_rfl)
/-! signallingref12.Fits -/
noncomputable def Dy (a0:Jd) (a2:(List Jb)):(Int×Int)→Option ((Int×Int)⊕(Int⊕Bool)):=fun (x17,x18) =>
 bif decide (x18<((a2.length:Nat):Int)) then (
  onInl (α:=Int) (β:=((Int×Int)⊕(Int⊕Bool))) (
   (ixO a2 x18).bind fun x34 =>
   (Ya a0 x34.El).bind fun r35 =>
   (ixO a2 (w64 (x18 - 1))).bind fun x36 =>
   (Ya a0 x36.El).bind fun r37 =>
   bif (!(decide (r35=r37))) then (
    some (.inl (w64 (x17+1)))
   ) else (
    some (.inl x17)
   )
  ) fun x33 =>
  some (.inl (x33,w64 (x18+1)))
 ) else (
  some (.inr (.inl x17))
 )
noncomputable def Ey (a0:Jd) (a1:Jg) (a2:(List Jb)):Option Bool :=
 ((bif decide (((a2.length:Nat):Int)=0) then some true else (
  some (decide (12<((a2.length:Nat):Int)))
 )):Option Bool).bind fun b1 =>
 ((bif b1 then some true else (
  (ixO a2 0).bind fun x3 =>
  some (!(decide (x3.El=a1.El)))
 )):Option Bool).bind fun b2 =>
 ((bif b2 then some true else (
  (ixO a2 0).bind fun x5 =>
  some (!(decide (x5.In=a1.Side)))
 )):Option Bool).bind fun b4 =>
 ((bif b4 then some true else (
  (Ft a0 a2).bind fun r7 =>
  some (!r7)
 )):Option Bool).bind fun b6 =>
 bif b6 then (
  some false
 ) else (
  onInl (α:=Int) (β:=Bool) (Kl (Dy a0 a2) (1,1)) fun x28 =>
  (Vz a0 a2).bind fun r38 =>
  some (decide (x28=((r38.length:Nat):Int)))
 )
theorem Jgt (a0:Jd) (a1:Jg) (a2:(List Jb)) (r:Bool) (h:Ey a0 a1 a2=some r):Km Go.Proofs.Tryz.prog GlS 70 [Enc.pv a0,Enc.pv a1,Enc.pv a2] (Enc.pv r):=by
 unfold Ey at h
 refine Jr Go.Proofs.Tryz.func70 (by rfl) rfl Go.Proofs.Tryz.ntmps70 (by rfl) rfl ?_
 refine Ja (Jf (zE (Jc (Ja (Ja (Kv (by kernel_rfl) (by kernel_rfl) (zR 1 ?_)))))))
 refine Kf (L:=(a2:(List Jb))) (by kernel_rfl) ?_
 obtain ⟨b1,h1,h⟩:=Jh h
 refine zR 2 ?_
 refine Kt 4 16 (.bool b1) ?_ ?_
 ·rcases Jk h1 with ⟨hb,h1⟩|⟨hb,h1⟩
  ·refine zS 12 hb ?_
   cases h1
   exact zF
  refine zS 12 hb (zR 1 ?_)
  refine Kf (L:=(a2:(List Jb))) (by kernel_rfl) ?_
  cases h1
  exact zF
 obtain ⟨b2,h2,h⟩:=Jh h
 refine zR 1 ?_
 refine Kt 8 25 (.bool b2) ?_ ?_
 ·rcases Jk h2 with ⟨hb,h2⟩|⟨hb,h2⟩
  ·refine zS 17 hb ?_
   cases h2
   exact zF
  refine zS 17 hb (zR 1 ?_)
  obtain ⟨x3,h3,h2⟩:=Jh h2
  refine zI h3 ?_
  cases h2
  exact zF
 obtain ⟨b4,h4,h⟩:=Jh h
 refine zR 1 ?_
 refine Kt 8 34 (.bool b4) ?_ ?_
 ·rcases Jk h4 with ⟨hb,h4⟩|⟨hb,h4⟩
  ·refine zS 26 hb ?_
   cases h4
   exact zF
  refine zS 26 hb (zR 1 ?_)
  obtain ⟨x5,h5,h4⟩:=Jh h4
  refine zI h5 ?_
  cases h4
  exact zF
 obtain ⟨b6,h6,h⟩:=Jh h
 refine zR 1 ?_
 refine Kt 5 40 (.bool b6) ?_ ?_
 ·rcases Jk h6 with ⟨hb,h6⟩|⟨hb,h6⟩
  ·refine zS 35 hb ?_
   cases h6
   exact zF
  refine zS 35 hb (zR 2 ?_)
  obtain ⟨r7,h7,h6⟩:=Jh h6
  refine Ju (Je6 _ _ r7 h7) (by kernel_rfl) (by kernel_rfl) ?_
  cases h6
  exact zF
 refine zN (Jc ?_)
 rcases Jk h with ⟨hb,h⟩|⟨hb,h⟩
 ·refine zT hb (Ja (Jf (zE (Jc (Jp (Ji ?_))))))
  cases h
  exact zQ
 refine zU hb (Jj (Jc (Ja (Jf (zE (Jc (Ja (Ja (Jf (zE (Jc (Jn ?_))))))))))))
 obtain ⟨o27,h27,h⟩:=Kq h
 refine Ki 71 0 (fun (x17,x18)=>⟨[(2,Jo .frozen (a2:(List Jb))),(3,.ref 3 0),(7,.int .i64 x17),(8,.int .i64 x18)],[(3,.cells (cellsOf a0))],[],[]⟩) (fun x28=>⟨[(2,Jo .frozen (a2:(List Jb))),(3,.ref 3 0),(7,.int .i64 x28)],[(3,.cells (cellsOf a0))],[],[]⟩) h27 (by kernel_rfl) (fun _=>by kernel_rfl) ?_ ?_
 ·rintro ⟨x17,x18⟩ oh26 h26
  unfold Dy at h26
  refine Ja (Ja (Jf (zR 2 ?_)))
  refine Kf (L:=(a2:(List Jb))) (by kernel_rfl) ?_
  refine zE (Jc ?_)
  rcases Jk h26 with ⟨hb,h26⟩|⟨hb,h26⟩
  ·refine zT hb (Jj (Jc ?_))
   obtain ⟨o32,h32,h26⟩:=Kq h26
   refine Vx (o:=o32) 71 (fun x33=>⟨[(2,Jo .frozen (a2:(List Jb))),(3,.ref 3 0),(7,.int .i64 x33),(8,.int .i64 x18)],[(3,.cells (cellsOf a0))],[],[]⟩) ?_ ?_
   ·refine Jn (Ja (Kv (by kernel_rfl) (by kernel_rfl) (zR 3 ?_)))
    obtain ⟨x34,h33,h32⟩:=Jh h32
    refine zI h33 (zR 2 ?_)
    obtain ⟨r35,h34,h32⟩:=Jh h32
    refine Ju (Gr _ _ r35 h34) (by kernel_rfl) (by kernel_rfl) (zR 4 ?_)
    obtain ⟨x36,h35,h32⟩:=Jh h32
    refine zI h35 (zR 2 ?_)
    obtain ⟨r37,h36,h32⟩:=Jh h32
    refine Ju (Gr _ _ r37 h36) (by kernel_rfl) (by kernel_rfl) (zE (Jc ?_))
    rcases Jk h32 with ⟨hb,h32⟩|⟨hb,h32⟩
    ·refine zT hb (Jf (zE (Kd ?_)))
     cases h32
     exact zJ
    refine zU hb (Jj (Kd ?_))
    cases h32
    exact zJ
   rintro x33 rfl
   have h26:=Kg h26
   refine Jf (zE ?_)
   cases h26
   exact zB
  refine zU hb (Kc (Jv ?_))
  cases h26
  exact zX
 rintro x28 s' rfl hs
 have h:=Kg h
 refine Jt (Jc (Ke hs (Ja (Jf (zR 3 ?_)))))
 obtain ⟨r38,h37,h⟩:=Jh h
 refine Ju (Nd _ _ r38 h37) (by kernel_rfl) (by kernel_rfl) ?_
 refine Kf (L:=(r38:(List Int))) (by kernel_rfl) ?_
 refine zE (Jc (Jp ?_))
 cases h
 exact zQ
/-! signallingref07.Signal -/
noncomputable def Et (a0:Jd) (a1:Jg):Int→Option (Int⊕(Unit⊕Int)):=fun x2 =>
 bif decide (x2<((a0.Signals.length:Nat):Int)) then (
  (ixO a0.Signals x2).bind fun x4 =>
  bif Ka x4.At a1 then (
   some (.inr (.inr x2))
  ) else (
   some (.inl (w64 (x2+1)))
  )
 ) else (
  some (.inr (.inl ()))
 )
noncomputable def Bl (a0:Jd) (a1:Jg):Option Int :=
 onInl (α:=Unit) (β:=Int) (Kl (Et a0 a1) 0) fun _ =>
 some (-1)
theorem Jda (a0:Jd) (a1:Jg) (r:Int) (h:Bl a0 a1=some r):Km Go.Proofs.Tryz.prog GlS 72 [Enc.pv a0,Enc.pv a1] (Enc.pv r):=by
 unfold Bl at h
 refine Jr Go.Proofs.Tryz.func72 (by rfl) rfl Go.Proofs.Tryz.ntmps72 (by rfl) rfl ?_
 refine Ja (Jf (zE (Jc (Ja (Ja (Jf (zR 2 ?_)))))))
 refine Kf (L:=(a0.Signals:(List Js))) (by kernel_rfl) ?_
 refine zE (Jc (Jn ?_))
 obtain ⟨o6,h6,h⟩:=Kq h
 refine Ki 21 0 (fun x2=>⟨[(3,.ref 3 0),(8,Jo .frozen (a0.Signals:(List Js))),(9,.int .i64 ((a0.Signals.length:Nat):Int)),(10,.int .i64 x2)],[(3,.cells (cellsOf a1))],[],[]⟩) (fun (_:Unit)=>⟨[],[],[],[]⟩) h6 (by kernel_rfl) (fun _=>by kernel_rfl) ?_ ?_
 ·rintro x2 oh5 h5
  unfold Et at h5
  refine Ja (Jf (zE (Jc (Ja ?_))))
  rcases Jk h5 with ⟨hb,h5⟩|⟨hb,h5⟩
  ·refine zT hb (Jj (Jc (Ja (Jn (Ja (Jf (zR 1 ?_)))))))
   obtain ⟨x4,h7,h5⟩:=Jh h5
   refine zI h7 (zE (Jc (Ja (Jf (zE (Jc ?_))))))
   rcases Jk h5 with ⟨hb,h5⟩|⟨hb,h5⟩
   ·refine zT hb (Ja (Jf (zE (Jc (Jp (Jm (Ji ?_)))))))
    cases h5
    refine Kb fun he=>?_
    subst he
    have h8:=Ku h
    refine Jm (Ji ?_)
    cases h8
    exact zQ
   refine zU hb (Jj (Kd (Jc (Jf (zE ?_)))))
   cases h5
   exact zB
  refine zU hb (Kc (Jv ?_))
  cases h5
  exact zX
 rintro _ s' rfl hs
 have h:=Kg h
 refine Jt (Jc (Ke hs (Ja (Jf (zE (Jc (Jp ?_)))))))
 cases h
 exact zQ
/-! signallingref12.Ends -/
noncomputable def Zu (a0:Jd) (a1:Jb):Option (Int×Bool) :=
 (Bl a0 (Jg.mk a1.El a1.Out)).bind fun r1 =>
 (Bv a0 a1).bind fun r2 =>
 some (r1,((decide (0≤r1))||(!r2.2)))
theorem Mw (a0:Jd) (a1:Jb) (r:(Int×Bool)) (h:Zu a0 a1=some r):Km Go.Proofs.Tryz.prog GlS 33 [Enc.pv a0,Enc.pv a1] (.tup [Enc.pv r.1,Enc.pv r.2]):=by
 unfold Zu at h
 refine Jr Go.Proofs.Tryz.func33 (by rfl) rfl Go.Proofs.Tryz.ntmps33 (by rfl) rfl ?_
 refine Ja (Jf (zE (Jc (Ja (Jf (zR 6 ?_))))))
 obtain ⟨r1,h1,h⟩:=Jh h
 refine Ju (Jda _ _ r1 h1) (by kernel_rfl) (by kernel_rfl) (zE (Jc (Ja (Jf (zR 2 ?_)))))
 obtain ⟨r2,h2,h⟩:=Jh h
 refine Ju (Mn _ _ r2 h2) (by kernel_rfl) (by kernel_rfl) (zE (Jc (Ja (Jf (zR 4 ?_)))))
 refine Qb 3 28 ((decide (0≤r1))||(!r2.2)) (fun x hx=>?_) ?_
 ·rcases Ck hx with ⟨hb,hx⟩|⟨hb,hx⟩
  ·refine zS 25 hb ?_
   subst hx
   exact zF
  refine zS 25 hb ?_
  subst hx
  exact zF
 refine zE (Jc (Jp ?_))
 cases h
 exact zQ
/-! (*signallingref12.Paths).search -/
noncomputable def Yg (rc_d_ref12_Paths_search:Jw→Jd→Jg→Jg→(List Jb)→Option Jw) (a1:Jd) (a2:Jg) (a4:(List Jb)) (r1:(List Jb)):(Int×(List (List Jb)))→Option ((Int×(List (List Jb)))⊕((List (List Jb))⊕Jw)):=fun (x23,x24) =>
 bif decide (x23<((r1.length:Nat):Int)) then (
  onInl (α:=(List (List Jb))) (β:=((Int×(List (List Jb)))⊕((List (List Jb))⊕Jw))) (
   (Vv ([]:(List Jb)) a4).bind fun x58 =>
   (ixO r1 x23).bind fun x59 =>
   (Vv x58 [x59]).bind fun x60 =>
   (Ey a1 a2 x60).bind fun r61 =>
   bif (!r61) then (
    some (.inl x24)
   ) else (
    (ixO r1 x23).bind fun x62 =>
    (Zu a1 x62).bind fun r63 =>
    bif r63.2 then (
     (Vv x24 [x60]).bind fun x64 =>
     some (.inl x64)
    ) else (
     (ixO r1 x23).bind fun x65 =>
     (Bv a1 x65).bind fun r66 =>
     (rc_d_ref12_Paths_search (Jw.mk x24) a1 a2 r66.1 x60).bind fun r67 =>
     some (.inl r67.L)
    )
   )
  ) fun x57 =>
  some (.inl (w64 (x23+1),x57))
 ) else (
  some (.inr (.inl x24))
 )
noncomputable def Uj (rc_d_ref12_Paths_search:Jw→Jd→Jg→Jg→(List Jb)→Option Jw) (a0:Jw) (a1:Jd) (a2:Jg) (a3:Jg) (a4:(List Jb)):Option Jw :=
 (Bi a1 a3).bind fun r1 =>
 onInl (α:=(List (List Jb))) (β:=Jw) (Kl (Yg rc_d_ref12_Paths_search a1 a2 a4 r1) (0,a0.L)) fun x46 =>
 some (Jw.mk x46)
theorem Fg (rc_d_ref12_Paths_search:Jw→Jd→Jg→Jg→(List Jb)→Option Jw) (hrc_d_ref12_Paths_search:∀ (a0:Jw) (a1:Jd) (a2:Jg) (a3:Jg) (a4:(List Jb)) (r:Jw),rc_d_ref12_Paths_search a0 a1 a2 a3 a4=some r→Jah Go.Proofs.Tryz.prog GlS 32 (some (.cells [.ex 1000000000 1 24 (((a0.L:(List (List Jb))).map cellsOf).length) 0 (((a0.L:(List (List Jb))).map cellsOf).length)])) [(1,24,(a0.L:(List (List Jb))).map cellsOf)] [.ref 1000000 0,Enc.pv a1,Enc.pv a2,Enc.pv a3,Enc.pv a4] (.tup []) (some (.cells [.ex 1000000000 1 24 (((r.L:(List (List Jb))).map cellsOf).length) 0 (((r.L:(List (List Jb))).map cellsOf).length)])) [(1,24,(r.L:(List (List Jb))).map cellsOf)]) (a0:Jw) (a1:Jd) (a2:Jg) (a3:Jg) (a4:(List Jb)) (r:Jw) (h:Uj rc_d_ref12_Paths_search a0 a1 a2 a3 a4=some r):Jah Go.Proofs.Tryz.prog GlS 32 (some (.cells [.ex 1000000000 1 24 (((a0.L:(List (List Jb))).map cellsOf).length) 0 (((a0.L:(List (List Jb))).map cellsOf).length)])) [(1,24,(a0.L:(List (List Jb))).map cellsOf)] [.ref 1000000 0,Enc.pv a1,Enc.pv a2,Enc.pv a3,Enc.pv a4] (.tup []) (some (.cells [.ex 1000000000 1 24 (((r.L:(List (List Jb))).map cellsOf).length) 0 (((r.L:(List (List Jb))).map cellsOf).length)])) [(1,24,(r.L:(List (List Jb))).map cellsOf)]:=by
 unfold Uj at h
 refine Sy Go.Proofs.Tryz.func32 (by rfl) rfl Go.Proofs.Tryz.ntmps32 (by rfl) rfl rfl (of_decide_eq_true rfl) (by kernel_rfl) ?_
 refine Ja (Jf (zE (Jc (Ja (Jf (zR 2 ?_))))))
 obtain ⟨r1,h1,h⟩:=Jh h
 refine Ju (Jbr _ _ r1 h1) (by kernel_rfl) (by kernel_rfl) (zE (Jc (Ja (Jf (zE (Jc (Jn ?_)))))))
 obtain ⟨o45,h45,h⟩:=Kq h
 refine Ki 76 0 (fun (x23,x24)=>⟨[(0,.ref 1000000 0),(4,Jo .frozen (a4:(List Jb))),(6,.ref 6 0),(7,.ref 7 0),(10,Jo (.own 119006) (r1:(List Jb))),(11,.int .i64 x23)],[(6,.cells (cellsOf a1)),(7,.cells (cellsOf a2)),(1000000,.cells ([.ex 1000000000 1 24 (((x24:(List (List Jb))).map cellsOf).length) 0 (((x24:(List (List Jb))).map cellsOf).length)]))],[(119006,(((r1).map cellsOf).length,3)),(1000000000,(((x24:(List (List Jb))).map cellsOf).length,0))],[(1000000000,(1,(24,(x24:(List (List Jb))).map cellsOf)))]⟩) (fun x46=>⟨[],[(1000000,.cells ([.ex 1000000000 1 24 (((x46:(List (List Jb))).map cellsOf).length) 0 (((x46:(List (List Jb))).map cellsOf).length)]))],[(1000000000,(((x46:(List (List Jb))).map cellsOf).length,0))],[(1000000000,(1,(24,(x46:(List (List Jb))).map cellsOf)))]⟩) h45 (by kernel_rfl) (fun _=>by kernel_rfl) ?_ ?_
 ·rintro ⟨x23,x24⟩ oh44 h44
  unfold Yg at h44
  refine Ja (Ja (Jf (zR 2 ?_)))
  refine Kf (L:=(r1:(List Jb))) (by kernel_rfl) ?_
  refine zE (Jc ?_)
  rcases Jk h44 with ⟨hb,h44⟩|⟨hb,h44⟩
  ·refine zT hb (Jj (Jc ?_))
   obtain ⟨o56,h56,h44⟩:=Kq h44
   refine Vx (o:=o56) 76 (fun x57=>⟨[(0,.ref 1000000 0),(4,Jo .frozen (a4:(List Jb))),(6,.ref 6 0),(7,.ref 7 0),(10,Jo (.own 119006) (r1:(List Jb))),(11,.int .i64 x23)],[(6,.cells (cellsOf a1)),(7,.cells (cellsOf a2)),(1000000,.cells ([.ex 1000000000 1 24 (((x57:(List (List Jb))).map cellsOf).length) 0 (((x57:(List (List Jb))).map cellsOf).length)]))],[(119006,(((r1).map cellsOf).length,3)),(1000000000,(((x57:(List (List Jb))).map cellsOf).length,0))],[(1000000000,(1,(24,(x57:(List (List Jb))).map cellsOf)))]⟩) ?_ ?_
   ·refine Jn (Ja (Jf (zE (Jc (Ja (Jf (zR 2 ?_)))))))
    obtain ⟨x58,h57,h56⟩:=Jh h56
    refine Jpa (tk:=28) h57 (by kernel_rfl) ?_
    refine zE (Jc (Ja (Jf (zR 3 ?_))))
    obtain ⟨x59,h58,h56⟩:=Jh h56
    refine zI h58 (zR 2 ?_)
    obtain ⟨x60,h59,h56⟩:=Jh h56
    refine Zz (tk:=28) h59 (by kernel_rfl) (by kernel_rfl) ?_
    refine zE (Jc (Ja (Ja (Jf (zR 3 ?_)))))
    obtain ⟨r61,h60,h56⟩:=Jh h56
    refine Ju (Jgt _ _ _ r61 h60) (by kernel_rfl) (by kernel_rfl) (zE (Jc ?_))
    rcases Jk h56 with ⟨hb,h56⟩|⟨hb,h56⟩
    ·refine zT hb (Kc (Jv (Jt ?_)))
     cases h56
     exact zJ
    refine zU hb (Jj (Jc (Ja (Kv (by kernel_rfl) (by kernel_rfl) (zR 3 ?_)))))
    obtain ⟨x62,h61,h56⟩:=Jh h56
    refine zI h61 (zR 1 ?_)
    obtain ⟨r63,h62,h56⟩:=Jh h56
    refine Ju (Mw _ _ r63 h62) (by kernel_rfl) (by kernel_rfl) (zE (Jc (Ja (Ja (Jf (zE (Jc ?_)))))))
    rcases Jk h56 with ⟨hb,h56⟩|⟨hb,h56⟩
    ·refine zT hb (Ja (Jf (zR 7 ?_)))
     obtain ⟨x64,h63,h56⟩:=Jh h56
     refine Tg (tk:=1000000000) (N:=((x24:(List (List Jb))).map cellsOf).length) h63 (by kernel_rfl) (by kernel_rfl) (by kernel_rfl) ?_
     refine zE (Jc (Kc (Jv (Jt ?_))))
     cases h56
     exact zJ
    refine zU hb (Jj (Jc (Ja (Kv (by kernel_rfl) (by kernel_rfl) (zR 3 ?_)))))
    obtain ⟨x65,h64,h56⟩:=Jh h56
    refine zI h64 (zR 1 ?_)
    obtain ⟨r66,h65,h56⟩:=Jh h56
    refine Ju (Mn _ _ r66 h65) (by kernel_rfl) (by kernel_rfl) (zE (Jc (Jf (zR 5 ?_))))
    obtain ⟨r67,h66,h56⟩:=Jh h56
    refine Jbj (some 1000000) [1000000000] [] none (hrc_d_ref12_Paths_search _ _ _ _ _ r67 h66) (by kernel_rfl) (by kernel_rfl) (by kernel_rfl) (by kernel_rfl) (by kernel_rfl) ?_
    refine zN (Kd ?_)
    cases h56
    exact zJ
   rintro x57 rfl
   have h44:=Kg h44
   refine Jf (zE ?_)
   cases h44
   exact zB
  refine zU hb (Kc (Jv ?_))
  cases h44
  exact zX
 rintro x46 s' rfl hs
 have h:=Kg h
 refine Jt ?_
 cases h
 exact Jn2 hs (by kernel_rfl) (by kernel_rfl) (by kernel_rfl)
noncomputable def Uq (n:Nat):Jw→Jd→Jg→Jg→(List Jb)→Option Jw:=Nat.rec (fun _ _ _ _ _=>none) (fun _ ih=>Uj ih) n
theorem Fd : ∀ (n:Nat) (a0:Jw) (a1:Jd) (a2:Jg) (a3:Jg) (a4:(List Jb)) (r:Jw),Uq n a0 a1 a2 a3 a4=some r→Jah Go.Proofs.Tryz.prog GlS 32 (some (.cells [.ex 1000000000 1 24 (((a0.L:(List (List Jb))).map cellsOf).length) 0 (((a0.L:(List (List Jb))).map cellsOf).length)])) [(1,24,(a0.L:(List (List Jb))).map cellsOf)] [.ref 1000000 0,Enc.pv a1,Enc.pv a2,Enc.pv a3,Enc.pv a4] (.tup []) (some (.cells [.ex 1000000000 1 24 (((r.L:(List (List Jb))).map cellsOf).length) 0 (((r.L:(List (List Jb))).map cellsOf).length)])) [(1,24,(r.L:(List (List Jb))).map cellsOf)]
 | 0,_,_,_,_,_,_,h=>by cases h
 | n+1,a0,a1,a2,a3,a4,r,h=>Fg (Uq n) (Fd n) a0 a1 a2 a3 a4 r h
noncomputable def Dr (a0:Jw) (a1:Jd) (a2:Jg) (a3:Jg) (a4:(List Jb)):Option Jw:=Uj (Uq Hw) a0 a1 a2 a3 a4
theorem Rk (a0:Jw) (a1:Jd) (a2:Jg) (a3:Jg) (a4:(List Jb)) (r:Jw) (h:Dr a0 a1 a2 a3 a4=some r):Jah Go.Proofs.Tryz.prog GlS 32 (some (.cells [.ex 1000000000 1 24 (((a0.L:(List (List Jb))).map cellsOf).length) 0 (((a0.L:(List (List Jb))).map cellsOf).length)])) [(1,24,(a0.L:(List (List Jb))).map cellsOf)] [.ref 1000000 0,Enc.pv a1,Enc.pv a2,Enc.pv a3,Enc.pv a4] (.tup []) (some (.cells [.ex 1000000000 1 24 (((r.L:(List (List Jb))).map cellsOf).length) 0 (((r.L:(List (List Jb))).map cellsOf).length)])) [(1,24,(r.L:(List (List Jb))).map cellsOf)]:=Fg (Uq Hw) (Fd Hw) a0 a1 a2 a3 a4 r h
/-! signallingref12.text -/
noncomputable def Vg (a0:Jd) (a1:Int) (a2:Int):Option ByteArray :=
 bif decide (a2<0) then (
  (ixO a0.Signals a1).bind fun x1 =>
  (Pb x1.Name (ByteArray.mk #[45,101,110,100])).bind fun x2 =>
  some x2
 ) else (
  (ixO a0.Signals a1).bind fun x3 =>
  (Pb x3.Name (ByteArray.mk #[45])).bind fun x4 =>
  (ixO a0.Signals a2).bind fun x5 =>
  (Pb x4 x5.Name).bind fun x6 =>
  some x6
 )
theorem Mz (a0:Jd) (a1:Int) (a2:Int) (r:ByteArray) (h:Vg a0 a1 a2=some r):Km Go.Proofs.Tryz.prog GlS 34 [Enc.pv a0,Enc.pv a1,Enc.pv a2] (Enc.pv r):=by
 unfold Vg at h
 refine Jr Go.Proofs.Tryz.func34 (by rfl) rfl Go.Proofs.Tryz.ntmps34 (by rfl) rfl ?_
 refine Ja (Jf (zE (Jc (Ja (Ja (Jf (zE (Jc ?_))))))))
 rcases Jk h with ⟨hb,h⟩|⟨hb,h⟩
 ·refine zT hb (Ja (Jf (zR 3 ?_)))
  obtain ⟨x1,h1,h⟩:=Jh h
  refine zI h1 (zR 2 ?_)
  obtain ⟨x2,h2,h⟩:=Jh h
  refine Oi h2 (by kernel_rfl) (zE (Jc (Jp (Ji ?_))))
  cases h
  exact zQ
 refine zU hb (Jj (Jc (Ja (Kv (by kernel_rfl) (by kernel_rfl) (zR 3 ?_)))))
 obtain ⟨x3,h3,h⟩:=Jh h
 refine zI h3 (zR 2 ?_)
 obtain ⟨x4,h4,h⟩:=Jh h
 refine Oi h4 (by kernel_rfl) (zR 3 ?_)
 obtain ⟨x5,h5,h⟩:=Jh h
 refine zI h5 (zR 2 ?_)
 obtain ⟨x6,h6,h⟩:=Jh h
 refine Oi h6 (by kernel_rfl) (zE (Jc (Jp ?_)))
 cases h
 exact zQ
/-! signallingref09.insert -/
noncomputable def Es (a0:(List Je)) (a1:Je):(Int×(List Je))→Option ((Int×(List Je))⊕(((List Je)×Int)⊕(List Je))):=fun (x18,x19) =>
 ((bif decide (x18<((a0.length:Nat):Int)) then (
  (ixO a0 x18).bind fun x31 =>
  ((bif decide (x31.El<a1.El) then some true else (
   (ixO a0 x18).bind fun x33 =>
   ((bif decide (x33.El=a1.El) then (
    (ixO a0 x18).bind fun x35 =>
    some (decide (x35.Pos<a1.Pos))
   ) else some false):Option Bool).bind fun b34 =>
   some b34
  )):Option Bool).bind fun b32 =>
  some b32
 ) else some false):Option Bool).bind fun b30 =>
 bif b30 then (
  (ixO a0 x18).bind fun x36 =>
  (Vv x19 [x36]).bind fun x37 =>
  some (.inl (w64 (x18+1),x37))
 ) else (
  some (.inr (.inl (x19,x18)))
 )
noncomputable def Ea (a0:(List Je)) (a1:Je):Option (List Je) :=
 onInl (α:=((List Je)×Int)) (β:=(List Je)) (Kl (Es a0 a1) (0,([]:(List Je)))) fun (x28,x29) =>
 onInl (α:=(List Je)) (β:=(List Je)) (
  ((bif decide (x29=((a0.length:Nat):Int)) then some true else (
   (ixO a0 x29).bind fun x43 =>
   some (!(Ua x43 a1))
  )):Option Bool).bind fun b42 =>
  bif b42 then (
   (Vv x28 [a1]).bind fun x44 =>
   some (.inl x44)
  ) else (
   some (.inl x28)
  )
 ) fun x41 =>
 (slO a0 (some x29) none none).bind fun x45 =>
 (Vv x41 x45).bind fun x46 =>
 some x46
theorem Jd1 (a0:(List Je)) (a1:Je) (r:(List Je)) (h:Ea a0 a1=some r):Km Go.Proofs.Tryz.prog GlS 74 [Enc.pv a0,Enc.pv a1] (Jo (.own 100005) r):=by
 unfold Ea at h
 refine Jr Go.Proofs.Tryz.func74 (by rfl) rfl Go.Proofs.Tryz.ntmps74 (by rfl) rfl ?_
 refine Ja (Jf (zE (Jc (Ja (Jf (zE (Jc (Ja (Jf (zE (Jc (Ja (Jn ?_)))))))))))))
 refine Df 5 100005 2 16 (by kernel_rfl) (by kernel_rfl) ?_
 obtain ⟨o26,h26,h⟩:=Kq h
 refine Ki 72 0 (fun (x18,x19)=>⟨[(0,Jo .frozen (a0:(List Je))),(3,.ref 3 0),(5,Jo (.own 100005) (x19:(List Je))),(6,.int .i64 x18)],[(3,.cells (cellsOf a1))],[(100005,(((x19).map cellsOf).length,2))],[]⟩) (fun (x28,x29)=>⟨[(0,Jo .frozen (a0:(List Je))),(3,.ref 3 0),(5,Jo (.own 100005) (x28:(List Je))),(6,.int .i64 x29)],[(3,.cells (cellsOf a1))],[(100005,(((x28).map cellsOf).length,2))],[]⟩) h26 (by kernel_rfl) (fun _=>by kernel_rfl) ?_ ?_
 ·rintro ⟨x18,x19⟩ oh25 h25
  unfold Es at h25
  refine Ja (Ja (Kv (by kernel_rfl) (by kernel_rfl) (zR 2 ?_)))
  refine Kf (L:=(a0:(List Je))) (by kernel_rfl) ?_
  obtain ⟨b30,h27,h25⟩:=Jh h25
  refine zR 2 ?_
  refine Kt 29 40 (.bool b30) ?_ ?_
  ·rcases Jk h27 with ⟨hb,h27⟩|⟨hb,h27⟩
   ·refine zS 11 hb (zR 2 ?_)
    obtain ⟨x31,h28,h27⟩:=Jh h27
    refine zI h28 ?_
    obtain ⟨b32,h29,h27⟩:=Jh h27
    refine zR 6 ?_
    refine Jq2 19 39 (.bool b32) ?_ ?_
    ·rcases Jk h29 with ⟨hb,h29⟩|⟨hb,h29⟩
     ·refine zS 20 hb ?_
      cases h29
      exact zF
     refine zS 20 hb (zR 2 ?_)
     obtain ⟨x33,h30,h29⟩:=Jh h29
     refine zI h30 ?_
     obtain ⟨b34,h31,h29⟩:=Jh h29
     refine zR 6 ?_
     refine Jq2 9 38 (.bool b34) ?_ ?_
     ·rcases Jk h31 with ⟨hb,h31⟩|⟨hb,h31⟩
      ·refine zS 29 hb (zR 2 ?_)
       obtain ⟨x35,h32,h31⟩:=Jh h31
       refine zI h32 ?_
       cases h31
       exact zF
      refine zS 29 hb ?_
      cases h31
      exact zF
     cases h29
     exact zF
    cases h27
    exact zF
   refine zS 11 hb ?_
   cases h27
   exact zF
  refine zN (Jc ?_)
  rcases Jk h25 with ⟨hb,h25⟩|⟨hb,h25⟩
  ·refine zT hb (Jj (Jc (Jn (Ja (Jf (zR 3 ?_))))))
   obtain ⟨x36,h33,h25⟩:=Jh h25
   refine zI h33 (zR 2 ?_)
   obtain ⟨x37,h34,h25⟩:=Jh h25
   refine Zz (tk:=100005) h34 (by kernel_rfl) (by kernel_rfl) ?_
   refine zE (Jc (Jf (zE (Kd ?_))))
   cases h25
   exact zB
  refine zU hb (Kc (Jv ?_))
  cases h25
  exact zX
 rintro ⟨x28,x29⟩ s' rfl hs
 have h:=Kg h
 refine Jt (Jc (Ke hs ?_))
 obtain ⟨o38,h38,h⟩:=Kq h
 refine Vx (o:=o38) 72 (fun x41=>⟨[(0,Jo .frozen (a0:(List Je))),(5,Jo (.own 100005) (x41:(List Je))),(6,.int .i64 x29)],[],[(100005,(((x41).map cellsOf).length,2))],[]⟩) ?_ ?_
 ·refine Ja (Kv (by kernel_rfl) (by kernel_rfl) (zR 2 ?_))
  refine Kf (L:=(a0:(List Je))) (by kernel_rfl) ?_
  obtain ⟨b42,h39,h38⟩:=Jh h38
  refine zR 2 ?_
  refine Kt 7 61 (.bool b42) ?_ ?_
  ·rcases Jk h39 with ⟨hb,h39⟩|⟨hb,h39⟩
   ·refine zS 54 hb ?_
    cases h39
    exact zF
   refine zS 54 hb (zR 2 ?_)
   obtain ⟨x43,h40,h39⟩:=Jh h39
   refine zI h40 ?_
   cases h39
   exact zF
  refine zN (Jc ?_)
  rcases Jk h38 with ⟨hb,h38⟩|⟨hb,h38⟩
  ·refine zT hb (Jf (zR 3 ?_))
   obtain ⟨x44,h41,h38⟩:=Jh h38
   refine Zz (tk:=100005) h41 (by kernel_rfl) (by kernel_rfl) ?_
   refine zE ?_
   cases h38
   exact zJ
  refine zU hb (Jj ?_)
  cases h38
  exact zJ
 rintro x41 rfl
 have h:=Kg h
 refine Ja (Jf (zR 3 ?_))
 obtain ⟨x45,h42,h⟩:=Jh h
 refine p_sl h42 .frozen (by kernel_rfl) (by kernel_rfl) (by kernel_rfl) ?_
 obtain ⟨x46,h43,h⟩:=Jh h
 refine Zz (tk:=100005) h43 (by kernel_rfl) (by kernel_rfl) ?_
 refine zE (Jc (Ja (Jf (zE (Jc (Jp ?_))))))
 cases h
 exact zQ
/-! signallingref09.Settings -/
noncomputable def Yp (a0:Jd) (a1:(List Jb)):(Int×(List Je))→Option ((Int×(List Je))⊕((List Je)⊕(List Je))):=fun (x20,x21) =>
 bif decide (x20<((a1.length:Nat):Int)) then (
  onInl (α:=(List Je)) (β:=((Int×(List Je))⊕((List Je)⊕(List Je)))) (
   (ixO a1 x20).bind fun x37 =>
   (Ez a0 x37).bind fun r38 =>
   bif (r38.2&&(!(decide (r38.1=0)))) then (
    (ixO a1 x20).bind fun x39 =>
    (Ea x21 (Je.mk x39.El r38.1)).bind fun r40 =>
    some (.inl r40)
   ) else (
    some (.inl x21)
   )
  ) fun x36 =>
  some (.inl (w64 (x20+1),x36))
 ) else (
  some (.inr (.inl x21))
 )
noncomputable def Bh (a0:Jd) (a1:(List Jb)):Option (List Je) :=
 onInl (α:=(List Je)) (β:=(List Je)) (Kl (Yp a0 a1) (0,([]:(List Je)))) fun x31 =>
 some x31
theorem Jbu (a0:Jd) (a1:(List Jb)) (r:(List Je)) (h:Bh a0 a1=some r):Km Go.Proofs.Tryz.prog GlS 35 [Enc.pv a0,Enc.pv a1] (Enc.pv r):=by
 unfold Bh at h
 refine Jr Go.Proofs.Tryz.func35 (by rfl) rfl Go.Proofs.Tryz.ntmps35 (by rfl) rfl ?_
 refine Ja (Jf (zE (Jc (Ja (Jf (zE (Jc (Ja (Ja (Jf (zE (Jc (Jn ?_)))))))))))))
 obtain ⟨o29,h29,h⟩:=Kq h
 refine Ki 39 0 (fun (x20,x21)=>⟨[(1,Jo .frozen (a1:(List Jb))),(2,.ref 2 0),(5,Jo .frozen (x21:(List Je))),(6,.int .i64 x20)],[(2,.cells (cellsOf a0))],[],[]⟩) (fun x31=>⟨[(5,Jo .frozen (x31:(List Je)))],[],[],[]⟩) h29 (by kernel_rfl) (fun _=>by kernel_rfl) ?_ ?_
 ·rintro ⟨x20,x21⟩ oh28 h28
  unfold Yp at h28
  refine Ja (Ja (Jf (zR 2 ?_)))
  refine Kf (L:=(a1:(List Jb))) (by kernel_rfl) ?_
  refine zE (Jc ?_)
  rcases Jk h28 with ⟨hb,h28⟩|⟨hb,h28⟩
  ·refine zT hb (Jj (Jc ?_))
   obtain ⟨o34,h34,h28⟩:=Kq h28
   refine Vx (o:=o34) 39 (fun x36=>⟨[(1,Jo .frozen (a1:(List Jb))),(2,.ref 2 0),(5,Jo .frozen (x36:(List Je))),(6,.int .i64 x20)],[(2,.cells (cellsOf a0))],[],[]⟩) ?_ ?_
   ·refine Jn (Ja (Kv (by kernel_rfl) (by kernel_rfl) (zR 3 ?_)))
    obtain ⟨x37,h35,h34⟩:=Jh h34
    refine zI h35 (zR 1 ?_)
    obtain ⟨r38,h36,h34⟩:=Jh h34
    refine Ju (Xh _ _ r38 h36) (by kernel_rfl) (by kernel_rfl) (zE (Jc (Ja (Jf (zR 2 ?_)))))
    refine Qb 3 28 (r38.2&&(!(decide (r38.1=0)))) (fun x hx=>?_) ?_
    ·rcases Bq hx with ⟨hb,hx⟩|⟨hb,hx⟩
     ·refine zS 25 hb ?_
      subst hx
      exact zF
     refine zS 25 hb ?_
     subst hx
     exact zF
    refine zN (Jc ?_)
    rcases Jk h34 with ⟨hb,h34⟩|⟨hb,h34⟩
    ·refine zT hb (Jf (zR 3 ?_))
     obtain ⟨x39,h37,h34⟩:=Jh h34
     refine zI h37 (zR 4 ?_)
     obtain ⟨r40,h38,h34⟩:=Jh h34
     refine Ju (Jd1 _ _ r40 h38) (by kernel_rfl) (by kernel_rfl) (zE (Kd ?_))
     cases h34
     exact zJ
    refine zU hb (Jj (Kd ?_))
    cases h34
    exact zJ
   rintro x36 rfl
   have h28:=Kg h28
   refine Jf (zE ?_)
   cases h28
   exact zB
  refine zU hb (Kc (Jv ?_))
  cases h28
  exact zX
 rintro x31 s' rfl hs
 have h:=Kg h
 refine Jt (Jc (Ke hs (Ja (Jf (zE (Jc (Jp ?_)))))))
 cases h
 exact zQ
/-! signallingref09.Length -/
noncomputable def Bj (a0:Jd) (a1:(List Jb)):(Int×Int)→Option ((Int×Int)⊕(Int⊕Int)):=fun (x10,x11) =>
 bif decide (x11<((a1.length:Nat):Int)) then (
  onInl (α:=Int) (β:=((Int×Int)⊕(Int⊕Int))) (
   (ixO a1 x11).bind fun x27 =>
   (Wc a0 x27.El).bind fun r28 =>
   bif r28 then (
    (ixO a1 x11).bind fun x29 =>
    (ixO a0.Elements x29.El).bind fun x30 =>
    some (.inl (w64 (x10+x30.Length)))
   ) else (
    some (.inl x10)
   )
  ) fun x26 =>
  some (.inl (x26,w64 (x11+1)))
 ) else (
  some (.inr (.inl x10))
 )
noncomputable def Dw (a0:Jd) (a1:(List Jb)):Option Int :=
 onInl (α:=Int) (β:=Int) (Kl (Bj a0 a1) (0,0)) fun x21 =>
 some x21
theorem Jdc (a0:Jd) (a1:(List Jb)) (r:Int) (h:Dw a0 a1=some r):Km Go.Proofs.Tryz.prog GlS 37 [Enc.pv a0,Enc.pv a1] (Enc.pv r):=by
 unfold Dw at h
 refine Jr Go.Proofs.Tryz.func37 (by rfl) rfl Go.Proofs.Tryz.ntmps37 (by rfl) rfl ?_
 refine Ja (Jf (zE (Jc (Ja (Jf (zE (Jc (Ja (Ja (Jf (zE (Jc (Jn ?_)))))))))))))
 obtain ⟨o20,h20,h⟩:=Kq h
 refine Ki 33 0 (fun (x10,x11)=>⟨[(1,Jo .frozen (a1:(List Jb))),(2,.ref 2 0),(5,.int .i64 x10),(6,.int .i64 x11)],[(2,.cells (cellsOf a0))],[],[]⟩) (fun x21=>⟨[(5,.int .i64 x21)],[],[],[]⟩) h20 (by kernel_rfl) (fun _=>by kernel_rfl) ?_ ?_
 ·rintro ⟨x10,x11⟩ oh19 h19
  unfold Bj at h19
  refine Ja (Ja (Jf (zR 2 ?_)))
  refine Kf (L:=(a1:(List Jb))) (by kernel_rfl) ?_
  refine zE (Jc ?_)
  rcases Jk h19 with ⟨hb,h19⟩|⟨hb,h19⟩
  ·refine zT hb (Jj (Jc ?_))
   obtain ⟨o25,h25,h19⟩:=Kq h19
   refine Vx (o:=o25) 33 (fun x26=>⟨[(1,Jo .frozen (a1:(List Jb))),(2,.ref 2 0),(5,.int .i64 x26),(6,.int .i64 x11)],[(2,.cells (cellsOf a0))],[],[]⟩) ?_ ?_
   ·refine Jn (Ja (Kv (by kernel_rfl) (by kernel_rfl) (zR 3 ?_)))
    obtain ⟨x27,h26,h25⟩:=Jh h25
    refine zI h26 (zR 2 ?_)
    obtain ⟨r28,h27,h25⟩:=Jh h25
    refine Ju (Db _ _ r28 h27) (by kernel_rfl) (by kernel_rfl) (zN (Jc ?_))
    rcases Jk h25 with ⟨hb,h25⟩|⟨hb,h25⟩
    ·refine zT hb (Kv (by kernel_rfl) (by kernel_rfl) (zR 5 ?_))
     obtain ⟨x29,h28,h25⟩:=Jh h25
     refine zI h28 (zR 2 ?_)
     obtain ⟨x30,h29,h25⟩:=Jh h25
     refine zI h29 (zE (Kd ?_))
     cases h25
     exact zJ
    refine zU hb (Jj (Kd ?_))
    cases h25
    exact zJ
   rintro x26 rfl
   have h19:=Kg h19
   refine Jf (zE ?_)
   cases h19
   exact zB
  refine zU hb (Kc (Jv ?_))
  cases h19
  exact zX
 rintro x21 s' rfl hs
 have h:=Kg h
 refine Jt (Jc (Ke hs (Ja (Jf (zE (Jc (Jp ?_)))))))
 cases h
 exact zQ
/-! signallingref12.decimal -/
noncomputable def Wv : (Int×ByteArray)→Option ((Int×ByteArray)⊕(ByteArray⊕ByteArray)):=fun (x2,x3) =>
 bif decide (0<x2) then (
  (Pb (bytesOf [IntKind.u8.wrap (w64 (48+(x2.tmod 10)))]) x3).bind fun x6 =>
  some (.inl (w64 (x2.tdiv 10),x6))
 ) else (
  some (.inr (.inl x3))
 )
noncomputable def Ui (a0:Int):Option ByteArray :=
 onInl (α:=ByteArray) (β:=ByteArray) (Kl (Wv) (a0,ByteArray.empty)) fun x5 =>
 some x5
theorem Jcb (a0:Int) (r:ByteArray) (h:Ui a0=some r):Km Go.Proofs.Tryz.prog GlS 39 [Enc.pv a0] (Enc.pv r):=by
 unfold Ui at h
 refine Jr Go.Proofs.Tryz.func39 (by rfl) rfl Go.Proofs.Tryz.ntmps39 (by rfl) rfl ?_
 refine Ja (Jf (zE (Jc (Ja (Jf (zE (Jc (Ja (Jn ?_)))))))))
 obtain ⟨o4,h4,h⟩:=Kq h
 refine Ki 17 0 (fun (x2,x3)=>⟨[(0,.int .i64 x2),(3,.str x3)],[],[],[]⟩) (fun x5=>⟨[(3,.str x5)],[],[],[]⟩) h4 (by kernel_rfl) (fun _=>by kernel_rfl) ?_ ?_
 ·rintro ⟨x2,x3⟩ oh3 h3
  unfold Wv at h3
  refine Ja (Ja (Jf (zE (Jc ?_))))
  rcases Jk h3 with ⟨hb,h3⟩|⟨hb,h3⟩
  ·refine zT hb (Jj (Jc (Jn (Ja (Jf (zR 5 ?_))))))
   refine Jv4 (ns:=[IntKind.u8.wrap (w64 (48+(x2.tmod 10)))]) (by kernel_rfl) ?_
   refine zR 1 ?_
   obtain ⟨x6,h5,h3⟩:=Jh h3
   refine Oi h5 (by kernel_rfl) (zE (Jc (Jf (zE (Kd ?_)))))
   cases h3
   exact zB
  refine zU hb (Kc (Jv ?_))
  cases h3
  exact zX
 rintro x5 s' rfl hs
 have h:=Kg h
 refine Jt (Jc (Ke hs (Ja (Jf (zE (Jc (Jp ?_)))))))
 cases h
 exact zQ
/-! signallingref12.From -/
noncomputable def Dx (a0:Jd) (a1:Int) (r4:Jw) (x150:Int) (r228:(Int×Bool)):(Int×Int)→Option ((Int×Int)⊕(Int⊕((Int×(List Jl))⊕((List Jl)⊕(List Jl))))):=fun (x252,x253) =>
 bif decide (x253<x150) then (
  onInl (α:=Int) (β:=((Int×Int)⊕(Int⊕((Int×(List Jl))⊕((List Jl)⊕(List Jl)))))) (
   (Rl 0 (((r4.L:(List (List Jb))).map cellsOf).length) x253).bind fun j281 =>
   (Pw r4.L (((r4.L:(List (List Jb))).map cellsOf).length) j281).bind fun x282 =>
   (Rl 0 (((r4.L:(List (List Jb))).map cellsOf).length) x253).bind fun j283 =>
   (Pw r4.L (((r4.L:(List (List Jb))).map cellsOf).length) j283).bind fun x284 =>
   (ixO x282 (w64 (((x284.length:Nat):Int) - 1))).bind fun x285 =>
   (Zu a0 x285).bind fun r286 =>
   (Vg a0 a1 r286.1).bind fun r287 =>
   (Vg a0 a1 r228.1).bind fun r288 =>
   bif decide (r287=r288) then (
    some (.inl (w64 (x252+1)))
   ) else (
    some (.inl x252)
   )
  ) fun x280 =>
  some (.inl (x280,w64 (x253+1)))
 ) else (
  some (.inr (.inl x252))
 )
noncomputable def Hz (a0:Jd) (a1:Int) (r4:Jw):(Int×(List Jl))→Option ((Int×(List Jl))⊕((List Jl)⊕(List Jl))):=fun (x150,x151) =>
 bif decide (x150<((((r4.L:(List (List Jb))).map cellsOf).length:Nat):Int)) then (
  (Rl 0 (((r4.L:(List (List Jb))).map cellsOf).length) x150).bind fun j225 =>
  (Pw r4.L (((r4.L:(List (List Jb))).map cellsOf).length) j225).bind fun x226 =>
  (ixO x226 (w64 (((x226.length:Nat):Int) - 1))).bind fun x227 =>
  (Zu a0 x227).bind fun r228 =>
  (Vg a0 a1 r228.1).bind fun r229 =>
  (Bh a0 x226).bind fun r230 =>
  (Vz a0 x226).bind fun r231 =>
  (Dw a0 x226).bind fun r232 =>
  (ixO a0.Signals a1).bind fun x233 =>
  (Ya a0 x233.At.El).bind fun r234 =>
  onInl (α:=Int) (β:=((Int×(List Jl))⊕((List Jl)⊕(List Jl)))) (Kl (Dx a0 a1 r4 x150 r228) (1,0)) fun x271 =>
  onInl (α:=ByteArray) (β:=((Int×(List Jl))⊕((List Jl)⊕(List Jl)))) (
   bif decide (1<x271) then (
    (Pb r229 (ByteArray.mk #[46])).bind fun x293 =>
    (Ui x271).bind fun r294 =>
    (Pb x293 r294).bind fun x295 =>
    some (.inl x295)
   ) else (
    some (.inl r229)
   )
  ) fun x292 =>
  (Vv x151 [(Jl.mk x292 a1 r228.1 x226 r230 r231 r234 r232 ([]:(List Jb)) ([]:(List Je)) ([]:(List Int)) ([]:(List Je)) ([]:(List Int)) ([]:(List Jg)))]).bind fun x296 =>
  some (.inl (w64 (x150+1),x296))
 ) else (
  some (.inr (.inl x151))
 )
noncomputable def Zt (a0:Jd) (a1:Int):Option (List Jl) :=
 ((bif decide (a1<0) then some true else (
  some (decide (((a0.Signals.length:Nat):Int)≤a1))
 )):Option Bool).bind fun b1 =>
 bif b1 then (
  some ([]:(List Jl))
 ) else (
  (ixO a0.Signals a1).bind fun x2 =>
  (Yv a0 x2.At).bind fun r3 =>
  bif (!r3.2) then (
   some ([]:(List Jl))
  ) else (
   (Dr (Jw.mk []) a0 r3.1 r3.1 ([]:(List Jb))).bind fun r4 =>
   onInl (α:=(List Jl)) (β:=(List Jl)) (Kl (Hz a0 a1 r4) (0,([]:(List Jl)))) fun x224 =>
   some x224
  )
 )
theorem Xf (a0:Jd) (a1:Int) (r:(List Jl)) (h:Zt a0 a1=some r):Km Go.Proofs.Tryz.prog GlS 12 [Enc.pv a0,Enc.pv a1] (Jo (.own 100008) r):=by
 unfold Zt at h
 refine Jr Go.Proofs.Tryz.func12 (by rfl) rfl Go.Proofs.Tryz.ntmps12 (by rfl) rfl ?_
 refine Ja (Jf (zE (Jc (Ja (Ja (Jf ?_))))))
 obtain ⟨b1,h1,h⟩:=Jh h
 refine zR 3 ?_
 refine Kt 6 26 (.bool b1) ?_ ?_
 ·rcases Jk h1 with ⟨hb,h1⟩|⟨hb,h1⟩
  ·refine zS 20 hb ?_
   cases h1
   exact zF
  refine zS 20 hb (zR 3 ?_)
  refine Kf (L:=(a0.Signals:(List Js))) (by kernel_rfl) ?_
  cases h1
  exact zF
 refine zN (Jc ?_)
 rcases Jk h with ⟨hb,h⟩|⟨hb,h⟩
 ·refine zT hb (Ja (Jf (zE (Jc (Df 4 100008 14 264 (by kernel_rfl) (by kernel_rfl) (Jp (Ji ?_)))))))
  cases h
  exact zQ
 refine zU hb (Jj (Jc (Ja (Kv (by kernel_rfl) (by kernel_rfl) (zR 4 ?_)))))
 obtain ⟨x2,h2,h⟩:=Jh h
 refine zI h2 (zR 2 ?_)
 obtain ⟨r3,h3,h⟩:=Jh h
 refine Ju (Ht _ _ r3 h3) (by kernel_rfl) (by kernel_rfl) (zE (Jc (Ja (Ja (Jf (zE (Jc ?_)))))))
 rcases Jk h with ⟨hb,h⟩|⟨hb,h⟩
 ·refine zT hb (Ja (Jf (zE (Jc (Df 4 100008 14 264 (by kernel_rfl) (by kernel_rfl) (Jp (Ji ?_)))))))
  cases h
  exact zQ
 refine zU hb (Jj (Jc (Ja (Jf (zE (Jc (Ja (Jf (zR 4 ?_)))))))))
 obtain ⟨r4,h4,h⟩:=Jh h
 refine Jbj (some 41) [304600] [(41,0,304600,1,24)] none (Rk _ _ _ _ _ r4 h4) (by kernel_rfl) (by kernel_rfl) (by kernel_rfl) (by kernel_rfl) (by kernel_rfl) ?_
 refine zN (Jc (Ja (Jf (zE (Jc (Ja (Ja (Jf (zE (Jc (Jn (Df 8 100008 14 264 (by kernel_rfl) (by kernel_rfl) ?_))))))))))))
 obtain ⟨o219,h219,h⟩:=Kq h
 refine Ki 154 0 (fun (x150,x151)=>⟨[(1,.int .i64 a1),(2,.ref 2 0),(7,.ref 41 0),(8,Jo (.own 100008) (x151:(List Jl))),(9,.int .i64 x150)],[(2,.cells (cellsOf a0)),(41,.cells ([.ex 304600 1 24 (((r4.L:(List (List Jb))).map cellsOf).length) 0 (((r4.L:(List (List Jb))).map cellsOf).length)]))],[(100008,(((x151).map cellsOf).length,14)),(304600,(((r4.L:(List (List Jb))).map cellsOf).length,0))],[(304600,(1,(24,(r4.L:(List (List Jb))).map cellsOf)))]⟩) (fun x224=>⟨[(8,Jo (.own 100008) (x224:(List Jl)))],[],[(100008,(((x224).map cellsOf).length,14))],[]⟩) h219 (by kernel_rfl) (fun _=>by kernel_rfl) ?_ ?_
 ·rintro ⟨x150,x151⟩ oh218 h218
  unfold Hz at h218
  refine Ja (Ja (Jf (zE (Jc ?_))))
  rcases Jk h218 with ⟨hb,h218⟩|⟨hb,h218⟩
  ·refine zT hb (Jj (Jc (Ja (Jn (Ja (Jf (zR 5 ?_)))))))
   obtain ⟨j225,h220,h218⟩:=Jh h218
   refine Xu (tk:=304600) (k:=1) (N:=((r4.L:(List (List Jb))).map cellsOf).length) h220 (by kernel_rfl) ?_
   obtain ⟨x226,h221,h218⟩:=Jh h218
   refine Jb3 (L:=(r4.L:(List (List Jb)))) (N:=((r4.L:(List (List Jb))).map cellsOf).length) (j:=j225) (y:=x226) (v:=Jo .frozen (x226:(List Jb))) h221 false 1 0 (by kernel_rfl) (by kernel_rfl) ?_
   refine zE (Jc (Ja (Kv (by kernel_rfl) (by kernel_rfl) (zR 3 ?_))))
   refine Kf (L:=(x226:(List Jb))) (by kernel_rfl) ?_
   refine zR 1 ?_
   obtain ⟨x227,h222,h218⟩:=Jh h218
   refine zI h222 (zR 1 ?_)
   obtain ⟨r228,h223,h218⟩:=Jh h218
   refine Ju (Mw _ _ r228 h223) (by kernel_rfl) (by kernel_rfl) (zE (Jc (Ja (Kv (by kernel_rfl) (by kernel_rfl) (zR 3 ?_)))))
   obtain ⟨r229,h224,h218⟩:=Jh h218
   refine Ju (Mz _ _ _ r229 h224) (by kernel_rfl) (by kernel_rfl) (zR 5 ?_)
   obtain ⟨r230,h225,h218⟩:=Jh h218
   refine Ju (Jbu _ _ r230 h225) (by kernel_rfl) (by kernel_rfl) (zR 2 ?_)
   obtain ⟨r231,h226,h218⟩:=Jh h218
   refine Ju (Jbx _ _ r231 h226) (by kernel_rfl) (by kernel_rfl) (zR 2 ?_)
   obtain ⟨r232,h227,h218⟩:=Jh h218
   refine Ju (Jdc _ _ r232 h227) (by kernel_rfl) (by kernel_rfl) (zE (Jc (Ja (Kv (by kernel_rfl) (by kernel_rfl) (zR 4 ?_)))))
   obtain ⟨x233,h228,h218⟩:=Jh h218
   refine zI h228 (zR 3 ?_)
   obtain ⟨r234,h229,h218⟩:=Jh h218
   refine Ju (Gr _ _ r234 h229) (by kernel_rfl) (by kernel_rfl) (zE (Jc (Ja (Jf (zE (Jc (Ja (Ja (Jf (zE (Jc (Jn ?_))))))))))))
   obtain ⟨o265,h265,h218⟩:=Kq h218
   refine Ki 154 2 (fun (x252,x253)=>⟨[(1,.int .i64 a1),(2,.ref 2 0),(7,.ref 41 0),(8,Jo (.own 100008) (x151:(List Jl))),(9,.int .i64 x150),(11,.int .i64 r228.1),(13,.ref 13 0),(14,.int .i64 x252),(15,.int .i64 x253)],[(2,.cells (cellsOf a0)),(13,.cells ([.str r229,.int .i64 a1,.int .i64 r228.1,Jo .frozen (x226:(List Jb)),Jo .frozen (r230:(List Je)),Jo .frozen (r231:(List Int)),.int .i64 r234,.int .i64 r232,.nil,.nil,.nil,.nil,.nil,.nil])),(41,.cells ([.ex 304600 1 24 (((r4.L:(List (List Jb))).map cellsOf).length) 0 (((r4.L:(List (List Jb))).map cellsOf).length)]))],[(100008,(((x151).map cellsOf).length,14)),(304600,(((r4.L:(List (List Jb))).map cellsOf).length,0))],[(304600,(1,(24,(r4.L:(List (List Jb))).map cellsOf)))]⟩) (fun x271=>⟨[(1,.int .i64 a1),(2,.ref 2 0),(7,.ref 41 0),(8,Jo (.own 100008) (x151:(List Jl))),(9,.int .i64 x150),(13,.ref 13 0),(14,.int .i64 x271)],[(2,.cells (cellsOf a0)),(13,.cells ([.str r229,.int .i64 a1,.int .i64 r228.1,Jo .frozen (x226:(List Jb)),Jo .frozen (r230:(List Je)),Jo .frozen (r231:(List Int)),.int .i64 r234,.int .i64 r232,.nil,.nil,.nil,.nil,.nil,.nil])),(41,.cells ([.ex 304600 1 24 (((r4.L:(List (List Jb))).map cellsOf).length) 0 (((r4.L:(List (List Jb))).map cellsOf).length)]))],[(100008,(((x151).map cellsOf).length,14)),(304600,(((r4.L:(List (List Jb))).map cellsOf).length,0))],[(304600,(1,(24,(r4.L:(List (List Jb))).map cellsOf)))]⟩) h265 (by kernel_rfl) (fun _=>by kernel_rfl) ?_ ?_
   ·rintro ⟨x252,x253⟩ oh264 h264
    unfold Dx at h264
    refine Ja (Ja (Jf (zE (Jc ?_))))
    rcases Jk h264 with ⟨hb,h264⟩|⟨hb,h264⟩
    ·refine zT hb (Jj (Jc ?_))
     obtain ⟨o274,h274,h264⟩:=Kq h264
     refine Vx (o:=o274) 154 (fun x280=>⟨[(1,.int .i64 a1),(2,.ref 2 0),(7,.ref 41 0),(8,Jo (.own 100008) (x151:(List Jl))),(9,.int .i64 x150),(11,.int .i64 r228.1),(13,.ref 13 0),(14,.int .i64 x280),(15,.int .i64 x253)],[(2,.cells (cellsOf a0)),(13,.cells ([.str r229,.int .i64 a1,.int .i64 r228.1,Jo .frozen (x226:(List Jb)),Jo .frozen (r230:(List Je)),Jo .frozen (r231:(List Int)),.int .i64 r234,.int .i64 r232,.nil,.nil,.nil,.nil,.nil,.nil])),(41,.cells ([.ex 304600 1 24 (((r4.L:(List (List Jb))).map cellsOf).length) 0 (((r4.L:(List (List Jb))).map cellsOf).length)]))],[(100008,(((x151).map cellsOf).length,14)),(304600,(((r4.L:(List (List Jb))).map cellsOf).length,0))],[(304600,(1,(24,(r4.L:(List (List Jb))).map cellsOf)))]⟩) ?_ ?_
     ·refine Jn (Ja (Kv (by kernel_rfl) (by kernel_rfl) (zR 6 ?_)))
      obtain ⟨j281,h275,h274⟩:=Jh h274
      refine Xu (tk:=304600) (k:=1) (N:=((r4.L:(List (List Jb))).map cellsOf).length) h275 (by kernel_rfl) ?_
      obtain ⟨x282,h276,h274⟩:=Jh h274
      refine Jb3 (L:=(r4.L:(List (List Jb)))) (N:=((r4.L:(List (List Jb))).map cellsOf).length) (j:=j281) (y:=x282) (v:=Jo .frozen (x282:(List Jb))) h276 false 1 0 (by kernel_rfl) (by kernel_rfl) ?_
      refine zR 5 ?_
      obtain ⟨j283,h277,h274⟩:=Jh h274
      refine Xu (tk:=304600) (k:=1) (N:=((r4.L:(List (List Jb))).map cellsOf).length) h277 (by kernel_rfl) ?_
      obtain ⟨x284,h278,h274⟩:=Jh h274
      refine Jb3 (L:=(r4.L:(List (List Jb)))) (N:=((r4.L:(List (List Jb))).map cellsOf).length) (j:=j283) (y:=x284) (v:=Jo .frozen (x284:(List Jb))) h278 false 1 0 (by kernel_rfl) (by kernel_rfl) ?_
      refine Kf (L:=(x284:(List Jb))) (by kernel_rfl) ?_
      refine zR 1 ?_
      obtain ⟨x285,h279,h274⟩:=Jh h274
      refine zI h279 (zR 1 ?_)
      obtain ⟨r286,h280,h274⟩:=Jh h274
      refine Ju (Mw _ _ r286 h280) (by kernel_rfl) (by kernel_rfl) (zE (Jc (Ja (Kv (by kernel_rfl) (by kernel_rfl) (zR 3 ?_)))))
      obtain ⟨r287,h281,h274⟩:=Jh h274
      refine Ju (Mz _ _ _ r287 h281) (by kernel_rfl) (by kernel_rfl) (zR 3 ?_)
      obtain ⟨r288,h282,h274⟩:=Jh h274
      refine Ju (Mz _ _ _ r288 h282) (by kernel_rfl) (by kernel_rfl) (zE (Jc ?_))
      rcases Jk h274 with ⟨hb,h274⟩|⟨hb,h274⟩
      ·refine zT hb (Jf (zE (Kd ?_)))
       cases h274
       exact zJ
      refine zU hb (Jj (Kd ?_))
      cases h274
      exact zJ
     rintro x280 rfl
     have h264:=Kg h264
     refine Jf (zE ?_)
     cases h264
     exact zB
    refine zU hb (Kc (Jv ?_))
    cases h264
    exact zX
   rintro x271 s' rfl hs
   have h218:=Kg h218
   refine Jt (Jc (Ke hs ?_))
   obtain ⟨o286,h286,h218⟩:=Kq h218
   refine Vx (o:=o286) 154 (fun x292=>⟨[(1,.int .i64 a1),(2,.ref 2 0),(7,.ref 41 0),(8,Jo (.own 100008) (x151:(List Jl))),(9,.int .i64 x150),(13,.ref 13 0)],[(2,.cells (cellsOf a0)),(13,.cells ([.str x292,.int .i64 a1,.int .i64 r228.1,Jo .frozen (x226:(List Jb)),Jo .frozen (r230:(List Je)),Jo .frozen (r231:(List Int)),.int .i64 r234,.int .i64 r232,.nil,.nil,.nil,.nil,.nil,.nil])),(41,.cells ([.ex 304600 1 24 (((r4.L:(List (List Jb))).map cellsOf).length) 0 (((r4.L:(List (List Jb))).map cellsOf).length)]))],[(100008,(((x151).map cellsOf).length,14)),(304600,(((r4.L:(List (List Jb))).map cellsOf).length,0))],[(304600,(1,(24,(r4.L:(List (List Jb))).map cellsOf)))]⟩) ?_ ?_
   ·refine Ja (Jf (zE (Jc ?_)))
    rcases Jk h286 with ⟨hb,h286⟩|⟨hb,h286⟩
    ·refine zT hb (Kv (by kernel_rfl) (by kernel_rfl) (zR 2 ?_))
     obtain ⟨x293,h287,h286⟩:=Jh h286
     refine Oi h287 (by kernel_rfl) (zR 1 ?_)
     obtain ⟨r294,h288,h286⟩:=Jh h286
     refine Ju (Jcb _ r294 h288) (by kernel_rfl) (by kernel_rfl) ?_
     obtain ⟨x295,h289,h286⟩:=Jh h286
     refine Oi h289 (by kernel_rfl) (zE ?_)
     cases h286
     exact zJ
    refine zU hb (Jj ?_)
    cases h286
    exact zJ
   rintro x292 rfl
   have h218:=Kg h218
   refine Ke (Wkr.of (n:=154) (j:=⟨[(1,.int .i64 a1),(2,.ref 2 0),(7,.ref 41 0),(8,Jo (.own 100008) (x151:(List Jl))),(9,.int .i64 x150),(13,.ref 13 0)],[(2,.cells (cellsOf a0)),(13,.cells ([.str x292,.int .i64 a1,.int .i64 r228.1,Jo .frozen (x226:(List Jb)),Jo .frozen (r230:(List Je)),Jo .frozen (r231:(List Int)),.int .i64 r234,.int .i64 r232,Jo .frozen (([]:(List Jb)):(List Jb)),Jo .frozen (([]:(List Je)):(List Je)),Jo .frozen (([]:(List Int)):(List Int)),Jo .frozen (([]:(List Je)):(List Je)),Jo .frozen (([]:(List Int)):(List Int)),Jo .frozen (([]:(List Jg)):(List Jg))])),(41,.cells ([.ex 304600 1 24 (((r4.L:(List (List Jb))).map cellsOf).length) 0 (((r4.L:(List (List Jb))).map cellsOf).length)]))],[(100008,(((x151).map cellsOf).length,14)),(304600,(((r4.L:(List (List Jb))).map cellsOf).length,0))],[(304600,(1,(24,(r4.L:(List (List Jb))).map cellsOf)))]⟩) (by kernel_rfl) (by kernel_rfl)) ?_
   refine Jf (zR 3 ?_)
   obtain ⟨x296,h290,h218⟩:=Jh h218
   refine Zz (tk:=100008) h290 (by kernel_rfl) (by kernel_rfl) ?_
   refine zE (Kd (Jc (Jf (zE ?_))))
   cases h218
   exact zB
  refine zU hb (Kc (Jv ?_))
  cases h218
  exact zX
 rintro x224 s' rfl hs
 have h:=Kg h
 refine Jt (Jc (Ke hs (Ja (Jf (zE (Jc (Jp ?_)))))))
 cases h
 exact zQ
theorem Jgk (a0:Jd) (a1:Int) (r:(List Jl)) (h:Zt a0 a1=some r):Km Go.Proofs.Tryz.prog GlS 12 [Enc.pv a0,Enc.pv a1] (Enc.pv r) :=
 (Xf a0 a1 r h).freeze (by kernel_rfl) (by kernel_rfl) (by kernel_rfl)
/-! signallingref12.SameAll -/
noncomputable def Cv (a0:(List Jl)) (a1:(List Jl)):Int→Option (Int⊕(Unit⊕Bool)):=fun x4 =>
 bif decide (x4<((a0.length:Nat):Int)) then (
  (ixO a0 x4).bind fun x8 =>
  (ixO a1 x4).bind fun x9 =>
  (Ep x8 x9).bind fun r10 =>
  bif (!r10) then (
   some (.inr (.inr false))
  ) else (
   some (.inl (w64 (x4+1)))
  )
 ) else (
  some (.inr (.inl ()))
 )
noncomputable def Wy (a0:(List Jl)) (a1:(List Jl)):Option Bool :=
 bif (!(decide (((a0.length:Nat):Int)=((a1.length:Nat):Int)))) then (
  some false
 ) else (
  onInl (α:=Unit) (β:=Bool) (Kl (Cv a0 a1) 0) fun _ =>
  some true
 )
theorem Nt (a0:(List Jl)) (a1:(List Jl)) (r:Bool) (h:Wy a0 a1=some r):Km Go.Proofs.Tryz.prog GlS 10 [Enc.pv a0,Enc.pv a1] (Enc.pv r):=by
 unfold Wy at h
 refine Jr Go.Proofs.Tryz.func10 (by rfl) rfl Go.Proofs.Tryz.ntmps10 (by rfl) rfl ?_
 refine Ja (Jf (zE (Jc (Ja (Ja (Jf (zR 1 ?_)))))))
 refine Kf (L:=(a0:(List Jl))) (by kernel_rfl) ?_
 refine zR 1 ?_
 refine Kf (L:=(a1:(List Jl))) (by kernel_rfl) ?_
 refine zE (Jc ?_)
 rcases Jk h with ⟨hb,h⟩|⟨hb,h⟩
 ·refine zT hb (Ja (Jf (zE (Jc (Jp (Ji ?_))))))
  cases h
  exact zQ
 refine zU hb (Jj (Jc (Ja (Ja (Jf (zE (Jc (Jn ?_))))))))
 obtain ⟨o10,h10,h⟩:=Kq h
 refine Ki 27 0 (fun x4=>⟨[(0,Jo .frozen (a0:(List Jl))),(1,Jo .frozen (a1:(List Jl))),(5,.int .i64 x4)],[],[],[]⟩) (fun (_:Unit)=>⟨[],[],[],[]⟩) h10 (by kernel_rfl) (fun _=>by kernel_rfl) ?_ ?_
 ·rintro x4 oh9 h9
  unfold Cv at h9
  refine Ja (Ja (Jf (zR 2 ?_)))
  refine Kf (L:=(a0:(List Jl))) (by kernel_rfl) ?_
  refine zE (Jc ?_)
  rcases Jk h9 with ⟨hb,h9⟩|⟨hb,h9⟩
  ·refine zT hb (Jj (Jc (Ja (Jn (Ja (Kv (by kernel_rfl) (by kernel_rfl) (zR 2 ?_)))))))
   obtain ⟨x8,h11,h9⟩:=Jh h9
   refine zI h11 (zR 3 ?_)
   obtain ⟨x9,h12,h9⟩:=Jh h9
   refine zI h12 (zR 1 ?_)
   obtain ⟨r10,h13,h9⟩:=Jh h9
   refine Ju (Xk _ _ r10 h13) (by kernel_rfl) (by kernel_rfl) (zE (Jc ?_))
   rcases Jk h9 with ⟨hb,h9⟩|⟨hb,h9⟩
   ·refine zT hb (Ja (Jf (zE (Jc (Jp (Jm (Ji ?_)))))))
    cases h9
    refine Kb fun he=>?_
    subst he
    have h14:=Ku h
    refine Jm (Ji ?_)
    cases h14
    exact zQ
   refine zU hb (Jj (Kd (Jc (Jf (zE ?_)))))
   cases h9
   exact zB
  refine zU hb (Kc (Jv ?_))
  cases h9
  exact zX
 rintro _ s' rfl hs
 have h:=Kg h
 refine Jt (Jc (Ke hs (Ja (Jf (zE (Jc (Jp ?_)))))))
 cases h
 exact zQ
/-! signallinglaw12.RouteFrom -/
noncomputable def Wl (a0:Jd) (a1:Int):Option Bool :=
 (Vj a0).bind fun r1 =>
 bif (!r1) then (
  (Qx ).bind fun r2 =>
  some r2
 ) else (
  (Um a0 a1).bind fun r3 =>
  (Zt a0 a1).bind fun r4 =>
  (Wy r3 r4).bind fun r5 =>
  ((bif r5 then (
   (Qx ).bind fun r7 =>
   some r7
  ) else some false):Option Bool).bind fun b6 =>
  some b6
 )
theorem Jak (a0:Jd) (a1:Int) (r:Bool) (h:Wl a0 a1=some r):Km Go.Proofs.Tryz.prog GlS 3 [Enc.pv a0,Enc.pv a1] (Enc.pv r):=by
 unfold Wl at h
 refine Jr Go.Proofs.Tryz.func3 (by rfl) rfl Go.Proofs.Tryz.ntmps3 (by rfl) rfl ?_
 refine Ja (Jf (zE (Jc (Ja (Ja (Jf (zR 1 ?_)))))))
 obtain ⟨r1,h1,h⟩:=Jh h
 refine Ju (Zq _ r1 h1) (by kernel_rfl) (by kernel_rfl) (zE (Jc ?_))
 rcases Jk h with ⟨hb,h⟩|⟨hb,h⟩
 ·refine zT hb (Ja (Jf ?_))
  obtain ⟨r2,h2,h⟩:=Jh h
  refine Ju (Qv  r2 h2) (by kernel_rfl) (by kernel_rfl) (zE (Jc (Jp (Ji ?_))))
  cases h
  exact zQ
 refine zU hb (Jj (Jc (Ja (Kv (by kernel_rfl) (by kernel_rfl) (zR 2 ?_)))))
 obtain ⟨r3,h3,h⟩:=Jh h
 refine Ju (Gf _ _ r3 h3) (by kernel_rfl) (by kernel_rfl) (zR 2 ?_)
 obtain ⟨r4,h4,h⟩:=Jh h
 refine Ju (Jgk _ _ r4 h4) (by kernel_rfl) (by kernel_rfl) ?_
 obtain ⟨r5,h5,h⟩:=Jh h
 refine Ju (Nt _ _ r5 h5) (by kernel_rfl) (by kernel_rfl) ?_
 obtain ⟨b6,h6,h⟩:=Jh h
 refine zR 1 ?_
 refine Kt 2 18 (.bool b6) ?_ ?_
 ·rcases Jk h6 with ⟨hb,h6⟩|⟨hb,h6⟩
  ·refine zS 16 hb ?_
   obtain ⟨r7,h7,h6⟩:=Jh h6
   refine Ju (Qv  r7 h7) (by kernel_rfl) (by kernel_rfl) ?_
   cases h6
   exact zF
  refine zS 16 hb ?_
  cases h6
  exact zF
 refine zE (Jc (Jp ?_))
 cases h
 exact zQ
/-! signallingref12.All -/
noncomputable def Lt (a0:Jd):(Int×(List Jl))→Option ((Int×(List Jl))⊕((List Jl)⊕((List Jl)×Int))):=fun (x7,x8) =>
 bif decide (x7<((a0.Signals.length:Nat):Int)) then (
  (Zt a0 x7).bind fun r12 =>
  (Vv x8 r12).bind fun x13 =>
  some (.inl (w64 (x7+1),x13))
 ) else (
  some (.inr (.inl x8))
 )
noncomputable def Gx (a0:Jd):Option ((List Jl)×Int) :=
 (Yi a0).bind fun r1 =>
 bif (!(decide (r1=0))) then (
  some (([]:(List Jl)),r1)
 ) else (
  onInl (α:=(List Jl)) (β:=((List Jl)×Int)) (Kl (Lt a0) (0,([]:(List Jl)))) fun x11 =>
  bif decide (48<((x11.length:Nat):Int)) then (
   some (([]:(List Jl)),2)
  ) else (
   some (x11,0)
  )
 )
theorem Jiy (a0:Jd) (r:((List Jl)×Int)) (h:Gx a0=some r):Km Go.Proofs.Tryz.prog GlS 15 [Enc.pv a0] (.tup [Enc.pv r.1,Enc.pv r.2]):=by
 unfold Gx at h
 refine Jr Go.Proofs.Tryz.func15 (by rfl) rfl Go.Proofs.Tryz.ntmps15 (by rfl) rfl ?_
 refine Ja (Jf (zE (Jc (Ja (Jf (zR 1 ?_))))))
 obtain ⟨r1,h1,h⟩:=Jh h
 refine Ju (Li _ r1 h1) (by kernel_rfl) (by kernel_rfl) (zE (Jc (Ja (Ja (Jf (zE (Jc ?_)))))))
 rcases Jk h with ⟨hb,h⟩|⟨hb,h⟩
 ·refine zT hb (Ja (Jf (zE (Jc (Jp (Ji ?_))))))
  cases h
  exact zQ
 refine zU hb (Jj (Jc (Ja (Jf (zE (Jc (Ja (Ja (Jf (zE (Jc (Jn (Df 5 100005 14 264 (by kernel_rfl) (by kernel_rfl) ?_)))))))))))))
 obtain ⟨o9,h9,h⟩:=Kq h
 refine Ki 28 0 (fun (x7,x8)=>⟨[(1,.ref 1 0),(5,Jo (.own 100005) (x8:(List Jl))),(6,.int .i64 x7)],[(1,.cells (cellsOf a0))],[(100005,(((x8).map cellsOf).length,14))],[]⟩) (fun x11=>⟨[(5,Jo (.own 100005) (x11:(List Jl)))],[],[(100005,(((x11).map cellsOf).length,14))],[]⟩) h9 (by kernel_rfl) (fun _=>by kernel_rfl) ?_ ?_
 ·rintro ⟨x7,x8⟩ oh8 h8
  unfold Lt at h8
  refine Ja (Ja (Jf (zR 3 ?_)))
  refine Kf (L:=(a0.Signals:(List Js))) (by kernel_rfl) ?_
  refine zE (Jc ?_)
  rcases Jk h8 with ⟨hb,h8⟩|⟨hb,h8⟩
  ·refine zT hb (Jj (Jc (Ja (Jn (Jf (zR 3 ?_))))))
   obtain ⟨r12,h10,h8⟩:=Jh h8
   refine Ju (Xf _ _ r12 h10) (by kernel_rfl) (by kernel_rfl) ?_
   obtain ⟨x13,h11,h8⟩:=Jh h8
   refine Zz (tk:=100005) h11 (by kernel_rfl) (by kernel_rfl) ?_
   refine zE (Kd (Jc (Jf (zE ?_))))
   cases h8
   exact zB
  refine zU hb (Kc (Jv ?_))
  cases h8
  exact zX
 rintro x11 s' rfl hs
 have h:=Kg h
 refine Jt (Jc (Ke hs (Ja (Ja (Jf (zR 1 ?_))))))
 refine Kf (L:=(x11:(List Jl))) (by kernel_rfl) ?_
 refine zE (Jc ?_)
 rcases Jk h with ⟨hb,h⟩|⟨hb,h⟩
 ·refine zT hb (Ja (Jf (zE (Jc (Jp (Ji ?_))))))
  cases h
  exact zQ
 refine zU hb (Jj (Jc (Ja (Jf (zE (Jc (Jp ?_)))))))
 cases h
 exact zQ
/-! signallinglaw12.RouteAll -/
noncomputable def Yk (a0:Jd):Option Bool :=
 ((bif decide (100<((a0.Elements.length:Nat):Int)) then some true else (
  some (decide (200<((a0.Joints.length:Nat):Int)))
 )):Option Bool).bind fun b1 =>
 ((bif b1 then some true else (
  (Vj a0).bind fun r3 =>
  ((bif (!r3) then (
   (Yi a0).bind fun r5 =>
   some (decide (r5=0))
  ) else some false):Option Bool).bind fun b4 =>
  some b4
 )):Option Bool).bind fun b2 =>
 bif b2 then (
  (Qx ).bind fun r6 =>
  some r6
 ) else (
  (Br a0).bind fun r7 =>
  (Gx a0).bind fun r8 =>
  (Wy r7.1 r8.1).bind fun r9 =>
  ((bif (r9&&(decide (r7.2=r8.2))) then (
   (Qx ).bind fun r11 =>
   some r11
  ) else some false):Option Bool).bind fun b10 =>
  some b10
 )
theorem Jbt (a0:Jd) (r:Bool) (h:Yk a0=some r):Km Go.Proofs.Tryz.prog GlS 4 [Enc.pv a0] (Enc.pv r):=by
 unfold Yk at h
 refine Jr Go.Proofs.Tryz.func4 (by rfl) rfl Go.Proofs.Tryz.ntmps4 (by rfl) rfl ?_
 refine Ja (Jf (zE (Jc (Ja (Ja (Jf (zR 2 ?_)))))))
 refine Kf (L:=(a0.Elements:(List Jq))) (by kernel_rfl) ?_
 obtain ⟨b1,h1,h⟩:=Jh h
 refine zR 2 ?_
 refine Kt 5 16 (.bool b1) ?_ ?_
 ·rcases Jk h1 with ⟨hb,h1⟩|⟨hb,h1⟩
  ·refine zS 11 hb ?_
   cases h1
   exact zF
  refine zS 11 hb (zR 2 ?_)
  refine Kf (L:=(a0.Joints:(List Jx))) (by kernel_rfl) ?_
  cases h1
  exact zF
 obtain ⟨b2,h2,h⟩:=Jh h
 refine zR 1 ?_
 refine Kt 9 26 (.bool b2) ?_ ?_
 ·rcases Jk h2 with ⟨hb,h2⟩|⟨hb,h2⟩
  ·refine zS 17 hb ?_
   cases h2
   exact zF
  refine zS 17 hb (zR 1 ?_)
  obtain ⟨r3,h3,h2⟩:=Jh h2
  refine Ju (Zq _ r3 h3) (by kernel_rfl) (by kernel_rfl) ?_
  obtain ⟨b4,h4,h2⟩:=Jh h2
  refine zR 2 ?_
  refine Jq2 4 25 (.bool b4) ?_ ?_
  ·rcases Jk h4 with ⟨hb,h4⟩|⟨hb,h4⟩
   ·refine zS 21 hb (zR 1 ?_)
    obtain ⟨r5,h5,h4⟩:=Jh h4
    refine Ju (Li _ r5 h5) (by kernel_rfl) (by kernel_rfl) ?_
    cases h4
    exact zF
   refine zS 21 hb ?_
   cases h4
   exact zF
  cases h2
  exact zF
 refine zN (Jc ?_)
 rcases Jk h with ⟨hb,h⟩|⟨hb,h⟩
 ·refine zT hb (Ja (Jf ?_))
  obtain ⟨r6,h6,h⟩:=Jh h
  refine Ju (Qv  r6 h6) (by kernel_rfl) (by kernel_rfl) (zE (Jc (Jp (Ji ?_))))
  cases h
  exact zQ
 refine zU hb (Jj (Jc (Ja (Jf (zR 1 ?_)))))
 obtain ⟨r7,h7,h⟩:=Jh h
 refine Ju (Nz _ r7 h7) (by kernel_rfl) (by kernel_rfl) (zE (Jc (Ja (Jf (zR 1 ?_)))))
 obtain ⟨r8,h8,h⟩:=Jh h
 refine Ju (Jiy _ r8 h8) (by kernel_rfl) (by kernel_rfl) (zE (Jc (Ja (Jf (zR 2 ?_)))))
 obtain ⟨r9,h9,h⟩:=Jh h
 refine Ju (Nt _ _ r9 h9) (by kernel_rfl) (by kernel_rfl) (zR 1 ?_)
 refine Qb 4 45 (r9&&(decide (r7.2=r8.2))) (fun x hx=>?_) ?_
 ·rcases Bq hx with ⟨hb,hx⟩|⟨hb,hx⟩
  ·refine zS 41 hb ?_
   subst hx
   exact zF
  refine zS 41 hb ?_
  subst hx
  exact zF
 obtain ⟨b10,h10,h⟩:=Jh h
 refine zR 1 ?_
 refine Kt 2 48 (.bool b10) ?_ ?_
 ·rcases Jk h10 with ⟨hb,h10⟩|⟨hb,h10⟩
  ·refine zS 46 hb ?_
   obtain ⟨r11,h11,h10⟩:=Jh h10
   refine Ju (Qv  r11 h11) (by kernel_rfl) (by kernel_rfl) ?_
   cases h10
   exact zF
  refine zS 46 hb ?_
  cases h10
  exact zF
 refine zE (Jc (Jp ?_))
 cases h
 exact zQ
/-! signallinglaw12.RouteNames -/
noncomputable def Zs (a0:Jd) (r3:((List Jl)×Int)):(Int×(List (ByteArray×Bool)))→Option ((Int×(List (ByteArray×Bool)))⊕(Unit⊕Bool)):=fun (x12,x13) =>
 bif decide (x12<((r3.1.length:Nat):Int)) then (
  (ixO r3.1 x12).bind fun x20 =>
  ((bif (((Vo (x13:(List (ByteArray×Bool))) x20.Name).getD false)||(decide (x20.Entry<0))) then some true else (
   some (decide (((a0.Signals.length:Nat):Int)≤x20.Entry))
  )):Option Bool).bind fun b21 =>
  bif b21 then (
   some (.inr (.inr false))
  ) else (
   (ixO a0.Signals x20.Entry).bind fun x22 =>
   (Pb x22.Name (ByteArray.mk #[45])).bind fun x23 =>
   ((bif decide (((x20.Name.size:Nat):Int)≤((x23.size:Nat):Int)) then some true else (
    (sslO x20.Name none (some ((x23.size:Nat):Int))).bind fun x25 =>
    some (!(decide (x25=x23)))
   )):Option Bool).bind fun b24 =>
   bif b24 then (
    some (.inr (.inr false))
   ) else (
    some (.inl (w64 (x12+1),(My x20.Name true x13)))
   )
  )
 ) else (
  some (.inr (.inl ()))
 )
noncomputable def Vw (a0:Jd):Option Bool :=
 (Vj a0).bind fun r1 =>
 bif (!r1) then (
  (Qx ).bind fun r2 =>
  some r2
 ) else (
  (Br a0).bind fun r3 =>
  bif (!(decide (r3.2=0))) then (
   ((bif decide (r3.2=2) then (
    (Qx ).bind fun r5 =>
    some r5
   ) else some false):Option Bool).bind fun b4 =>
   some b4
  ) else (
   onInl (α:=Unit) (β:=Bool) (Kl (Zs a0 r3) (0,([]:(List (ByteArray×Bool))))) fun _ =>
   (Qx ).bind fun r26 =>
   some r26
  )
 )
theorem Xn (a0:Jd) (r:Bool) (h:Vw a0=some r):Km Go.Proofs.Tryz.prog GlS 5 [Enc.pv a0] (Enc.pv r):=by
 unfold Vw at h
 refine Jr Go.Proofs.Tryz.func5 (by rfl) rfl Go.Proofs.Tryz.ntmps5 (by rfl) rfl ?_
 refine Ja (Jf (zE (Jc (Ja (Ja (Jf (zR 1 ?_)))))))
 obtain ⟨r1,h1,h⟩:=Jh h
 refine Ju (Zq _ r1 h1) (by kernel_rfl) (by kernel_rfl) (zE (Jc ?_))
 rcases Jk h with ⟨hb,h⟩|⟨hb,h⟩
 ·refine zT hb (Ja (Jf ?_))
  obtain ⟨r2,h2,h⟩:=Jh h
  refine Ju (Qv  r2 h2) (by kernel_rfl) (by kernel_rfl) (zE (Jc (Jp (Ji ?_))))
  cases h
  exact zQ
 refine zU hb (Jj (Jc (Ja (Jf (zR 1 ?_)))))
 obtain ⟨r3,h3,h⟩:=Jh h
 refine Ju (Nz _ r3 h3) (by kernel_rfl) (by kernel_rfl) (zE (Jc (Ja (Ja (Jf (zE (Jc ?_)))))))
 rcases Jk h with ⟨hb,h⟩|⟨hb,h⟩
 ·refine zT hb (Ja (Jf ?_))
  obtain ⟨b4,h4,h⟩:=Jh h
  refine zR 3 ?_
  refine Kt 2 24 (.bool b4) ?_ ?_
  ·rcases Jk h4 with ⟨hb,h4⟩|⟨hb,h4⟩
   ·refine zS 22 hb ?_
    obtain ⟨r5,h5,h4⟩:=Jh h4
    refine Ju (Qv  r5 h5) (by kernel_rfl) (by kernel_rfl) ?_
    cases h4
    exact zF
   refine zS 22 hb ?_
   cases h4
   exact zF
  refine zE (Jc (Jp (Ji ?_)))
  cases h
  exact zQ
 refine zU hb (Jj (Jc (Ja (Jf (zE (Jc (Ja (Ja (Jf (zR 1 ?_))))))))))
 refine Kf (L:=(r3.1:(List Jl))) (by kernel_rfl) ?_
 refine zE (Jc (Jn ?_))
 obtain ⟨o23,h23,h⟩:=Kq h
 refine Ki 77 0 (fun (x12,x13)=>⟨[(1,.ref 1 0),(5,.mp 25),(26,Jo .frozen (r3.1:(List Jl))),(27,.int .i64 ((r3.1.length:Nat):Int)),(28,.int .i64 x12)],[(1,.cells (cellsOf a0)),(25,.map (Lz (x13:(List (ByteArray×Bool)))))],[],[]⟩) (fun (_:Unit)=>⟨[],[],[],[]⟩) h23 (by kernel_rfl) (fun _=>by kernel_rfl) ?_ ?_
 ·rintro ⟨x12,x13⟩ oh22 h22
  unfold Zs at h22
  refine Ja (Jf (zE (Jc (Ja ?_))))
  rcases Jk h22 with ⟨hb,h22⟩|⟨hb,h22⟩
  ·refine zT hb (Jj (Jc (Ja (Jn (Ja (Jf ?_))))))
   obtain ⟨x20,h24,h22⟩:=Jh h22
   refine zI h24 (zE (Jc (Ja (Ja (Jf (zR 3 ?_))))))
   refine Sd (m:=(x13:(List (ByteArray×Bool)))) (k:=x20.Name) false 25 (by kernel_rfl) (by kernel_rfl) ?_
   refine zR 1 ?_
   refine Qb 4 40 (((Vo (x13:(List (ByteArray×Bool))) x20.Name).getD false)||(decide (x20.Entry<0))) (fun x hx=>?_) ?_
   ·rcases Ck hx with ⟨hb,hx⟩|⟨hb,hx⟩
    ·refine zS 36 hb ?_
     subst hx
     exact zF
    refine zS 36 hb ?_
    subst hx
    exact zF
   obtain ⟨b21,h25,h22⟩:=Jh h22
   refine zR 1 ?_
   refine Kt 7 48 (.bool b21) ?_ ?_
   ·rcases Jk h25 with ⟨hb,h25⟩|⟨hb,h25⟩
    ·refine zS 41 hb ?_
     cases h25
     exact zF
    refine zS 41 hb (zR 4 ?_)
    refine Kf (L:=(a0.Signals:(List Js))) (by kernel_rfl) ?_
    cases h25
    exact zF
   refine zN (Jc ?_)
   rcases Jk h22 with ⟨hb,h22⟩|⟨hb,h22⟩
   ·refine zT hb (Ja (Jf (zE (Jc (Jp (Ji (Jm (Ji ?_))))))))
    cases h22
    refine Kb fun he=>?_
    subst he
    have h26:=Ku h
    refine Jm (Ji ?_)
    cases h26
    exact zQ
   refine zU hb (Jj (Jc (Ja (Jf (zR 3 ?_)))))
   refine Jcz (m:=(x13:(List (ByteArray×Bool)))) (k:=x20.Name) (v:=true) 25 (by kernel_rfl) (by kernel_rfl) (by kernel_rfl) ?_
   refine zN (Jc (Ja (Jf (zR 4 ?_))))
   obtain ⟨x22,h27,h22⟩:=Jh h22
   refine zI h27 (zR 2 ?_)
   obtain ⟨x23,h28,h22⟩:=Jh h22
   refine Oi h28 (by kernel_rfl) (zE (Jc (Ja (Jf ?_))))
   obtain ⟨b24,h29,h22⟩:=Jh h22
   refine zR 7 ?_
   refine Kt 8 74 (.bool b24) ?_ ?_
   ·rcases Jk h29 with ⟨hb,h29⟩|⟨hb,h29⟩
    ·refine zS 66 hb ?_
     cases h29
     exact zF
    refine zS 66 hb (zR 4 ?_)
    obtain ⟨x25,h30,h29⟩:=Jh h29
    refine Jxd h30 (by kernel_rfl) ?_
    cases h29
    exact zF
   refine zN (Jc ?_)
   rcases Jk h22 with ⟨hb,h22⟩|⟨hb,h22⟩
   ·refine zT hb (Ja (Jf (zE (Jc (Jp (Jm (Ji ?_)))))))
    cases h22
    refine Kb fun he=>?_
    subst he
    have h31:=Ku h
    refine Jm (Ji ?_)
    cases h31
    exact zQ
   refine zU hb (Jj (Kd (Jc (Jf (zE ?_)))))
   cases h22
   exact zB
  refine zU hb (Kc (Jv ?_))
  cases h22
  exact zX
 rintro _ s' rfl hs
 have h:=Kg h
 refine Jt (Jc (Ke hs (Ja (Jf ?_))))
 obtain ⟨r26,h32,h⟩:=Jh h
 refine Ju (Qv  r26 h32) (by kernel_rfl) (by kernel_rfl) (zE (Jc (Jp ?_)))
 cases h
 exact zQ
/-! signallinglaw12.RouteFields -/
noncomputable def Zd (a0:Jd) (a1:Int) (r3:(List Jl)):Int→Option (Int⊕(Unit⊕Bool)):=fun x19 =>
 bif decide (x19<((r3.length:Nat):Int)) then (
  (ixO r3 x19).bind fun x35 =>
  ((bif decide (a1<0) then some true else (
   some (decide (((a0.Signals.length:Nat):Int)≤a1))
  )):Option Bool).bind fun b36 =>
  ((bif b36 then some true else (
   some (decide (((x35.Sections.length:Nat):Int)=0))
  )):Option Bool).bind fun b37 =>
  bif b37 then (
   some (.inr (.inr false))
  ) else (
   (Vp a0 x35.Path).bind fun r38 =>
   (Uk x35.Sections r38).bind fun r39 =>
   ((bif (!r39) then some true else (
    (Zm a0 x35.Path).bind fun r41 =>
    (Qo x35.Points r41).bind fun r42 =>
    some (!r42)
   )):Option Bool).bind fun b40 =>
   ((bif b40 then some true else (
    (Cp a0 x35.Path).bind fun r44 =>
    some (!(decide (x35.Length=r44)))
   )):Option Bool).bind fun b43 =>
   bif b43 then (
    some (.inr (.inr false))
   ) else (
    (ixO a0.Signals a1).bind fun x45 =>
    (Qe a0 x45.At.El).bind fun r46 =>
    ((bif (!(decide (x35.Approach=r46))) then some true else (
     (ixO x35.Sections 0).bind fun x48 =>
     some (decide (x35.Approach=x48))
    )):Option Bool).bind fun b47 =>
    ((bif b47 then some true else (
     some (decide (0<(w64 ((w64 ((w64 (((x35.Over.length:Nat):Int)+((x35.Flank.length:Nat):Int)))+((x35.Guards.length:Nat):Int)))+((x35.Gaps.length:Nat):Int)))))
    )):Option Bool).bind fun b49 =>
    bif b49 then (
     some (.inr (.inr false))
    ) else (
     some (.inl (w64 (x19+1)))
    )
   )
  )
 ) else (
  some (.inr (.inl ()))
 )
noncomputable def Vm (a0:Jd) (a1:Int):Option Bool :=
 (Vj a0).bind fun r1 =>
 bif (!r1) then (
  (Qx ).bind fun r2 =>
  some r2
 ) else (
  (Um a0 a1).bind fun r3 =>
  onInl (α:=Unit) (β:=Bool) (Kl (Zd a0 a1 r3) 0) fun _ =>
  (Qx ).bind fun r50 =>
  some r50
 )
theorem Sv (a0:Jd) (a1:Int) (r:Bool) (h:Vm a0 a1=some r):Km Go.Proofs.Tryz.prog GlS 6 [Enc.pv a0,Enc.pv a1] (Enc.pv r):=by
 unfold Vm at h
 refine Jr Go.Proofs.Tryz.func6 (by rfl) rfl Go.Proofs.Tryz.ntmps6 (by rfl) rfl ?_
 refine Ja (Jf (zE (Jc (Ja (Ja (Jf (zR 1 ?_)))))))
 obtain ⟨r1,h1,h⟩:=Jh h
 refine Ju (Zq _ r1 h1) (by kernel_rfl) (by kernel_rfl) (zE (Jc ?_))
 rcases Jk h with ⟨hb,h⟩|⟨hb,h⟩
 ·refine zT hb (Ja (Jf ?_))
  obtain ⟨r2,h2,h⟩:=Jh h
  refine Ju (Qv  r2 h2) (by kernel_rfl) (by kernel_rfl) (zE (Jc (Jp (Ji ?_))))
  cases h
  exact zQ
 refine zU hb (Jj (Jc (Ja (Ja (Jf (zR 2 ?_))))))
 obtain ⟨r3,h3,h⟩:=Jh h
 refine Ju (Ga _ _ r3 h3) (by kernel_rfl) (by kernel_rfl) ?_
 refine Kf (L:=(r3:(List Jl))) (by kernel_rfl) ?_
 refine zE (Jc (Jn ?_))
 obtain ⟨o41,h41,h⟩:=Kq h
 refine Ki 102 0 (fun x19=>⟨[(1,.int .i64 a1),(2,.ref 2 0),(13,Jo (.own 113008) (r3:(List Jl))),(14,.int .i64 ((r3.length:Nat):Int)),(15,.int .i64 x19)],[(2,.cells (cellsOf a0))],[(113008,(((r3).map cellsOf).length,14))],[]⟩) (fun (_:Unit)=>⟨[],[],[],[]⟩) h41 (by kernel_rfl) (fun _=>by kernel_rfl) ?_ ?_
 ·rintro x19 oh40 h40
  unfold Zd at h40
  refine Ja (Jf (zE (Jc (Ja ?_))))
  rcases Jk h40 with ⟨hb,h40⟩|⟨hb,h40⟩
  ·refine zT hb (Jj (Jc (Ja (Jn (Ja (Jf ?_))))))
   obtain ⟨x35,h42,h40⟩:=Jh h40
   refine zI h42 (zE (Jc (Ja (Ja (Jf ?_)))))
   obtain ⟨b36,h43,h40⟩:=Jh h40
   refine zR 3 ?_
   refine Kt 6 27 (.bool b36) ?_ ?_
   ·rcases Jk h43 with ⟨hb,h43⟩|⟨hb,h43⟩
    ·refine zS 21 hb ?_
     cases h43
     exact zF
    refine zS 21 hb (zR 3 ?_)
    refine Kf (L:=(a0.Signals:(List Js))) (by kernel_rfl) ?_
    cases h43
    exact zF
   obtain ⟨b37,h44,h40⟩:=Jh h40
   refine zR 1 ?_
   refine Kt 5 33 (.bool b37) ?_ ?_
   ·rcases Jk h44 with ⟨hb,h44⟩|⟨hb,h44⟩
    ·refine zS 28 hb ?_
     cases h44
     exact zF
    refine zS 28 hb (zR 2 ?_)
    refine Kf (L:=(x35.Sections:(List Int))) (by kernel_rfl) ?_
    cases h44
    exact zF
   refine zN (Jc ?_)
   rcases Jk h40 with ⟨hb,h40⟩|⟨hb,h40⟩
   ·refine zT hb (Ja (Jf (zE (Jc (Jp (Ji (Jm (Ji ?_))))))))
    cases h40
    refine Kb fun he=>?_
    subst he
    have h45:=Ku h
    refine Jm (Ji ?_)
    cases h45
    exact zQ
   refine zU hb (Jj (Jc (Ja (Ja (Kv (by kernel_rfl) (by kernel_rfl) (zR 5 ?_))))))
   obtain ⟨r38,h46,h40⟩:=Jh h40
   refine Ju (Nw _ _ r38 h46) (by kernel_rfl) (by kernel_rfl) ?_
   obtain ⟨r39,h47,h40⟩:=Jh h40
   refine Ju (Ba _ _ r39 h47) (by kernel_rfl) (by kernel_rfl) ?_
   obtain ⟨b40,h48,h40⟩:=Jh h40
   refine zR 2 ?_
   refine Kt 9 51 (.bool b40) ?_ ?_
   ·rcases Jk h48 with ⟨hb,h48⟩|⟨hb,h48⟩
    ·refine zS 42 hb ?_
     cases h48
     exact zF
    refine zS 42 hb (zR 5 ?_)
    obtain ⟨r41,h49,h48⟩:=Jh h48
    refine Ju (Oh _ _ r41 h49) (by kernel_rfl) (by kernel_rfl) ?_
    obtain ⟨r42,h50,h48⟩:=Jh h48
    refine Ju (Wk _ _ r42 h50) (by kernel_rfl) (by kernel_rfl) ?_
    cases h48
    exact zF
   obtain ⟨b43,h51,h40⟩:=Jh h40
   refine zR 1 ?_
   refine Kt 8 60 (.bool b43) ?_ ?_
   ·rcases Jk h51 with ⟨hb,h51⟩|⟨hb,h51⟩
    ·refine zS 52 hb ?_
     cases h51
     exact zF
    refine zS 52 hb (zR 5 ?_)
    obtain ⟨r44,h52,h51⟩:=Jh h51
    refine Ju (Rs _ _ r44 h52) (by kernel_rfl) (by kernel_rfl) ?_
    cases h51
    exact zF
   refine zN (Jc ?_)
   rcases Jk h40 with ⟨hb,h40⟩|⟨hb,h40⟩
   ·refine zT hb (Ja (Jf (zE (Jc (Jp (Ji (Jm (Ji ?_))))))))
    cases h40
    refine Kb fun he=>?_
    subst he
    have h53:=Ku h
    refine Jm (Ji ?_)
    cases h53
    exact zQ
   refine zU hb (Jj (Jc (Ja (Kv (by kernel_rfl) (by kernel_rfl) (zR 6 ?_)))))
   obtain ⟨x45,h54,h40⟩:=Jh h40
   refine zI h54 (zR 3 ?_)
   obtain ⟨r46,h55,h40⟩:=Jh h40
   refine Ju (Qt _ _ r46 h55) (by kernel_rfl) (by kernel_rfl) ?_
   obtain ⟨b47,h56,h40⟩:=Jh h40
   refine zR 2 ?_
   refine Kt 8 81 (.bool b47) ?_ ?_
   ·rcases Jk h56 with ⟨hb,h56⟩|⟨hb,h56⟩
    ·refine zS 73 hb ?_
     cases h56
     exact zF
    refine zS 73 hb (zR 4 ?_)
    obtain ⟨x48,h57,h56⟩:=Jh h56
    refine zI h57 ?_
    cases h56
    exact zF
   obtain ⟨b49,h58,h40⟩:=Jh h40
   refine zR 1 ?_
   refine Kt 17 99 (.bool b49) ?_ ?_
   ·rcases Jk h58 with ⟨hb,h58⟩|⟨hb,h58⟩
    ·refine zS 82 hb ?_
     cases h58
     exact zF
    refine zS 82 hb (zR 2 ?_)
    refine Kf (L:=(x35.Over:(List Jb))) (by kernel_rfl) ?_
    refine zR 2 ?_
    refine Kf (L:=(x35.Flank:(List Je))) (by kernel_rfl) ?_
    refine zR 3 ?_
    refine Kf (L:=(x35.Guards:(List Int))) (by kernel_rfl) ?_
    refine zR 3 ?_
    refine Kf (L:=(x35.Gaps:(List Jg))) (by kernel_rfl) ?_
    cases h58
    exact zF
   refine zN (Jc ?_)
   rcases Jk h40 with ⟨hb,h40⟩|⟨hb,h40⟩
   ·refine zT hb (Ja (Jf (zE (Jc (Jp (Jm (Ji ?_)))))))
    cases h40
    refine Kb fun he=>?_
    subst he
    have h59:=Ku h
    refine Jm (Ji ?_)
    cases h59
    exact zQ
   refine zU hb (Jj (Kd (Jc (Jf (zE ?_)))))
   cases h40
   exact zB
  refine zU hb (Kc (Jv ?_))
  cases h40
  exact zX
 rintro _ s' rfl hs
 have h:=Kg h
 refine Jt (Jc (Ke hs (Ja (Jf ?_))))
 obtain ⟨r50,h60,h⟩:=Jh h
 refine Ju (Qv  r50 h60) (by kernel_rfl) (by kernel_rfl) (zE (Jc (Jp ?_)))
 cases h
 exact zQ
end PM
