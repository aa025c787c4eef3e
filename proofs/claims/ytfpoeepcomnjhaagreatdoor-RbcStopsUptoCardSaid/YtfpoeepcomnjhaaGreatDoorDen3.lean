/-
 Plain functions for the program's functions, and the proofs that the program does them. Printed by den.py.
-/
import Derived.Test.YtfpoeepcomnjhaaGreatDoorDen2
namespace PM
open Go Go.RowKit Go.Proofs
attribute [local irreducible] Kp pwp
/-! layout.checkBalises -/
noncomputable def Fz (a0:Ji):Int→Option (Int⊕(Unit⊕Int)):=fun x8 =>
 bif decide (x8<((a0.Balises.length:Nat):Int)) then (
  (ixO a0.Balises x8).bind fun x16 =>
  (Qq x16.Id 1 1073741824).bind fun r17 =>
  ((bif (!r17) then some true else (
   (Qq x16.El 0 (w64 (((a0.Elements.length:Nat):Int) - 1))).bind fun r19 =>
   some (!r19)
  )):Option Bool).bind fun b18 =>
  ((bif b18 then some true else (
   (ixO a0.Elements x16.El).bind fun x21 =>
   (Qq x16.Offset 0 x21.Length).bind fun r22 =>
   some (!r22)
  )):Option Bool).bind fun b20 =>
  bif b20 then (
   some (.inr (.inr 1))
  ) else (
   some (.inl (w64 (x8+1)))
  )
 ) else (
  some (.inr (.inl ()))
 )
noncomputable def Gp (a0:Ji):(Int×(List (Int×Bool)))→Option ((Int×(List (Int×Bool)))⊕(Unit⊕Int)):=fun (x24,x25) =>
 bif decide (x24<((a0.Balises.length:Nat):Int)) then (
  (ixO a0.Balises x24).bind fun x27 =>
  bif ((Vy (x25:(List (Int×Bool))) x27.Id).getD false) then (
   some (.inr (.inr 8))
  ) else (
   some (.inl (w64 (x24+1),(Cq x27.Id true x25)))
  )
 ) else (
  some (.inr (.inl ()))
 )
noncomputable def Ch (a0:Ji):Option Int :=
 onInl (α:=Unit) (β:=Int) (Ko (Fz a0) 0) fun _ =>
 onInl (α:=Unit) (β:=Int) (Ko (Gp a0) (0,([]:(List (Int×Bool))))) fun _ =>
 some 0
theorem Sw (a0:Ji) (r:Int) (h:Ch a0=some r):Kj Tryz.prog GlS 143 [Enc.pv a0] (Enc.pv r):=by
 unfold Ch at h
 refine zC Tryz.func143 Tryz.ntmps143 ?_
 refine Ja (Jd (zE (Jb (Ja (Ja (Jd (zR 2 ?_)))))))
 refine zL (L:=(a0.Balises:(List Jx))) ?_
 refine zE (Jb (Jp ?_))
 obtain ⟨o18,h18,h⟩:=Kk h
 refine zA 59 0 (fun x8=>⟨[(1,.ref 1 0),(9,Jn .frozen (a0.Balises:(List Jx))),(10,.int .i64 ((a0.Balises.length:Nat):Int)),(11,.int .i64 x8)],[(1,.cells (cellsOf a0))],[],[]⟩) (fun (_:Unit)=>⟨[(1,.ref 1 0)],[(1,.cells (cellsOf a0))],[],[]⟩) h18 ?_ ?_
 ·rintro x8 oh17 h17
  unfold Fz at h17
  refine Ja (Jd (zE (Jb (Ja ?_))))
  rcases Jl h17 with ⟨hb,h17⟩|⟨hb,h17⟩
  ·refine zT hb (Jj (Jb (Ja (Jp (Ja (Jd ?_))))))
   obtain ⟨x16,h19,h17⟩:=Je h17
   refine zI h19 (zE (Jb (Ja (zD (zR 2 ?_)))))
   obtain ⟨r17,h20,h17⟩:=Je h17
   refine zP (Qm _ _ _ r17 h20) ?_
   obtain ⟨b18,h21,h17⟩:=Je h17
   refine zR 2 ?_
   refine Km 9 28 (.bool b18) ?_ ?_
   ·rcases Jl h21 with ⟨hb,h21⟩|⟨hb,h21⟩
    ·refine zS 19 hb ?_
     cases h21
     exact zF
    refine zS 19 hb (zR 4 ?_)
    refine zL (L:=(a0.Elements:(List Ke))) ?_
    refine zR 1 ?_
    obtain ⟨r19,h22,h21⟩:=Je h21
    refine zP (Qm _ _ _ r19 h22) ?_
    cases h21
    exact zF
   obtain ⟨b20,h23,h17⟩:=Je h17
   refine zR 1 ?_
   refine Km 12 41 (.bool b20) ?_ ?_
   ·rcases Jl h23 with ⟨hb,h23⟩|⟨hb,h23⟩
    ·refine zS 29 hb ?_
     cases h23
     exact zF
    refine zS 29 hb (zR 6 ?_)
    obtain ⟨x21,h24,h23⟩:=Je h23
    refine zI h24 (zR 2 ?_)
    obtain ⟨r22,h25,h23⟩:=Je h23
    refine zP (Qm _ _ _ r22 h25) ?_
    cases h23
    exact zF
   refine zN (Jb ?_)
   rcases Jl h17 with ⟨hb,h17⟩|⟨hb,h17⟩
   ·refine zT hb (Ja (Jd (zE (Jb (Jq (Js (Jm ?_)))))))
    cases h17
    refine Kd fun he=>?_
    subst he
    have h26:=Kq h
    refine Js (Jm ?_)
    cases h26
    exact zQ
   refine zU hb (Jj (Jz (Jb (Jd (zE ?_)))))
   cases h17
   exact zB
  refine zU hb (Jy (Jv ?_))
  cases h17
  exact zX
 rintro _ s' rfl hs
 have h:=Kb h
 refine Jt (Jb (Ka hs (Ja (Jd (zE (Jb (Ja (Ja (Jd (zR 2 ?_))))))))))
 refine zL (L:=(a0.Balises:(List Jx))) ?_
 refine zE (Jb (Jp ?_))
 obtain ⟨o32,h32,h⟩:=Kk h
 refine zA 59 2 (fun (x24,x25)=>⟨[(5,.mp 43),(45,Jn .frozen (a0.Balises:(List Jx))),(46,.int .i64 ((a0.Balises.length:Nat):Int)),(47,.int .i64 x24)],[(43,.map (Wg (x25:(List (Int×Bool)))))],[],[]⟩) (fun (_:Unit)=>⟨[],[],[],[]⟩) h32 ?_ ?_
 ·rintro ⟨x24,x25⟩ oh31 h31
  unfold Gp at h31
  refine Ja (Jd (zE (Jb (Ja ?_))))
  rcases Jl h31 with ⟨hb,h31⟩|⟨hb,h31⟩
  ·refine zT hb (Jj (Jb (Ja (Jp (Ja (Jd ?_))))))
   obtain ⟨x27,h33,h31⟩:=Je h31
   refine zI h33 (zE (Jb (Ja (Ja (Jd (zR 3 ?_))))))
   refine Jci (m:=(x25:(List (Int×Bool)))) (k:=x27.Id) false 43 (by kernel_rfl) (by kernel_rfl) ?_
   refine zN (Jb ?_)
   rcases Jl h31 with ⟨hb,h31⟩|⟨hb,h31⟩
   ·refine zT hb (Ja (Jd (zE (Jb (Jq (Jm (Js (Jm ?_))))))))
    cases h31
    refine Kd fun he=>?_
    subst he
    have h34:=Kq h
    refine Js (Jm ?_)
    cases h34
    exact zQ
   refine zU hb (Jj (Jb (Jd (zR 3 ?_))))
   refine Je3 (m:=(x25:(List (Int×Bool)))) (k:=x27.Id) (v:=true) 43 (by kernel_rfl) (by kernel_rfl) (by kernel_rfl) ?_
   refine zN (Jz (Jb (Jd (zE ?_))))
   cases h31
   exact zB
  refine zU hb (Jy (Jv ?_))
  cases h31
  exact zX
 rintro _ s' rfl hs
 have h:=Kb h
 refine Jt (Jb (Ka hs (Ja (Jd (zE (Jb (Jq ?_)))))))
 cases h
 exact zQ
/-! layout.Check -/
noncomputable def Pm (a0:Ji):Option Int :=
 (Fm a0).bind fun r1 =>
 bif (!r1) then (
  some 2
 ) else (
  (Ec a0).bind fun r2 =>
  bif (!(decide (r2=0))) then (
   some r2
  ) else (
   (Cv a0).bind fun r3 =>
   ((bif (!r3) then some true else (
    (Cf a0).bind fun r5 =>
    some (!r5)
   )):Option Bool).bind fun b4 =>
   bif b4 then (
    some 1
   ) else (
    (Hy a0).bind fun r6 =>
    bif (!(decide (r6.2=0))) then (
     some r6.2
    ) else (
     (Cj a0 r6.1).bind fun r7 =>
     bif (!(decide (r7=0))) then (
      some r7
     ) else (
      (Ch a0).bind fun r8 =>
      some r8
     )
    )
   )
  )
 )
theorem Jf9 (a0:Ji) (r:Int) (h:Pm a0=some r):Kj Tryz.prog GlS 70 [Enc.pv a0] (Enc.pv r):=by
 unfold Pm at h
 refine zC Tryz.func70 Tryz.ntmps70 ?_
 refine Ja (Jd (zE (Jb (Ja (Ja (Jd (zR 1 ?_)))))))
 obtain ⟨r1,h1,h⟩:=Je h
 refine zP (Jby _ r1 h1) (zE (Jb ?_))
 rcases Jl h with ⟨hb,h⟩|⟨hb,h⟩
 ·refine zT hb (Ja (Jd (zE (Jb (Jq (Jm ?_))))))
  cases h
  exact zQ
 refine zU hb (Jj (Jb (Ja (Ja (Jd (zR 1 ?_))))))
 obtain ⟨r2,h2,h⟩:=Je h
 refine zP (Jay _ r2 h2) (zE (Jb (Ja (Jd (zE (Jb ?_))))))
 rcases Jl h with ⟨hb,h⟩|⟨hb,h⟩
 ·refine zT hb (Ja (Jd (zE (Jb (Jq (Jm ?_))))))
  cases h
  exact zQ
 refine zU hb (Jj (Jb (Ja (Ja (Jd (zR 1 ?_))))))
 obtain ⟨r3,h3,h⟩:=Je h
 refine zP (Tm _ r3 h3) ?_
 obtain ⟨b4,h4,h⟩:=Je h
 refine zR 2 ?_
 refine Km 4 22 (.bool b4) ?_ ?_
 ·rcases Jl h4 with ⟨hb,h4⟩|⟨hb,h4⟩
  ·refine zS 18 hb ?_
   cases h4
   exact zF
  refine zS 18 hb (zR 1 ?_)
  obtain ⟨r5,h5,h4⟩:=Je h4
  refine zP (Sk _ r5 h5) ?_
  cases h4
  exact zF
 refine zN (Jb ?_)
 rcases Jl h with ⟨hb,h⟩|⟨hb,h⟩
 ·refine zT hb (Ja (Jd (zE (Jb (Jq (Jm ?_))))))
  cases h
  exact zQ
 refine zU hb (Jj (Jb (Ja (Jd (zR 1 ?_)))))
 obtain ⟨r6,h6,h⟩:=Je h
 refine zP (Jcb _ r6 h6) (zE (Jb (Ja (Ja (Jd (zE (Jb ?_)))))))
 rcases Jl h with ⟨hb,h⟩|⟨hb,h⟩
 ·refine zT hb (Ja (Jd (zE (Jb (Jq (Jm ?_))))))
  cases h
  exact zQ
 refine zU hb (Jj (Jb (Ja (Ja (Jd (zR 2 ?_))))))
 obtain ⟨r7,h7,h⟩:=Je h
 refine zP (Sl _ _ r7 h7) (zE (Jb (Ja (Jd (zE (Jb ?_))))))
 rcases Jl h with ⟨hb,h⟩|⟨hb,h⟩
 ·refine zT hb (Ja (Jd (zE (Jb (Jq (Jm ?_))))))
  cases h
  exact zQ
 refine zU hb (Jj (Jb (Ja (Jd (zR 1 ?_)))))
 obtain ⟨r8,h8,h⟩:=Je h
 refine zP (Sw _ r8 h8) (zE (Jb (Jq ?_)))
 cases h
 exact zQ
/-! num.Clamp -/
noncomputable def Ws (a0:Int) (a1:Int) (a2:Int):Option Int :=
 some (max a1 (min a0 a2))
theorem Wd (a0:Int) (a1:Int) (a2:Int) (r:Int) (h:Ws a0 a1 a2=some r):Kj Tryz.prog GlS 209 [Enc.pv a0,Enc.pv a1,Enc.pv a2] (Enc.pv r):=by
 unfold Ws at h
 refine zC Tryz.func209 Tryz.ntmps209 ?_
 refine Ja (Jd (zE (Jb (Ja (Jd (zE (Jb (Jq ?_))))))))
 cases h
 exact zQ
/-! train.ranged -/
noncomputable def Ok (a0:Qd):Option Qd :=
 (Ws a0.Id 1 99).bind fun r1 =>
 (Ws a0.Length 1 50000).bind fun r2 =>
 (Ws a0.Speed 1 10000).bind fun r3 =>
 (Ws a0.Accel 1 200).bind fun r4 =>
 (Ws a0.Service 1 200).bind fun r5 =>
 (Ws a0.Emergency a0.Service 200).bind fun r6 =>
 (Ws a0.Delay 0 5).bind fun r7 =>
 (Ws a0.Const 0 500).bind fun r8 =>
 (Ws a0.Rate 0 100).bind fun r9 =>
 some (Qd.mk r1 a0.Name r2 r3 r4 r5 r6 r7 r8 r9)
theorem Jgp (a0:Qd) (r:Qd) (h:Ok a0=some r):Kj Tryz.prog GlS 145 [Enc.pv a0] (Enc.pv r):=by
 unfold Ok at h
 refine zC Tryz.func145 Tryz.ntmps145 ?_
 refine Ja (Jd (zE (Jb (Ja (zD (zR 2 ?_))))))
 obtain ⟨r1,h1,h⟩:=Je h
 refine zP (Wd _ _ _ r1 h1) (zR 4 ?_)
 obtain ⟨r2,h2,h⟩:=Je h
 refine zP (Wd _ _ _ r2 h2) (zR 2 ?_)
 obtain ⟨r3,h3,h⟩:=Je h
 refine zP (Wd _ _ _ r3 h3) (zR 2 ?_)
 obtain ⟨r4,h4,h⟩:=Je h
 refine zP (Wd _ _ _ r4 h4) (zR 2 ?_)
 obtain ⟨r5,h5,h⟩:=Je h
 refine zP (Wd _ _ _ r5 h5) (zR 4 ?_)
 obtain ⟨r6,h6,h⟩:=Je h
 refine zP (Wd _ _ _ r6 h6) (zR 2 ?_)
 obtain ⟨r7,h7,h⟩:=Je h
 refine zP (Wd _ _ _ r7 h7) (zR 2 ?_)
 obtain ⟨r8,h8,h⟩:=Je h
 refine zP (Wd _ _ _ r8 h8) (zR 2 ?_)
 obtain ⟨r9,h9,h⟩:=Je h
 refine zP (Wd _ _ _ r9 h9) (zE (Jb (Jq ?_)))
 cases h
 exact zQ
/-! train.Check -/
noncomputable def Tc (a0:Qd):Option Int :=
 (Ob a0.Name).bind fun r1 =>
 bif (!r1) then (
  some 3
 ) else (
  (Ok a0).bind fun r2 =>
  bif (!(Jka a0 r2)) then (
   some 1
  ) else (
   some 0
  )
 )
theorem Jhz (a0:Qd) (r:Int) (h:Tc a0=some r):Kj Tryz.prog GlS 71 [Enc.pv a0] (Enc.pv r):=by
 unfold Tc at h
 refine zC Tryz.func71 Tryz.ntmps71 ?_
 refine Ja (Jd (zE (Jb (Ja (Ja (Jd (zR 2 ?_)))))))
 obtain ⟨r1,h1,h⟩:=Je h
 refine zP (Ja3 _ r1 h1) (zE (Jb ?_))
 rcases Jl h with ⟨hb,h⟩|⟨hb,h⟩
 ·refine zT hb (Ja (Jd (zE (Jb (Jq (Jm ?_))))))
  cases h
  exact zQ
 refine zU hb (Jj (Jb (Ja (Ja (zD (zR 2 ?_))))))
 obtain ⟨r2,h2,h⟩:=Je h
 refine zP (Jgp _ r2 h2) (zE (Jb ?_))
 rcases Jl h with ⟨hb,h⟩|⟨hb,h⟩
 ·refine zT hb (Ja (Jd (zE (Jb (Jq (Jm ?_))))))
  cases h
  exact zQ
 refine zU hb (Jj (Jb (Ja (Jd (zE (Jb (Jq ?_)))))))
 cases h
 exact zQ
/-! walk.passage -/
noncomputable def Oz (a0:Ji):Option Ji :=
 some a0
theorem Jgn (a0:Ji) (r:Ji) (h:Oz a0=some r):Kj Tryz.prog GlS 210 [Enc.pv a0] (.fn 263 [.cptr (cellsOf r)]):=by
 unfold Oz at h
 refine zC Tryz.func210 Tryz.ntmps210 ?_
 refine Ja (Jd (zE (Jb (Ja (Jd (zE (Jb ?_)))))))
 refine Jqi 1 [] (cs:=cellsOf a0) (cs':=cellsOf a0) (by kernel_rfl) (by kernel_rfl) (by kernel_rfl) (by kernel_rfl) ?_
 refine Jq ?_
 cases h
 exact zQ
/-! walk.exists -/
noncomputable def Cd (a0:Ji) (a1:Int):Option Bool :=
 ((bif decide (0≤a1) then (
  some (decide (a1<((a0.Elements.length:Nat):Int)))
 ) else some false):Option Bool).bind fun b1 =>
 some b1
theorem Iy (a0:Ji) (a1:Int) (r:Bool) (h:Cd a0 a1=some r):Kj Tryz.prog GlS 149 [Enc.pv a0,Enc.pv a1] (Enc.pv r):=by
 unfold Cd at h
 refine zC Tryz.func149 Tryz.ntmps149 ?_
 refine Ja (Jd (zE (Jb (Ja (Jd ?_)))))
 obtain ⟨b1,h1,h⟩:=Je h
 refine zR 3 ?_
 refine Km 6 13 (.bool b1) ?_ ?_
 ·rcases Jl h1 with ⟨hb,h1⟩|⟨hb,h1⟩
  ·refine zS 7 hb (zR 3 ?_)
   refine zL (L:=(a0.Elements:(List Ke))) ?_
   cases h1
   exact zF
  refine zS 7 hb ?_
  cases h1
  exact zF
 refine zE (Jb (Jq ?_))
 cases h
 exact zQ
/-! rail.Need -/
noncomputable def Jen (a0:Int) (a1:Int) (a2:Int):Int→Option (Int⊕(Unit⊕(Int×Bool))):=fun x2 =>
 bif decide (x2<10) then (
  (ixO Ww x2).bind fun x4 =>
  bif (((decide (x4.kind_=a0))&&(decide (x4.in_=a1)))&&(decide (x4.out_=a2))) then (
   some (.inr (.inr (x4.need_,true)))
  ) else (
   some (.inl (w64 (x2+1)))
  )
 ) else (
  some (.inr (.inl ()))
 )
noncomputable def Rv (a0:Int) (a1:Int) (a2:Int):Option (Int×Bool) :=
 onInl (α:=Unit) (β:=(Int×Bool)) (Ko (Jen a0 a1 a2) 0) fun _ =>
 some (0,false)
theorem Jcl (a0:Int) (a1:Int) (a2:Int) (r:(Int×Bool)) (h:Rv a0 a1 a2=some r):Kj Tryz.prog GlS 241 [Enc.pv a0,Enc.pv a1,Enc.pv a2] (.tup [Enc.pv r.1,Enc.pv r.2]):=by
 unfold Rv at h
 refine zC Tryz.func241 Tryz.ntmps241 ?_
 refine Ja (Jd (zE (Jb (Ja (Ja (Jd (zE (Jb (Jp ?_)))))))))
 obtain ⟨o6,h6,h⟩:=Kk h
 refine zA 33 0 (fun x2=>⟨[(0,.int .i64 a0),(1,.int .i64 a1),(2,.int .i64 a2),(10,.agg (Ww.flatMap cellsOf)),(11,.int .i64 x2)],[],[],[]⟩) (fun (_:Unit)=>⟨[],[],[],[]⟩) h6 ?_ ?_
 ·rintro x2 oh5 h5
  unfold Jen at h5
  refine Ja (Jd (zE (Jb (Ja ?_))))
  rcases Jl h5 with ⟨hb,h5⟩|⟨hb,h5⟩
  ·refine zT hb (Jj (Jb (Ja (Jp (Ja (Jd ?_))))))
   obtain ⟨x4,h7,h5⟩:=Je h5
   refine Jzf (tab:=Ww) h7 true 10 4 (by kernel_rfl) (by kernel_rfl) (by kernel_rfl) (by kernel_rfl) ?_
   refine zE (Jb (Ja (Jd (zR 5 ?_))))
   refine Ku 5 23 ((decide (x4.kind_=a0))&&(decide (x4.in_=a1))) (fun x hx=>?_) ?_
   ·rcases Vm hx with ⟨hb,hx⟩|⟨hb,hx⟩
    ·refine zS 18 hb ?_
     subst hx
     exact zF
    refine zS 18 hb ?_
    subst hx
    exact zF
   refine zR 1 ?_
   refine Ku 5 29 (((decide (x4.kind_=a0))&&(decide (x4.in_=a1)))&&(decide (x4.out_=a2))) (fun x hx=>?_) ?_
   ·rcases Vm hx with ⟨hb,hx⟩|⟨hb,hx⟩
    ·refine zS 24 hb ?_
     subst hx
     exact zF
    refine zS 24 hb ?_
    subst hx
    exact zF
   refine zN (Jb ?_)
   rcases Jl h5 with ⟨hb,h5⟩|⟨hb,h5⟩
   ·refine zT hb (Ja (Jd (zE (Jb (Jq (Js (Jm ?_)))))))
    cases h5
    refine Kd fun he=>?_
    subst he
    have h8:=Kq h
    refine Js (Jm ?_)
    cases h8
    exact zQ
   refine zU hb (Jj (Jz (Jb (Jd (zE ?_)))))
   cases h5
   exact zB
  refine zU hb (Jy (Jv ?_))
  cases h5
  exact zX
 rintro _ s' rfl hs
 have h:=Kb h
 refine Jt (Jb (Ka hs (Ja (Jd (zE (Jb (Jq ?_)))))))
 cases h
 exact zQ
/-! walk.possible -/
noncomputable def Mq (a0:Ji) (a1:Jf):Option (Int×Bool) :=
 (Cd a0 a1.El).bind fun r1 =>
 bif (!r1) then (
  some (0,false)
 ) else (
  (ixO a0.Elements a1.El).bind fun x2 =>
  (Rv x2.Kind a1.In a1.Out).bind fun r3 =>
  some (r3.1,r3.2)
 )
theorem Je9 (a0:Ji) (a1:Jf) (r:(Int×Bool)) (h:Mq a0 a1=some r):Kj Tryz.prog GlS 211 [Enc.pv a0,Enc.pv a1] (.tup [Enc.pv r.1,Enc.pv r.2]):=by
 unfold Mq at h
 refine zC Tryz.func211 Tryz.ntmps211 ?_
 refine Ja (Jd (zE (Jb (Ja (Ja (Jd (zR 3 ?_)))))))
 obtain ⟨r1,h1,h⟩:=Je h
 refine zP (Iy _ _ r1 h1) (zE (Jb ?_))
 rcases Jl h with ⟨hb,h⟩|⟨hb,h⟩
 ·refine zT hb (Ja (Jd (zE (Jb (Jq (Jm ?_))))))
  cases h
  exact zQ
 refine zU hb (Jj (Jb (Ja (zD (zR 4 ?_)))))
 obtain ⟨x2,h2,h⟩:=Je h
 refine zI h2 (zR 6 ?_)
 obtain ⟨r3,h3,h⟩:=Je h
 refine zP (Jcl _ _ _ r3 h3) (zE (Jb (Jq ?_)))
 cases h
 exact zQ
/-! layout.Joined -/
noncomputable def Si (a0:Ji) (a1:Jo):Int→Option (Int⊕(Unit⊕(Jo×Bool))):=fun x2 =>
 bif decide (x2<((a0.Joints.length:Nat):Int)) then (
  (ixO a0.Joints x2).bind fun x4 =>
  bif Vk x4.A a1 then (
   some (.inr (.inr (x4.B,true)))
  ) else (
   bif Vk x4.B a1 then (
    some (.inr (.inr (x4.A,true)))
   ) else (
    some (.inl (w64 (x2+1)))
   )
  )
 ) else (
  some (.inr (.inl ()))
 )
noncomputable def Mt (a0:Ji) (a1:Jo):Option (Jo×Bool) :=
 onInl (α:=Unit) (β:=(Jo×Bool)) (Ko (Si a0 a1) 0) fun _ =>
 some ((Jo.mk 0 0),false)
theorem Jfe (a0:Ji) (a1:Jo) (r:(Jo×Bool)) (h:Mt a0 a1=some r):Kj Tryz.prog GlS 264 [Enc.pv a0,Enc.pv a1] (.tup [Enc.pv r.1,Enc.pv r.2]):=by
 unfold Mt at h
 refine zC Tryz.func264 Tryz.ntmps264 ?_
 refine Ja (Jd (zE (Jb (Ja (Ja (Jd (zR 2 ?_)))))))
 refine zL (L:=(a0.Joints:(List Qu))) ?_
 refine zE (Jb (Jp ?_))
 obtain ⟨o8,h8,h⟩:=Kk h
 refine zA 29 0 (fun x2=>⟨[(3,.ref 3 0),(4,.ref 4 0),(9,Jn .frozen (a0.Joints:(List Qu))),(10,.int .i64 ((a0.Joints.length:Nat):Int)),(11,.int .i64 x2)],[(3,.cells (cellsOf a1)),(4,.cells ([.int .i64 0,.int .i64 0]))],[],[]⟩) (fun (_:Unit)=>⟨[(4,.ref 4 0)],[(4,.cells ([.int .i64 0,.int .i64 0]))],[],[]⟩) h8 ?_ ?_
 ·rintro x2 oh7 h7
  unfold Si at h7
  refine Ja (Jd (zE (Jb (Ja ?_))))
  rcases Jl h7 with ⟨hb,h7⟩|⟨hb,h7⟩
  ·refine zT hb (Jj (Jb (Ja (Jp (Ja (Jd ?_))))))
   obtain ⟨x4,h9,h7⟩:=Je h7
   refine zI h9 (zE (Jb (Ja (Ja (Jd (zE (Jb ?_)))))))
   rcases Jl h7 with ⟨hb,h7⟩|⟨hb,h7⟩
   ·refine zT hb (Ja (Jd (zE (Jb (Jq (Jm (Js (Jm ?_))))))))
    cases h7
    refine Kd fun he=>?_
    subst he
    have h10:=Kq h
    refine Js (Jm ?_)
    cases h10
    exact zQ
   refine zU hb (Jj (Jb (Ja (Jd (zE (Jb ?_))))))
   rcases Jl h7 with ⟨hb,h7⟩|⟨hb,h7⟩
   ·refine zT hb (Ja (Jd (zE (Jb (Jq (Js (Jm ?_)))))))
    cases h7
    refine Kd fun he=>?_
    subst he
    have h11:=Kq h
    refine Js (Jm ?_)
    cases h11
    exact zQ
   refine zU hb (Jj (Jz (Jb (Jd (zE ?_)))))
   cases h7
   exact zB
  refine zU hb (Jy (Jv ?_))
  cases h7
  exact zX
 rintro _ s' rfl hs
 have h:=Kb h
 refine Jt (Jb (Ka hs (Ja (Jd (zE (Jb (Jq ?_)))))))
 cases h
 exact zQ
/-! walk.passage$1 -/
noncomputable def Lh (a0:Jf) (c0:Ji):Option (Jo×Bool) :=
 (Mt c0 (Jo.mk a0.El a0.Out)).bind fun r1 =>
 some (r1.1,r1.2)
theorem Jeb (a0:Jf) (c0:Ji) (r:(Jo×Bool)) (h:Lh a0 c0=some r):Kj Tryz.prog GlS 263 [Enc.pv a0,.cptr (cellsOf c0)] (.tup [Enc.pv r.1,Enc.pv r.2]):=by
 unfold Lh at h
 refine zC Tryz.func263 Tryz.ntmps263 ?_
 refine Ja (Jd (zE (Jb (Ja (Jd (zR 6 ?_))))))
 obtain ⟨r1,h1,h⟩:=Je h
 refine zP (Jfe _ _ r1 h1) (zE (Jb (Jq ?_)))
 cases h
 exact zQ
/-! walk.Valid -/
noncomputable def Jc2 (x49:Jf) (x51:(List Jf)):Int→Option (Int⊕(Unit⊕(Unit⊕(Int⊕(Unit⊕Bool))))):=fun x53 =>
 bif decide (x53<((x51.length:Nat):Int)) then (
  (ixO x51 x53).bind fun x55 =>
  bif decide (x55.El=x49.El) then (
   some (.inr (.inr (.inr (.inr (.inr false)))))
  ) else (
   some (.inl (w64 (x53+1)))
  )
 ) else (
  some (.inr (.inl ()))
 )
noncomputable def Jb3 (a0:Ji) (a1:(List Jf)) (r2:Ji):Int→Option (Int⊕(Unit⊕Bool)):=fun x21 =>
 bif decide (x21<((a1.length:Nat):Int)) then (
  onInl (α:=Unit) (β:=(Int⊕(Unit⊕Bool))) (
   (ixO a1 x21).bind fun x49 =>
   (Mq a0 x49).bind fun r50 =>
   bif (!r50.2) then (
    some (.inr (.inr (.inr false)))
   ) else (
    (slO a1 none (some x21) none).bind fun x51 =>
    onInl (α:=Unit) (β:=(Unit⊕(Int⊕(Unit⊕Bool)))) (Ko (Jc2 x49 x51) 0) fun _ =>
    bif decide (x21=0) then (
     some (.inl ())
    ) else (
     (ixO a1 (w64 (x21 - 1))).bind fun x56 =>
     (Lh x56 r2).bind fun r57 =>
     bif (((!r57.2)||(!(decide (r57.1.El=x49.El))))||(!(decide (r57.1.Side=x49.In)))) then (
      some (.inr (.inr (.inr false)))
     ) else (
      some (.inl ())
     )
    )
   )
  ) fun _ =>
  some (.inl (w64 (x21+1)))
 ) else (
  some (.inr (.inl ()))
 )
noncomputable def Dp (a0:Ji) (a1:(List Jf)):Option Bool :=
 ((bif decide (((a1.length:Nat):Int)=0) then some true else (
  some (decide (64<((a1.length:Nat):Int)))
 )):Option Bool).bind fun b1 =>
 bif b1 then (
  some false
 ) else (
  (Oz a0).bind fun r2 =>
  onInl (α:=Unit) (β:=Bool) (Ko (Jb3 a0 a1 r2) 0) fun _ =>
  some true
 )
theorem Fc (a0:Ji) (a1:(List Jf)) (r:Bool) (h:Dp a0 a1=some r):Kj Tryz.prog GlS 146 [Enc.pv a0,Enc.pv a1] (Enc.pv r):=by
 unfold Dp at h
 refine zC Tryz.func146 Tryz.ntmps146 ?_
 refine Ja (Jd (zE (Jb (Ja (Ja (Jd (zR 1 ?_)))))))
 refine zL (L:=(a1:(List Jf))) ?_
 obtain ⟨b1,h1,h⟩:=Je h
 refine zR 2 ?_
 refine Km 4 21 (.bool b1) ?_ ?_
 ·rcases Jl h1 with ⟨hb,h1⟩|⟨hb,h1⟩
  ·refine zS 17 hb ?_
   cases h1
   exact zF
  refine zS 17 hb (zR 1 ?_)
  refine zL (L:=(a1:(List Jf))) ?_
  cases h1
  exact zF
 refine zN (Jb ?_)
 rcases Jl h with ⟨hb,h⟩|⟨hb,h⟩
 ·refine zT hb (Ja (Jd (zE (Jb (Jq (Jm ?_))))))
  cases h
  exact zQ
 refine zU hb (Jj (Jb (Ja (Jd (zR 1 ?_)))))
 obtain ⟨r2,h2,h⟩:=Je h
 refine zP (Jgn _ r2 h2) (zE (Jb (Ja (Ja (Jd (zR 1 ?_))))))
 refine zL (L:=(a1:(List Jf))) ?_
 refine zE (Jb (Jp ?_))
 obtain ⟨o98,h98,h⟩:=Kk h
 refine zA 82 0 (fun x21=>⟨[(1,Jn .frozen (a1:(List Jf))),(2,.ref 2 0),(5,.fn 263 [.cptr (cellsOf r2)]),(24,Jn .frozen (a1:(List Jf))),(25,.int .i64 ((a1.length:Nat):Int)),(26,.int .i64 x21)],[(2,.cells (cellsOf a0))],[],[]⟩) (fun (_:Unit)=>⟨[],[],[],[]⟩) h98 ?_ ?_
 ·rintro x21 oh97 h97
  unfold Jb3 at h97
  refine Ja (Jd (zE (Jb (Ja ?_))))
  rcases Jl h97 with ⟨hb,h97⟩|⟨hb,h97⟩
  ·refine zT hb (Jj (Jb ?_))
   obtain ⟨o122,h122,h97⟩:=Kk h97
   refine Qp (o:=o122) 82 (fun (_:Unit)=>⟨[(1,Jn .frozen (a1:(List Jf))),(2,.ref 2 0),(5,.fn 263 [.cptr (cellsOf r2)]),(24,Jn .frozen (a1:(List Jf))),(25,.int .i64 ((a1.length:Nat):Int)),(26,.int .i64 x21)],[(2,.cells (cellsOf a0))],[],[]⟩) ?_ ?_
   ·refine Jp (Ja (Jd (zR 1 ?_)))
    obtain ⟨x49,h123,h122⟩:=Je h122
    refine zI h123 (zE (Jb (Ja (Ja (Jd (zR 2 ?_))))))
    obtain ⟨r50,h124,h122⟩:=Je h122
    refine zP (Je9 _ _ r50 h124) (zE (Jb (Ja (Jd (zE (Jb ?_))))))
    rcases Jl h122 with ⟨hb,h122⟩|⟨hb,h122⟩
    ·refine zT hb (Ja (Jd (zE (Jb (Jq (Jm (Js ?_)))))))
     cases h122
     refine Iv ?_
     have h125:=Kq h97
     cases h125
     refine Kd fun he=>?_
     subst he
     have h126:=Kq h
     refine Js (Jm ?_)
     cases h126
     exact zQ
    refine zU hb (Jj (Jb (Ja (Ja (Jd (zR 2 ?_))))))
    obtain ⟨x51,h127,h122⟩:=Je h122
    refine Jvt h127 .frozen (by kernel_rfl) (by kernel_rfl) (by kernel_rfl) ?_
    refine zL (L:=(x51:(List Jf))) ?_
    refine zE (Jb (Jp ?_))
    obtain ⟨o137,h137,h122⟩:=Kk h122
    refine zA 82 2 (fun x53=>⟨[(1,Jn .frozen (a1:(List Jf))),(2,.ref 2 0),(5,.fn 263 [.cptr (cellsOf r2)]),(6,.int .i64 x21),(7,.ref 7 0),(24,Jn .frozen (a1:(List Jf))),(25,.int .i64 ((a1.length:Nat):Int)),(26,.int .i64 x21),(41,Jn .frozen (x51:(List Jf))),(42,.int .i64 ((x51.length:Nat):Int)),(43,.int .i64 x53)],[(2,.cells (cellsOf a0)),(7,.cells (cellsOf x49))],[],[]⟩) (fun (_:Unit)=>⟨[(1,Jn .frozen (a1:(List Jf))),(2,.ref 2 0),(5,.fn 263 [.cptr (cellsOf r2)]),(6,.int .i64 x21),(7,.ref 7 0),(24,Jn .frozen (a1:(List Jf))),(25,.int .i64 ((a1.length:Nat):Int)),(26,.int .i64 x21)],[(2,.cells (cellsOf a0)),(7,.cells (cellsOf x49))],[],[]⟩) h137 ?_ ?_
    ·rintro x53 oh136 h136
     unfold Jc2 at h136
     refine Ja (Jd (zE (Jb (Ja ?_))))
     rcases Jl h136 with ⟨hb,h136⟩|⟨hb,h136⟩
     ·refine zT hb (Jj (Jb (Ja (Jp (Ja (Jd ?_))))))
      obtain ⟨x55,h138,h136⟩:=Je h136
      refine zI h138 (zE (Jb (Ja (Jd (zE (Jb ?_))))))
      rcases Jl h136 with ⟨hb,h136⟩|⟨hb,h136⟩
      ·refine zT hb (Ja (Jd (zE (Jb (Jq (Js (Jm ?_)))))))
       cases h136
       refine Kd fun he=>?_
       subst he
       have h139:=Kq h122
       refine Js (Jm (Js ?_))
       cases h139
       refine Iv ?_
       have h140:=Kq h97
       cases h140
       refine Kd fun he=>?_
       subst he
       have h141:=Kq h
       refine Js (Jm ?_)
       cases h141
       exact zQ
      refine zU hb (Jj (Jz (Jb (Jd (zE ?_)))))
      cases h136
      exact zB
     refine zU hb (Jy (Jv ?_))
     cases h136
     exact zX
    rintro _ s' rfl hs
    have h122:=Kb h122
    refine Jt (Jb (Ka hs (Ja (Ja (Jd (zE (Jb ?_)))))))
    rcases Jl h122 with ⟨hb,h122⟩|⟨hb,h122⟩
    ·refine zT hb (Jy (Jv (Jt ?_)))
     cases h122
     exact zJ
    refine zU hb (Jj (Jb (Ja (Jd (zR 4 ?_)))))
    obtain ⟨x56,h142,h122⟩:=Je h122
    refine zI h142 (zR 1 ?_)
    obtain ⟨r57,h143,h122⟩:=Je h122
    refine zP (Jeb _ _ r57 h143) (zE (Jb (Ja (Jd (zR 3 ?_)))))
    refine Ku 6 73 ((!r57.2)||(!(decide (r57.1.El=x49.El)))) (fun x hx=>?_) ?_
    ·rcases Vs hx with ⟨hb,hx⟩|⟨hb,hx⟩
     ·refine zS 67 hb ?_
      subst hx
      exact zF
     refine zS 67 hb ?_
     subst hx
     exact zF
    refine zR 1 ?_
    refine Ku 6 80 (((!r57.2)||(!(decide (r57.1.El=x49.El))))||(!(decide (r57.1.Side=x49.In)))) (fun x hx=>?_) ?_
    ·rcases Vs hx with ⟨hb,hx⟩|⟨hb,hx⟩
     ·refine zS 74 hb ?_
      subst hx
      exact zF
     refine zS 74 hb ?_
     subst hx
     exact zF
    refine zN (Jb ?_)
    rcases Jl h122 with ⟨hb,h122⟩|⟨hb,h122⟩
    ·refine zT hb (Ja (Jd (zE (Jb (Jq (Js ?_))))))
     cases h122
     refine Iv ?_
     have h144:=Kq h97
     cases h144
     refine Kd fun he=>?_
     subst he
     have h145:=Kq h
     refine Js (Jm ?_)
     cases h145
     exact zQ
    refine zU hb (Jj (Jz ?_))
    cases h122
    exact zJ
   rintro _ rfl
   have h97:=Kb h97
   refine Jd (zE ?_)
   cases h97
   exact zB
  refine zU hb (Jy (Jv ?_))
  cases h97
  exact zX
 rintro _ s' rfl hs
 have h:=Kb h
 refine Jt (Jb (Ka hs (Ja (Jd (zE (Jb (Jq ?_)))))))
 cases h
 exact zQ
/-! body.last -/
noncomputable def Jco (a0:Qo):Option Jf :=
 (ixO a0.Steps (w64 (((a0.Steps.length:Nat):Int) - 1))).bind fun x1 =>
 some x1
theorem Jkz (a0:Qo) (r:Jf) (h:Jco a0=some r):Kj Tryz.prog GlS 147 [Enc.pv a0] (Enc.pv r):=by
 unfold Jco at h
 refine zC Tryz.func147 Tryz.ntmps147 ?_
 refine Ja (Jd (zE (Jb (Ja (Jd (zR 4 ?_))))))
 refine zL (L:=(a0.Steps:(List Jf))) ?_
 refine zR 1 ?_
 obtain ⟨x1,h1,h⟩:=Je h
 refine zI h1 (zE (Jb (Jq ?_)))
 cases h
 exact zQ
/-! walk.Length -/
noncomputable def Ja6 (a0:Ji) (a1:(List Jf)):(Int×Int)→Option ((Int×Int)⊕(Int⊕Int)):=fun (x8,x9) =>
 bif decide (x9<((a1.length:Nat):Int)) then (
  onInl (α:=Int) (β:=((Int×Int)⊕(Int⊕Int))) (
   (ixO a1 x9).bind fun x22 =>
   (Cd a0 x22.El).bind fun r23 =>
   bif r23 then (
    (ixO a0.Elements x22.El).bind fun x24 =>
    some (.inl (w64 (x8+x24.Length)))
   ) else (
    some (.inl x8)
   )
  ) fun x21 =>
  some (.inl (x21,w64 (x9+1)))
 ) else (
  some (.inr (.inl x8))
 )
noncomputable def Ei (a0:Ji) (a1:(List Jf)):Option Int :=
 onInl (α:=Int) (β:=Int) (Ko (Ja6 a0 a1) (0,0)) fun x17 =>
 some x17
theorem Iw (a0:Ji) (a1:(List Jf)) (r:Int) (h:Ei a0 a1=some r):Kj Tryz.prog GlS 74 [Enc.pv a0,Enc.pv a1] (Enc.pv r):=by
 unfold Ei at h
 refine zC Tryz.func74 Tryz.ntmps74 ?_
 refine Ja (Jd (zE (Jb (Ja (Jd (zE (Jb (Ja (Ja (Jd (zR 1 ?_)))))))))))
 refine zL (L:=(a1:(List Jf))) ?_
 refine zE (Jb (Jp ?_))
 obtain ⟨o16,h16,h⟩:=Kk h
 refine zA 29 0 (fun (x8,x9)=>⟨[(2,.ref 2 0),(5,.int .i64 x8),(8,Jn .frozen (a1:(List Jf))),(9,.int .i64 ((a1.length:Nat):Int)),(10,.int .i64 x9)],[(2,.cells (cellsOf a0))],[],[]⟩) (fun x17=>⟨[(5,.int .i64 x17)],[],[],[]⟩) h16 ?_ ?_
 ·rintro ⟨x8,x9⟩ oh15 h15
  unfold Ja6 at h15
  refine Ja (Jd (zE (Jb (Ja ?_))))
  rcases Jl h15 with ⟨hb,h15⟩|⟨hb,h15⟩
  ·refine zT hb (Jj (Jb ?_))
   obtain ⟨o20,h20,h15⟩:=Kk h15
   refine Qp (o:=o20) 29 (fun x21=>⟨[(2,.ref 2 0),(5,.int .i64 x21),(8,Jn .frozen (a1:(List Jf))),(9,.int .i64 ((a1.length:Nat):Int)),(10,.int .i64 x9)],[(2,.cells (cellsOf a0))],[],[]⟩) ?_ ?_
   ·refine Jp (Ja (Jd ?_))
    obtain ⟨x22,h21,h20⟩:=Je h20
    refine zI h21 (zE (Jb (Ja (Jd (zR 3 ?_)))))
    obtain ⟨r23,h22,h20⟩:=Je h20
    refine zP (Iy _ _ r23 h22) (zN (Jb ?_))
    rcases Jl h20 with ⟨hb,h20⟩|⟨hb,h20⟩
    ·refine zT hb (Jd (zR 5 ?_))
     obtain ⟨x24,h23,h20⟩:=Je h20
     refine zI h23 (zE (Jz ?_))
     cases h20
     exact zJ
    refine zU hb (Jj (Jz ?_))
    cases h20
    exact zJ
   rintro x21 rfl
   have h15:=Kb h15
   refine Jd (zE ?_)
   cases h15
   exact zB
  refine zU hb (Jy (Jv ?_))
  cases h15
  exact zX
 rintro x17 s' rfl hs
 have h:=Kb h
 refine Jt (Jb (Ka hs (Ja (Jd (zE (Jb (Jq ?_)))))))
 cases h
 exact zQ
/-! body.rearEnd -/
noncomputable def Ra (a0:Ji) (a1:Qo):Option Int :=
 (slO a1.Steps none (some (w64 (((a1.Steps.length:Nat):Int) - 1))) none).bind fun x1 =>
 (Ei a0 x1).bind fun r2 =>
 some (w64 ((w64 (r2+a1.Head)) - a1.Length))
theorem Jgi (a0:Ji) (a1:Qo) (r:Int) (h:Ra a0 a1=some r):Kj Tryz.prog GlS 148 [Enc.pv a0,Enc.pv a1] (Enc.pv r):=by
 unfold Ra at h
 refine zC Tryz.func148 Tryz.ntmps148 ?_
 refine Ja (Jd (zE (Jb (Ja (zD (zR 5 ?_))))))
 refine zL (L:=(a1.Steps:(List Jf))) ?_
 refine zR 1 ?_
 obtain ⟨x1,h1,h⟩:=Je h
 refine Jvt h1 .frozen (by kernel_rfl) (by kernel_rfl) (by kernel_rfl) ?_
 obtain ⟨r2,h2,h⟩:=Je h
 refine zP (Iw _ _ r2 h2) (zE (Jb (Ja (Jd (zE (Jb (Jq ?_)))))))
 cases h
 exact zQ
/-! body.Check -/
noncomputable def Jai (a0:Ji) (a1:Qo):Option Int :=
 (Dp a0 a1.Steps).bind fun r1 =>
 ((bif ((((!r1)||(decide (a1.Length<1)))||(decide (1000000<a1.Length)))||(decide (a1.Head<1))) then some true else (
  (Jco a1).bind fun r3 =>
  (ixO a0.Elements r3.El).bind fun x4 =>
  some (decide (x4.Length<a1.Head))
 )):Option Bool).bind fun b2 =>
 bif b2 then (
  some 1
 ) else (
  (Ra a0 a1).bind fun r5 =>
  ((bif decide (r5<0) then some true else (
   ((bif decide (1<((a1.Steps.length:Nat):Int)) then (
    (ixO a1.Steps 0).bind fun x8 =>
    (ixO a0.Elements x8.El).bind fun x9 =>
    some (decide (x9.Length≤r5))
   ) else some false):Option Bool).bind fun b7 =>
   some b7
  )):Option Bool).bind fun b6 =>
  bif b6 then (
   some 10
  ) else (
   some 0
  )
 )
theorem Jjm (a0:Ji) (a1:Qo) (r:Int) (h:Jai a0 a1=some r):Kj Tryz.prog GlS 72 [Enc.pv a0,Enc.pv a1] (Enc.pv r):=by
 unfold Jai at h
 refine zC Tryz.func72 Tryz.ntmps72 ?_
 refine Ja (Jd (zE (Jb (Ja (Ja (zD (zR 3 ?_)))))))
 obtain ⟨r1,h1,h⟩:=Je h
 refine zP (Fc _ _ r1 h1) (zR 2 ?_)
 refine Ku 4 15 ((!r1)||(decide (a1.Length<1))) (fun x hx=>?_) ?_
 ·rcases Vs hx with ⟨hb,hx⟩|⟨hb,hx⟩
  ·refine zS 11 hb ?_
   subst hx
   exact zF
  refine zS 11 hb ?_
  subst hx
  exact zF
 refine zR 1 ?_
 refine Ku 4 20 (((!r1)||(decide (a1.Length<1)))||(decide (1000000<a1.Length))) (fun x hx=>?_) ?_
 ·rcases Vs hx with ⟨hb,hx⟩|⟨hb,hx⟩
  ·refine zS 16 hb ?_
   subst hx
   exact zF
  refine zS 16 hb ?_
  subst hx
  exact zF
 refine zR 1 ?_
 refine Ku 4 25 ((((!r1)||(decide (a1.Length<1)))||(decide (1000000<a1.Length)))||(decide (a1.Head<1))) (fun x hx=>?_) ?_
 ·rcases Vs hx with ⟨hb,hx⟩|⟨hb,hx⟩
  ·refine zS 21 hb ?_
   subst hx
   exact zF
  refine zS 21 hb ?_
  subst hx
  exact zF
 obtain ⟨b2,h2,h⟩:=Je h
 refine zR 1 ?_
 refine Km 12 38 (.bool b2) ?_ ?_
 ·rcases Jl h2 with ⟨hb,h2⟩|⟨hb,h2⟩
  ·refine zS 26 hb ?_
   cases h2
   exact zF
  refine zS 26 hb (zR 5 ?_)
  obtain ⟨r3,h3,h2⟩:=Je h2
  refine zP (Jkz _ r3 h3) (zR 1 ?_)
  obtain ⟨x4,h4,h2⟩:=Je h2
  refine zI h4 ?_
  cases h2
  exact zF
 refine zN (Jb ?_)
 rcases Jl h with ⟨hb,h⟩|⟨hb,h⟩
 ·refine zT hb (Ja (Jd (zE (Jb (Jq (Jm ?_))))))
  cases h
  exact zQ
 refine zU hb (Jj (Jb (Ja (Jd (zR 2 ?_)))))
 obtain ⟨r5,h5,h⟩:=Je h
 refine zP (Jgi _ _ r5 h5) (zE (Jb (Ja (Ja (zD ?_)))))
 obtain ⟨b6,h6,h⟩:=Je h
 refine zR 3 ?_
 refine Km 19 63 (.bool b6) ?_ ?_
 ·rcases Jl h6 with ⟨hb,h6⟩|⟨hb,h6⟩
  ·refine zS 44 hb ?_
   cases h6
   exact zF
  refine zS 44 hb (zR 2 ?_)
  refine zL (L:=(a1.Steps:(List Jf))) ?_
  obtain ⟨b7,h7,h6⟩:=Je h6
  refine zR 2 ?_
  refine Jsv 13 62 (.bool b7) ?_ ?_
  ·rcases Jl h7 with ⟨hb,h7⟩|⟨hb,h7⟩
   ·refine zS 49 hb (zR 5 ?_)
    obtain ⟨x8,h8,h7⟩:=Je h7
    refine zI h8 (zR 2 ?_)
    obtain ⟨x9,h9,h7⟩:=Je h7
    refine zI h9 ?_
    cases h7
    exact zF
   refine zS 49 hb ?_
   cases h7
   exact zF
  cases h6
  exact zF
 refine zN (Jb ?_)
 rcases Jl h with ⟨hb,h⟩|⟨hb,h⟩
 ·refine zT hb (Ja (Jd (zE (Jb (Jq (Jm ?_))))))
  cases h
  exact zQ
 refine zU hb (Jj (Jb (Ja (Jd (zE (Jb (Jq ?_)))))))
 cases h
 exact zQ
/-! claims.length -/
noncomputable def Ey (a0:Ji) (a1:Jf):Option Int :=
 (Ei a0 [a1]).bind fun r1 =>
 some r1
theorem Pg (a0:Ji) (a1:Jf) (r:Int) (h:Ey a0 a1=some r):Kj Tryz.prog GlS 75 [Enc.pv a0,Enc.pv a1] (Enc.pv r):=by
 unfold Ey at h
 refine zC Tryz.func75 Tryz.ntmps75 ?_
 refine Ja (Jd (zE (Jb (Ja (Jd (zR 3 ?_))))))
 obtain ⟨r1,h1,h⟩:=Je h
 refine zP (Iw _ _ r1 h1) (zE (Jb (Jq ?_)))
 cases h
 exact zQ
/-! slices.Clone[[]api.Step,api.Step] -/
noncomputable def Qg (a0:(List Jf)):Option (List Jf) :=
 (Ut ([]:(List Jf)) a0).bind fun x1 =>
 some x1
theorem Ul (a0:(List Jf)) (r:(List Jf)) (h:Qg a0=some r):Kj Tryz.prog GlS 76 [Enc.pv a0] (Jn (.own 7) r):=by
 unfold Qg at h
 refine zC Tryz.func76 Tryz.ntmps76 ?_
 refine Ja (Jd (zE (Jb (Ja (Ja (Jd (zE (Jb ?_))))))))
 refine Oh (e:=((a0:(List Jf)).map cellsOf).isEmpty) (by kernel_rfl) (fun hub=>?_) ?_
 ·have hN:=Oi (Jhy hub) h
  refine Ja (Jd (zE (Jb (Yn 2 7 3 24 (by kernel_rfl) (by kernel_rfl) (Jq (Jm ?_))))))
  cases hN
  exact zQ
 refine Jj (Jb (Ja (Jd (zR 2 ?_))))
 obtain ⟨x1,h1,h⟩:=Je h
 refine Sy (tk:=7) h1 (by kernel_rfl) ?_
 refine zE (Jb (Jq ?_))
 cases h
 exact zQ
theorem Ov (a0:(List Jf)) (r:(List Jf)) (h:Qg a0=some r):Kj Tryz.prog GlS 76 [Enc.pv a0] (Enc.pv r) :=
 (Ul a0 r h).freeze (by kernel_rfl) (by kernel_rfl) (by kernel_rfl)
/-! claims.Begin -/
noncomputable def Ow (a0:Ji) (a1:Qd) (a2:Qo):Option (Jg×Int) :=
 (Pm a0).bind fun r1 =>
 ((bif (!(decide (r1=0))) then some true else (
  (Tc a1).bind fun r3 =>
  some (!(decide (r3=0)))
 )):Option Bool).bind fun b2 =>
 ((bif b2 then some true else (
  (Jai a0 a2).bind fun r5 =>
  some (!(decide (r5=0)))
 )):Option Bool).bind fun b4 =>
 ((bif (b4||(!(decide (a2.Length=a1.Length)))) then some true else (
  some (decide (((a2.Steps.length:Nat):Int)=0))
 )):Option Bool).bind fun b6 =>
 bif b6 then (
  some ((Jg.mk 0 0 0 0 [] [] [] [] [] 0 0 0 0 0),1)
 ) else (
  (ixO a2.Steps (w64 (((a2.Steps.length:Nat):Int) - 1))).bind fun x7 =>
  (Fa a0 (Jo.mk x7.El x7.Out)).bind fun r8 =>
  bif decide (r8<0) then (
   some ((Jg.mk 0 0 0 0 [] [] [] [] [] 0 0 0 0 0),9)
  ) else (
   (slO a2.Steps none (some (w64 (((a2.Steps.length:Nat):Int) - 1))) none).bind fun x9 =>
   (Ei a0 x9).bind fun r10 =>
   (Ey a0 x7).bind fun r11 =>
   (Qg a2.Steps).bind fun r12 =>
   some ((Jg.mk a1.Id (w64 ((w64 (0 - r10)) - a2.Head)) r8 (w64 (r11 - a2.Head)) r12 [] [] [] [] 0 0 0 0 0),0)
  )
 )
theorem Jgx (a0:Ji) (a1:Qd) (a2:Qo) (r:(Jg×Int)) (h:Ow a0 a1 a2=some r):Kj Tryz.prog GlS 30 [Enc.pv a0,Enc.pv a1,Enc.pv a2] (.tup [Enc.pv r.1,Enc.pv r.2]):=by
 unfold Ow at h
 refine zC Tryz.func30 Tryz.ntmps30 ?_
 refine Ja (Jd (zE (Jb (Ja (Ja (Jd (zR 1 ?_)))))))
 obtain ⟨r1,h1,h⟩:=Je h
 refine zP (Jf9 _ r1 h1) ?_
 obtain ⟨b2,h2,h⟩:=Je h
 refine zR 2 ?_
 refine Km 4 18 (.bool b2) ?_ ?_
 ·rcases Jl h2 with ⟨hb,h2⟩|⟨hb,h2⟩
  ·refine zS 14 hb ?_
   cases h2
   exact zF
  refine zS 14 hb (zR 1 ?_)
  obtain ⟨r3,h3,h2⟩:=Je h2
  refine zP (Jhz _ r3 h3) ?_
  cases h2
  exact zF
 obtain ⟨b4,h4,h⟩:=Je h
 refine zR 1 ?_
 refine Km 5 24 (.bool b4) ?_ ?_
 ·rcases Jl h4 with ⟨hb,h4⟩|⟨hb,h4⟩
  ·refine zS 19 hb ?_
   cases h4
   exact zF
  refine zS 19 hb (zR 2 ?_)
  obtain ⟨r5,h5,h4⟩:=Je h4
  refine zP (Jjm _ _ r5 h5) ?_
  cases h4
  exact zF
 refine zR 1 ?_
 refine Ku 6 31 (b4||(!(decide (a2.Length=a1.Length)))) (fun x hx=>?_) ?_
 ·rcases Vs hx with ⟨hb,hx⟩|⟨hb,hx⟩
  ·refine zS 25 hb ?_
   subst hx
   exact zF
  refine zS 25 hb ?_
  subst hx
  exact zF
 obtain ⟨b6,h6,h⟩:=Je h
 refine zR 1 ?_
 refine Km 5 37 (.bool b6) ?_ ?_
 ·rcases Jl h6 with ⟨hb,h6⟩|⟨hb,h6⟩
  ·refine zS 32 hb ?_
   cases h6
   exact zF
  refine zS 32 hb (zR 2 ?_)
  refine zL (L:=(a2.Steps:(List Jf))) ?_
  cases h6
  exact zF
 refine zN (Jb ?_)
 rcases Jl h with ⟨hb,h⟩|⟨hb,h⟩
 ·refine zT hb (Ja (Jd (zE (Jb (Jq (Jm ?_))))))
  cases h
  exact zQ
 refine zU hb (Jj (Jb (Ja (Jd (zR 2 ?_)))))
 refine zL (L:=(a2.Steps:(List Jf))) ?_
 refine zE (Jb (Ja (Jd (zR 3 ?_))))
 obtain ⟨x7,h7,h⟩:=Je h
 refine zI h7 (zE (Jb (Ja (Jd (zR 6 ?_)))))
 obtain ⟨r8,h8,h⟩:=Je h
 refine zP (Oo _ _ r8 h8) (zE (Jb (Ja (Ja (Jd (zE (Jb ?_)))))))
 rcases Jl h with ⟨hb,h⟩|⟨hb,h⟩
 ·refine zT hb (Ja (Jd (zE (Jb (Jq (Jm ?_))))))
  cases h
  exact zQ
 refine zU hb (Jj (Jb (Ja (zD (zR 6 ?_)))))
 obtain ⟨x9,h9,h⟩:=Je h
 refine Jvt h9 .frozen (by kernel_rfl) (by kernel_rfl) (by kernel_rfl) ?_
 obtain ⟨r10,h10,h⟩:=Je h
 refine zP (Iw _ _ r10 h10) (zR 7 ?_)
 obtain ⟨r11,h11,h⟩:=Je h
 refine zP (Pg _ _ r11 h11) (zR 5 ?_)
 obtain ⟨r12,h12,h⟩:=Je h
 refine zP (Ov _ r12 h12) (zE (Jb (Jq ?_)))
 cases h
 exact zQ
/-! session.New -/
noncomputable def Td (a0:Int) (a1:Int):Option Jk :=
 some (Jk.mk a0 0 0 a1)
theorem Jhb (a0:Int) (a1:Int) (r:Jk) (h:Td a0 a1=some r):Kj Tryz.prog GlS 31 [Enc.pv a0,Enc.pv a1] (Enc.pv r):=by
 unfold Td at h
 refine zC Tryz.func31 Tryz.ntmps31 ?_
 refine Ja (Jd (zE (Jb (Ja (Jd (zE (Jb (Jq ?_))))))))
 cases h
 exact zQ
/-! walk.Sections -/
noncomputable def Jr6 (a0:Ji) (a1:(List Jf)):(Int×(List (Int×Bool))×(List Int))→Option ((Int×(List (Int×Bool))×(List Int))⊕((List Int)⊕(List Int))):=fun (x23,x24,x25) =>
 bif decide (x23<((a1.length:Nat):Int)) then (
  onInl (α:=((List Int)×(List (Int×Bool)))) (β:=((Int×(List (Int×Bool))×(List Int))⊕((List Int)⊕(List Int)))) (
   (ixO a1 x23).bind fun x43 =>
   (Cd a0 x43.El).bind fun r44 =>
   bif (!r44) then (
    some (.inl (x25,x24))
   ) else (
    (ixO a0.Elements x43.El).bind fun x45 =>
    bif (!((Vy (x24:(List (Int×Bool))) x45.Section).getD false)) then (
     (Ut x25 [x45.Section]).bind fun x46 =>
     some (.inl (x46,(Cq x45.Section true x24)))
    ) else (
     some (.inl (x25,x24))
    )
   )
  ) fun (x41,x42) =>
  some (.inl (w64 (x23+1),x42,x41))
 ) else (
  some (.inr (.inl x25))
 )
/-! walk.Sections -/
noncomputable def Nq (a0:Ji) (a1:(List Jf)):(Int×(List (Int×Bool))×(List Int))→Option ((Int×(List (Int×Bool))×(List Int))⊕((List Int)⊕(List Int))):=fun (x23,x24,x25) =>
 bif decide (x23<((a1.length:Nat):Int)) then (
  onInl (α:=((List Int)×(List (Int×Bool)))) (β:=((Int×(List (Int×Bool))×(List Int))⊕((List Int)⊕(List Int)))) (
   (ixO a1 x23).bind fun x43 =>
   (Cd a0 x43.El).bind fun r44 =>
   bif (!r44) then (
    some (.inl (x25,x24))
   ) else (
    (ixO a0.Elements x43.El).bind fun x45 =>
    bif (!((Vy (x24:(List (Int×Bool))) x45.Section).getD false)) then (
     (Ut x25 [x45.Section]).bind fun x46 =>
     some (.inl (x46,(Cq x45.Section true x24)))
    ) else (
     some (.inl (x25,x24))
    )
   )
  ) fun (x41,x42) =>
  some (.inl (w64 (x23+1),x42,x41))
 ) else (
  some (.inr (.inl x25))
 )
noncomputable def Hd (a0:Ji) (a1:(List Jf)):Option (List Int) :=
 onInl (α:=(List Int)) (β:=(List Int)) (Ko (Nq a0 a1) (0,([]:(List (Int×Bool))),([]:(List Int)))) fun x36 =>
 some x36
theorem Jec (a0:Ji) (a1:(List Jf)) (r:(List Int)) (h:Hd a0 a1=some r):Jlw Tryz.prog GlS 77 [Enc.pv a0,Enc.pv a1] 1 8 (r.map cellsOf):=by
 unfold Hd at h
 refine Tf Tryz.func77 (by rfl) rfl Tryz.ntmps77 (by rfl) rfl ?_
 refine Ja (Jd (zE (Jb (Ja (Jd (zE (Jb (Ja (Jd (zE (Jb (Ja (Ja (Jd (zR 1 ?_)))))))))))))))
 refine zL (L:=(a1:(List Jf))) ?_
 refine zE (Jb (Jp (Ka (Jgg 5 100005 1 8 (by kernel_rfl) (by kernel_rfl)) ?_)))
 obtain ⟨o29,h29,h⟩:=Kk h
 refine zA 41 0 (fun (x23,x24,x25)=>⟨[(2,.ref 2 0),(5,.ex 100005 1 8 (((x25:(List Int)).map cellsOf).length) 0 (((x25:(List Int)).map cellsOf).length)),(6,.mp 10),(11,Jn .frozen (a1:(List Jf))),(12,.int .i64 ((a1.length:Nat):Int)),(13,.int .i64 x23)],[(2,.cells (cellsOf a0)),(10,.map (Wg (x24:(List (Int×Bool)))))],[(100005,(((x25:(List Int)).map cellsOf).length,0))],[(100005,(1,(8,(x25:(List Int)).map cellsOf)))]⟩) (fun x36=>⟨[(5,.ex 100005 1 8 (((x36:(List Int)).map cellsOf).length) 0 (((x36:(List Int)).map cellsOf).length))],[],[(100005,(((x36:(List Int)).map cellsOf).length,0))],[(100005,(1,(8,(x36:(List Int)).map cellsOf)))]⟩) h29 ?_ ?_
 ·rintro ⟨x23,x24,x25⟩ oh28 h28
  unfold Nq at h28
  refine Ja (Jd (zE (Jb (Ja ?_))))
  rcases Jl h28 with ⟨hb,h28⟩|⟨hb,h28⟩
  ·refine zT hb (Jj (Jb ?_))
   obtain ⟨o34,h34,h28⟩:=Kk h28
   refine Qp (o:=o34) 41 (fun (x41,x42)=>⟨[(2,.ref 2 0),(5,.ex 100005 1 8 (((x41:(List Int)).map cellsOf).length) 0 (((x41:(List Int)).map cellsOf).length)),(6,.mp 10),(11,Jn .frozen (a1:(List Jf))),(12,.int .i64 ((a1.length:Nat):Int)),(13,.int .i64 x23)],[(2,.cells (cellsOf a0)),(10,.map (Wg (x42:(List (Int×Bool)))))],[(100005,(((x41:(List Int)).map cellsOf).length,0))],[(100005,(1,(8,(x41:(List Int)).map cellsOf)))]⟩) ?_ ?_
   ·refine Jp (Ja (Jd ?_))
    obtain ⟨x43,h35,h34⟩:=Je h34
    refine zI h35 (zE (Jb (Ja (Ja (Jd (zR 3 ?_))))))
    obtain ⟨r44,h36,h34⟩:=Je h34
    refine zP (Iy _ _ r44 h36) (zE (Jb ?_))
    rcases Jl h34 with ⟨hb,h34⟩|⟨hb,h34⟩
    ·refine zT hb (Jy (Jv (Jt ?_)))
     cases h34
     exact zJ
    refine zU hb (Jj (Jb (Ja (Jd (zR 4 ?_)))))
    obtain ⟨x45,h37,h34⟩:=Je h34
    refine zI h37 (zE (Jb (Ja (Jd (zR 2 ?_)))))
    refine Jci (m:=(x24:(List (Int×Bool)))) (k:=x45.Section) false 10 (by kernel_rfl) (by kernel_rfl) ?_
    refine zE (Jb ?_)
    rcases Jl h34 with ⟨hb,h34⟩|⟨hb,h34⟩
    ·refine zT hb (Ja (Jd (zR 2 ?_)))
     refine Je3 (m:=(x24:(List (Int×Bool)))) (k:=x45.Section) (v:=true) 10 (by kernel_rfl) (by kernel_rfl) (by kernel_rfl) ?_
     refine zN (Jb (Jd (zR 3 ?_)))
     obtain ⟨x46,h38,h34⟩:=Je h34
     refine Jq0 (tk:=100005) (N:=((x25:(List Int)).map cellsOf).length) h38 (by kernel_rfl) (by kernel_rfl) (by kernel_rfl) ?_
     refine zE (Jz ?_)
     cases h34
     exact zJ
    refine zU hb (Jj (Jz ?_))
    cases h34
    exact zJ
   rintro ⟨x41,x42⟩ rfl
   have h28:=Kb h28
   refine Jd (zE ?_)
   cases h28
   exact zB
  refine zU hb (Jy (Jv ?_))
  cases h28
  exact zX
 rintro x36 s' rfl hs
 have h:=Kb h
 refine Jt (Jb (Ka hs (Ja (Jd (zE (Jb (Jq ?_)))))))
 have hq:=Option.some.inj h
 subst hq
 exact Jlb 100005 (((x36:(List Int)).map cellsOf).length) (by kernel_rfl)
/-! slices.Sort[[]int,int] (the shelf's contract) -/
noncomputable def Rh (a0:(List Int)):Option (List Int):=some (a0.mergeSort fun x y=>decide (x≤y))
theorem Jck (a0:(List Int)) (r:(List Int)) (h:Rh a0=some r):Ma Tryz.prog GlS 78 1 8 (a0.map cellsOf) [] none (r.map cellsOf):=by
 cases h
 exact Jqm Tryz.sort78 ⟨_,Tryz.func78,rfl,rfl⟩ a0
/-! body.Sections -/
noncomputable def Ms (a0:Ji) (a1:Qo):Option (List Int) :=
 (Hd a0 a1.Steps).bind fun r1 =>
 (Rh r1).bind fun r2 =>
 some r2
theorem Je7 (a0:Ji) (a1:Qo) (r:(List Int)) (h:Ms a0 a1=some r):Kj Tryz.prog GlS 32 [Enc.pv a0,Enc.pv a1] (Enc.pv r):=by
 unfold Ms at h
 refine zC Tryz.func32 Tryz.ntmps32 ?_
 refine Ja (Jd (zE (Jb (Ja (Jd (zR 3 ?_))))))
 obtain ⟨r1,h1,h⟩:=Je h
 refine Jjv (α:=Int) 9 (Jec _ _ r1 h1) (by kernel_rfl) (by kernel_rfl) ?_
 refine zE (Jb (Ja (Jd (zR 1 ?_))))
 obtain ⟨r2,h2,h⟩:=Je h
 refine Dd (t:=9) (L:=(r1:(List Int))) (L':=(r2:(List Int))) (N:=((r1:(List Int)).map cellsOf).length) (by kernel_rfl) (by kernel_rfl) (by kernel_rfl) (Jck _ r2 h2) ?_
 refine zN (Jb (Ja (Jd (zE (Jb ?_)))))
 refine Ka (Bd (xss:=(r2:(List Int)).map cellsOf) 9 1 8 (((r1:(List Int)).map cellsOf).length) [4,5,9,10,12] [] (by kernel_rfl) (by kernel_rfl) (by kernel_rfl) (by kernel_rfl)) ?_
 refine Jq ?_
 cases h
 exact zQ
/-! rbc.New -/
noncomputable def Jiz (a1:(List Qd)):Int→Option (Int⊕(Unit⊕(Jw×Int))):=fun x4 =>
 bif decide (x4<((a1.length:Nat):Int)) then (
  (ixO a1 (w64 (x4 - 1))).bind fun x7 =>
  (ixO a1 x4).bind fun x8 =>
  bif decide (x8.Id≤x7.Id) then (
   some (.inr (.inr ((Jw.mk [] []),7)))
  ) else (
   some (.inl (w64 (x4+1)))
  )
 ) else (
  some (.inr (.inl ()))
 )
noncomputable def Jiw (a0:Ji) (a1:(List Qd)) (a2:(List Qo)):(Int×(List Jg)×(List Jk))→Option ((Int×(List Jg)×(List Jk))⊕(((List Jg)×(List Jk))⊕(Jw×Int))):=fun (x22,x23,x24) =>
 bif decide (x22<((a1.length:Nat):Int)) then (
  (ixO a1 x22).bind fun x33 =>
  (ixO a2 x22).bind fun x34 =>
  (Ow a0 x33 x34).bind fun r35 =>
  bif (!(decide (r35.2=0))) then (
   some (.inr (.inr ((Jw.mk [] []),r35.2)))
  ) else (
   (Ut x23 [r35.1]).bind fun x36 =>
   (Td x33.Id 0).bind fun r37 =>
   (Ut x24 [r37]).bind fun x38 =>
   some (.inl (w64 (x22+1),x36,x38))
  )
 ) else (
  some (.inr (.inl (x23,x24)))
 )
noncomputable def Jif (r58:(List Int)):(Int×(List (Int×Bool)))→Option ((Int×(List (Int×Bool)))⊕((List (Int×Bool))⊕((Int×(List (Int×Bool)))⊕(Unit⊕(Jw×Int))))):=fun (x60,x61) =>
 bif decide (x60<((r58.length:Nat):Int)) then (
  (ixO r58 x60).bind fun x64 =>
  bif ((Vy (x61:(List (Int×Bool))) x64).getD false) then (
   some (.inr (.inr (.inr (.inr ((Jw.mk [] []),10)))))
  ) else (
   some (.inl (w64 (x60+1),(Cq x64 true x61)))
  )
 ) else (
  some (.inr (.inl x61))
 )
noncomputable def Jih (a0:Ji) (a2:(List Qo)):(Int×(List (Int×Bool)))→Option ((Int×(List (Int×Bool)))⊕(Unit⊕(Jw×Int))):=fun (x47,x48) =>
 bif decide (x47<((a2.length:Nat):Int)) then (
  (ixO a2 x47).bind fun x57 =>
  (Ms a0 x57).bind fun r58 =>
  onInl (α:=(List (Int×Bool))) (β:=((Int×(List (Int×Bool)))⊕(Unit⊕(Jw×Int)))) (Ko (Jif r58) (0,x48)) fun x63 =>
  some (.inl (w64 (x47+1),x63))
 ) else (
  some (.inr (.inl ()))
 )
noncomputable def Jhx (a0:Ji) (a1:(List Qd)) (a2:(List Qo)):Option (Jw×Int) :=
 ((bif ((decide (((a1.length:Nat):Int)=0))||(decide (6<((a1.length:Nat):Int)))) then some true else (
  some (!(decide (((a2.length:Nat):Int)=((a1.length:Nat):Int))))
 )):Option Bool).bind fun b1 =>
 bif b1 then (
  some ((Jw.mk [] []),1)
 ) else (
  onInl (α:=Unit) (β:=(Jw×Int)) (Ko (Jiz a1) 1) fun _ =>
  onInl (α:=((List Jg)×(List Jk))) (β:=(Jw×Int)) (Ko (Jiw a0 a1 a2) (0,([]:(List Jg)),([]:(List Jk)))) fun (x31,x32) =>
  onInl (α:=Unit) (β:=(Jw×Int)) (Ko (Jih a0 a2) (0,([]:(List (Int×Bool))))) fun _ =>
  some ((Jw.mk x31 x32),0)
 )
theorem Jn0 (a0:Ji) (a1:(List Qd)) (a2:(List Qo)) (r:(Jw×Int)) (h:Jhx a0 a1 a2=some r):Kj Tryz.prog GlS 10 [Enc.pv a0,Enc.pv a1,Enc.pv a2] (.tup [Enc.pv r.1,Enc.pv r.2]):=by
 unfold Jhx at h
 refine zC Tryz.func10 Tryz.ntmps10 ?_
 refine Ja (Jd (zE (Jb (Ja (Jd (zR 1 ?_))))))
 refine zL (L:=(a1:(List Qd))) ?_
 refine zE (Jb (Ja (Ja (Jd (zR 3 ?_)))))
 refine Ku 3 27 ((decide (((a1.length:Nat):Int)=0))||(decide (6<((a1.length:Nat):Int)))) (fun x hx=>?_) ?_
 ·rcases Vs hx with ⟨hb,hx⟩|⟨hb,hx⟩
  ·refine zS 24 hb ?_
   subst hx
   exact zF
  refine zS 24 hb ?_
  subst hx
  exact zF
 obtain ⟨b1,h1,h⟩:=Je h
 refine zR 1 ?_
 refine Km 5 33 (.bool b1) ?_ ?_
 ·rcases Jl h1 with ⟨hb,h1⟩|⟨hb,h1⟩
  ·refine zS 28 hb ?_
   cases h1
   exact zF
  refine zS 28 hb (zR 1 ?_)
  refine zL (L:=(a2:(List Qo))) ?_
  cases h1
  exact zF
 refine zN (Jb ?_)
 rcases Jl h with ⟨hb,h⟩|⟨hb,h⟩
 ·refine zT hb (Ja (Jd (zE (Jb (Jq (Jm ?_))))))
  cases h
  exact zQ
 refine zU hb (Jj (Jb (Ja (Ja (Jd (zE (Jb (Jp ?_))))))))
 obtain ⟨o9,h9,h⟩:=Kk h
 refine zA 113 0 (fun x4=>⟨[(1,Jn .frozen (a1:(List Qd))),(2,Jn .frozen (a2:(List Qo))),(3,.ref 3 0),(6,.ref 6 0),(8,.int .i64 ((a1.length:Nat):Int)),(9,.int .i64 x4)],[(3,.cells (cellsOf a0)),(6,.cells ([.nil,.nil]))],[],[]⟩) (fun (_:Unit)=>⟨[(1,Jn .frozen (a1:(List Qd))),(2,Jn .frozen (a2:(List Qo))),(3,.ref 3 0),(6,.ref 6 0)],[(3,.cells (cellsOf a0)),(6,.cells ([.nil,.nil]))],[],[]⟩) h9 ?_ ?_
 ·rintro x4 oh8 h8
  unfold Jiz at h8
  refine Ja (Ja (Jd (zE (Jb ?_))))
  rcases Jl h8 with ⟨hb,h8⟩|⟨hb,h8⟩
  ·refine zT hb (Jj (Jb (Ja (Jp (Ja (zD (zR 3 ?_)))))))
   obtain ⟨x7,h10,h8⟩:=Je h8
   refine zI h10 (zR 4 ?_)
   obtain ⟨x8,h11,h8⟩:=Je h8
   refine zI h11 (zE (Jb ?_))
   rcases Jl h8 with ⟨hb,h8⟩|⟨hb,h8⟩
   ·refine zT hb (Ja (Jd (zE (Jb (Jq (Js (Jm ?_)))))))
    cases h8
    refine Kd fun he=>?_
    subst he
    have h12:=Kq h
    refine Js (Jm ?_)
    cases h12
    exact zQ
   refine zU hb (Jj (Jz (Jb (Jd (zE ?_)))))
   cases h8
   exact zB
  refine zU hb (Jy (Jv ?_))
  cases h8
  exact zX
 rintro _ s' rfl hs
 have h:=Kb h
 refine Jt (Jb (Ka hs (Ja (Jd (zE (Jb (Ja (Ja (Jd (zR 1 ?_))))))))))
 refine zL (L:=(a1:(List Qd))) ?_
 refine zE (Jb (Jp ?_))
 refine Ka (Ho 10 0 201000 14 192 (cs:=[.nil,.nil]) (by kernel_rfl) (by kernel_rfl) (by kernel_rfl)) ?_
 refine Ka (Ho 10 1 201001 4 32 (cs:=[Jn (.own 201000) (([]:(List Jg)):(List Jg)),.nil]) (by kernel_rfl) (by kernel_rfl) (by kernel_rfl)) ?_
 obtain ⟨o35,h35,h⟩:=Kk h
 refine zA 113 2 (fun (x22,x23,x24)=>⟨[(2,Jn .frozen (a2:(List Qo))),(3,.ref 3 0),(6,.ref 6 0),(10,.ref 10 0),(53,Jn .frozen (a1:(List Qd))),(54,.int .i64 ((a1.length:Nat):Int)),(55,.int .i64 x22)],[(3,.cells (cellsOf a0)),(6,.cells ([.nil,.nil])),(10,.cells ([Jn (.own 201000) (x23:(List Jg)),Jn (.own 201001) (x24:(List Jk))]))],[(201000,(((x23).map cellsOf).length,14)),(201001,(((x24).map cellsOf).length,4))],[]⟩) (fun (x31,x32)=>⟨[(2,Jn .frozen (a2:(List Qo))),(3,.ref 3 0),(6,.ref 6 0),(10,.ref 10 0)],[(3,.cells (cellsOf a0)),(6,.cells ([.nil,.nil])),(10,.cells ([Jn (.own 201000) (x31:(List Jg)),Jn (.own 201001) (x32:(List Jk))]))],[(201000,(((x31).map cellsOf).length,14)),(201001,(((x32).map cellsOf).length,4))],[]⟩) h35 ?_ ?_
 ·rintro ⟨x22,x23,x24⟩ oh34 h34
  unfold Jiw at h34
  refine Ja (Jd (zE (Jb (Ja ?_))))
  rcases Jl h34 with ⟨hb,h34⟩|⟨hb,h34⟩
  ·refine zT hb (Jj (Jb (Ja (Jp (Ja (Jd (zR 1 ?_)))))))
   obtain ⟨x33,h36,h34⟩:=Je h34
   refine zI h36 (zE (Jb (Ja (zD (zR 4 ?_)))))
   obtain ⟨x34,h37,h34⟩:=Je h34
   refine zI h37 (zR 1 ?_)
   obtain ⟨r35,h38,h34⟩:=Je h34
   refine zP (Jgx _ _ _ r35 h38) (zE (Jb (Ja (Ja (Jd (zE (Jb ?_)))))))
   rcases Jl h34 with ⟨hb,h34⟩|⟨hb,h34⟩
   ·refine zT hb (Ja (Jd (zE (Jb (Jq (Jm (Js (Jm ?_))))))))
    cases h34
    refine Kd fun he=>?_
    subst he
    have h39:=Kq h
    refine Js (Jm ?_)
    cases h39
    exact zQ
   refine zU hb (Jj (Jb (Ja (Jd (zR 4 ?_)))))
   obtain ⟨x36,h40,h34⟩:=Je h34
   refine zW (tk:=201000) h40 ?_
   refine zE (Jb (zD (zR 4 ?_)))
   obtain ⟨r37,h41,h34⟩:=Je h34
   refine zP (Jhb _ _ r37 h41) (zR 1 ?_)
   obtain ⟨x38,h42,h34⟩:=Je h34
   refine zW (tk:=201001) h42 ?_
   refine zE (Jz (Jb (Jd (zE ?_))))
   cases h34
   exact zB
  refine zU hb (Jy (Jv ?_))
  cases h34
  exact zX
 rintro ⟨x31,x32⟩ s' rfl hs
 have h:=Kb h
 refine Jt (Jb (Ka hs (Ja (Jd (zE (Jb (Ja (Ja (Jd (zR 1 ?_))))))))))
 refine zL (L:=(a2:(List Qo))) ?_
 refine zE (Jb (Jp ?_))
 obtain ⟨o70,h70,h⟩:=Kk h
 refine zA 113 4 (fun (x47,x48)=>⟨[(3,.ref 3 0),(6,.ref 6 0),(10,.ref 10 0),(15,.mp 89),(90,Jn .frozen (a2:(List Qo))),(91,.int .i64 ((a2.length:Nat):Int)),(92,.int .i64 x47)],[(3,.cells (cellsOf a0)),(6,.cells ([.nil,.nil])),(10,.cells ([Jn (.own 201000) (x31:(List Jg)),Jn (.own 201001) (x32:(List Jk))])),(89,.map (Wg (x48:(List (Int×Bool)))))],[(201000,(((x31).map cellsOf).length,14)),(201001,(((x32).map cellsOf).length,4))],[]⟩) (fun (_:Unit)=>⟨[(6,.ref 6 0),(10,.ref 10 0)],[(6,.cells ([.nil,.nil])),(10,.cells ([Jn (.own 201000) (x31:(List Jg)),Jn (.own 201001) (x32:(List Jk))]))],[(201000,(((x31).map cellsOf).length,14)),(201001,(((x32).map cellsOf).length,4))],[]⟩) h70 ?_ ?_
 ·rintro ⟨x47,x48⟩ oh69 h69
  unfold Jih at h69
  refine Ja (Jd (zE (Jb (Ja ?_))))
  rcases Jl h69 with ⟨hb,h69⟩|⟨hb,h69⟩
  ·refine zT hb (Jj (Jb (Ja (Jp (Ja (Jd ?_))))))
   obtain ⟨x57,h71,h69⟩:=Je h69
   refine zI h71 (zE (Jb (Ja (Jd (zR 2 ?_)))))
   obtain ⟨r58,h72,h69⟩:=Je h69
   refine zP (Je7 _ _ r58 h72) ?_
   refine zL (L:=(r58:(List Int))) ?_
   refine zE (Jb (Jp ?_))
   obtain ⟨o80,h80,h69⟩:=Kk h69
   refine zA 113 6 (fun (x60,x61)=>⟨[(3,.ref 3 0),(6,.ref 6 0),(10,.ref 10 0),(15,.mp 89),(90,Jn .frozen (a2:(List Qo))),(91,.int .i64 ((a2.length:Nat):Int)),(92,.int .i64 x47),(98,Jn .frozen (r58:(List Int))),(99,.int .i64 ((r58.length:Nat):Int)),(100,.int .i64 x60)],[(3,.cells (cellsOf a0)),(6,.cells ([.nil,.nil])),(10,.cells ([Jn (.own 201000) (x31:(List Jg)),Jn (.own 201001) (x32:(List Jk))])),(89,.map (Wg (x61:(List (Int×Bool)))))],[(201000,(((x31).map cellsOf).length,14)),(201001,(((x32).map cellsOf).length,4))],[]⟩) (fun x63=>⟨[(3,.ref 3 0),(6,.ref 6 0),(10,.ref 10 0),(15,.mp 89),(90,Jn .frozen (a2:(List Qo))),(91,.int .i64 ((a2.length:Nat):Int)),(92,.int .i64 x47)],[(3,.cells (cellsOf a0)),(6,.cells ([.nil,.nil])),(10,.cells ([Jn (.own 201000) (x31:(List Jg)),Jn (.own 201001) (x32:(List Jk))])),(89,.map (Wg (x63:(List (Int×Bool)))))],[(201000,(((x31).map cellsOf).length,14)),(201001,(((x32).map cellsOf).length,4))],[]⟩) h80 ?_ ?_
   ·rintro ⟨x60,x61⟩ oh79 h79
    unfold Jif at h79
    refine Ja (Jd (zE (Jb (Ja ?_))))
    rcases Jl h79 with ⟨hb,h79⟩|⟨hb,h79⟩
    ·refine zT hb (Jj (Jb (Ja (Jp (Ja (Jd ?_))))))
     obtain ⟨x64,h81,h79⟩:=Je h79
     refine zI h81 (zE (Jb (Ja (Ja (Jd (zR 2 ?_))))))
     refine Jci (m:=(x61:(List (Int×Bool)))) (k:=x64) false 89 (by kernel_rfl) (by kernel_rfl) ?_
     refine zN (Jb ?_)
     rcases Jl h79 with ⟨hb,h79⟩|⟨hb,h79⟩
     ·refine zT hb (Ja (Jd (zE (Jb (Jq (Jm (Js (Jm ?_))))))))
      cases h79
      refine Kd fun he=>?_
      subst he
      have h82:=Kq h69
      refine Js (Js (Jm ?_))
      cases h82
      refine Kd fun he=>?_
      subst he
      have h83:=Kq h
      refine Js (Jm ?_)
      cases h83
      exact zQ
     refine zU hb (Jj (Jb (Jd (zR 2 ?_))))
     refine Je3 (m:=(x61:(List (Int×Bool)))) (k:=x64) (v:=true) 89 (by kernel_rfl) (by kernel_rfl) (by kernel_rfl) ?_
     refine zN (Jz (Jb (Jd (zE ?_))))
     cases h79
     exact zB
    refine zU hb (Jy (Jv ?_))
    cases h79
    exact zX
   rintro x63 s' rfl hs
   have h69:=Kb h69
   refine Jt (Jz (Jb (Ka hs (Jd (zE ?_)))))
   cases h69
   exact zB
  refine zU hb (Jy (Jv ?_))
  cases h69
  exact zX
 rintro _ s' rfl hs
 have h:=Kb h
 refine Jt (Jb (Ka hs (Ja (Jd (zE (Jb (Jq ?_)))))))
 cases h
 exact zQ
/-! slices.Clone[[]int,int] -/
noncomputable def Kn (a0:(List Int)):Option (List Int) :=
 (Ut ([]:(List Int)) a0).bind fun x1 =>
 some x1
theorem Ky (a0:(List Int)) (r:(List Int)) (h:Kn a0=some r):Kj Tryz.prog GlS 91 [Enc.pv a0] (Jn (.own 7) r):=by
 unfold Kn at h
 refine zC Tryz.func91 Tryz.ntmps91 ?_
 refine Ja (Jd (zE (Jb (Ja (Ja (Jd (zE (Jb ?_))))))))
 refine Oh (e:=((a0:(List Int)).map cellsOf).isEmpty) (by kernel_rfl) (fun hub=>?_) ?_
 ·have hN:=Oi (Jhy hub) h
  refine Ja (Jd (zE (Jb (Yn 2 7 1 8 (by kernel_rfl) (by kernel_rfl) (Jq (Jm ?_))))))
  cases hN
  exact zQ
 refine Jj (Jb (Ja (Jd (zR 2 ?_))))
 obtain ⟨x1,h1,h⟩:=Je h
 refine Sy (tk:=7) h1 (by kernel_rfl) ?_
 refine zE (Jb (Jq ?_))
 cases h
 exact zQ
/-! slices.Clone[[]api.Session,api.Session] -/
noncomputable def Vh (a0:(List Jk)):Option (List Jk) :=
 (Ut ([]:(List Jk)) a0).bind fun x1 =>
 some x1
theorem Lw (a0:(List Jk)) (r:(List Jk)) (h:Vh a0=some r):Kj Tryz.prog GlS 92 [Enc.pv a0] (Jn (.own 7) r):=by
 unfold Vh at h
 refine zC Tryz.func92 Tryz.ntmps92 ?_
 refine Ja (Jd (zE (Jb (Ja (Ja (Jd (zE (Jb ?_))))))))
 refine Oh (e:=((a0:(List Jk)).map cellsOf).isEmpty) (by kernel_rfl) (fun hub=>?_) ?_
 ·have hN:=Oi (Jhy hub) h
  refine Ja (Jd (zE (Jb (Yn 2 7 4 32 (by kernel_rfl) (by kernel_rfl) (Jq (Jm ?_))))))
  cases hN
  exact zQ
 refine Jj (Jb (Ja (Jd (zR 2 ?_))))
 obtain ⟨x1,h1,h⟩:=Je h
 refine Sy (tk:=7) h1 (by kernel_rfl) ?_
 refine zE (Jb (Jq ?_))
 cases h
 exact zQ
/-! rbc.complete -/
noncomputable def Yy (a0:Jw):Option Bool :=
 some (decide (((a0.Tracks.length:Nat):Int)=((a0.Sessions.length:Nat):Int)))
theorem Hx (a0:Jw) (r:Bool) (h:Yy a0=some r):Kj Tryz.prog GlS 41 [Enc.pv a0] (Enc.pv r):=by
 unfold Yy at h
 refine zC Tryz.func41 Tryz.ntmps41 ?_
 refine Ja (Jd (zE (Jb (Ja (Jd (zR 2 ?_))))))
 refine zL (L:=(a0.Tracks:(List Jg))) ?_
 refine zR 2 ?_
 refine zL (L:=(a0.Sessions:(List Jk))) ?_
 refine zE (Jb (Jq ?_))
 cases h
 exact zQ
/-! slices.Clone[[]int,int] -/
noncomputable def Db (a0:(List Int)):Option (List Int) :=
 (Ut ([]:(List Int)) a0).bind fun x1 =>
 some x1
theorem Jaj (a0:(List Int)) (r:(List Int)) (h:Db a0=some r):Jlw Tryz.prog GlS 91 [Enc.pv a0] 1 8 (r.map cellsOf):=by
 unfold Db at h
 refine Tf Tryz.func91 (by rfl) rfl Tryz.ntmps91 (by rfl) rfl ?_
 refine Ja (Jd (zE (Jb (Ja (Ja (Jd (zE (Jb ?_))))))))
 refine Oh (e:=((a0:(List Int)).map cellsOf).isEmpty) (by kernel_rfl) (fun hub=>?_) ?_
 ·have hN:=Oi (Jhy hub) h
  refine Ja (Jd (zE (Jb (Ka (Jgg 2 100002 1 8 (by kernel_rfl) (by kernel_rfl)) (Jq (Jm ?_))))))
  have hq:=Option.some.inj hN
  subst hq
  exact Jlb 100002 (((([]:(List Int)):(List Int)).map cellsOf).length) (by kernel_rfl)
 refine Jj (Jb (Ja (Jd (zR 2 ?_))))
 obtain ⟨x1,h1,h⟩:=Je h
 refine Jjx (tk:=7) (x:=.lst .full 1 8 []) h1 (.inr ⟨_,_,rfl⟩) (by kernel_rfl) (by kernel_rfl) ?_
 refine zE (Jb (Jq ?_))
 have hq:=Option.some.inj h
 subst hq
 exact Jlb 7 (((x1:(List Int)).map cellsOf).length) (by kernel_rfl)
/-! claims.Settle$1 -/
noncomputable def Bu (a0:Int) (c0:Qf):Option Bool :=
 ((bif decide (a0<0) then some true else (
  some (decide (((c0.Routes.length:Nat):Int)≤a0))
 )):Option Bool).bind fun b1 =>
 bif b1 then (
  some true
 ) else (
  (ixO c0.Routes a0).bind fun x2 =>
  some ((!(decide (x2.State=3)))&&(!(decide (x2.State=4))))
 )
theorem Ik (a0:Int) (c0:Qf) (r:Bool) (h:Bu a0 c0=some r):Kj Tryz.prog GlS 95 [Enc.pv a0,.cptr (cellsOf c0)] (Enc.pv r):=by
 unfold Bu at h
 refine zC Tryz.func95 Tryz.ntmps95 ?_
 refine Ja (Jd (zE (Jb (Ja (Ja (Jd ?_))))))
 obtain ⟨b1,h1,h⟩:=Je h
 refine zR 3 ?_
 refine Km 6 13 (.bool b1) ?_ ?_
 ·rcases Jl h1 with ⟨hb,h1⟩|⟨hb,h1⟩
  ·refine zS 7 hb ?_
   cases h1
   exact zF
  refine zS 7 hb (zR 3 ?_)
  refine zL (L:=(c0.Routes:(List Qn))) ?_
  cases h1
  exact zF
 refine zN (Jb ?_)
 rcases Jl h with ⟨hb,h⟩|⟨hb,h⟩
 ·refine zT hb (Ja (Jd (zE (Jb (Jq (Jm ?_))))))
  cases h
  exact zQ
 refine zU hb (Jj (Jb (Ja (Jd (zR 3 ?_)))))
 obtain ⟨x2,h2,h⟩:=Je h
 refine zI h2 (zE (Jb (Ja (Jd (zR 3 ?_)))))
 refine Ku 3 25 ((!(decide (x2.State=3)))&&(!(decide (x2.State=4)))) (fun x hx=>?_) ?_
 ·rcases Vm hx with ⟨hb,hx⟩|⟨hb,hx⟩
  ·refine zS 22 hb ?_
   subst hx
   exact zF
  refine zS 22 hb ?_
  subst hx
  exact zF
 refine zE (Jb (Jq ?_))
 cases h
 exact zQ
/-! slices.IndexFunc[[]int,int] -/
noncomputable def Eo (a0:(List Int)) (a1_0:Qf):Int→Option (Int⊕(Unit⊕Int)):=fun x3 =>
 bif decide (x3<((a0.length:Nat):Int)) then (
  (ixO a0 x3).bind fun x6 =>
  (Bu x6 a1_0).bind fun r7 =>
  bif r7 then (
   some (.inr (.inr x3))
  ) else (
   some (.inl (w64 (x3+1)))
  )
 ) else (
  some (.inr (.inl ()))
 )
noncomputable def Vd (a0:(List Int)) (a1_0:Qf):Option Int :=
 onInl (α:=Unit) (β:=Int) (Ko (Eo a0 a1_0) 0) fun _ =>
 some (-1)
theorem Bm (a0:(List Int)) (a1_0:Qf) (r:Int) (h:Vd a0 a1_0=some r):Kj Tryz.prog GlS 166 [Enc.pv a0,.fn 95 [.cptr (cellsOf a1_0)]] (Enc.pv r):=by
 unfold Vd at h
 refine zC Tryz.func166 Tryz.ntmps166 ?_
 refine Ja (Jd (zE (Jb (Ja (Ja (Jd (zR 1 ?_)))))))
 refine zL (L:=(a0:(List Int))) ?_
 refine zE (Jb (Jp ?_))
 obtain ⟨o8,h8,h⟩:=Kk h
 refine zA 19 0 (fun x3=>⟨[(0,Jn .frozen (a0:(List Int))),(1,.fn 95 [.cptr (cellsOf a1_0)]),(7,.int .i64 ((a0.length:Nat):Int)),(8,.int .i64 x3)],[],[],[]⟩) (fun (_:Unit)=>⟨[],[],[],[]⟩) h8 ?_ ?_
 ·rintro x3 oh7 h7
  unfold Eo at h7
  refine Ja (Jd (zE (Jb (Ja ?_))))
  rcases Jl h7 with ⟨hb,h7⟩|⟨hb,h7⟩
  ·refine zT hb (Jj (Jb (Ja (Jp (Ja (Jd (zE (Jb (Ja (Jd (zR 3 ?_)))))))))))
   obtain ⟨x6,h9,h7⟩:=Je h7
   refine zI h9 (zR 1 ?_)
   obtain ⟨r7,h10,h7⟩:=Je h7
   refine zP (Ik _ _ r7 h10) (zN (Jb ?_))
   rcases Jl h7 with ⟨hb,h7⟩|⟨hb,h7⟩
   ·refine zT hb (Ja (Jd (zE (Jb (Jq (Js (Jm ?_)))))))
    cases h7
    refine Kd fun he=>?_
    subst he
    have h11:=Kq h
    refine Js (Jm ?_)
    cases h11
    exact zQ
   refine zU hb (Jj (Jz (Jb (Jd (zE ?_)))))
   cases h7
   exact zB
  refine zU hb (Jy (Jv ?_))
  cases h7
  exact zX
 rintro _ s' rfl hs
 have h:=Kb h
 refine Jt (Jb (Ka hs (Ja (Jd (zE (Jb (Jq ?_)))))))
 cases h
 exact zQ
/-! slices.DeleteFunc[[]int,int] -/
noncomputable def Dw (a0:(List Int)) (a1_0:Qf):(Int×Int×(List Int))→Option ((Int×Int×(List Int))⊕(((List Int)×Int)⊕((List Int)×Nat))):=fun (x14,x15,x16) =>
 bif decide (x15<((((a0:(List Int)).map cellsOf).length:Nat):Int)) then (
  onInl (α:=((List Int)×Int)) (β:=((Int×Int×(List Int))⊕(((List Int)×Int)⊕((List Int)×Nat)))) (
   (Wn 0 (((a0:(List Int)).map cellsOf).length) x15).bind fun j38 =>
   (Vq x16 (((a0:(List Int)).map cellsOf).length) j38).bind fun x39 =>
   (Bu x39 a1_0).bind fun r40 =>
   bif (!r40) then (
    (Wn 0 (((a0:(List Int)).map cellsOf).length) x14).bind fun j41 =>
    (Vq x16 (((a0:(List Int)).map cellsOf).length) j41).bind fun x42 =>
    some (.inl ((x16.set j41 x39),w64 (x14+1)))
   ) else (
    some (.inl (x16,x14))
   )
  ) fun (x36,x37) =>
  some (.inl (x37,w64 (x15+1),x36))
 ) else (
  some (.inr (.inl (x16,x14)))
 )
noncomputable def Uz (a0:(List Int)) (a1_0:Qf):Option ((List Int)×Nat) :=
 (Vd a0 a1_0).bind fun r1 =>
 bif decide (r1=(-1)) then (
  some (a0,((a0:(List Int)).map cellsOf).length)
 ) else (
  onInl (α:=((List Int)×Int)) (β:=((List Int)×Nat)) (Ko (Dw a0 a1_0) (r1,w64 (r1+1),a0)) fun (x29,x30) =>
  (Jv7 (((a0:(List Int)).map cellsOf).length) (some x30) none).bind fun p43 =>
  (Jvp x29 (((a0:(List Int)).map cellsOf).length) (0+p43.1) (p43.2 - p43.1) (0:Int)).bind fun x44 =>
  (Jun (((a0:(List Int)).map cellsOf).length) x30).bind fun m45 =>
  some (x44,m45)
 )
theorem Bi (a0:(List Int)) (a1_0:Qf) (r:((List Int)×Nat)) (h:Uz a0 a1_0=some r):Ma Tryz.prog GlS 94 1 8 (a0.map cellsOf) [.fn 95 [.cptr (cellsOf a1_0)]] (some r.2) (r.1.map cellsOf):=by
 unfold Uz at h
 refine Zt Tryz.func94 (by rfl) rfl Tryz.ntmps94 (by rfl) rfl ?_
 refine Ja (Jd (zE (Jb (Ja (Jd (zR 2 ?_))))))
 obtain ⟨r1,h1,h⟩:=Je h
 refine Co [1000000000] (Bm _ _ r1 h1) (by kernel_rfl) (by kernel_rfl) (by kernel_rfl) ?_
 refine zE (Jb (Ja (Ja (Jd (zE (Jb ?_))))))
 rcases Jl h with ⟨hb,h⟩|⟨hb,h⟩
 ·refine zT hb (Ja (Jd (zE (Jb (Jq (Jm ?_))))))
  cases h
  exact Rj (by kernel_rfl)
 refine zU hb (Jj (Jb (Ja (Ja (Jd (zE (Jb (Jp ?_))))))))
 obtain ⟨o25,h25,h⟩:=Kk h
 refine zA 42 0 (fun (x14,x15,x16)=>⟨[(0,.ex 1000000000 1 8 (((a0:(List Int)).map cellsOf).length) 0 (((a0:(List Int)).map cellsOf).length)),(1,.fn 95 [.cptr (cellsOf a1_0)]),(5,.int .i64 x14),(6,.int .i64 x15)],[],[(1000000000,(((a0:(List Int)).map cellsOf).length,0))],[(1000000000,(1,(8,(x16:(List Int)).map cellsOf)))]⟩) (fun (x29,x30)=>⟨[(0,.ex 1000000000 1 8 (((a0:(List Int)).map cellsOf).length) 0 (((a0:(List Int)).map cellsOf).length)),(5,.int .i64 x30)],[],[(1000000000,(((a0:(List Int)).map cellsOf).length,0))],[(1000000000,(1,(8,(x29:(List Int)).map cellsOf)))]⟩) h25 ?_ ?_
 ·rintro ⟨x14,x15,x16⟩ oh24 h24
  unfold Dw at h24
  refine Ja (Ja (Jd (zE (Jb ?_))))
  rcases Jl h24 with ⟨hb,h24⟩|⟨hb,h24⟩
  ·refine zT hb (Jj (Jb ?_))
   obtain ⟨o31,h31,h24⟩:=Kk h24
   refine Qp (o:=o31) 42 (fun (x36,x37)=>⟨[(0,.ex 1000000000 1 8 (((a0:(List Int)).map cellsOf).length) 0 (((a0:(List Int)).map cellsOf).length)),(1,.fn 95 [.cptr (cellsOf a1_0)]),(5,.int .i64 x37),(6,.int .i64 x15)],[],[(1000000000,(((a0:(List Int)).map cellsOf).length,0))],[(1000000000,(1,(8,(x36:(List Int)).map cellsOf)))]⟩) ?_ ?_
   ·refine Jp (Ja (Jd (zR 2 ?_)))
    obtain ⟨j38,h32,h31⟩:=Je h31
    refine Uv (tk:=1000000000) (k:=1) (N:=((a0:(List Int)).map cellsOf).length) h32 (by kernel_rfl) ?_
    obtain ⟨x39,h33,h31⟩:=Je h31
    refine Vo (L:=(x16:(List Int))) (N:=((a0:(List Int)).map cellsOf).length) (j:=j38) (y:=x39) (v:=.int .i64 x39) h33 false 1 0 (by kernel_rfl) (by kernel_rfl) ?_
    refine zE (Jb (Ja (Jd (zR 2 ?_))))
    obtain ⟨r40,h34,h31⟩:=Je h31
    refine zP (Ik _ _ r40 h34) (zE (Jb ?_))
    rcases Jl h31 with ⟨hb,h31⟩|⟨hb,h31⟩
    ·refine zT hb (Ja (Jd (zR 3 ?_)))
     obtain ⟨j41,h35,h31⟩:=Je h31
     refine Uv (tk:=1000000000) (k:=1) (N:=((a0:(List Int)).map cellsOf).length) h35 (by kernel_rfl) ?_
     obtain ⟨x42,h36,h31⟩:=Je h31
     refine Ev (L:=(x16:(List Int))) (tk:=1000000000) (N:=((a0:(List Int)).map cellsOf).length) (j:=j41) (y:=x42) (y':=x39) h36 0 1 [.int .i64 x39] (by kernel_rfl) (by kernel_rfl) ?_
     refine zN (Jb (Jd (zE (Jz ?_))))
     cases h31
     exact zJ
    refine zU hb (Jj (Jz ?_))
    cases h31
    exact zJ
   rintro ⟨x36,x37⟩ rfl
   have h24:=Kb h24
   refine Jd (zE ?_)
   cases h24
   exact zB
  refine zU hb (Jy (Jv ?_))
  cases h24
  exact zX
 rintro ⟨x29,x30⟩ s' rfl hs
 have h:=Kb h
 refine Jt (Jb (Ka hs (Ja (Jd (zR 2 ?_)))))
 obtain ⟨p43,h37,h⟩:=Je h
 refine Jxu (tk:=1000000000) (k:=1) (b:=8) (N:=((a0:(List Int)).map cellsOf).length) (o:=0) (lo:=(some x30)) (hi:=none) h37 (by kernel_rfl) ?_
 obtain ⟨x44,h38,h⟩:=Je h
 refine Jx6 (L:=(x29:(List Int))) (tk:=1000000000) (N:=((a0:(List Int)).map cellsOf).length) (z:=(0:Int)) h38 (by kernel_rfl) (by kernel_rfl) (by kernel_rfl) rfl ?_
 refine zN (Jb (Ja (Jd (zR 2 ?_))))
 obtain ⟨m45,h39,h⟩:=Je h
 refine Jyb (tk:=1000000000) (k:=1) (b:=8) (N:=((a0:(List Int)).map cellsOf).length) (o:=0) h39 (by kernel_rfl) ?_
 refine zE (Jb (Jq ?_))
 cases h
 exact Rj (by kernel_rfl)
/-! claims.Settle -/
noncomputable def Ng (a0:Jg) (a1:Qf):Option Jg :=
 Option.bind (α:=((List Int)×(List Jf)×(List Int)×(List Int)×(List Int))) (
  (Qg a0.Steps).bind fun r11 =>
  (Kn a0.Routes).bind fun r12 =>
  (Kn a0.Starts).bind fun r13 =>
  (Kn a0.Ends).bind fun r14 =>
  (Db a0.Done).bind fun r15 =>
  some (r15,r11,r12,r13,r14)
 ) fun (x6,x7,x8,x9,x10) =>
 (Uz x6 a1).bind fun r16 =>
 some (Jg.mk a0.Id a0.Origin a0.End a0.At x7 x8 x9 x10 (r16.1.take r16.2) a0.Min a0.Sent a0.Accepted a0.Cut a0.CutSeq)
set_option maxRecDepth 100000 in
theorem Jfr (a0:Jg) (a1:Qf) (r:Jg) (h:Ng a0 a1=some r):Kj Tryz.prog GlS 42 [Enc.pv a0,Enc.pv a1] (Enc.pv r):=by
 unfold Ng at h
 refine zC Tryz.func42 Tryz.ntmps42 ?_
 refine Ja (Jd (zE (Jb (Ja (Jhg (Nf 0 1 (zE ?_)))))))
 refine Ci 1 ⟨[(2,.ref 1002 0),(3,.ref 1003 0),(4,.ref 1004 0),(5,Enc.pv a0)],[(1002,.cells (cellsOf a0)),(1003,.cells (cellsOf a1)),(1004,.cells ([.int .i64 0,.int .i64 0,.int .i64 0,.int .i64 0,.nil,.nil,.nil,.nil,.nil,.int .i64 0,.int .i64 0,.int .i64 0,.int .i64 0,.int .i64 0]))],[],[]⟩ 13 (by kernel_rfl) (by kernel_rfl) (by kernel_rfl) ?_
 obtain ⟨o6,h6,h⟩:=Je h
 refine Jm3 (f:=93) (asx:=[Enc.pv a0]) (by kernel_rfl) Tryz.func93 (by rfl) rfl Tryz.ntmps93 (by rfl) ?_
 refine Jd4 o6 1300037 (fun (x6,x7,x8,x9,x10)=>⟨[(2,.ref 2 0),(26,.ref 1002 0),(27,.ref 1003 0),(28,.ref 1004 0)],[(2,.cells ([.int .i64 a0.Id,.int .i64 a0.Origin,.int .i64 a0.End,.int .i64 a0.At,Jn (.own 5007) (x7:(List Jf)),Jn (.own 9007) (x8:(List Int)),Jn (.own 13007) (x9:(List Int)),Jn (.own 17007) (x10:(List Int)),.ex 21 1 8 (((x6:(List Int)).map cellsOf).length) 0 (((x6:(List Int)).map cellsOf).length),.int .i64 a0.Min,.int .i64 a0.Sent,.int .i64 a0.Accepted,.int .i64 a0.Cut,.int .i64 a0.CutSeq])),(1002,.cells (cellsOf a0)),(1003,.cells (cellsOf a1)),(1004,.cells ([.int .i64 0,.int .i64 0,.int .i64 0,.int .i64 0,.nil,.nil,.nil,.nil,.nil,.int .i64 0,.int .i64 0,.int .i64 0,.int .i64 0,.int .i64 0]))],[(5007,(((x7).map cellsOf).length,3)),(9007,(((x8).map cellsOf).length,1)),(13007,(((x9).map cellsOf).length,1)),(17007,(((x10).map cellsOf).length,1)),(21,(((x6:(List Int)).map cellsOf).length,0))],[(21,(1,(8,(x6:(List Int)).map cellsOf)))]⟩) ?_ ?_
 ·refine Ja (Jd (zE (Jb (Ja (Jd (zR 2 ?_))))))
  obtain ⟨r11,h7,h6⟩:=Je h6
  refine zP (Ul _ r11 h7) (zE (Jb (Ja (Jd (zR 2 ?_)))))
  obtain ⟨r12,h8,h6⟩:=Je h6
  refine zP (Ky _ r12 h8) (zE (Jb (Ja (Jd (zR 2 ?_)))))
  obtain ⟨r13,h9,h6⟩:=Je h6
  refine zP (Ky _ r13 h9) (zE (Jb (Ja (Jd (zR 2 ?_)))))
  obtain ⟨r14,h10,h6⟩:=Je h6
  refine zP (Ky _ r14 h10) (zE (Jb (Ja (Jd (zR 2 ?_)))))
  obtain ⟨r15,h11,h6⟩:=Je h6
  refine Jjv (α:=Int) 21 (Jaj _ r15 h11) (by kernel_rfl) (by kernel_rfl) ?_
  refine zE (Jb (Ja (Jd (zE (Jb (Jq ?_))))))
  cases h6
  exact Jrf (by kernel_rfl) (by kernel_rfl)
 obtain ⟨x6,x7,x8,x9,x10⟩:=o6
 refine Jm8 (r:=.agg [.int .i64 a0.Id,.int .i64 a0.Origin,.int .i64 a0.End,.int .i64 a0.At,Jn (.own 5007) (x7:(List Jf)),Jn (.own 9007) (x8:(List Int)),Jn (.own 13007) (x9:(List Int)),Jn (.own 17007) (x10:(List Int)),.ex 21 1 8 (((x6:(List Int)).map cellsOf).length) 0 (((x6:(List Int)).map cellsOf).length),.int .i64 a0.Min,.int .i64 a0.Sent,.int .i64 a0.Accepted,.int .i64 a0.Cut,.int .i64 a0.CutSeq]) (by kernel_rfl) ?_
 refine Ci 2 ⟨[(2,.ref 1002 0),(3,.ref 1003 0),(4,.ref 1004 0),(6,.agg [.int .i64 a0.Id,.int .i64 a0.Origin,.int .i64 a0.End,.int .i64 a0.At,Jn (.own 2005007) (x7:(List Jf)),Jn (.own 2009007) (x8:(List Int)),Jn (.own 2013007) (x9:(List Int)),Jn (.own 2017007) (x10:(List Int)),.ex 2000021 1 8 (((x6:(List Int)).map cellsOf).length) 0 (((x6:(List Int)).map cellsOf).length),.int .i64 a0.Min,.int .i64 a0.Sent,.int .i64 a0.Accepted,.int .i64 a0.Cut,.int .i64 a0.CutSeq])],[(1002,.cells (cellsOf a0)),(1003,.cells (cellsOf a1)),(1004,.cells ([.int .i64 0,.int .i64 0,.int .i64 0,.int .i64 0,.nil,.nil,.nil,.nil,.nil,.int .i64 0,.int .i64 0,.int .i64 0,.int .i64 0,.int .i64 0]))],[(2005007,(((x7).map cellsOf).length,3)),(2009007,(((x8).map cellsOf).length,1)),(2013007,(((x9).map cellsOf).length,1)),(2017007,(((x10).map cellsOf).length,1)),(2000021,(((x6:(List Int)).map cellsOf).length,0))],[(2000021,(1,(8,(x6:(List Int)).map cellsOf)))]⟩ 13 (by kernel_rfl) (by kernel_rfl) (by kernel_rfl) ?_
 refine Ci 1 ⟨[(2,.ref 2 0),(3,.ref 3 0),(4,.ref 4 0),(6,.agg [.int .i64 a0.Id,.int .i64 a0.Origin,.int .i64 a0.End,.int .i64 a0.At,Jn (.own 2005007) (x7:(List Jf)),Jn (.own 2009007) (x8:(List Int)),Jn (.own 2013007) (x9:(List Int)),Jn (.own 2017007) (x10:(List Int)),.ex 2000021 1 8 (((x6:(List Int)).map cellsOf).length) 0 (((x6:(List Int)).map cellsOf).length),.int .i64 a0.Min,.int .i64 a0.Sent,.int .i64 a0.Accepted,.int .i64 a0.Cut,.int .i64 a0.CutSeq])],[(2,.cells (cellsOf a0)),(3,.cells (cellsOf a1)),(4,.cells ([.int .i64 0,.int .i64 0,.int .i64 0,.int .i64 0,.nil,.nil,.nil,.nil,.nil,.int .i64 0,.int .i64 0,.int .i64 0,.int .i64 0,.int .i64 0]))],[(2005007,(((x7).map cellsOf).length,3)),(2009007,(((x8).map cellsOf).length,1)),(2013007,(((x9).map cellsOf).length,1)),(2017007,(((x10).map cellsOf).length,1)),(2000021,(((x6:(List Int)).map cellsOf).length,0))],[(2000021,(1,(8,(x6:(List Int)).map cellsOf)))]⟩ 13 (by kernel_rfl) (by kernel_rfl) (by kernel_rfl) ?_
 refine Nf 2 1 (zE (Jg8 (Jb (Ja ?_))))
 refine Jqi 3 [2,4] (cs:=cellsOf a1) (cs':=cellsOf a1) (by kernel_rfl) (by kernel_rfl) (by kernel_rfl) (by kernel_rfl) ?_
 refine Jd (zR 3 ?_)
 obtain ⟨r16,h12,h⟩:=Je h
 refine Jul (t:=2000021) (L:=(x6:(List Int))) (L':=(r16.1:(List Int))) (m:=r16.2) (N:=((x6:(List Int)).map cellsOf).length) (by kernel_rfl) (by kernel_rfl) (by kernel_rfl) (Bi _ _ r16 h12) ?_
 refine zE (Jb (Ja (Jd (zE (Jb (Jq ?_))))))
 cases h
 exact zQ
/-! slices.Index[[]int,int] -/
noncomputable def Lv (a0:(List Int)) (a1:Int):Int→Option (Int⊕(Unit⊕Int)):=fun x2 =>
 bif decide (x2<((a0.length:Nat):Int)) then (
  (ixO a0 x2).bind fun x4 =>
  bif decide (a1=x4) then (
   some (.inr (.inr x2))
  ) else (
   some (.inl (w64 (x2+1)))
  )
 ) else (
  some (.inr (.inl ()))
 )
noncomputable def Fv (a0:(List Int)) (a1:Int):Option Int :=
 onInl (α:=Unit) (β:=Int) (Ko (Lv a0 a1) 0) fun _ =>
 some (-1)
theorem Jbx (a0:(List Int)) (a1:Int) (r:Int) (h:Fv a0 a1=some r):Kj Tryz.prog GlS 190 [Enc.pv a0,Enc.pv a1] (Enc.pv r):=by
 unfold Fv at h
 refine zC Tryz.func190 Tryz.ntmps190 ?_
 refine Ja (Jd (zE (Jb (Ja (Ja (Jd (zR 1 ?_)))))))
 refine zL (L:=(a0:(List Int))) ?_
 refine zE (Jb (Jp ?_))
 obtain ⟨o6,h6,h⟩:=Kk h
 refine zA 19 0 (fun x2=>⟨[(0,Jn .frozen (a0:(List Int))),(1,.int .i64 a1),(7,.int .i64 ((a0.length:Nat):Int)),(8,.int .i64 x2)],[],[],[]⟩) (fun (_:Unit)=>⟨[],[],[],[]⟩) h6 ?_ ?_
 ·rintro x2 oh5 h5
  unfold Lv at h5
  refine Ja (Jd (zE (Jb (Ja ?_))))
  rcases Jl h5 with ⟨hb,h5⟩|⟨hb,h5⟩
  ·refine zT hb (Jj (Jb (Ja (Jp (Ja (Jd (zE (Jb (Ja (Jd (zR 3 ?_)))))))))))
   obtain ⟨x4,h7,h5⟩:=Je h5
   refine zI h7 (zE (Jb ?_))
   rcases Jl h5 with ⟨hb,h5⟩|⟨hb,h5⟩
   ·refine zT hb (Ja (Jd (zE (Jb (Jq (Js (Jm ?_)))))))
    cases h5
    refine Kd fun he=>?_
    subst he
    have h8:=Kq h
    refine Js (Jm ?_)
    cases h8
    exact zQ
   refine zU hb (Jj (Jz (Jb (Jd (zE ?_)))))
   cases h5
   exact zB
  refine zU hb (Jy (Jv ?_))
  cases h5
  exact zX
 rintro _ s' rfl hs
 have h:=Kb h
 refine Jt (Jb (Ka hs (Ja (Jd (zE (Jb (Jq ?_)))))))
 cases h
 exact zQ
/-! slices.Contains[[]int,int] -/
noncomputable def Ze (a0:(List Int)) (a1:Int):Option Bool :=
 (Fv a0 a1).bind fun r1 =>
 some (decide (0≤r1))
theorem Ej (a0:(List Int)) (a1:Int) (r:Bool) (h:Ze a0 a1=some r):Kj Tryz.prog GlS 115 [Enc.pv a0,Enc.pv a1] (Enc.pv r):=by
 unfold Ze at h
 refine zC Tryz.func115 Tryz.ntmps115 ?_
 refine Ja (Jd (zE (Jb (Ja (Jd (zR 2 ?_))))))
 obtain ⟨r1,h1,h⟩:=Je h
 refine zP (Jbx _ _ r1 h1) (zE (Jb (Jq ?_)))
 cases h
 exact zQ
/-! rbc.ready$1 -/
noncomputable def Pn (a0:Jg) (c0:Int):Option Bool :=
 (Ze a0.Routes c0).bind fun r1 =>
 some r1
theorem Jgb (a0:Jg) (c0:Int) (r:Bool) (h:Pn a0 c0=some r):Kj Tryz.prog GlS 168 [Enc.pv a0,.cptr (cellsOf c0)] (Enc.pv r):=by
 unfold Pn at h
 refine zC Tryz.func168 Tryz.ntmps168 ?_
 refine Ja (Jd (zE (Jb (Ja (Jd (zR 3 ?_))))))
 obtain ⟨r1,h1,h⟩:=Je h
 refine zP (Ej _ _ r1 h1) (zE (Jb (Jq ?_)))
 cases h
 exact zQ
/-! slices.IndexFunc[[]api.Track,api.Track] -/
noncomputable def Bb (a0:(List Jg)) (a1_0:Int):Int→Option (Int⊕(Unit⊕Int)):=fun x3 =>
 bif decide (x3<((a0.length:Nat):Int)) then (
  (ixO a0 x3).bind fun x6 =>
  (Pn x6 a1_0).bind fun r7 =>
  bif r7 then (
   some (.inr (.inr x3))
  ) else (
   some (.inl (w64 (x3+1)))
  )
 ) else (
  some (.inr (.inl ()))
 )
noncomputable def Uu (a0:(List Jg)) (a1_0:Int):Option Int :=
 onInl (α:=Unit) (β:=Int) (Ko (Bb a0 a1_0) 0) fun _ =>
 some (-1)
theorem Zw (a0:(List Jg)) (a1_0:Int) (r:Int) (h:Uu a0 a1_0=some r):Kj Tryz.prog GlS 232 [Enc.pv a0,.fn 168 [.cptr ([.int .i64 a1_0])]] (Enc.pv r):=by
 unfold Uu at h
 refine zC Tryz.func232 Tryz.ntmps232 ?_
 refine Ja (Jd (zE (Jb (Ja (Ja (Jd (zR 1 ?_)))))))
 refine zL (L:=(a0:(List Jg))) ?_
 refine zE (Jb (Jp ?_))
 obtain ⟨o8,h8,h⟩:=Kk h
 refine zA 19 0 (fun x3=>⟨[(0,Jn .frozen (a0:(List Jg))),(1,.fn 168 [.cptr ([.int .i64 a1_0])]),(7,.int .i64 ((a0.length:Nat):Int)),(8,.int .i64 x3)],[],[],[]⟩) (fun (_:Unit)=>⟨[],[],[],[]⟩) h8 ?_ ?_
 ·rintro x3 oh7 h7
  unfold Bb at h7
  refine Ja (Jd (zE (Jb (Ja ?_))))
  rcases Jl h7 with ⟨hb,h7⟩|⟨hb,h7⟩
  ·refine zT hb (Jj (Jb (Ja (Jp (Ja (Jd (zE (Jb (Ja (Jd (zR 3 ?_)))))))))))
   obtain ⟨x6,h9,h7⟩:=Je h7
   refine zI h9 (zR 1 ?_)
   obtain ⟨r7,h10,h7⟩:=Je h7
   refine zP (Jgb _ _ r7 h10) (zN (Jb ?_))
   rcases Jl h7 with ⟨hb,h7⟩|⟨hb,h7⟩
   ·refine zT hb (Ja (Jd (zE (Jb (Jq (Js (Jm ?_)))))))
    cases h7
    refine Kd fun he=>?_
    subst he
    have h11:=Kq h
    refine Js (Jm ?_)
    cases h11
    exact zQ
   refine zU hb (Jj (Jz (Jb (Jd (zE ?_)))))
   cases h7
   exact zB
  refine zU hb (Jy (Jv ?_))
  cases h7
  exact zX
 rintro _ s' rfl hs
 have h:=Kb h
 refine Jt (Jb (Ka hs (Ja (Jd (zE (Jb (Jq ?_)))))))
 cases h
 exact zQ
/-! slices.ContainsFunc[[]api.Track,api.Track] -/
noncomputable def Ui (a0:(List Jg)) (a1_0:Int):Option Bool :=
 (Uu a0 a1_0).bind fun r1 =>
 some (decide (0≤r1))
theorem Zh (a0:(List Jg)) (a1_0:Int) (r:Bool) (h:Ui a0 a1_0=some r):Kj Tryz.prog GlS 167 [Enc.pv a0,.fn 168 [.cptr ([.int .i64 a1_0])]] (Enc.pv r):=by
 unfold Ui at h
 refine zC Tryz.func167 Tryz.ntmps167 ?_
 refine Ja (Jd (zE (Jb (Ja (Jd (zR 2 ?_))))))
 obtain ⟨r1,h1,h⟩:=Je h
 refine zP (Zw _ _ r1 h1) (zE (Jb (Jq ?_)))
 cases h
 exact zQ
end PM
