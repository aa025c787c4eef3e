/-
 Plain functions for the program's functions, and the proofs that the program does them. Printed by den.py.
-/
import Derived.Test.YtfpoeepcomnjhaaGreatDoorDen3
namespace PM
open Go Go.RowKit Go.Proofs
attribute [local irreducible] Kp pwp
/-! rbc.ready -/
noncomputable def Jev (a0:Kz) (a1:Qf) (a2:(List Jg)) (a3:Int):Int→Option (Int⊕(Unit⊕Int)):=fun x9 =>
 bif decide (x9<((a0.Routes.length:Nat):Int)) then (
  onInl (α:=Unit) (β:=(Int⊕(Unit⊕Int))) (
   (ixO a0.Routes x9).bind fun x22 =>
   bif decide (((a1.Routes.length:Nat):Int)≤x9) then (
    some (.inr (.inr (.inr (-1))))
   ) else (
    ((bif (!(decide (x22.Entry=a3))) then some true else (
     (ixO a1.Routes x9).bind fun x24 =>
     some (!(decide (x24.State=2)))
    )):Option Bool).bind fun b23 =>
    bif b23 then (
     some (.inl ())
    ) else (
     (Ui a2 x9).bind fun r25 =>
     bif (!r25) then (
      some (.inr (.inr (.inr x9)))
     ) else (
      some (.inl ())
     )
    )
   )
  ) fun _ =>
  some (.inl (w64 (x9+1)))
 ) else (
  some (.inr (.inl ()))
 )
noncomputable def Jb8 (a0:Kz) (a1:Qf) (a2:(List Jg)) (a3:Int):Option Int :=
 onInl (α:=Unit) (β:=Int) (Ko (Jev a0 a1 a2 a3) 0) fun _ =>
 some (-1)
theorem Uy (a0:Kz) (a1:Qf) (a2:(List Jg)) (a3:Int) (r:Int) (h:Jb8 a0 a1 a2 a3=some r):Kj Tryz.prog GlS 96 [Enc.pv a0,Enc.pv a1,Enc.pv a2,Enc.pv a3] (Enc.pv r):=by
 unfold Jb8 at h
 refine zC Tryz.func96 Tryz.ntmps96 ?_
 refine Ja (Jd (zE (Jb (Ja (Ja (Jd (zR 2 ?_)))))))
 refine zL (L:=(a0.Routes:(List Ju))) ?_
 refine zE (Jb (Jp ?_))
 obtain ⟨o36,h36,h⟩:=Kk h
 refine zA 45 0 (fun x9=>⟨[(2,Jn .frozen (a2:(List Jg))),(3,.int .i64 a3),(5,.ref 5 0),(13,Jn .frozen (a0.Routes:(List Ju))),(14,.int .i64 ((a0.Routes.length:Nat):Int)),(15,.int .i64 x9)],[(5,.cells (cellsOf a1))],[],[]⟩) (fun (_:Unit)=>⟨[],[],[],[]⟩) h36 ?_ ?_
 ·rintro x9 oh35 h35
  unfold Jev at h35
  refine Ja (Jd (zE (Jb (Ja ?_))))
  rcases Jl h35 with ⟨hb,h35⟩|⟨hb,h35⟩
  ·refine zT hb (Jj (Jb ?_))
   obtain ⟨o45,h45,h35⟩:=Kk h35
   refine Qp (o:=o45) 45 (fun (_:Unit)=>⟨[(2,Jn .frozen (a2:(List Jg))),(3,.int .i64 a3),(5,.ref 5 0),(13,Jn .frozen (a0.Routes:(List Ju))),(14,.int .i64 ((a0.Routes.length:Nat):Int)),(15,.int .i64 x9)],[(5,.cells (cellsOf a1))],[],[]⟩) ?_ ?_
   ·refine Jp (Ja (Jd (zR 1 ?_)))
    obtain ⟨x22,h46,h45⟩:=Je h45
    refine zI h46 (zE (Jb (Ja (Ja (Jd (zR 3 ?_))))))
    refine zL (L:=(a1.Routes:(List Qn))) ?_
    refine zE (Jb ?_)
    rcases Jl h45 with ⟨hb,h45⟩|⟨hb,h45⟩
    ·refine zT hb (Ja (Jd (zE (Jb (Jq (Jm (Js ?_)))))))
     cases h45
     refine Iv ?_
     have h47:=Kq h35
     cases h47
     refine Kd fun he=>?_
     subst he
     have h48:=Kq h
     refine Js (Jm ?_)
     cases h48
     exact zQ
    refine zU hb (Jj (Jb (Ja (Ja (Jd ?_)))))
    obtain ⟨b23,h49,h45⟩:=Je h45
    refine zR 5 ?_
    refine Km 8 37 (.bool b23) ?_ ?_
    ·rcases Jl h49 with ⟨hb,h49⟩|⟨hb,h49⟩
     ·refine zS 29 hb ?_
      cases h49
      exact zF
     refine zS 29 hb (zR 3 ?_)
     obtain ⟨x24,h50,h49⟩:=Je h49
     refine zI h50 ?_
     cases h49
     exact zF
    refine zN (Jb ?_)
    rcases Jl h45 with ⟨hb,h45⟩|⟨hb,h45⟩
    ·refine zT hb (Jy (Jv (Jt ?_)))
     cases h45
     exact zJ
    refine zU hb (Jj (Jb (Ja ?_)))
    refine Jqi 9 [5,10] (cs:=[.int .i64 x9]) (cs':=[.int .i64 x9]) (by kernel_rfl) (by kernel_rfl) (by kernel_rfl) (by kernel_rfl) ?_
    refine Jd (zR 2 ?_)
    obtain ⟨r25,h51,h45⟩:=Je h45
    refine zP (Zh _ _ r25 h51) (zE (Jb (Ja (Jd (zE (Jb ?_))))))
    rcases Jl h45 with ⟨hb,h45⟩|⟨hb,h45⟩
    ·refine zT hb (Ja (Jd (zE (Jb (Jq (Js ?_))))))
     cases h45
     refine Iv ?_
     have h52:=Kq h35
     cases h52
     refine Kd fun he=>?_
     subst he
     have h53:=Kq h
     refine Js (Jm ?_)
     cases h53
     exact zQ
    refine zU hb (Jj (Jz ?_))
    cases h45
    exact zJ
   rintro _ rfl
   have h35:=Kb h35
   refine Jd (zE ?_)
   cases h35
   exact zB
  refine zU hb (Jy (Jv ?_))
  cases h35
  exact zX
 rintro _ s' rfl hs
 have h:=Kb h
 refine Jt (Jb (Ka hs (Ja (Jd (zE (Jb (Jq ?_)))))))
 cases h
 exact zQ
/-! claims.follow$1$1 -/
noncomputable def Cg (a0:Jf) (c0:Jf):Option Bool :=
 some (decide (a0.El=c0.El))
theorem Su (a0:Jf) (c0:Jf) (r:Bool) (h:Cg a0 c0=some r):Kj Tryz.prog GlS 235 [Enc.pv a0,.cptr (cellsOf c0)] (Enc.pv r):=by
 unfold Cg at h
 refine zC Tryz.func235 Tryz.ntmps235 ?_
 refine Ja (Jd (zE (Jb (Ja (Jd (zE (Jb (Jq ?_))))))))
 cases h
 exact zQ
/-! slices.IndexFunc[[]api.Step,api.Step] -/
noncomputable def Bo (a0:(List Jf)) (a1_0:Jf):Int→Option (Int⊕(Unit⊕Int)):=fun x3 =>
 bif decide (x3<((a0.length:Nat):Int)) then (
  (ixO a0 x3).bind fun x6 =>
  (Cg x6 a1_0).bind fun r7 =>
  bif r7 then (
   some (.inr (.inr x3))
  ) else (
   some (.inl (w64 (x3+1)))
  )
 ) else (
  some (.inr (.inl ()))
 )
noncomputable def Ub (a0:(List Jf)) (a1_0:Jf):Option Int :=
 onInl (α:=Unit) (β:=Int) (Ko (Bo a0 a1_0) 0) fun _ =>
 some (-1)
theorem Yv (a0:(List Jf)) (a1_0:Jf) (r:Int) (h:Ub a0 a1_0=some r):Kj Tryz.prog GlS 271 [Enc.pv a0,.fn 235 [.cptr (cellsOf a1_0)]] (Enc.pv r):=by
 unfold Ub at h
 refine zC Tryz.func271 Tryz.ntmps271 ?_
 refine Ja (Jd (zE (Jb (Ja (Ja (Jd (zR 1 ?_)))))))
 refine zL (L:=(a0:(List Jf))) ?_
 refine zE (Jb (Jp ?_))
 obtain ⟨o8,h8,h⟩:=Kk h
 refine zA 19 0 (fun x3=>⟨[(0,Jn .frozen (a0:(List Jf))),(1,.fn 235 [.cptr (cellsOf a1_0)]),(7,.int .i64 ((a0.length:Nat):Int)),(8,.int .i64 x3)],[],[],[]⟩) (fun (_:Unit)=>⟨[],[],[],[]⟩) h8 ?_ ?_
 ·rintro x3 oh7 h7
  unfold Bo at h7
  refine Ja (Jd (zE (Jb (Ja ?_))))
  rcases Jl h7 with ⟨hb,h7⟩|⟨hb,h7⟩
  ·refine zT hb (Jj (Jb (Ja (Jp (Ja (Jd (zE (Jb (Ja (Jd (zR 3 ?_)))))))))))
   obtain ⟨x6,h9,h7⟩:=Je h7
   refine zI h9 (zR 1 ?_)
   obtain ⟨r7,h10,h7⟩:=Je h7
   refine zP (Su _ _ r7 h10) (zN (Jb ?_))
   rcases Jl h7 with ⟨hb,h7⟩|⟨hb,h7⟩
   ·refine zT hb (Ja (Jd (zE (Jb (Jq (Js (Jm ?_)))))))
    cases h7
    refine Kd fun he=>?_
    subst he
    have h11:=Kq h
    refine Js (Jm ?_)
    cases h11
    exact zQ
   refine zU hb (Jj (Jz (Jb (Jd (zE ?_)))))
   cases h7
   exact zB
  refine zU hb (Jy (Jv ?_))
  cases h7
  exact zX
 rintro _ s' rfl hs
 have h:=Kb h
 refine Jt (Jb (Ka hs (Ja (Jd (zE (Jb (Jq ?_)))))))
 cases h
 exact zQ
/-! slices.ContainsFunc[[]api.Step,api.Step] -/
noncomputable def Qw (a0:(List Jf)) (a1_0:Jf):Option Bool :=
 (Ub a0 a1_0).bind fun r1 =>
 some (decide (0≤r1))
theorem Yc (a0:(List Jf)) (a1_0:Jf) (r:Bool) (h:Qw a0 a1_0=some r):Kj Tryz.prog GlS 234 [Enc.pv a0,.fn 235 [.cptr (cellsOf a1_0)]] (Enc.pv r):=by
 unfold Qw at h
 refine zC Tryz.func234 Tryz.ntmps234 ?_
 refine Ja (Jd (zE (Jb (Ja (Jd (zR 2 ?_))))))
 obtain ⟨r1,h1,h⟩:=Je h
 refine zP (Yv _ _ r1 h1) (zE (Jb (Jq ?_)))
 cases h
 exact zQ
/-! claims.follow$1 -/
noncomputable def Fp (a0:Jf) (c0:Jg):Option Bool :=
 (Qw c0.Steps a0).bind fun r1 =>
 some r1
theorem Jbu (a0:Jf) (c0:Jg) (r:Bool) (h:Fp a0 c0=some r):Kj Tryz.prog GlS 233 [Enc.pv a0,.cptr (cellsOf c0)] (Enc.pv r):=by
 unfold Fp at h
 refine zC Tryz.func233 Tryz.ntmps233 ?_
 refine Ja (Jd (zE (Jb (Ja ?_))))
 refine Jqi 2 [] (cs:=cellsOf a0) (cs':=cellsOf a0) (by kernel_rfl) (by kernel_rfl) (by kernel_rfl) (by kernel_rfl) ?_
 refine Jd (zR 3 ?_)
 obtain ⟨r1,h1,h⟩:=Je h
 refine zP (Yc _ _ r1 h1) (zE (Jb (Jq ?_)))
 cases h
 exact zQ
/-! slices.IndexFunc[[]api.Step,api.Step] -/
noncomputable def Vn (a0:(List Jf)) (a1_0:Jg):Int→Option (Int⊕(Unit⊕Int)):=fun x3 =>
 bif decide (x3<((a0.length:Nat):Int)) then (
  (ixO a0 x3).bind fun x6 =>
  (Fp x6 a1_0).bind fun r7 =>
  bif r7 then (
   some (.inr (.inr x3))
  ) else (
   some (.inl (w64 (x3+1)))
  )
 ) else (
  some (.inr (.inl ()))
 )
noncomputable def Uj (a0:(List Jf)) (a1_0:Jg):Option Int :=
 onInl (α:=Unit) (β:=Int) (Ko (Vn a0 a1_0) 0) fun _ =>
 some (-1)
theorem Zi (a0:(List Jf)) (a1_0:Jg) (r:Int) (h:Uj a0 a1_0=some r):Kj Tryz.prog GlS 271 [Enc.pv a0,.fn 233 [.cptr (cellsOf a1_0)]] (Enc.pv r):=by
 unfold Uj at h
 refine zC Tryz.func271 Tryz.ntmps271 ?_
 refine Ja (Jd (zE (Jb (Ja (Ja (Jd (zR 1 ?_)))))))
 refine zL (L:=(a0:(List Jf))) ?_
 refine zE (Jb (Jp ?_))
 obtain ⟨o8,h8,h⟩:=Kk h
 refine zA 19 0 (fun x3=>⟨[(0,Jn .frozen (a0:(List Jf))),(1,.fn 233 [.cptr (cellsOf a1_0)]),(7,.int .i64 ((a0.length:Nat):Int)),(8,.int .i64 x3)],[],[],[]⟩) (fun (_:Unit)=>⟨[],[],[],[]⟩) h8 ?_ ?_
 ·rintro x3 oh7 h7
  unfold Vn at h7
  refine Ja (Jd (zE (Jb (Ja ?_))))
  rcases Jl h7 with ⟨hb,h7⟩|⟨hb,h7⟩
  ·refine zT hb (Jj (Jb (Ja (Jp (Ja (Jd (zE (Jb (Ja (Jd (zR 3 ?_)))))))))))
   obtain ⟨x6,h9,h7⟩:=Je h7
   refine zI h9 (zR 1 ?_)
   obtain ⟨r7,h10,h7⟩:=Je h7
   refine zP (Jbu _ _ r7 h10) (zN (Jb ?_))
   rcases Jl h7 with ⟨hb,h7⟩|⟨hb,h7⟩
   ·refine zT hb (Ja (Jd (zE (Jb (Jq (Js (Jm ?_)))))))
    cases h7
    refine Kd fun he=>?_
    subst he
    have h11:=Kq h
    refine Js (Jm ?_)
    cases h11
    exact zQ
   refine zU hb (Jj (Jz (Jb (Jd (zE ?_)))))
   cases h7
   exact zB
  refine zU hb (Jy (Jv ?_))
  cases h7
  exact zX
 rintro _ s' rfl hs
 have h:=Kb h
 refine Jt (Jb (Ka hs (Ja (Jd (zE (Jb (Jq ?_)))))))
 cases h
 exact zQ
/-! slices.ContainsFunc[[]api.Step,api.Step] -/
noncomputable def Uc (a0:(List Jf)) (a1_0:Jg):Option Bool :=
 (Uj a0 a1_0).bind fun r1 =>
 some (decide (0≤r1))
theorem Yw (a0:(List Jf)) (a1_0:Jg) (r:Bool) (h:Uc a0 a1_0=some r):Kj Tryz.prog GlS 234 [Enc.pv a0,.fn 233 [.cptr (cellsOf a1_0)]] (Enc.pv r):=by
 unfold Uc at h
 refine zC Tryz.func234 Tryz.ntmps234 ?_
 refine Ja (Jd (zE (Jb (Ja (Jd (zR 2 ?_))))))
 obtain ⟨r1,h1,h⟩:=Je h
 refine zP (Zi _ _ r1 h1) (zE (Jb (Jq ?_)))
 cases h
 exact zQ
/-! claims.follow -/
noncomputable def Nk (a0:Kz) (a1:Jg) (a2:Int):Option (Int⊕Ju) :=
 onInl (α:=Unit) (β:=(Int⊕Ju)) (
  ((bif decide (a2<0) then some true else (
   some (decide (((a0.Routes.length:Nat):Int)≤a2))
  )):Option Bool).bind fun b2 =>
  bif b2 then (
   some (.inr (.inl 1))
  ) else (
   some (.inl ())
  )
 ) fun _ =>
 (ixO a0.Routes a2).bind fun x3 =>
 onInl (α:=Unit) (β:=(Int⊕Ju)) (
  bif (!(decide (a1.CutSeq=0))) then (
   some (.inr (.inl 11))
  ) else (
   some (.inl ())
  )
 ) fun _ =>
 onInl (α:=Unit) (β:=(Int⊕Ju)) (
  bif ((decide (a1.End=(-1)))||(!(decide (a1.End=x3.Entry)))) then (
   some (.inr (.inl 10))
  ) else (
   some (.inl ())
  )
 ) fun _ =>
 onInl (α:=Unit) (β:=(Int⊕Ju)) (
  (Uc x3.Path a1).bind fun r7 =>
  ((bif r7 then some true else (
   (Ze a1.Routes a2).bind fun r9 =>
   some r9
  )):Option Bool).bind fun b8 =>
  bif b8 then (
   some (.inr (.inl 8))
  ) else (
   some (.inl ())
  )
 ) fun _ =>
 onInl (α:=Unit) (β:=(Int⊕Ju)) (
  bif ((decide (64<(w64 (((a1.Steps.length:Nat):Int)+((x3.Path.length:Nat):Int)))))||(decide (1073741824<(w64 (a1.At+x3.Length))))) then (
   some (.inr (.inl 2))
  ) else (
   some (.inl ())
  )
 ) fun _ =>
 some (.inr x3)
theorem Pw (a0:Kz) (a1:Jg) (a2:Int) (r:(Int⊕Ju)) (h:Nk a0 a1 a2=some r):Jk5 Tryz.prog GlS 170 [Enc.pv a0,Enc.pv a1,Enc.pv a2] (panR 218 (fun r=>Enc.pv r) r):=by
 unfold Nk at h
 refine Jl8 Tryz.func170 (by rfl) rfl Tryz.ntmps170 (by rfl) rfl ?_
 refine Ja (Jd (zE (Jb ?_)))
 obtain ⟨o3,h3,h⟩:=Kk h
 refine Qp (o:=o3) 74 (fun (_:Unit)=>⟨[(2,.int .i64 a2),(3,.ref 3 0),(4,.ref 4 0),(6,.ref 6 0)],[(3,.cells (cellsOf a0)),(4,.cells (cellsOf a1)),(6,.cells ([.str ByteArray.empty,.int .i64 0,.int .i64 0,.nil,.nil,.nil,.int .i64 0,.int .i64 0,.nil,.nil,.nil,.nil,.nil,.nil]))],[],[]⟩) ?_ ?_
 ·refine Ja (Jd ?_)
  obtain ⟨b2,h4,h3⟩:=Je h3
  refine zR 3 ?_
  refine Km 6 17 (.bool b2) ?_ ?_
  ·rcases Jl h4 with ⟨hb,h4⟩|⟨hb,h4⟩
   ·refine zS 11 hb ?_
    cases h4
    exact zF
   refine zS 11 hb (zR 3 ?_)
   refine zL (L:=(a0.Routes:(List Ju))) ?_
   cases h4
   exact zF
  refine zN (Jb ?_)
  rcases Jl h3 with ⟨hb,h3⟩|⟨hb,h3⟩
  ·refine zT hb (Jct (Lm 0 1 (zE ?_)))
   refine Jgq (d:=19) (y:=(218,[(.i64,1)])) (by kernel_rfl) fun ch hpan=>?_
   cases h3
   refine Bv ?_
   have h5:=Kq h
   cases h5
   exact Jkg hpan
  refine zU hb (Jj ?_)
  cases h3
  exact zJ
 rintro _ rfl
 have h:=Kb h
 refine Ja (Jd (zR 3 ?_))
 obtain ⟨x3,h6,h⟩:=Je h
 refine zI h6 (zE (Jb ?_))
 obtain ⟨o8,h8,h⟩:=Kk h
 refine Qp (o:=o8) 74 (fun (_:Unit)=>⟨[(2,.int .i64 a2),(4,.ref 4 0),(6,.ref 6 0),(7,.ref 7 0)],[(4,.cells (cellsOf a1)),(6,.cells ([.str ByteArray.empty,.int .i64 0,.int .i64 0,.nil,.nil,.nil,.int .i64 0,.int .i64 0,.nil,.nil,.nil,.nil,.nil,.nil])),(7,.cells (cellsOf x3))],[],[]⟩) ?_ ?_
 ·refine Ja (Jd (zE (Jb ?_)))
  rcases Jl h8 with ⟨hb,h8⟩|⟨hb,h8⟩
  ·refine zT hb (Jct (Lm 0 1 (zE ?_)))
   refine Jgq (d:=29) (y:=(218,[(.i64,11)])) (by kernel_rfl) fun ch hpan=>?_
   cases h8
   refine Bv ?_
   have h9:=Kq h
   cases h9
   exact Jkg hpan
  refine zU hb (Jj ?_)
  cases h8
  exact zJ
 rintro _ rfl
 have h:=Kb h
 obtain ⟨o11,h11,h⟩:=Kk h
 refine Qp (o:=o11) 74 (fun (_:Unit)=>⟨[(2,.int .i64 a2),(4,.ref 4 0),(6,.ref 6 0),(7,.ref 7 0)],[(4,.cells (cellsOf a1)),(6,.cells ([.str ByteArray.empty,.int .i64 0,.int .i64 0,.nil,.nil,.nil,.int .i64 0,.int .i64 0,.nil,.nil,.nil,.nil,.nil,.nil])),(7,.cells (cellsOf x3))],[],[]⟩) ?_ ?_
 ·refine Ja (Jd (zR 4 ?_))
  refine Ku 6 39 ((decide (a1.End=(-1)))||(!(decide (a1.End=x3.Entry)))) (fun x hx=>?_) ?_
  ·rcases Vs hx with ⟨hb,hx⟩|⟨hb,hx⟩
   ·refine zS 33 hb ?_
    subst hx
    exact zF
   refine zS 33 hb ?_
   subst hx
   exact zF
  refine zN (Jb ?_)
  rcases Jl h11 with ⟨hb,h11⟩|⟨hb,h11⟩
  ·refine zT hb (Jct (Lm 0 1 (zE ?_)))
   refine Jgq (d:=41) (y:=(218,[(.i64,10)])) (by kernel_rfl) fun ch hpan=>?_
   cases h11
   refine Bv ?_
   have h12:=Kq h
   cases h12
   exact Jkg hpan
  refine zU hb (Jj ?_)
  cases h11
  exact zJ
 rintro _ rfl
 have h:=Kb h
 refine Ja (Jd (zE (Jb ?_)))
 obtain ⟨o17,h17,h⟩:=Kk h
 refine Qp (o:=o17) 74 (fun (_:Unit)=>⟨[(4,.cptr (cellsOf a1)),(6,.ref 6 0),(7,.ref 7 0)],[(6,.cells ([.str ByteArray.empty,.int .i64 0,.int .i64 0,.nil,.nil,.nil,.int .i64 0,.int .i64 0,.nil,.nil,.nil,.nil,.nil,.nil])),(7,.cells (cellsOf x3))],[],[]⟩) ?_ ?_
 ·refine Ja ?_
  refine Jqi 4 [6,7] (cs:=cellsOf a1) (cs':=cellsOf a1) (by kernel_rfl) (by kernel_rfl) (by kernel_rfl) (by kernel_rfl) ?_
  refine Jd (zR 3 ?_)
  obtain ⟨r7,h18,h17⟩:=Je h17
  refine zP (Yw _ _ r7 h18) ?_
  obtain ⟨b8,h19,h17⟩:=Je h17
  refine zR 1 ?_
  refine Km 5 52 (.bool b8) ?_ ?_
  ·rcases Jl h19 with ⟨hb,h19⟩|⟨hb,h19⟩
   ·refine zS 47 hb ?_
    cases h19
    exact zF
   refine zS 47 hb (zR 3 ?_)
   obtain ⟨r9,h20,h19⟩:=Je h19
   refine zP (Ej _ _ r9 h20) ?_
   cases h19
   exact zF
  refine zN (Jb ?_)
  rcases Jl h17 with ⟨hb,h17⟩|⟨hb,h17⟩
  ·refine zT hb (Jct (Lm 0 1 (zE ?_)))
   refine Jgq (d:=54) (y:=(218,[(.i64,8)])) (by kernel_rfl) fun ch hpan=>?_
   cases h17
   refine Bv ?_
   have h21:=Kq h
   cases h21
   exact Jkg hpan
  refine zU hb (Jj ?_)
  cases h17
  exact zJ
 rintro _ rfl
 have h:=Kb h
 obtain ⟨o23,h23,h⟩:=Kk h
 refine Qp (o:=o23) 74 (fun (_:Unit)=>⟨[(6,.ref 6 0),(7,.ref 7 0)],[(6,.cells ([.str ByteArray.empty,.int .i64 0,.int .i64 0,.nil,.nil,.nil,.int .i64 0,.int .i64 0,.nil,.nil,.nil,.nil,.nil,.nil])),(7,.cells (cellsOf x3))],[],[]⟩) ?_ ?_
 ·refine Ja (Jd (zR 2 ?_))
  refine zL (L:=(a1.Steps:(List Jf))) ?_
  refine zR 2 ?_
  refine zL (L:=(x3.Path:(List Jf))) ?_
  refine zR 3 ?_
  refine Ku 7 70 ((decide (64<(w64 (((a1.Steps.length:Nat):Int)+((x3.Path.length:Nat):Int)))))||(decide (1073741824<(w64 (a1.At+x3.Length))))) (fun x hx=>?_) ?_
  ·rcases Vs hx with ⟨hb,hx⟩|⟨hb,hx⟩
   ·refine zS 63 hb ?_
    subst hx
    exact zF
   refine zS 63 hb ?_
   subst hx
   exact zF
  refine zN (Jb ?_)
  rcases Jl h23 with ⟨hb,h23⟩|⟨hb,h23⟩
  ·refine zT hb (Jct (Lm 0 1 (zE ?_)))
   refine Jgq (d:=72) (y:=(218,[(.i64,2)])) (by kernel_rfl) fun ch hpan=>?_
   cases h23
   refine Bv ?_
   have h24:=Kq h
   cases h24
   exact Jkg hpan
  refine zU hb (Jj ?_)
  cases h23
  exact zJ
 rintro _ rfl
 have h:=Kb h
 refine Ja (Jd (zE (Jb (Jq ?_))))
 cases h
 exact ⟨_,rfl,Jvx (by kernel_rfl) (by kernel_rfl) (by kernel_rfl)⟩
/-! claims.inLast -/
noncomputable def Ry (a0:Ji) (a1:Ju) (x1:Int):(Int×Int)→Option ((Int×Int)⊕(Int⊕Int)):=fun (x9,x10) =>
 bif decide (x10<((a1.Path.length:Nat):Int)) then (
  onInl (α:=Int) (β:=((Int×Int)⊕(Int⊕Int))) (
   (ixO a1.Path x10).bind fun x23 =>
   (Be a0 x23.El).bind fun r24 =>
   bif decide (r24=x1) then (
    (Ey a0 x23).bind fun r25 =>
    some (.inl (w64 (x9+r25)))
   ) else (
    some (.inl x9)
   )
  ) fun x22 =>
  some (.inl (x22,w64 (x10+1)))
 ) else (
  some (.inr (.inl x9))
 )
noncomputable def Mo (a0:Ji) (a1:Ju):Option Int :=
 bif decide (((a1.Sections.length:Nat):Int)=0) then (
  some 0
 ) else (
  (ixO a1.Sections (w64 (((a1.Sections.length:Nat):Int) - 1))).bind fun x1 =>
  onInl (α:=Int) (β:=Int) (Ko (Ry a0 a1 x1) (0,0)) fun x18 =>
  some x18
 )
theorem Jfv (a0:Ji) (a1:Ju) (r:Int) (h:Mo a0 a1=some r):Kj Tryz.prog GlS 171 [Enc.pv a0,Enc.pv a1] (Enc.pv r):=by
 unfold Mo at h
 refine zC Tryz.func171 Tryz.ntmps171 ?_
 refine Ja (Jd (zE (Jb (Ja (Ja (Jd (zR 2 ?_)))))))
 refine zL (L:=(a1.Sections:(List Int))) ?_
 refine zE (Jb ?_)
 rcases Jl h with ⟨hb,h⟩|⟨hb,h⟩
 ·refine zT hb (Ja (Jd (zE (Jb (Jq (Jm ?_))))))
  cases h
  exact zQ
 refine zU hb (Jj (Jb (Ja (Jd (zR 4 ?_)))))
 refine zL (L:=(a1.Sections:(List Int))) ?_
 refine zR 1 ?_
 obtain ⟨x1,h1,h⟩:=Je h
 refine zI h1 (zE (Jb (Ja (Jd (zE (Jb (Ja (Ja (Jd (zR 2 ?_))))))))))
 refine zL (L:=(a1.Path:(List Jf))) ?_
 refine zE (Jb (Jp ?_))
 obtain ⟨o17,h17,h⟩:=Kk h
 refine zA 41 0 (fun (x9,x10)=>⟨[(2,.ref 2 0),(5,.int .i64 x1),(6,.int .i64 x9),(22,Jn .frozen (a1.Path:(List Jf))),(23,.int .i64 ((a1.Path.length:Nat):Int)),(24,.int .i64 x10)],[(2,.cells (cellsOf a0))],[],[]⟩) (fun x18=>⟨[(6,.int .i64 x18)],[],[],[]⟩) h17 ?_ ?_
 ·rintro ⟨x9,x10⟩ oh16 h16
  unfold Ry at h16
  refine Ja (Jd (zE (Jb (Ja ?_))))
  rcases Jl h16 with ⟨hb,h16⟩|⟨hb,h16⟩
  ·refine zT hb (Jj (Jb ?_))
   obtain ⟨o21,h21,h16⟩:=Kk h16
   refine Qp (o:=o21) 41 (fun x22=>⟨[(2,.ref 2 0),(5,.int .i64 x1),(6,.int .i64 x22),(22,Jn .frozen (a1.Path:(List Jf))),(23,.int .i64 ((a1.Path.length:Nat):Int)),(24,.int .i64 x10)],[(2,.cells (cellsOf a0))],[],[]⟩) ?_ ?_
   ·refine Jp (Ja (Jd ?_))
    obtain ⟨x23,h22,h21⟩:=Je h21
    refine zI h22 (zE (Jb (Ja (Jd (zR 3 ?_)))))
    obtain ⟨r24,h23,h21⟩:=Je h21
    refine zP (Ed _ _ r24 h23) (zE (Jb ?_))
    rcases Jl h21 with ⟨hb,h21⟩|⟨hb,h21⟩
    ·refine zT hb (Jd (zR 3 ?_))
     obtain ⟨r25,h24,h21⟩:=Je h21
     refine zP (Pg _ _ r25 h24) (zE (Jz ?_))
     cases h21
     exact zJ
    refine zU hb (Jj (Jz ?_))
    cases h21
    exact zJ
   rintro x22 rfl
   have h16:=Kb h16
   refine Jd (zE ?_)
   cases h16
   exact zB
  refine zU hb (Jy (Jv ?_))
  cases h16
  exact zX
 rintro x18 s' rfl hs
 have h:=Kb h
 refine Jt (Jb (Ka hs (Ja (Jd (zE (Jb (Jq ?_)))))))
 cases h
 exact zQ
/-! claims.Extend -/
noncomputable def Ni (a0:Ji) (a1:Kz) (a2:Jg) (a3:Int):Option (Jg×Int) :=
 Jtt (Nk a1 a2 a3) (fun e2 =>
  some ((Jg.mk 0 0 0 0 [] [] [] [] [] 0 0 0 0 0),e2)
 ) fun r1 =>
 Option.bind (α:=((List Jf)×(List Int)×(List Int)×(List Int)×(List Int))) (
  (Qg a2.Steps).bind fun r13 =>
  (Kn a2.Routes).bind fun r14 =>
  (Kn a2.Starts).bind fun r15 =>
  (Kn a2.Ends).bind fun r16 =>
  (Kn a2.Done).bind fun r17 =>
  some (r13,r14,r15,r16,r17)
 ) fun (x8,x9,x10,x11,x12) =>
 (Ut x8 r1.Path).bind fun x18 =>
 (Ut x9 [a3]).bind fun x19 =>
 (Mo a0 r1).bind fun r20 =>
 (Ut x10 [w64 ((w64 (a2.At+r1.Length)) - r20)]).bind fun x21 =>
 (Ut x11 [w64 (a2.At+r1.Length)]).bind fun x22 =>
 some ((Jg.mk a2.Id a2.Origin r1.Exit (w64 (a2.At+r1.Length)) x18 x19 x21 x22 x12 a2.Min a2.Sent a2.Accepted a2.Cut a2.CutSeq),0)
set_option maxRecDepth 100000 in
theorem Je6 (a0:Ji) (a1:Kz) (a2:Jg) (a3:Int) (r:(Jg×Int)) (h:Ni a0 a1 a2 a3=some r):Kj Tryz.prog GlS 97 [Enc.pv a0,Enc.pv a1,Enc.pv a2,Enc.pv a3] (.tup [Enc.pv r.1,Enc.pv r.2]):=by
 unfold Ni at h
 refine Jmd Tryz.func97 (by rfl) rfl Tryz.ntmps97 (by rfl) rfl ?_
 refine Jgk (Jd (zE (Jjy ?_)))
 refine Jfu 1 169 [.ref 8 0,.ref 9 0] (by rfl) ?_
 refine zE ?_
 refine ⟨by kernel_rfl,by kernel_rfl,by kernel_rfl, ?_⟩
 refine Ja (Jct (Lm 0 3 (zE ?_)))
 rcases Jyh h with ⟨e2,h1,h⟩|⟨r1,h1,h⟩
 ·refine Jtz (Pw _ _ _ (.inl e2) h1) (by kernel_rfl) fun ch hpan=>?_
  refine Jh7 ?_
  refine Jyx hpan (Jr8 (x:=some (218,[(.i64,e2)])) (caps:=[.ref 8 0,.ref 9 0]) (by kernel_rfl) Tryz.func169 (by rfl) rfl Tryz.ntmps169 (by rfl) ?_)
  refine Jqd ((Jag 1 (by kernel_rfl)).trans (.of (j:=⟨[(0,.ref 1008 0),(1,.ref 1009 0),(25,.ref 1008 0),(26,.ref 1009 0),(75,.fn 169 [.ref 1008 0,.ref 1009 0])],[(1008,.cells ([.int .i64 0,.int .i64 0,.int .i64 0,.int .i64 0,.nil,.nil,.nil,.nil,.nil,.int .i64 0,.int .i64 0,.int .i64 0,.int .i64 0,.int .i64 0])),(1009,.cells ([.int .i64 0]))],[],[]⟩) (n:=5900076) (by kernel_rfl) (by kernel_rfl))) ?_
  refine Jlv ⟨rfl,rfl,rfl,rfl,fun _ _=>rfl,fun _ _=>rfl⟩ (by kernel_rfl) ?_
  refine Ja (Jd (zR 1 ?_))
  refine Jxw (t:=20) (b:=true) (by kernel_rfl) (by kernel_rfl) ?_
  refine zN (Jb ?_)
  refine Xf (b:=true) rfl (by kernel_rfl) ?_
  refine Ja (Jd (zE (Jb (Ja (Jd (zR 1 ?_))))))
  refine Jz0 (cs:=[(.i64,e2)]) (by kernel_rfl) ?_
  refine zE (Jb (Ja (Jd (zE (Jb ?_)))))
  refine Xf (b:=true) rfl (by kernel_rfl) ?_
  refine Jd (zE ?_)
  cases h
  exact Jey (by kernel_rfl) (by kernel_rfl) (by kernel_rfl)
 refine Ju4 (Pw _ _ _ (.inr r1) h1) (by kernel_rfl) (by kernel_rfl) ?_
 refine Lm 4 2 (zE (Jr2 (Jb (Ja (Jhg (Nf 0 1 (zE ?_)))))))
 refine Ci 3 ⟨[(3,.int .i64 a3),(4,.ref 3004 0),(8,.ref 3008 0),(9,.ref 3009 0),(10,.ref 3010 0),(16,Enc.pv a2),(58,.fn 169 [.ref 3008 0,.ref 3009 0])],[(3004,.cells (cellsOf a0)),(3008,.cells ([.int .i64 0,.int .i64 0,.int .i64 0,.int .i64 0,.nil,.nil,.nil,.nil,.nil,.int .i64 0,.int .i64 0,.int .i64 0,.int .i64 0,.int .i64 0])),(3009,.cells ([.int .i64 0])),(3010,.cells (cellsOf r1))],[],[]⟩ 100059 (by kernel_rfl) (by kernel_rfl) (by kernel_rfl) ?_
 obtain ⟨o7,h7,h⟩:=Je h
 refine Jm3 (f:=93) (asx:=[Enc.pv a2]) (by kernel_rfl) Tryz.func93 (by rfl) rfl Tryz.ntmps93 (by rfl) ?_
 refine Jd4 o7 5900083 (fun (x8,x9,x10,x11,x12)=>⟨[(2,.ref 2 0),(27,.int .i64 a3),(28,.ref 3004 0),(32,.ref 3008 0),(33,.ref 3009 0),(34,.ref 3010 0),(82,.fn 169 [.ref 3008 0,.ref 3009 0])],[(2,.cells ([.int .i64 a2.Id,.int .i64 a2.Origin,.int .i64 a2.End,.int .i64 a2.At,Jn (.own 5007) (x8:(List Jf)),Jn (.own 9007) (x9:(List Int)),Jn (.own 13007) (x10:(List Int)),Jn (.own 17007) (x11:(List Int)),Jn (.own 21007) (x12:(List Int)),.int .i64 a2.Min,.int .i64 a2.Sent,.int .i64 a2.Accepted,.int .i64 a2.Cut,.int .i64 a2.CutSeq])),(3004,.cells (cellsOf a0)),(3008,.cells ([.int .i64 0,.int .i64 0,.int .i64 0,.int .i64 0,.nil,.nil,.nil,.nil,.nil,.int .i64 0,.int .i64 0,.int .i64 0,.int .i64 0,.int .i64 0])),(3009,.cells ([.int .i64 0])),(3010,.cells (cellsOf r1))],[(5007,(((x8).map cellsOf).length,3)),(9007,(((x9).map cellsOf).length,1)),(13007,(((x10).map cellsOf).length,1)),(17007,(((x11).map cellsOf).length,1)),(21007,(((x12).map cellsOf).length,1))],[]⟩) ?_ ?_
 ·refine Ja (Jd (zE (Jb (Ja (Jd (zR 2 ?_))))))
  obtain ⟨r13,h8,h7⟩:=Je h7
  refine zP (Ul _ r13 h8) (zE (Jb (Ja (Jd (zR 2 ?_)))))
  obtain ⟨r14,h9,h7⟩:=Je h7
  refine zP (Ky _ r14 h9) (zE (Jb (Ja (Jd (zR 2 ?_)))))
  obtain ⟨r15,h10,h7⟩:=Je h7
  refine zP (Ky _ r15 h10) (zE (Jb (Ja (Jd (zR 2 ?_)))))
  obtain ⟨r16,h11,h7⟩:=Je h7
  refine zP (Ky _ r16 h11) (zE (Jb (Ja (Jd (zR 2 ?_)))))
  obtain ⟨r17,h12,h7⟩:=Je h7
  refine zP (Ky _ r17 h12) (zE (Jb (Ja (Jd (zE (Jb (Jq ?_)))))))
  cases h7
  exact Jrf (by kernel_rfl) (by kernel_rfl)
 obtain ⟨x8,x9,x10,x11,x12⟩:=o7
 refine Jm8 (r:=.agg [.int .i64 a2.Id,.int .i64 a2.Origin,.int .i64 a2.End,.int .i64 a2.At,Jn (.own 5007) (x8:(List Jf)),Jn (.own 9007) (x9:(List Int)),Jn (.own 13007) (x10:(List Int)),Jn (.own 17007) (x11:(List Int)),Jn (.own 21007) (x12:(List Int)),.int .i64 a2.Min,.int .i64 a2.Sent,.int .i64 a2.Accepted,.int .i64 a2.Cut,.int .i64 a2.CutSeq]) (by kernel_rfl) ?_
 refine Ci 4 ⟨[(3,.int .i64 a3),(4,.ref 3004 0),(8,.ref 3008 0),(9,.ref 3009 0),(10,.ref 3010 0),(17,.agg [.int .i64 a2.Id,.int .i64 a2.Origin,.int .i64 a2.End,.int .i64 a2.At,Jn (.own 4005007) (x8:(List Jf)),Jn (.own 4009007) (x9:(List Int)),Jn (.own 4013007) (x10:(List Int)),Jn (.own 4017007) (x11:(List Int)),Jn (.own 4021007) (x12:(List Int)),.int .i64 a2.Min,.int .i64 a2.Sent,.int .i64 a2.Accepted,.int .i64 a2.Cut,.int .i64 a2.CutSeq]),(58,.fn 169 [.ref 3008 0,.ref 3009 0])],[(3004,.cells (cellsOf a0)),(3008,.cells ([.int .i64 0,.int .i64 0,.int .i64 0,.int .i64 0,.nil,.nil,.nil,.nil,.nil,.int .i64 0,.int .i64 0,.int .i64 0,.int .i64 0,.int .i64 0])),(3009,.cells ([.int .i64 0])),(3010,.cells (cellsOf r1))],[(4005007,(((x8).map cellsOf).length,3)),(4009007,(((x9).map cellsOf).length,1)),(4013007,(((x10).map cellsOf).length,1)),(4017007,(((x11).map cellsOf).length,1)),(4021007,(((x12).map cellsOf).length,1))],[]⟩ 100059 (by kernel_rfl) (by kernel_rfl) (by kernel_rfl) ?_
 refine Ci 3 ⟨[(3,.int .i64 a3),(4,.ref 4 0),(8,.ref 8 0),(9,.ref 9 0),(10,.ref 10 0),(17,.agg [.int .i64 a2.Id,.int .i64 a2.Origin,.int .i64 a2.End,.int .i64 a2.At,Jn (.own 4005007) (x8:(List Jf)),Jn (.own 4009007) (x9:(List Int)),Jn (.own 4013007) (x10:(List Int)),Jn (.own 4017007) (x11:(List Int)),Jn (.own 4021007) (x12:(List Int)),.int .i64 a2.Min,.int .i64 a2.Sent,.int .i64 a2.Accepted,.int .i64 a2.Cut,.int .i64 a2.CutSeq]),(58,.fn 169 [.ref 8 0,.ref 9 0])],[(4,.cells (cellsOf a0)),(8,.cells ([.int .i64 0,.int .i64 0,.int .i64 0,.int .i64 0,.nil,.nil,.nil,.nil,.nil,.int .i64 0,.int .i64 0,.int .i64 0,.int .i64 0,.int .i64 0])),(9,.cells ([.int .i64 0])),(10,.cells (cellsOf r1))],[(4005007,(((x8).map cellsOf).length,3)),(4009007,(((x9).map cellsOf).length,1)),(4013007,(((x10).map cellsOf).length,1)),(4017007,(((x11).map cellsOf).length,1)),(4021007,(((x12).map cellsOf).length,1))],[]⟩ 100059 (by kernel_rfl) (by kernel_rfl) (by kernel_rfl) ?_
 refine Nf 2 1 (zE (Jg8 (Jb (Ja (Jd (zE (Jb (Ja (Jd (zE (Jb (Ja (Jd (zR 4 ?_))))))))))))))
 obtain ⟨x18,h13,h⟩:=Je h
 refine zW (tk:=4005007) h13 ?_
 refine zE (Jb (Ja (Jd (zR 4 ?_))))
 obtain ⟨x19,h14,h⟩:=Je h
 refine zW (tk:=4009007) h14 ?_
 refine zE (Jb (Ja (zD (zR 6 ?_))))
 obtain ⟨r20,h15,h⟩:=Je h
 refine zP (Jfv _ _ r20 h15) (zR 2 ?_)
 obtain ⟨x21,h16,h⟩:=Je h
 refine zW (tk:=4013007) h16 ?_
 refine zE (Jb (Ja (Jd (zR 5 ?_))))
 obtain ⟨x22,h17,h⟩:=Je h
 refine zW (tk:=4017007) h17 ?_
 refine zE (Jb (Ja (Jd (zE (Jb (Jq ?_))))))
 refine Jyu (Jr8 (x:=none) (caps:=[.ref 8 0,.ref 9 0]) (by kernel_rfl) Tryz.func169 (by rfl) rfl Tryz.ntmps169 (by rfl) ?_)
 refine Jqd ((Jag 5 (by kernel_rfl)).trans (.of (j:=⟨[(0,.ref 5008 0),(1,.ref 5009 0),(25,.ref 5008 0),(26,.ref 5009 0),(75,.fn 169 [.ref 5008 0,.ref 5009 0])],[(5008,.cells ([.int .i64 a2.Id,.int .i64 a2.Origin,.int .i64 r1.Exit,.int .i64 (w64 (a2.At+r1.Length)),Jn (.own 4005007) (x18:(List Jf)),Jn (.own 4009007) (x19:(List Int)),Jn (.own 4013007) (x21:(List Int)),Jn (.own 4017007) (x22:(List Int)),Jn (.own 4021007) (x12:(List Int)),.int .i64 a2.Min,.int .i64 a2.Sent,.int .i64 a2.Accepted,.int .i64 a2.Cut,.int .i64 a2.CutSeq])),(5009,.cells ([.int .i64 0]))],[(4005007,(((x18).map cellsOf).length,3)),(4009007,(((x19).map cellsOf).length,1)),(4013007,(((x21).map cellsOf).length,1)),(4017007,(((x22).map cellsOf).length,1)),(4021007,(((x12).map cellsOf).length,1))],[]⟩) (n:=5900076) (by kernel_rfl) (by kernel_rfl))) ?_
 refine Jlv ⟨rfl,rfl,rfl,rfl,fun _ _=>rfl,fun _ _=>rfl⟩ (by kernel_rfl) ?_
 refine Ja (Jd (zR 1 ?_))
 refine Jxw (t:=20) (b:=false) (by kernel_rfl) (by kernel_rfl) ?_
 refine zN (Jb ?_)
 refine Tw (b:=false) rfl (by kernel_rfl) ?_
 refine Jj ?_
 cases h
 exact Jey (by kernel_rfl) (by kernel_rfl) (by kernel_rfl)
/-! rbc.shortened$1 -/
noncomputable def Fl (a0:Int) (c0:Jg):Option Bool :=
 some (decide (c0.Cut<a0))
theorem Jbv (a0:Int) (c0:Jg) (r:Bool) (h:Fl a0 c0=some r):Kj Tryz.prog GlS 173 [Enc.pv a0,.cptr (cellsOf c0)] (Enc.pv r):=by
 unfold Fl at h
 refine zC Tryz.func173 Tryz.ntmps173 ?_
 refine Ja (Jd (zE (Jb (Ja (Jd (zE (Jb (Jq ?_))))))))
 cases h
 exact zQ
/-! slices.IndexFunc[[]int,int] -/
noncomputable def Wc (a0:(List Int)) (a1_0:Jg):Int→Option (Int⊕(Unit⊕Int)):=fun x3 =>
 bif decide (x3<((a0.length:Nat):Int)) then (
  (ixO a0 x3).bind fun x6 =>
  (Fl x6 a1_0).bind fun r7 =>
  bif r7 then (
   some (.inr (.inr x3))
  ) else (
   some (.inl (w64 (x3+1)))
  )
 ) else (
  some (.inr (.inl ()))
 )
noncomputable def Vc (a0:(List Int)) (a1_0:Jg):Option Int :=
 onInl (α:=Unit) (β:=Int) (Ko (Wc a0 a1_0) 0) fun _ =>
 some (-1)
theorem Bn (a0:(List Int)) (a1_0:Jg) (r:Int) (h:Vc a0 a1_0=some r):Kj Tryz.prog GlS 166 [Enc.pv a0,.fn 173 [.cptr (cellsOf a1_0)]] (Enc.pv r):=by
 unfold Vc at h
 refine zC Tryz.func166 Tryz.ntmps166 ?_
 refine Ja (Jd (zE (Jb (Ja (Ja (Jd (zR 1 ?_)))))))
 refine zL (L:=(a0:(List Int))) ?_
 refine zE (Jb (Jp ?_))
 obtain ⟨o8,h8,h⟩:=Kk h
 refine zA 19 0 (fun x3=>⟨[(0,Jn .frozen (a0:(List Int))),(1,.fn 173 [.cptr (cellsOf a1_0)]),(7,.int .i64 ((a0.length:Nat):Int)),(8,.int .i64 x3)],[],[],[]⟩) (fun (_:Unit)=>⟨[],[],[],[]⟩) h8 ?_ ?_
 ·rintro x3 oh7 h7
  unfold Wc at h7
  refine Ja (Jd (zE (Jb (Ja ?_))))
  rcases Jl h7 with ⟨hb,h7⟩|⟨hb,h7⟩
  ·refine zT hb (Jj (Jb (Ja (Jp (Ja (Jd (zE (Jb (Ja (Jd (zR 3 ?_)))))))))))
   obtain ⟨x6,h9,h7⟩:=Je h7
   refine zI h9 (zR 1 ?_)
   obtain ⟨r7,h10,h7⟩:=Je h7
   refine zP (Jbv _ _ r7 h10) (zN (Jb ?_))
   rcases Jl h7 with ⟨hb,h7⟩|⟨hb,h7⟩
   ·refine zT hb (Ja (Jd (zE (Jb (Jq (Js (Jm ?_)))))))
    cases h7
    refine Kd fun he=>?_
    subst he
    have h11:=Kq h
    refine Js (Jm ?_)
    cases h11
    exact zQ
   refine zU hb (Jj (Jz (Jb (Jd (zE ?_)))))
   cases h7
   exact zB
  refine zU hb (Jy (Jv ?_))
  cases h7
  exact zX
 rintro _ s' rfl hs
 have h:=Kb h
 refine Jt (Jb (Ka hs (Ja (Jd (zE (Jb (Jq ?_)))))))
 cases h
 exact zQ
/-! slices.ContainsFunc[[]int,int] -/
noncomputable def Ur (a0:(List Int)) (a1_0:Jg):Option Bool :=
 (Vc a0 a1_0).bind fun r1 =>
 some (decide (0≤r1))
theorem Zq (a0:(List Int)) (a1_0:Jg) (r:Bool) (h:Ur a0 a1_0=some r):Kj Tryz.prog GlS 172 [Enc.pv a0,.fn 173 [.cptr (cellsOf a1_0)]] (Enc.pv r):=by
 unfold Ur at h
 refine zC Tryz.func172 Tryz.ntmps172 ?_
 refine Ja (Jd (zE (Jb (Ja (Jd (zR 2 ?_))))))
 obtain ⟨r1,h1,h⟩:=Je h
 refine zP (Bn _ _ r1 h1) (zE (Jb (Jq ?_)))
 cases h
 exact zQ
/-! rbc.shortened -/
noncomputable def Rr (a0:Ji) (a1:Jg):(Int×Int×(List Jf))→Option ((Int×Int×(List Jf))⊕((List Jf)⊕Jg)):=fun (x32,x33,x34) =>
 bif decide (x33<((a1.Steps.length:Nat):Int)) then (
  onInl (α:=((List Jf)×Int)) (β:=((Int×Int×(List Jf))⊕((List Jf)⊕Jg))) (
   (ixO a1.Steps x33).bind fun x58 =>
   onInl (α:=(List Jf)) (β:=(((List Jf)×Int)⊕((Int×Int×(List Jf))⊕((List Jf)⊕Jg)))) (
    bif decide (x32<a1.Cut) then (
     (Ut x34 [x58]).bind fun x61 =>
     some (.inl x61)
    ) else (
     some (.inl x34)
    )
   ) fun x60 =>
   ((bif decide (0≤x58.El) then (
    some (decide (x58.El<((a0.Elements.length:Nat):Int)))
   ) else some false):Option Bool).bind fun b62 =>
   bif b62 then (
    (ixO a0.Elements x58.El).bind fun x63 =>
    some (.inl (x60,w64 (x32+x63.Length)))
   ) else (
    some (.inl (x60,x32))
   )
  ) fun (x56,x57) =>
  some (.inl (x57,w64 (x33+1),x56))
 ) else (
  some (.inr (.inl x34))
 )
noncomputable def Nj (a0:Ji) (a1:Jg):Option Jg :=
 (Ur a1.Ends a1).bind fun r1 =>
 bif (!r1) then (
  some a1
 ) else (
  onInl (α:=(List Jf)) (β:=Jg) (Ko (Rr a0 a1) (a1.Origin,0,([]:(List Jf)))) fun x49 =>
  some (Jg.mk a1.Id a1.Origin a1.End a1.Cut x49 a1.Routes a1.Starts a1.Ends a1.Done a1.Min a1.Sent a1.Accepted a1.Cut a1.CutSeq)
 )
theorem Je1 (a0:Ji) (a1:Jg) (r:Jg) (h:Nj a0 a1=some r):Kj Tryz.prog GlS 98 [Enc.pv a0,Enc.pv a1] (Enc.pv r):=by
 unfold Nj at h
 refine zC Tryz.func98 Tryz.ntmps98 ?_
 refine Ja (Jd (zE (Jb (Ja (Jd (zR 3 ?_))))))
 obtain ⟨r1,h1,h⟩:=Je h
 refine Jw3 [] (Zq _ _ r1 h1) (by kernel_rfl) (by kernel_rfl) (by kernel_rfl) ?_
 refine zE (Jb (Ja (Ja (Jd (zE (Jb ?_))))))
 rcases Jl h with ⟨hb,h⟩|⟨hb,h⟩
 ·refine zT hb (Ja (Jd (zE (Jb (Jq (Jm ?_))))))
  cases h
  exact zQ
 refine zU hb (Jj (Jb (Ja (Jd (zE (Jb (Ja (Jd (zE (Jb (Ja (Ja (Jd (zR 2 ?_))))))))))))))
 refine zL (L:=(a1.Steps:(List Jf))) ?_
 refine zE (Jb (Jp (Yn 6 100006 3 24 (by kernel_rfl) (by kernel_rfl) ?_)))
 obtain ⟨o42,h42,h⟩:=Kk h
 refine zA 61 0 (fun (x32,x33,x34)=>⟨[(2,.ref 2 0),(3,.ref 3 0),(4,.ref 4 0),(6,Jn (.own 100006) (x34:(List Jf))),(7,.int .i64 x32),(20,Jn .frozen (a1.Steps:(List Jf))),(21,.int .i64 ((a1.Steps.length:Nat):Int)),(22,.int .i64 x33)],[(2,.cells (cellsOf a0)),(3,.cells (cellsOf a1)),(4,.cells ([.int .i64 0,.int .i64 0,.int .i64 0,.int .i64 0,.nil,.nil,.nil,.nil,.nil,.int .i64 0,.int .i64 0,.int .i64 0,.int .i64 0,.int .i64 0]))],[(100006,(((x34).map cellsOf).length,3))],[]⟩) (fun x49=>⟨[(3,.ref 3 0),(4,.ref 4 0),(6,Jn (.own 100006) (x49:(List Jf)))],[(3,.cells (cellsOf a1)),(4,.cells ([.int .i64 0,.int .i64 0,.int .i64 0,.int .i64 0,.nil,.nil,.nil,.nil,.nil,.int .i64 0,.int .i64 0,.int .i64 0,.int .i64 0,.int .i64 0]))],[(100006,(((x49).map cellsOf).length,3))],[]⟩) h42 ?_ ?_
 ·rintro ⟨x32,x33,x34⟩ oh41 h41
  unfold Rr at h41
  refine Ja (Jd (zE (Jb (Ja ?_))))
  rcases Jl h41 with ⟨hb,h41⟩|⟨hb,h41⟩
  ·refine zT hb (Jj (Jb ?_))
   obtain ⟨o49,h49,h41⟩:=Kk h41
   refine Qp (o:=o49) 61 (fun (x56,x57)=>⟨[(2,.ref 2 0),(3,.ref 3 0),(4,.ref 4 0),(6,Jn (.own 100006) (x56:(List Jf))),(7,.int .i64 x57),(20,Jn .frozen (a1.Steps:(List Jf))),(21,.int .i64 ((a1.Steps.length:Nat):Int)),(22,.int .i64 x33)],[(2,.cells (cellsOf a0)),(3,.cells (cellsOf a1)),(4,.cells ([.int .i64 0,.int .i64 0,.int .i64 0,.int .i64 0,.nil,.nil,.nil,.nil,.nil,.int .i64 0,.int .i64 0,.int .i64 0,.int .i64 0,.int .i64 0]))],[(100006,(((x56).map cellsOf).length,3))],[]⟩) ?_ ?_
   ·refine Jp (Ja (Jd ?_))
    obtain ⟨x58,h50,h49⟩:=Je h49
    refine zI h50 (zE (Jb ?_))
    obtain ⟨o52,h52,h49⟩:=Kk h49
    refine Qp (o:=o52) 61 (fun x60=>⟨[(2,.ref 2 0),(3,.ref 3 0),(4,.ref 4 0),(6,Jn (.own 100006) (x60:(List Jf))),(7,.int .i64 x32),(9,.ref 9 0),(20,Jn .frozen (a1.Steps:(List Jf))),(21,.int .i64 ((a1.Steps.length:Nat):Int)),(22,.int .i64 x33)],[(2,.cells (cellsOf a0)),(3,.cells (cellsOf a1)),(4,.cells ([.int .i64 0,.int .i64 0,.int .i64 0,.int .i64 0,.nil,.nil,.nil,.nil,.nil,.int .i64 0,.int .i64 0,.int .i64 0,.int .i64 0,.int .i64 0])),(9,.cells (cellsOf x58))],[(100006,(((x60).map cellsOf).length,3))],[]⟩) ?_ ?_
    ·refine Ja (Jd (zE (Jb ?_)))
     rcases Jl h52 with ⟨hb,h52⟩|⟨hb,h52⟩
     ·refine zT hb (Jd (zR 3 ?_))
      obtain ⟨x61,h53,h52⟩:=Je h52
      refine zW (tk:=100006) h53 ?_
      refine zE ?_
      cases h52
      exact zJ
     refine zU hb (Jj ?_)
     cases h52
     exact zJ
    rintro x60 rfl
    have h49:=Kb h49
    refine Ja (Jd ?_)
    obtain ⟨b62,h54,h49⟩:=Je h49
    refine zR 4 ?_
    refine Km 7 44 (.bool b62) ?_ ?_
    ·rcases Jl h54 with ⟨hb,h54⟩|⟨hb,h54⟩
     ·refine zS 37 hb (zR 4 ?_)
      refine zL (L:=(a0.Elements:(List Ke))) ?_
      cases h54
      exact zF
     refine zS 37 hb ?_
     cases h54
     exact zF
    refine zN (Jb ?_)
    rcases Jl h49 with ⟨hb,h49⟩|⟨hb,h49⟩
    ·refine zT hb (Jd (zR 5 ?_))
     obtain ⟨x63,h55,h49⟩:=Je h49
     refine zI h55 (zE (Jz ?_))
     cases h49
     exact zJ
    refine zU hb (Jj (Jz ?_))
    cases h49
    exact zJ
   rintro ⟨x56,x57⟩ rfl
   have h41:=Kb h41
   refine Jd (zE ?_)
   cases h41
   exact zB
  refine zU hb (Jy (Jv ?_))
  cases h41
  exact zX
 rintro x49 s' rfl hs
 have h:=Kb h
 refine Jt (Jb (Ka hs (Ja (Jd (zE (Jb (Ja (Jd (zE (Jb (Ja (Jd (zE (Jb (Jq ?_)))))))))))))))
 cases h
 exact zQ
/-! profile.coordinate -/
noncomputable def Wp (a0:Int):Option Bool :=
 some ((decide ((-1073741824)≤a0))&&(decide (a0≤1073741824)))
theorem Bg (a0:Int) (r:Bool) (h:Wp a0=some r):Kj Tryz.prog GlS 242 [Enc.pv a0] (Enc.pv r):=by
 unfold Wp at h
 refine zC Tryz.func242 Tryz.ntmps242 ?_
 refine Ja (Jd (zE (Jb (Ja (Jd (zR 3 ?_))))))
 refine Ku 3 8 ((decide ((-1073741824)≤a0))&&(decide (a0≤1073741824))) (fun x hx=>?_) ?_
 ·rcases Vm hx with ⟨hb,hx⟩|⟨hb,hx⟩
  ·refine zS 5 hb ?_
   subst hx
   exact zF
  refine zS 5 hb ?_
  subst hx
  exact zF
 refine zE (Jb (Jq ?_))
 cases h
 exact zQ
/-! profile.gradient -/
noncomputable def Fr (a0:Ke) (a1:Jf):Option Int :=
 bif ((decide (a1.In=0))||((decide (a1.In=2))&&(decide (a0.Kind=3)))) then (
  some a0.Grade
 ) else (
  some (w64 (0 - a0.Grade))
 )
theorem Jbt (a0:Ke) (a1:Jf) (r:Int) (h:Fr a0 a1=some r):Kj Tryz.prog GlS 243 [Enc.pv a0,Enc.pv a1] (Enc.pv r):=by
 unfold Fr at h
 refine zC Tryz.func243 Tryz.ntmps243 ?_
 refine Ja (Jd (zE (Jb (Ja (Ja (Jd (zR 4 ?_)))))))
 refine Ku 9 17 ((decide (a1.In=0))||((decide (a1.In=2))&&(decide (a0.Kind=3)))) (fun x hx=>?_) ?_
 ·rcases Vs hx with ⟨hb,hx⟩|⟨hb,hx⟩
  ·refine zS 8 hb ?_
   subst hx
   exact zF
  refine zS 8 hb (zR 4 ?_)
  refine Ph 4 16 ((decide (a1.In=2))&&(decide (a0.Kind=3))) (fun x hx=>?_) ?_
  ·rcases Vm hx with ⟨hb,hx⟩|⟨hb,hx⟩
   ·refine zS 12 hb ?_
    subst hx
    exact zF
   refine zS 12 hb ?_
   subst hx
   exact zF
  subst hx
  exact zF
 refine zN (Jb ?_)
 rcases Jl h with ⟨hb,h⟩|⟨hb,h⟩
 ·refine zT hb (Ja (Jd (zE (Jb (Jq (Jm ?_))))))
  cases h
  exact zQ
 refine zU hb (Jj (Jb (Ja (Jd (zE (Jb (Jq ?_)))))))
 cases h
 exact zQ
/-! profile.speed -/
noncomputable def Nc (a0:Ke) (a1:Jf):Option Int :=
 bif ((decide (a0.Kind=2))&&((decide (a1.In=2))||(decide (a1.Out=2)))) then (
  some a0.Slow
 ) else (
  some a0.Speed
 )
theorem Jfc (a0:Ke) (a1:Jf) (r:Int) (h:Nc a0 a1=some r):Kj Tryz.prog GlS 244 [Enc.pv a0,Enc.pv a1] (Enc.pv r):=by
 unfold Nc at h
 refine zC Tryz.func244 Tryz.ntmps244 ?_
 refine Ja (Jd (zE (Jb (Ja (Ja (Jd (zR 4 ?_)))))))
 refine Ku 9 17 ((decide (a0.Kind=2))&&((decide (a1.In=2))||(decide (a1.Out=2)))) (fun x hx=>?_) ?_
 ·rcases Vm hx with ⟨hb,hx⟩|⟨hb,hx⟩
  ·refine zS 8 hb (zR 4 ?_)
   refine Ph 4 16 ((decide (a1.In=2))||(decide (a1.Out=2))) (fun x hx=>?_) ?_
   ·rcases Vs hx with ⟨hb,hx⟩|⟨hb,hx⟩
    ·refine zS 12 hb ?_
     subst hx
     exact zF
    refine zS 12 hb ?_
    subst hx
    exact zF
   subst hx
   exact zF
  refine zS 8 hb ?_
  subst hx
  exact zF
 refine zN (Jb ?_)
 rcases Jl h with ⟨hb,h⟩|⟨hb,h⟩
 ·refine zT hb (Ja (Jd (zE (Jb (Jq (Jm ?_))))))
  cases h
  exact zQ
 refine zU hb (Jj (Jb (Ja (Jd (zE (Jb (Jq ?_)))))))
 cases h
 exact zQ
/-! profile.Valid -/
noncomputable def Rz (a0:(List Jh)):Int→Option (Int⊕(Unit⊕Bool)):=fun x7 =>
 bif decide (x7<((a0.length:Nat):Int)) then (
  (ixO a0 x7).bind fun x14 =>
  (Wp x14.From).bind fun r15 =>
  ((bif (!r15) then some true else (
   (Wp x14.To).bind fun r17 =>
   some (!r17)
  )):Option Bool).bind fun b16 =>
  bif (((((b16||(decide (x14.To≤x14.From)))||(decide (x14.Grade<(-50))))||(decide (50<x14.Grade)))||(decide (x14.Speed<1)))||(decide (10000<x14.Speed))) then (
   some (.inr (.inr false))
  ) else (
   ((bif decide (0<x7) then (
    (ixO a0 (w64 (x7 - 1))).bind fun x19 =>
    some (!(decide (x14.From=x19.To)))
   ) else some false):Option Bool).bind fun b18 =>
   bif b18 then (
    some (.inr (.inr false))
   ) else (
    some (.inl (w64 (x7+1)))
   )
  )
 ) else (
  some (.inr (.inl ()))
 )
noncomputable def Yd (a0:(List Jh)):Option Bool :=
 bif decide (128<((a0.length:Nat):Int)) then (
  some false
 ) else (
  onInl (α:=Unit) (β:=Bool) (Ko (Rz a0) 0) fun _ =>
  some true
 )
theorem Za (a0:(List Jh)) (r:Bool) (h:Yd a0=some r):Kj Tryz.prog GlS 188 [Enc.pv a0] (Enc.pv r):=by
 unfold Yd at h
 refine zC Tryz.func188 Tryz.ntmps188 ?_
 refine Ja (Jd (zE (Jb (Ja (Ja (Jd (zR 1 ?_)))))))
 refine zL (L:=(a0:(List Jh))) ?_
 refine zE (Jb ?_)
 rcases Jl h with ⟨hb,h⟩|⟨hb,h⟩
 ·refine zT hb (Ja (Jd (zE (Jb (Jq (Jm ?_))))))
  cases h
  exact zQ
 refine zU hb (Jj (Jb (Ja (Ja (Jd (zR 1 ?_))))))
 refine zL (L:=(a0:(List Jh))) ?_
 refine zE (Jb (Jp ?_))
 obtain ⟨o18,h18,h⟩:=Kk h
 refine zA 66 0 (fun x7=>⟨[(0,Jn .frozen (a0:(List Jh))),(8,Jn .frozen (a0:(List Jh))),(9,.int .i64 ((a0.length:Nat):Int)),(10,.int .i64 x7)],[],[],[]⟩) (fun (_:Unit)=>⟨[],[],[],[]⟩) h18 ?_ ?_
 ·rintro x7 oh17 h17
  unfold Rz at h17
  refine Ja (Jd (zE (Jb (Ja ?_))))
  rcases Jl h17 with ⟨hb,h17⟩|⟨hb,h17⟩
  ·refine zT hb (Jj (Jb (Ja (Jp (Ja (Jd (zR 1 ?_)))))))
   obtain ⟨x14,h19,h17⟩:=Je h17
   refine zI h19 (zE (Jb (Ja (Ja (Jd (zR 2 ?_))))))
   obtain ⟨r15,h20,h17⟩:=Je h17
   refine zP (Bg _ r15 h20) ?_
   obtain ⟨b16,h21,h17⟩:=Je h17
   refine zR 2 ?_
   refine Km 5 24 (.bool b16) ?_ ?_
   ·rcases Jl h21 with ⟨hb,h21⟩|⟨hb,h21⟩
    ·refine zS 19 hb ?_
     cases h21
     exact zF
    refine zS 19 hb (zR 2 ?_)
    obtain ⟨r17,h22,h21⟩:=Je h21
    refine zP (Bg _ r17 h22) ?_
    cases h21
    exact zF
   refine zR 1 ?_
   refine Ku 6 31 (b16||(decide (x14.To≤x14.From))) (fun x hx=>?_) ?_
   ·rcases Vs hx with ⟨hb,hx⟩|⟨hb,hx⟩
    ·refine zS 25 hb ?_
     subst hx
     exact zF
    refine zS 25 hb ?_
    subst hx
    exact zF
   refine zR 1 ?_
   refine Ku 4 36 ((b16||(decide (x14.To≤x14.From)))||(decide (x14.Grade<(-50)))) (fun x hx=>?_) ?_
   ·rcases Vs hx with ⟨hb,hx⟩|⟨hb,hx⟩
    ·refine zS 32 hb ?_
     subst hx
     exact zF
    refine zS 32 hb ?_
    subst hx
    exact zF
   refine zR 1 ?_
   refine Ku 4 41 (((b16||(decide (x14.To≤x14.From)))||(decide (x14.Grade<(-50))))||(decide (50<x14.Grade))) (fun x hx=>?_) ?_
   ·rcases Vs hx with ⟨hb,hx⟩|⟨hb,hx⟩
    ·refine zS 37 hb ?_
     subst hx
     exact zF
    refine zS 37 hb ?_
    subst hx
    exact zF
   refine zR 1 ?_
   refine Ku 4 46 ((((b16||(decide (x14.To≤x14.From)))||(decide (x14.Grade<(-50))))||(decide (50<x14.Grade)))||(decide (x14.Speed<1))) (fun x hx=>?_) ?_
   ·rcases Vs hx with ⟨hb,hx⟩|⟨hb,hx⟩
    ·refine zS 42 hb ?_
     subst hx
     exact zF
    refine zS 42 hb ?_
    subst hx
    exact zF
   refine zR 1 ?_
   refine Ku 4 51 (((((b16||(decide (x14.To≤x14.From)))||(decide (x14.Grade<(-50))))||(decide (50<x14.Grade)))||(decide (x14.Speed<1)))||(decide (10000<x14.Speed))) (fun x hx=>?_) ?_
   ·rcases Vs hx with ⟨hb,hx⟩|⟨hb,hx⟩
    ·refine zS 47 hb ?_
     subst hx
     exact zF
    refine zS 47 hb ?_
    subst hx
    exact zF
   refine zN (Jb ?_)
   rcases Jl h17 with ⟨hb,h17⟩|⟨hb,h17⟩
   ·refine zT hb (Ja (Jd (zE (Jb (Jq (Jm (Js (Jm ?_))))))))
    cases h17
    refine Kd fun he=>?_
    subst he
    have h23:=Kq h
    refine Js (Jm ?_)
    cases h23
    exact zQ
   refine zU hb (Jj (Jb (Ja (zD ?_))))
   obtain ⟨b18,h24,h17⟩:=Je h17
   refine zR 3 ?_
   refine Km 10 64 (.bool b18) ?_ ?_
   ·rcases Jl h24 with ⟨hb,h24⟩|⟨hb,h24⟩
    ·refine zS 54 hb (zR 5 ?_)
     obtain ⟨x19,h25,h24⟩:=Je h24
     refine zI h25 ?_
     cases h24
     exact zF
    refine zS 54 hb ?_
    cases h24
    exact zF
   refine zN (Jb ?_)
   rcases Jl h17 with ⟨hb,h17⟩|⟨hb,h17⟩
   ·refine zT hb (Ja (Jd (zE (Jb (Jq (Js (Jm ?_)))))))
    cases h17
    refine Kd fun he=>?_
    subst he
    have h26:=Kq h
    refine Js (Jm ?_)
    cases h26
    exact zQ
   refine zU hb (Jj (Jz (Jb (Jd (zE ?_)))))
   cases h17
   exact zB
  refine zU hb (Jy (Jv ?_))
  cases h17
  exact zX
 rintro _ s' rfl hs
 have h:=Kb h
 refine Jt (Jb (Ka hs (Ja (Jd (zE (Jb (Jq ?_)))))))
 cases h
 exact zQ
/-! profile.Of -/
noncomputable def Jcz (a0:Ji) (a1:(List Jf)):(Int×Int×(List Jh))→Option ((Int×Int×(List Jh))⊕((List Jh)⊕(List Jh))):=fun (x21,x22,x23) =>
 bif decide (x22<((a1.length:Nat):Int)) then (
  (ixO a1 x22).bind fun x34 =>
  ((bif decide (x34.El<0) then some true else (
   some (decide (((a0.Elements.length:Nat):Int)≤x34.El))
  )):Option Bool).bind fun b35 =>
  bif b35 then (
   some (.inr (.inr ([]:(List Jh))))
  ) else (
   (ixO a0.Elements x34.El).bind fun x36 =>
   (Rv x36.Kind x34.In x34.Out).bind fun r37 =>
   ((bif (!r37.2) then some true else (
    (Wp x21).bind fun r39 =>
    some (!r39)
   )):Option Bool).bind fun b38 =>
   bif b38 then (
    some (.inr (.inr ([]:(List Jh))))
   ) else (
    (Fr x36 x34).bind fun r40 =>
    (Nc x36 x34).bind fun r41 =>
    (Ut x23 [(Jh.mk x21 (w64 (x21+x36.Length)) r40 r41)]).bind fun x42 =>
    some (.inl (w64 (x21+x36.Length),w64 (x22+1),x42))
   )
  )
 ) else (
  some (.inr (.inl x23))
 )
noncomputable def Jam (a0:Ji) (a1:(List Jf)) (a2:Int):Option (List Jh) :=
 bif decide (128<((a1.length:Nat):Int)) then (
  some ([]:(List Jh))
 ) else (
  onInl (α:=(List Jh)) (β:=(List Jh)) (Ko (Jcz a0 a1) (a2,0,([]:(List Jh)))) fun x33 =>
  (Yd x33).bind fun r43 =>
  bif (!r43) then (
   some ([]:(List Jh))
  ) else (
   some x33
  )
 )
theorem Jjf (a0:Ji) (a1:(List Jf)) (a2:Int) (r:(List Jh)) (h:Jam a0 a1 a2=some r):Kj Tryz.prog GlS 177 [Enc.pv a0,Enc.pv a1,Enc.pv a2] (Enc.pv r):=by
 unfold Jam at h
 refine zC Tryz.func177 Tryz.ntmps177 ?_
 refine Ja (Jd (zE (Jb (Ja (Ja (Jd (zR 1 ?_)))))))
 refine zL (L:=(a1:(List Jf))) ?_
 refine zE (Jb ?_)
 rcases Jl h with ⟨hb,h⟩|⟨hb,h⟩
 ·refine zT hb (Ja (Jd (zE (Jb (Jq (Jm ?_))))))
  cases h
  exact zQ
 refine zU hb (Jj (Jb (Ja (Jd (zE (Jb (Ja (Jd (zE (Jb (Ja (Ja (Jd (zR 1 ?_))))))))))))))
 refine zL (L:=(a1:(List Jf))) ?_
 refine zE (Jb (Jp (Yn 7 100007 4 32 (by kernel_rfl) (by kernel_rfl) ?_)))
 obtain ⟨o35,h35,h⟩:=Kk h
 refine zA 81 0 (fun (x21,x22,x23)=>⟨[(3,.ref 3 0),(7,Jn (.own 100007) (x23:(List Jh))),(8,.int .i64 x21),(19,Jn .frozen (a1:(List Jf))),(20,.int .i64 ((a1.length:Nat):Int)),(21,.int .i64 x22)],[(3,.cells (cellsOf a0))],[(100007,(((x23).map cellsOf).length,4))],[]⟩) (fun x33=>⟨[(7,Jn (.own 100007) (x33:(List Jh)))],[],[(100007,(((x33).map cellsOf).length,4))],[]⟩) h35 ?_ ?_
 ·rintro ⟨x21,x22,x23⟩ oh34 h34
  unfold Jcz at h34
  refine Ja (Jd (zE (Jb (Ja ?_))))
  rcases Jl h34 with ⟨hb,h34⟩|⟨hb,h34⟩
  ·refine zT hb (Jj (Jb (Ja (Jp (Ja (Jd ?_))))))
   obtain ⟨x34,h36,h34⟩:=Je h34
   refine zI h36 (zE (Jb (Ja (Ja (Jd ?_)))))
   obtain ⟨b35,h37,h34⟩:=Je h34
   refine zR 4 ?_
   refine Km 7 35 (.bool b35) ?_ ?_
   ·rcases Jl h37 with ⟨hb,h37⟩|⟨hb,h37⟩
    ·refine zS 28 hb ?_
     cases h37
     exact zF
    refine zS 28 hb (zR 4 ?_)
    refine zL (L:=(a0.Elements:(List Ke))) ?_
    cases h37
    exact zF
   refine zN (Jb ?_)
   rcases Jl h34 with ⟨hb,h34⟩|⟨hb,h34⟩
   ·refine zT hb (Ja (Jd (zE (Jb (Jq (Jm (Js (Jm ?_))))))))
    cases h34
    refine Kd fun he=>?_
    subst he
    have h38:=Kq h
    refine Js (Jm ?_)
    cases h38
    exact zQ
   refine zU hb (Jj (Jb (Ja (Jd (zR 4 ?_)))))
   obtain ⟨x36,h39,h34⟩:=Je h34
   refine zI h39 (zE (Jb (Ja (Ja (Jd (zR 6 ?_))))))
   obtain ⟨r37,h40,h34⟩:=Je h34
   refine zP (Jcl _ _ _ r37 h40) (zE (Jb (Ja (Jd ?_))))
   obtain ⟨b38,h41,h34⟩:=Je h34
   refine zR 3 ?_
   refine Km 4 58 (.bool b38) ?_ ?_
   ·rcases Jl h41 with ⟨hb,h41⟩|⟨hb,h41⟩
    ·refine zS 54 hb ?_
     cases h41
     exact zF
    refine zS 54 hb (zR 1 ?_)
    obtain ⟨r39,h42,h41⟩:=Je h41
    refine zP (Bg _ r39 h42) ?_
    cases h41
    exact zF
   refine zN (Jb ?_)
   rcases Jl h34 with ⟨hb,h34⟩|⟨hb,h34⟩
   ·refine zT hb (Ja (Jd (zE (Jb (Jq (Jm (Js (Jm ?_))))))))
    cases h34
    refine Kd fun he=>?_
    subst he
    have h43:=Kq h
    refine Js (Jm ?_)
    cases h43
    exact zQ
   refine zU hb (Jj (Jb (Ja (Jd (zE (Jb (Ja (zD (zR 5 ?_)))))))))
   obtain ⟨r40,h44,h34⟩:=Je h34
   refine zP (Jbt _ _ r40 h44) (zR 2 ?_)
   obtain ⟨r41,h45,h34⟩:=Je h34
   refine zP (Jfc _ _ r41 h45) (zR 2 ?_)
   obtain ⟨x42,h46,h34⟩:=Je h34
   refine zW (tk:=100007) h46 ?_
   refine zE (Jb (Jd (zE (Jz (Jb (Jd (zE ?_)))))))
   cases h34
   exact zB
  refine zU hb (Jy (Jv ?_))
  cases h34
  exact zX
 rintro x33 s' rfl hs
 have h:=Kb h
 refine Jt (Jb (Ka hs (Ja (Ja (Jd (zR 1 ?_))))))
 obtain ⟨r43,h47,h⟩:=Je h
 refine zP (Za _ r43 h47) (zE (Jb ?_))
 rcases Jl h with ⟨hb,h⟩|⟨hb,h⟩
 ·refine zT hb (Ja (Jd (zE (Jb (Jq (Jm ?_))))))
  cases h
  exact zQ
 refine zU hb (Jj (Jb (Ja (Jd (zE (Jb (Jq ?_)))))))
 cases h
 exact zQ
/-! slices.Clone[[]api.Segment,api.Segment] -/
noncomputable def Zd (a0:(List Jh)):Option (List Jh) :=
 (Ut ([]:(List Jh)) a0).bind fun x1 =>
 some x1
theorem Me (a0:(List Jh)) (r:(List Jh)) (h:Zd a0=some r):Kj Tryz.prog GlS 238 [Enc.pv a0] (Jn (.own 7) r):=by
 unfold Zd at h
 refine zC Tryz.func238 Tryz.ntmps238 ?_
 refine Ja (Jd (zE (Jb (Ja (Ja (Jd (zE (Jb ?_))))))))
 refine Oh (e:=((a0:(List Jh)).map cellsOf).isEmpty) (by kernel_rfl) (fun hub=>?_) ?_
 ·have hN:=Oi (Jhy hub) h
  refine Ja (Jd (zE (Jb (Yn 2 7 4 32 (by kernel_rfl) (by kernel_rfl) (Jq (Jm ?_))))))
  cases hN
  exact zQ
 refine Jj (Jb (Ja (Jd (zR 2 ?_))))
 obtain ⟨x1,h1,h⟩:=Je h
 refine Sy (tk:=7) h1 (by kernel_rfl) ?_
 refine zE (Jb (Jq ?_))
 cases h
 exact zQ
/-! restriction.Check -/
noncomputable def Dx (a0:Ji) (a1:Kf):Option Int :=
 ((bif (((decide (a1.Id<1))||(decide (1073741824<a1.Id)))||(decide (a1.El<0))) then some true else (
  some (decide (((a0.Elements.length:Nat):Int)≤a1.El))
 )):Option Bool).bind fun b1 =>
 bif b1 then (
  some 1
 ) else (
  ((bif ((decide (a1.From<0))||(decide (a1.To≤a1.From))) then some true else (
   (ixO a0.Elements a1.El).bind fun x3 =>
   some (decide (x3.Length<a1.To))
  )):Option Bool).bind fun b2 =>
  bif ((b2||(decide (a1.Speed<100)))||(decide (10000<a1.Speed))) then (
   some 1
  ) else (
   some 0
  )
 )
theorem Xt (a0:Ji) (a1:Kf) (r:Int) (h:Dx a0 a1=some r):Kj Tryz.prog GlS 239 [Enc.pv a0,Enc.pv a1] (Enc.pv r):=by
 unfold Dx at h
 refine zC Tryz.func239 Tryz.ntmps239 ?_
 refine Ja (Jd (zE (Jb (Ja (Ja (Jd (zR 4 ?_)))))))
 refine Ku 4 12 ((decide (a1.Id<1))||(decide (1073741824<a1.Id))) (fun x hx=>?_) ?_
 ·rcases Vs hx with ⟨hb,hx⟩|⟨hb,hx⟩
  ·refine zS 8 hb ?_
   subst hx
   exact zF
  refine zS 8 hb ?_
  subst hx
  exact zF
 refine zR 1 ?_
 refine Ku 4 17 (((decide (a1.Id<1))||(decide (1073741824<a1.Id)))||(decide (a1.El<0))) (fun x hx=>?_) ?_
 ·rcases Vs hx with ⟨hb,hx⟩|⟨hb,hx⟩
  ·refine zS 13 hb ?_
   subst hx
   exact zF
  refine zS 13 hb ?_
  subst hx
  exact zF
 obtain ⟨b1,h1,h⟩:=Je h
 refine zR 1 ?_
 refine Km 7 25 (.bool b1) ?_ ?_
 ·rcases Jl h1 with ⟨hb,h1⟩|⟨hb,h1⟩
  ·refine zS 18 hb ?_
   cases h1
   exact zF
  refine zS 18 hb (zR 4 ?_)
  refine zL (L:=(a0.Elements:(List Ke))) ?_
  cases h1
  exact zF
 refine zN (Jb ?_)
 rcases Jl h with ⟨hb,h⟩|⟨hb,h⟩
 ·refine zT hb (Ja (Jd (zE (Jb (Jq (Jm ?_))))))
  cases h
  exact zQ
 refine zU hb (Jj (Jb (Ja (Ja (zD (zR 4 ?_))))))
 refine Ku 6 35 ((decide (a1.From<0))||(decide (a1.To≤a1.From))) (fun x hx=>?_) ?_
 ·rcases Vs hx with ⟨hb,hx⟩|⟨hb,hx⟩
  ·refine zS 29 hb ?_
   subst hx
   exact zF
  refine zS 29 hb ?_
  subst hx
  exact zF
 obtain ⟨b2,h2,h⟩:=Je h
 refine zR 1 ?_
 refine Km 11 47 (.bool b2) ?_ ?_
 ·rcases Jl h2 with ⟨hb,h2⟩|⟨hb,h2⟩
  ·refine zS 36 hb ?_
   cases h2
   exact zF
  refine zS 36 hb (zR 6 ?_)
  obtain ⟨x3,h3,h2⟩:=Je h2
  refine zI h3 ?_
  cases h2
  exact zF
 refine zR 1 ?_
 refine Ku 4 52 (b2||(decide (a1.Speed<100))) (fun x hx=>?_) ?_
 ·rcases Vs hx with ⟨hb,hx⟩|⟨hb,hx⟩
  ·refine zS 48 hb ?_
   subst hx
   exact zF
  refine zS 48 hb ?_
  subst hx
  exact zF
 refine zR 1 ?_
 refine Ku 4 57 ((b2||(decide (a1.Speed<100)))||(decide (10000<a1.Speed))) (fun x hx=>?_) ?_
 ·rcases Vs hx with ⟨hb,hx⟩|⟨hb,hx⟩
  ·refine zS 53 hb ?_
   subst hx
   exact zF
  refine zS 53 hb ?_
  subst hx
  exact zF
 refine zN (Jb ?_)
 rcases Jl h with ⟨hb,h⟩|⟨hb,h⟩
 ·refine zT hb (Ja (Jd (zE (Jb (Jq (Jm ?_))))))
  cases h
  exact zQ
 refine zU hb (Jj (Jb (Ja (Jd (zE (Jb (Jq ?_)))))))
 cases h
 exact zQ
/-! (profile.span).part -/
noncomputable def Zx (a0:Bj) (a1:Jh):Option (Jh×Bool) :=
 some ((Jh.mk (max a1.From a0.from_) (min a1.To a0.to_) a1.Grade a1.Speed),decide ((max a1.From a0.from_)<(min a1.To a0.to_)))
theorem Hg (a0:Bj) (a1:Jh) (r:(Jh×Bool)) (h:Zx a0 a1=some r):Kj Tryz.prog GlS 245 [Enc.pv a0,Enc.pv a1] (.tup [Enc.pv r.1,Enc.pv r.2]):=by
 unfold Zx at h
 refine zC Tryz.func245 Tryz.ntmps245 ?_
 refine Ja (Jd (zE (Jb (Ja ?_))))
 refine Jfd 24 ⟨[(3,.ref 3 0),(4,.ref 4 0)],[(3,.cells ([.int .i64 (max a1.From a0.from_),.int .i64 (min a1.To a0.to_),.int .i64 a1.Grade,.int .i64 a1.Speed])),(4,.cells ([.int .i64 0,.int .i64 0,.int .i64 0,.int .i64 0]))],[],[]⟩ (by kernel_rfl) ?_ ?_
 ·refine Wb [0,1,2,3,4,5,6,7,10] 5 (by kernel_rfl) ?_
  refine zR 9 (Kt (by kernel_rfl) ?_)
  refine Dq (n:=4) [8,11] (by kernel_rfl) ⟨?_, ?_,trivial⟩
  ·refine ⟨_,rfl, ?_⟩
   refine zR 1 (Kt (by kernel_rfl) ?_)
   refine Wb [9,11,12,13] 0 (by kernel_rfl) ?_
   refine zR 4 (Kt (by kernel_rfl) ?_)
   exact Wj (by kernel_rfl) (.of (by kernel_rfl) (by kernel_rfl))
  refine ⟨_,rfl, ?_⟩
  refine zR 1 (Kt (by kernel_rfl) ?_)
  refine Wb [8,9,12,13] 0 (by kernel_rfl) ?_
  refine zR 4 (Kt (by kernel_rfl) ?_)
  exact Wj (by kernel_rfl) (.of (by kernel_rfl) (by kernel_rfl))
 refine Jb (Ja ?_)
 refine Jfd 24 ⟨[(4,.ref 4 0),(5,.bool (decide ((max a1.From a0.from_)<(min a1.To a0.to_))))],[(4,.cells ([.int .i64 (max a1.From a0.from_),.int .i64 (min a1.To a0.to_),.int .i64 a1.Grade,.int .i64 a1.Speed]))],[],[]⟩ (by kernel_rfl) ?_ ?_
 ·refine Wb [0,1,3] 5 (by kernel_rfl) ?_
  refine zR 3 (Kt (by kernel_rfl) ?_)
  refine Dq (n:=4) [2,4,6] (by kernel_rfl) ⟨?_, ?_, ?_,trivial⟩
  ·refine ⟨_,rfl, ?_⟩
   refine zR 1 (Kt (by kernel_rfl) ?_)
   refine Dq (n:=3) [4,6] (by kernel_rfl) ⟨?_, ?_,trivial⟩
   ·refine ⟨_,rfl, ?_⟩
    refine zR 1 (Kt (by kernel_rfl) ?_)
    refine Wb [5,6,7] 0 (by kernel_rfl) ?_
    refine zR 3 (Kt (by kernel_rfl) ?_)
    exact Wj (by kernel_rfl) (.of (by kernel_rfl) (by kernel_rfl))
   refine ⟨_,rfl, ?_⟩
   refine zR 1 (Kt (by kernel_rfl) ?_)
   refine Wb [4,5,7] 0 (by kernel_rfl) ?_
   refine zR 3 (Kt (by kernel_rfl) ?_)
   exact Wj (by kernel_rfl) (.of (by kernel_rfl) (by kernel_rfl))
  ·refine ⟨_,rfl, ?_⟩
   refine zR 1 (Kt (by kernel_rfl) ?_)
   refine Dq (n:=3) [2,6] (by kernel_rfl) ⟨?_, ?_,trivial⟩
   ·refine ⟨_,rfl, ?_⟩
    refine zR 1 (Kt (by kernel_rfl) ?_)
    refine Wb [5,6,7] 0 (by kernel_rfl) ?_
    refine zR 3 (Kt (by kernel_rfl) ?_)
    exact Wj (by kernel_rfl) (.of (by kernel_rfl) (by kernel_rfl))
   refine ⟨_,rfl, ?_⟩
   refine zR 1 (Kt (by kernel_rfl) ?_)
   refine Wb [2,5,7] 0 (by kernel_rfl) ?_
   refine zR 3 (Kt (by kernel_rfl) ?_)
   exact Wj (by kernel_rfl) (.of (by kernel_rfl) (by kernel_rfl))
  refine ⟨_,rfl, ?_⟩
  refine zR 1 (Kt (by kernel_rfl) ?_)
  refine Wb [2,4,5,7] 0 (by kernel_rfl) ?_
  refine zR 4 (Kt (by kernel_rfl) ?_)
  exact Wj (by kernel_rfl) (.of (by kernel_rfl) (by kernel_rfl))
 refine Jb (Jq ?_)
 cases h
 exact zQ
/-! profile.Limit -/
noncomputable def Rq (a3:Int) (x169:Jh) (r170:(Jh×Bool)):((List Jh)×Int)→Option (((List Jh)×Int)⊕((List Jh)⊕((List Jh)⊕((Int×(List Jh))⊕((List Jh)⊕(List Jh)))))):=fun (x177,x178) =>
 bif decide (x178<(([(Jh.mk x169.From r170.1.From x169.Grade x169.Speed),(Jh.mk r170.1.From r170.1.To r170.1.Grade (min r170.1.Speed a3)),(Jh.mk r170.1.To x169.To x169.Grade x169.Speed)].length:Nat):Int)) then (
  onInl (α:=(List Jh)) (β:=(((List Jh)×Int)⊕((List Jh)⊕((List Jh)⊕((Int×(List Jh))⊕((List Jh)⊕(List Jh))))))) (
   (ixO [(Jh.mk x169.From r170.1.From x169.Grade x169.Speed),(Jh.mk r170.1.From r170.1.To r170.1.Grade (min r170.1.Speed a3)),(Jh.mk r170.1.To x169.To x169.Grade x169.Speed)] x178).bind fun x188 =>
   bif decide (x188.From<x188.To) then (
    (Ut x177 [x188]).bind fun x189 =>
    some (.inl x189)
   ) else (
    some (.inl x177)
   )
  ) fun x187 =>
  some (.inl (x187,w64 (x178+1)))
 ) else (
  some (.inr (.inl x177))
 )
noncomputable def Rf (a0:(List Jh)) (a1:Int) (a2:Int) (a3:Int):(Int×(List Jh))→Option ((Int×(List Jh))⊕((List Jh)⊕(List Jh))):=fun (x101,x102) =>
 bif decide (x101<((a0.length:Nat):Int)) then (
  onInl (α:=(List Jh)) (β:=((Int×(List Jh))⊕((List Jh)⊕(List Jh)))) (
   (ixO a0 x101).bind fun x169 =>
   (Zx (Bj.mk a1 a2) x169).bind fun r170 =>
   bif (!r170.2) then (
    (Ut x102 [x169]).bind fun x171 =>
    some (.inl x171)
   ) else (
    onInl (α:=(List Jh)) (β:=((List Jh)⊕((Int×(List Jh))⊕((List Jh)⊕(List Jh))))) (Ko (Rq a3 x169 r170) (x102,0)) fun x184 =>
    some (.inl x184)
   )
  ) fun x168 =>
  some (.inl (w64 (x101+1),x168))
 ) else (
  some (.inr (.inl x102))
 )
noncomputable def Mv (a0:(List Jh)) (a1:Int) (a2:Int) (a3:Int):Option (List Jh) :=
 (Yd a0).bind fun r1 =>
 bif ((!r1)||(decide (a3<1))) then (
  some ([]:(List Jh))
 ) else (
  onInl (α:=(List Jh)) (β:=(List Jh)) (Ko (Rf a0 a1 a2 a3) (0,([]:(List Jh)))) fun x146 =>
  bif decide (128<((x146.length:Nat):Int)) then (
   some ([]:(List Jh))
  ) else (
   some x146
  )
 )
theorem Jfs (a0:(List Jh)) (a1:Int) (a2:Int) (a3:Int) (r:(List Jh)) (h:Mv a0 a1 a2 a3=some r):Kj Tryz.prog GlS 273 [Enc.pv a0,Enc.pv a1,Enc.pv a2,Enc.pv a3] (Enc.pv r):=by
 unfold Mv at h
 refine zC Tryz.func273 Tryz.ntmps273 ?_
 refine Ja (Jd (zE (Jb (Ja (Ja (Jd (zR 1 ?_)))))))
 obtain ⟨r1,h1,h⟩:=Je h
 refine zP (Za _ r1 h1) (zR 2 ?_)
 refine Ku 3 24 ((!r1)||(decide (a3<1))) (fun x hx=>?_) ?_
 ·rcases Vs hx with ⟨hb,hx⟩|⟨hb,hx⟩
  ·refine zS 21 hb ?_
   subst hx
   exact zF
  refine zS 21 hb ?_
  subst hx
  exact zF
 refine zN (Jb ?_)
 rcases Jl h with ⟨hb,h⟩|⟨hb,h⟩
 ·refine zT hb (Ja (Jd (zE (Jb (Jq (Jm ?_))))))
  cases h
  exact zQ
 refine zU hb (Jj (Jb (Ja (Jd (zE (Jb (Ja (Ja (Jd (zR 1 ?_))))))))))
 refine zL (L:=(a0:(List Jh))) ?_
 refine zE (Jb (Jp (Yn 9 100009 4 32 (by kernel_rfl) (by kernel_rfl) ?_)))
 obtain ⟨o136,h136,h⟩:=Kk h
 refine zA 82 0 (fun (x101,x102)=>⟨[(1,.int .i64 a1),(2,.int .i64 a2),(3,.int .i64 a3),(9,Jn (.own 100009) (x102:(List Jh))),(25,Jn .frozen (a0:(List Jh))),(26,.int .i64 ((a0.length:Nat):Int)),(27,.int .i64 x101)],[],[(100009,(((x102).map cellsOf).length,4))],[]⟩) (fun x146=>⟨[(9,Jn (.own 100009) (x146:(List Jh)))],[],[(100009,(((x146).map cellsOf).length,4))],[]⟩) h136 ?_ ?_
 ·rintro ⟨x101,x102⟩ oh135 h135
  unfold Rf at h135
  refine Ja (Jd (zE (Jb (Ja ?_))))
  rcases Jl h135 with ⟨hb,h135⟩|⟨hb,h135⟩
  ·refine zT hb (Jj (Jb ?_))
   obtain ⟨o157,h157,h135⟩:=Kk h135
   refine Qp (o:=o157) 82 (fun x168=>⟨[(1,.int .i64 a1),(2,.int .i64 a2),(3,.int .i64 a3),(9,Jn (.own 100009) (x168:(List Jh))),(25,Jn .frozen (a0:(List Jh))),(26,.int .i64 ((a0.length:Nat):Int)),(27,.int .i64 x101)],[],[(100009,(((x168).map cellsOf).length,4))],[]⟩) ?_ ?_
   ·refine Jp (Ja (Jd ?_))
    obtain ⟨x169,h158,h157⟩:=Je h157
    refine zI h158 (zE (Jb (Ja (Jd (zR 4 ?_)))))
    obtain ⟨r170,h159,h157⟩:=Je h157
    refine zP (Hg _ _ r170 h159) (zE (Jb (Ja (Ja (Jd (zE (Jb ?_)))))))
    rcases Jl h157 with ⟨hb,h157⟩|⟨hb,h157⟩
    ·refine zT hb (Ja (Jd (zR 3 ?_)))
     obtain ⟨x171,h160,h157⟩:=Je h157
     refine zW (tk:=100009) h160 ?_
     refine zE (Jb (Jy (Jv (Jt ?_))))
     cases h157
     exact zJ
    refine zU hb (Jj (Jb (Ja ?_)))
    refine Jfd 82 ⟨[(1,.int .i64 a1),(2,.int .i64 a2),(3,.int .i64 a3),(9,Jn (.own 100009) (x102:(List Jh))),(12,.ref 12 0),(14,.ref 14 0),(15,.ref 15 0),(25,Jn .frozen (a0:(List Jh))),(26,.int .i64 ((a0.length:Nat):Int)),(27,.int .i64 x101)],[(12,.cells (cellsOf r170.1)),(14,.cells (cellsOf x169)),(15,.cells (cellsOf x169))],[(100009,(((x102).map cellsOf).length,4))],[]⟩ (by kernel_rfl) ?_ ?_
    ·refine Wb [0] 5 (by kernel_rfl) ?_
     refine zR 1 (Kt (by kernel_rfl) ?_)
     refine Dq (n:=4) [1,2,3] (by kernel_rfl) ⟨?_, ?_, ?_,trivial⟩
     ·refine ⟨_,rfl, ?_⟩
      refine zR 1 (Kt (by kernel_rfl) ?_)
      refine Wb [2,3,4,5] 0 (by kernel_rfl) ?_
      refine zR 4 (Kt (by kernel_rfl) ?_)
      exact Wj (by kernel_rfl) (.of (by kernel_rfl) (by kernel_rfl))
     ·refine ⟨_,rfl, ?_⟩
      refine zR 1 (Kt (by kernel_rfl) ?_)
      refine Dq (n:=3) [1,3] (by kernel_rfl) ⟨?_, ?_,trivial⟩
      ·refine ⟨_,rfl, ?_⟩
       refine zR 1 (Kt (by kernel_rfl) ?_)
       refine Wb [3,4,5] 0 (by kernel_rfl) ?_
       refine zR 3 (Kt (by kernel_rfl) ?_)
       exact Wj (by kernel_rfl) (.of (by kernel_rfl) (by kernel_rfl))
      refine ⟨_,rfl, ?_⟩
      refine zR 1 (Kt (by kernel_rfl) ?_)
      refine Dq (n:=2) [1,4] (by kernel_rfl) ⟨?_, ?_,trivial⟩
      ·refine ⟨_,rfl, ?_⟩
       refine zR 1 (Kt (by kernel_rfl) ?_)
       refine Wb [4,5] 0 (by kernel_rfl) ?_
       refine zR 2 (Kt (by kernel_rfl) ?_)
       exact Wj (by kernel_rfl) (.of (by kernel_rfl) (by kernel_rfl))
      refine ⟨_,rfl, ?_⟩
      refine zR 1 (Kt (by kernel_rfl) ?_)
      refine Wb [1,5] 0 (by kernel_rfl) ?_
      refine zR 2 (Kt (by kernel_rfl) ?_)
      exact Wj (by kernel_rfl) (.of (by kernel_rfl) (by kernel_rfl))
     refine ⟨_,rfl, ?_⟩
     refine zR 1 (Kt (by kernel_rfl) ?_)
     refine Dq (n:=3) [1,2] (by kernel_rfl) ⟨?_, ?_,trivial⟩
     ·refine ⟨_,rfl, ?_⟩
      refine zR 1 (Kt (by kernel_rfl) ?_)
      refine Wb [2,4,5] 0 (by kernel_rfl) ?_
      refine zR 3 (Kt (by kernel_rfl) ?_)
      exact Wj (by kernel_rfl) (.of (by kernel_rfl) (by kernel_rfl))
     refine ⟨_,rfl, ?_⟩
     refine zR 1 (Kt (by kernel_rfl) ?_)
     refine Dq (n:=2) [1,4] (by kernel_rfl) ⟨?_, ?_,trivial⟩
     ·refine ⟨_,rfl, ?_⟩
      refine zR 1 (Kt (by kernel_rfl) ?_)
      refine Wb [4,5] 0 (by kernel_rfl) ?_
      refine zR 2 (Kt (by kernel_rfl) ?_)
      exact Wj (by kernel_rfl) (.of (by kernel_rfl) (by kernel_rfl))
     refine ⟨_,rfl, ?_⟩
     refine zR 1 (Kt (by kernel_rfl) ?_)
     refine Wb [1,5] 0 (by kernel_rfl) ?_
     refine zR 2 (Kt (by kernel_rfl) ?_)
     exact Wj (by kernel_rfl) (.of (by kernel_rfl) (by kernel_rfl))
    refine Jb (Ja ?_)
    refine Jfd 82 ⟨[(1,.int .i64 a1),(2,.int .i64 a2),(3,.int .i64 a3),(9,Jn (.own 100009) (x102:(List Jh))),(12,.ref 12 0),(14,.ref 14 0),(15,.ref 15 0),(25,Jn .frozen (a0:(List Jh))),(26,.int .i64 ((a0.length:Nat):Int)),(27,.int .i64 x101)],[(12,.cells (cellsOf r170.1)),(14,.cells ([.int .i64 x169.From,.int .i64 r170.1.From,.int .i64 x169.Grade,.int .i64 x169.Speed])),(15,.cells ([.int .i64 r170.1.To,.int .i64 x169.To,.int .i64 x169.Grade,.int .i64 x169.Speed]))],[(100009,(((x102).map cellsOf).length,4))],[]⟩ (by kernel_rfl) ?_ ?_
    ·refine Wb [0,1,2,4] 4 (by kernel_rfl) ?_
     refine zR 4 (Kt (by kernel_rfl) ?_)
     refine Dq (n:=3) [3,5] (by kernel_rfl) ⟨?_, ?_,trivial⟩
     ·refine ⟨_,rfl, ?_⟩
      refine zR 1 (Kt (by kernel_rfl) ?_)
      refine Wb [5,6,7] 0 (by kernel_rfl) ?_
      refine zR 3 (Kt (by kernel_rfl) ?_)
      exact Wj (by kernel_rfl) (.of (by kernel_rfl) (by kernel_rfl))
     refine ⟨_,rfl, ?_⟩
     refine zR 1 (Kt (by kernel_rfl) ?_)
     refine Wb [3,6,7] 0 (by kernel_rfl) ?_
     refine zR 3 (Kt (by kernel_rfl) ?_)
     exact Wj (by kernel_rfl) (.of (by kernel_rfl) (by kernel_rfl))
    refine Jb (Ja (Jd (zE (Jb (Ja (Jd (zR 4 ?_)))))))
    refine zL (L:=([(Jh.mk x169.From r170.1.From x169.Grade x169.Speed),(Jh.mk r170.1.From r170.1.To r170.1.Grade (min r170.1.Speed a3)),(Jh.mk r170.1.To x169.To x169.Grade x169.Speed)]:(List Jh))) ?_
    refine zE (Jb (Jp ?_))
    obtain ⟨o172,h172,h157⟩:=Kk h157
    refine zA 82 2 (fun (x177,x178)=>⟨[(1,.int .i64 a1),(2,.int .i64 a2),(3,.int .i64 a3),(9,Jn (.own 100009) (x177:(List Jh))),(25,Jn .frozen (a0:(List Jh))),(26,.int .i64 ((a0.length:Nat):Int)),(27,.int .i64 x101),(61,Jn .full ([(Jh.mk x169.From r170.1.From x169.Grade x169.Speed),(Jh.mk r170.1.From r170.1.To r170.1.Grade (min r170.1.Speed a3)),(Jh.mk r170.1.To x169.To x169.Grade x169.Speed)]:(List Jh))),(62,.int .i64 (([(Jh.mk x169.From r170.1.From x169.Grade x169.Speed),(Jh.mk r170.1.From r170.1.To r170.1.Grade (min r170.1.Speed a3)),(Jh.mk r170.1.To x169.To x169.Grade x169.Speed)].length:Nat):Int)),(63,.int .i64 x178)],[],[(100009,(((x177).map cellsOf).length,4))],[]⟩) (fun x184=>⟨[(1,.int .i64 a1),(2,.int .i64 a2),(3,.int .i64 a3),(9,Jn (.own 100009) (x184:(List Jh))),(25,Jn .frozen (a0:(List Jh))),(26,.int .i64 ((a0.length:Nat):Int)),(27,.int .i64 x101)],[],[(100009,(((x184).map cellsOf).length,4))],[]⟩) h172 ?_ ?_
    ·rintro ⟨x177,x178⟩ oh171 h171
     unfold Rq at h171
     refine Ja (Jd (zE (Jb (Ja ?_))))
     rcases Jl h171 with ⟨hb,h171⟩|⟨hb,h171⟩
     ·refine zT hb (Jj (Jb ?_))
      obtain ⟨o175,h175,h171⟩:=Kk h171
      refine Qp (o:=o175) 82 (fun x187=>⟨[(1,.int .i64 a1),(2,.int .i64 a2),(3,.int .i64 a3),(9,Jn (.own 100009) (x187:(List Jh))),(25,Jn .frozen (a0:(List Jh))),(26,.int .i64 ((a0.length:Nat):Int)),(27,.int .i64 x101),(61,Jn .full ([(Jh.mk x169.From r170.1.From x169.Grade x169.Speed),(Jh.mk r170.1.From r170.1.To r170.1.Grade (min r170.1.Speed a3)),(Jh.mk r170.1.To x169.To x169.Grade x169.Speed)]:(List Jh))),(62,.int .i64 (([(Jh.mk x169.From r170.1.From x169.Grade x169.Speed),(Jh.mk r170.1.From r170.1.To r170.1.Grade (min r170.1.Speed a3)),(Jh.mk r170.1.To x169.To x169.Grade x169.Speed)].length:Nat):Int)),(63,.int .i64 x178)],[],[(100009,(((x187).map cellsOf).length,4))],[]⟩) ?_ ?_
      ·refine Jp (Ja (Jd ?_))
       obtain ⟨x188,h176,h175⟩:=Je h175
       refine zI h176 (zE (Jb (Ja (Jd (zE (Jb ?_))))))
       rcases Jl h175 with ⟨hb,h175⟩|⟨hb,h175⟩
       ·refine zT hb (Jd (zR 3 ?_))
        obtain ⟨x189,h177,h175⟩:=Je h175
        refine zW (tk:=100009) h177 ?_
        refine zE (Jz ?_)
        cases h175
        exact zJ
       refine zU hb (Jj (Jz ?_))
       cases h175
       exact zJ
      rintro x187 rfl
      have h171:=Kb h171
      refine Jd (zE ?_)
      cases h171
      exact zB
     refine zU hb (Jy (Jv ?_))
     cases h171
     exact zX
    rintro x184 s' rfl hs
    have h157:=Kb h157
    refine Jt (Jz ?_)
    cases h157
    exact Jvw hs (by kernel_rfl) (by kernel_rfl)
   rintro x168 rfl
   have h135:=Kb h135
   refine Jd (zE ?_)
   cases h135
   exact zB
  refine zU hb (Jy (Jv ?_))
  cases h135
  exact zX
 rintro x146 s' rfl hs
 have h:=Kb h
 refine Jt (Jb (Ka hs (Ja (Ja (Jd (zR 1 ?_))))))
 refine zL (L:=(x146:(List Jh))) ?_
 refine zE (Jb ?_)
 rcases Jl h with ⟨hb,h⟩|⟨hb,h⟩
 ·refine zT hb (Ja (Jd (zE (Jb (Jq (Jm ?_))))))
  cases h
  exact zQ
 refine zU hb (Jj (Jb (Ja (Jd (zE (Jb (Jq ?_)))))))
 cases h
 exact zQ
/-! restriction.lowered -/
noncomputable def Gs (a0:Ji) (a1:(List Jf)) (a4:Kf):((List Jh)×Int×Int)→Option (((List Jh)×Int×Int)⊕((List Jh)⊕(Option (List Jh)))):=fun (x31,x32,x33) =>
 bif decide (x33<((a1.length:Nat):Int)) then (
  onInl (α:=((List Jh)×Int)) (β:=(((List Jh)×Int×Int)⊕((List Jh)⊕(Option (List Jh))))) (
   (ixO a1 x33).bind fun x81 =>
   ((bif decide (x81.El<0) then some true else (
    some (decide (((a0.Elements.length:Nat):Int)≤x81.El))
   )):Option Bool).bind fun b82 =>
   bif b82 then (
    some (.inl (x31,x32))
   ) else (
    (ixO a0.Elements x81.El).bind fun x83 =>
    onInl (α:=(List Jh)) (β:=(((List Jh)×Int)⊕(((List Jh)×Int×Int)⊕((List Jh)⊕(Option (List Jh)))))) (
     bif decide (x81.El=a4.El) then (
      onInl (α:=(Int×Int)) (β:=((List Jh)⊕(((List Jh)×Int)⊕(((List Jh)×Int×Int)⊕((List Jh)⊕(Option (List Jh))))))) (
       bif ((decide (x81.In=0))||((decide (x81.In=2))&&(decide (x83.Kind=3)))) then (
        some (.inl (w64 (x32+a4.From),w64 (x32+a4.To)))
       ) else (
        some (.inl (w64 ((w64 (x32+x83.Length)) - a4.To),w64 ((w64 (x32+x83.Length)) - a4.From)))
       )
      ) fun (x90,x91) =>
      (Mv x31 x90 x91 a4.Speed).bind fun r92 =>
      onInl (α:=Unit) (β:=((List Jh)⊕(((List Jh)×Int)⊕(((List Jh)×Int×Int)⊕((List Jh)⊕(Option (List Jh))))))) (
       ((bif decide (((r92.length:Nat):Int)=0) then (
        some (decide (0<((x31.length:Nat):Int)))
       ) else some false):Option Bool).bind fun b94 =>
       bif b94 then (
        some (.inr (.inr (.inr (.inr (.inr none)))))
       ) else (
        some (.inl ())
       )
      ) fun _ =>
      some (.inl r92)
     ) else (
      some (.inl x31)
     )
    ) fun x89 =>
    some (.inl (x89,w64 (x32+x83.Length)))
   )
  ) fun (x79,x80) =>
  some (.inl (x79,x80,w64 (x33+1)))
 ) else (
  some (.inr (.inl x31))
 )
noncomputable def Ce (a0:Ji) (a1:(List Jf)) (a2:Int) (a3:(List Jh)) (a4:Kf):Option (Option (List Jh)) :=
 onInl (α:=(List Jh)) (β:=(Option (List Jh))) (Ko (Gs a0 a1 a4) (a3,a2,0)) fun x64 =>
 some (some x64)
theorem Et (a0:Ji) (a1:(List Jf)) (a2:Int) (a3:(List Jh)) (a4:Kf) (r:(Option (List Jh))) (h:Ce a0 a1 a2 a3 a4=some r):Jls Tryz.prog GlS 240 [Enc.pv a0,Enc.pv a1,Enc.pv a2,Enc.pv a3,Enc.pv a4] (r.map fun r=>Enc.pv r):=by
 unfold Ce at h
 refine Jmg Tryz.func240 (by rfl) rfl Tryz.ntmps240 (by rfl) rfl ?_
 refine Ja (Jd (zE (Jb (Ja (Jd (zE (Jb (Ja (Ja (Jd (zR 1 ?_)))))))))))
 refine zL (L:=(a1:(List Jf))) ?_
 refine zE (Jb (Jp ?_))
 obtain ⟨o124,h124,h⟩:=Kk h
 refine zA 101 0 (fun (x31,x32,x33)=>⟨[(3,Jn .frozen (x31:(List Jh))),(5,.ref 5 0),(9,.ref 9 0),(11,.int .i64 x32),(20,Jn .frozen (a1:(List Jf))),(21,.int .i64 ((a1.length:Nat):Int)),(22,.int .i64 x33)],[(5,.cells (cellsOf a0)),(9,.cells (cellsOf a4))],[],[]⟩) (fun x64=>⟨[(3,Jn .frozen (x64:(List Jh)))],[],[],[]⟩) h124 ?_ ?_
 ·rintro ⟨x31,x32,x33⟩ oh123 h123
  unfold Gs at h123
  refine Ja (Jd (zE (Jb (Ja ?_))))
  rcases Jl h123 with ⟨hb,h123⟩|⟨hb,h123⟩
  ·refine zT hb (Jj (Jb ?_))
   obtain ⟨o155,h155,h123⟩:=Kk h123
   refine Qp (o:=o155) 101 (fun (x79,x80)=>⟨[(3,Jn .frozen (x79:(List Jh))),(5,.ref 5 0),(9,.ref 9 0),(11,.int .i64 x80),(20,Jn .frozen (a1:(List Jf))),(21,.int .i64 ((a1.length:Nat):Int)),(22,.int .i64 x33)],[(5,.cells (cellsOf a0)),(9,.cells (cellsOf a4))],[],[]⟩) ?_ ?_
   ·refine Jp (Ja (Jd ?_))
    obtain ⟨x81,h156,h155⟩:=Je h155
    refine zI h156 (zE (Jb (Ja (Ja (Jd ?_)))))
    obtain ⟨b82,h157,h155⟩:=Je h155
    refine zR 4 ?_
    refine Km 7 36 (.bool b82) ?_ ?_
    ·rcases Jl h157 with ⟨hb,h157⟩|⟨hb,h157⟩
     ·refine zS 29 hb ?_
      cases h157
      exact zF
     refine zS 29 hb (zR 4 ?_)
     refine zL (L:=(a0.Elements:(List Ke))) ?_
     cases h157
     exact zF
    refine zN (Jb ?_)
    rcases Jl h155 with ⟨hb,h155⟩|⟨hb,h155⟩
    ·refine zT hb (Jy (Jv (Jt ?_)))
     cases h155
     exact zJ
    refine zU hb (Jj (Jb (Ja (Jd (zR 4 ?_)))))
    obtain ⟨x83,h158,h155⟩:=Je h155
    refine zI h158 (zE (Jb (Ja (Jd (zE (Jb ?_))))))
    obtain ⟨o172,h172,h155⟩:=Kk h155
    refine Qp (o:=o172) 101 (fun x89=>⟨[(3,Jn .frozen (x89:(List Jh))),(5,.ref 5 0),(9,.ref 9 0),(15,.int .i64 (w64 (x32+x83.Length))),(20,Jn .frozen (a1:(List Jf))),(21,.int .i64 ((a1.length:Nat):Int)),(22,.int .i64 x33)],[(5,.cells (cellsOf a0)),(9,.cells (cellsOf a4))],[],[]⟩) ?_ ?_
    ·refine Ja (Jd (zE (Jb ?_)))
     rcases Jl h172 with ⟨hb,h172⟩|⟨hb,h172⟩
     ·refine zT hb (Ja (zD (zE (Jb ?_))))
      obtain ⟨o173,h173,h172⟩:=Kk h172
      refine Qp (o:=o173) 101 (fun (x90,x91)=>⟨[(3,Jn .frozen (x31:(List Jh))),(5,.ref 5 0),(9,.ref 9 0),(15,.int .i64 (w64 (x32+x83.Length))),(16,.int .i64 x90),(17,.int .i64 x91),(20,Jn .frozen (a1:(List Jf))),(21,.int .i64 ((a1.length:Nat):Int)),(22,.int .i64 x33)],[(5,.cells (cellsOf a0)),(9,.cells (cellsOf a4))],[],[]⟩) ?_ ?_
      ·refine Ja (Jd (zR 4 ?_))
       refine Ku 9 72 ((decide (x81.In=0))||((decide (x81.In=2))&&(decide (x83.Kind=3)))) (fun x hx=>?_) ?_
       ·rcases Vs hx with ⟨hb,hx⟩|⟨hb,hx⟩
        ·refine zS 63 hb ?_
         subst hx
         exact zF
        refine zS 63 hb (zR 4 ?_)
        refine Ph 4 71 ((decide (x81.In=2))&&(decide (x83.Kind=3))) (fun x hx=>?_) ?_
        ·rcases Vm hx with ⟨hb,hx⟩|⟨hb,hx⟩
         ·refine zS 67 hb ?_
          subst hx
          exact zF
         refine zS 67 hb ?_
         subst hx
         exact zF
        subst hx
        exact zF
       refine zN (Jb ?_)
       rcases Jl h173 with ⟨hb,h173⟩|⟨hb,h173⟩
       ·refine zT hb (zD (zE ?_))
        cases h173
        exact zJ
       refine zU hb (Jj ?_)
       cases h173
       exact zJ
      rintro ⟨x90,x91⟩ rfl
      have h172:=Kb h172
      refine Ja (Jd (zR 5 ?_))
      obtain ⟨r92,h174,h172⟩:=Je h172
      refine zP (Jfs _ _ _ _ r92 h174) (zE (Jb ?_))
      obtain ⟨o180,h180,h172⟩:=Kk h172
      refine Qp (o:=o180) 101 (fun (_:Unit)=>⟨[(5,.ref 5 0),(9,.ref 9 0),(15,.int .i64 (w64 (x32+x83.Length))),(18,Jn .frozen (r92:(List Jh))),(20,Jn .frozen (a1:(List Jf))),(21,.int .i64 ((a1.length:Nat):Int)),(22,.int .i64 x33)],[(5,.cells (cellsOf a0)),(9,.cells (cellsOf a4))],[],[]⟩) ?_ ?_
      ·refine Ja (Jd (zR 1 ?_))
       refine zL (L:=(r92:(List Jh))) ?_
       obtain ⟨b94,h181,h180⟩:=Je h180
       refine zR 2 ?_
       refine Km 4 94 (.bool b94) ?_ ?_
       ·rcases Jl h181 with ⟨hb,h181⟩|⟨hb,h181⟩
        ·refine zS 90 hb (zR 1 ?_)
         refine zL (L:=(x31:(List Jh))) ?_
         cases h181
         exact zF
        refine zS 90 hb ?_
        cases h181
        exact zF
       refine zN (Jb ?_)
       rcases Jl h180 with ⟨hb,h180⟩|⟨hb,h180⟩
       ·refine zT hb (Jct (Lm 0 1 (zE ?_)))
        refine Jy2 (d:=96) (by kernel_rfl) fun ch hpan=>?_
        cases h180
        refine Bv ?_
        have h182:=Kq h172
        cases h182
        refine Bv ?_
        have h183:=Kq h155
        refine Sc ?_
        cases h183
        refine Bv ?_
        have h184:=Kq h123
        cases h184
        refine Jkj fun he=>?_
        subst he
        have h185:=Kq h
        refine Sc (Jh7 ?_)
        cases h185
        exact Jyy hpan
       refine zU hb (Jj ?_)
       cases h180
       exact zJ
      rintro _ rfl
      have h172:=Kb h172
      refine Jd (zE ?_)
      cases h172
      exact zJ
     refine zU hb (Jj ?_)
     cases h172
     exact zJ
    rintro x89 rfl
    have h155:=Kb h155
    refine Jd (zE (Jz ?_))
    cases h155
    exact zJ
   rintro ⟨x79,x80⟩ rfl
   have h123:=Kb h123
   refine Jd (zE ?_)
   cases h123
   exact zB
  refine zU hb (Jy (Jv ?_))
  cases h123
  exact zX
 rintro x64 s' rfl hs
 have h:=Kb h
 refine Jt (Jb (Ka hs (Ja (Jd (zE (Jb (Jq ?_)))))))
 cases h
 exact ⟨_,rfl,Jvx (by kernel_rfl) (by kernel_rfl) (by kernel_rfl)⟩
/-! restriction.Apply -/
noncomputable def Iq (a0:(List Kf)) (a1:(List Jf)) (a2:Int) (a3:Ji):(Int×(List Jh))→Option ((Int×(List Jh))⊕((List Jh)⊕(List Jh))):=fun (x24,x25) =>
 bif decide (x24<((a0.length:Nat):Int)) then (
  onInl (α:=(List Jh)) (β:=((Int×(List Jh))⊕((List Jh)⊕(List Jh)))) (
   (ixO a0 x24).bind fun x41 =>
   ((bif x41.Active then (
    (Dx a3 x41).bind fun r43 =>
    some (decide (r43=0))
   ) else some false):Option Bool).bind fun b42 =>
   bif b42 then (
    Jyz (Ce a3 a1 a2 x25 x41) (
     some (.inr (.inr (.inr ([]:(List Jh)))))
    ) fun r44 =>
    some (.inl r44)
   ) else (
    some (.inl x25)
   )
  ) fun x40 =>
  some (.inl (w64 (x24+1),x40))
 ) else (
  some (.inr (.inl x25))
 )
noncomputable def Dy (a0:(List Kf)) (a1:(List Jf)) (a2:Int) (a3:Ji) (a4:(List Jh)):Option (List Jh) :=
 (Zd a4).bind fun r1 =>
 (Yd a4).bind fun r2 =>
 ((bif (!r2) then some true else (
  (Dp a3 a1).bind fun r4 =>
  some (!r4)
 )):Option Bool).bind fun b3 =>
 bif ((b3||(decide (a2<(-1073741824))))||(decide (1073741824<a2))) then (
  some r1
 ) else (
  onInl (α:=(List Jh)) (β:=(List Jh)) (Ko (Iq a0 a1 a2 a3) (0,r1)) fun x35 =>
  some x35
 )
set_option maxRecDepth 100000 in
theorem Jao (a0:(List Kf)) (a1:(List Jf)) (a2:Int) (a3:Ji) (a4:(List Jh)) (r:(List Jh)) (h:Dy a0 a1 a2 a3 a4=some r):Kj Tryz.prog GlS 176 [Enc.pv a0,Enc.pv a1,Enc.pv a2,Enc.pv a3,Enc.pv a4] (Enc.pv r):=by
 unfold Dy at h
 refine Jl5 Tryz.func176 (by rfl) rfl Tryz.ntmps176 (by rfl) rfl ?_
 refine Jgk (Jd (zE (Jjy ?_)))
 refine Jfu 1 237 [.ref 10 0] (by rfl) ?_
 refine zE ?_
 refine ⟨by kernel_rfl,by kernel_rfl,by kernel_rfl, ?_⟩
 refine Ja (Jd (zR 1 ?_))
 obtain ⟨r1,h1,h⟩:=Je h
 refine zP (Me _ r1 h1) (zE (Jb (Ja (Ja (Jd (zR 1 ?_))))))
 obtain ⟨r2,h2,h⟩:=Je h
 refine zP (Za _ r2 h2) ?_
 obtain ⟨b3,h3,h⟩:=Je h
 refine zR 2 ?_
 refine Km 5 24 (.bool b3) ?_ ?_
 ·rcases Jl h3 with ⟨hb,h3⟩|⟨hb,h3⟩
  ·refine zS 19 hb ?_
   cases h3
   exact zF
  refine zS 19 hb (zR 2 ?_)
  obtain ⟨r4,h4,h3⟩:=Je h3
  refine zP (Fc _ _ r4 h4) ?_
  cases h3
  exact zF
 refine zR 1 ?_
 refine Ku 3 28 (b3||(decide (a2<(-1073741824)))) (fun x hx=>?_) ?_
 ·rcases Vs hx with ⟨hb,hx⟩|⟨hb,hx⟩
  ·refine zS 25 hb ?_
   subst hx
   exact zF
  refine zS 25 hb ?_
  subst hx
  exact zF
 refine zR 1 ?_
 refine Ku 3 32 ((b3||(decide (a2<(-1073741824))))||(decide (1073741824<a2))) (fun x hx=>?_) ?_
 ·rcases Vs hx with ⟨hb,hx⟩|⟨hb,hx⟩
  ·refine zS 29 hb ?_
   subst hx
   exact zF
  refine zS 29 hb ?_
  subst hx
  exact zF
 refine zN (Jb ?_)
 rcases Jl h with ⟨hb,h⟩|⟨hb,h⟩
 ·refine zT hb (Ja (Jd (zE (Jb (Jq (Jm ?_))))))
  refine Juj (Joj (pan:=false) (caps:=[.ref 10 0]) (by kernel_rfl) Tryz.func237 (by rfl) rfl Tryz.ntmps237 (by rfl) ?_)
  refine Jlc ((Jag 1 (by kernel_rfl)).trans (.of (j:=⟨[(0,.ref 1010 0),(13,.ref 1010 0),(59,.fn 237 [.ref 1010 0])],[(1010,.cells ([Jn (.own 1015007) (r1:(List Jh))]))],[(1015007,(((r1).map cellsOf).length,4))],[]⟩) (n:=5700060) (by kernel_rfl) (by kernel_rfl))) ?_
  refine Jhj ⟨rfl,rfl,rfl,rfl,fun _ _=>rfl,(fun a _ _ _ h=>by simp [Act.eval] at h; simp [go_sem,h]),(fun a _ h=>by simp [Act.eval] at h; simp [go_sem,h])⟩ (by kernel_rfl) ?_
  refine Tw (b:=false) rfl (by kernel_rfl) ?_
  refine Jj ?_
  cases h
  exact Jey (by kernel_rfl) (by kernel_rfl) (by kernel_rfl)
 refine zU hb (Jj (Jb (Ja (Ja (Jd (zR 1 ?_))))))
 refine zL (L:=(a0:(List Kf))) ?_
 refine zE (Jb (Jp ?_))
 obtain ⟨o45,h45,h⟩:=Kk h
 refine zA 100057 0 (fun (x24,x25)=>⟨[(1,Jn .frozen (a1:(List Jf))),(2,.int .i64 a2),(8,.ref 8 0),(10,.ref 10 0),(34,Jn .frozen (a0:(List Kf))),(35,.int .i64 ((a0.length:Nat):Int)),(36,.int .i64 x24),(56,.fn 237 [.ref 10 0])],[(8,.cells (cellsOf a3)),(10,.cells ([Jn .frozen (x25:(List Jh))]))],[],[]⟩) (fun x35=>⟨[(10,.ref 10 0),(56,.fn 237 [.ref 10 0])],[(10,.cells ([Jn .frozen (x35:(List Jh))]))],[],[]⟩) h45 ?_ ?_
 ·rintro ⟨x24,x25⟩ oh44 h44
  unfold Iq at h44
  refine Ja (Jd (zE (Jb (Ja ?_))))
  rcases Jl h44 with ⟨hb,h44⟩|⟨hb,h44⟩
  ·refine zT hb (Jj (Jb ?_))
   obtain ⟨o52,h52,h44⟩:=Kk h44
   refine Qp (o:=o52) 100057 (fun x40=>⟨[(1,Jn .frozen (a1:(List Jf))),(2,.int .i64 a2),(8,.ref 8 0),(10,.ref 10 0),(34,Jn .frozen (a0:(List Kf))),(35,.int .i64 ((a0.length:Nat):Int)),(36,.int .i64 x24),(56,.fn 237 [.ref 10 0])],[(8,.cells (cellsOf a3)),(10,.cells ([Jn .frozen (x40:(List Jh))]))],[],[]⟩) ?_ ?_
   ·refine Jp (Ja (Jd ?_))
    obtain ⟨x41,h53,h52⟩:=Je h52
    refine zI h53 (zE (Jb (Ja (Jd ?_))))
    obtain ⟨b42,h54,h52⟩:=Je h52
    refine zR 3 ?_
    refine Km 5 47 (.bool b42) ?_ ?_
    ·rcases Jl h54 with ⟨hb,h54⟩|⟨hb,h54⟩
     ·refine zS 42 hb (zR 2 ?_)
      obtain ⟨r43,h55,h54⟩:=Je h54
      refine zP (Xt _ _ r43 h55) ?_
      cases h54
      exact zF
     refine zS 42 hb ?_
     cases h54
     exact zF
    refine zN (Jb ?_)
    rcases Jl h52 with ⟨hb,h52⟩|⟨hb,h52⟩
    ·refine zT hb (Jct (Lm 0 5 (zE ?_)))
     rcases Jze h52 with ⟨h56,h52⟩|⟨r44,h56,h52⟩
     ·refine Jwt (Et _ _ _ _ _ none h56) (by kernel_rfl) fun ch hpan=>?_
      refine Sc ?_
      cases h52
      refine Bv ?_
      have h57:=Kq h44
      cases h57
      refine Jkj fun he=>?_
      subst he
      have h58:=Kq h
      refine Sc (Jh7 ?_)
      refine Jy7 hpan (Joj (pan:=true) (caps:=[.ref 10 0]) (by kernel_rfl) Tryz.func237 (by rfl) rfl Tryz.ntmps237 (by rfl) ?_)
      refine Jlc ((Jag 17 (by kernel_rfl)).trans (.of (j:=⟨[(0,.ref 17010 0),(13,.ref 17010 0),(59,.fn 237 [.ref 17010 0])],[(17010,.cells ([Jn .frozen (x25:(List Jh))]))],[],[]⟩) (n:=5700060) (by kernel_rfl) (by kernel_rfl))) ?_
      refine Jhj ⟨rfl,rfl,rfl,rfl,fun _ _=>rfl,(fun a _ _ _ h=>by simp [Act.eval] at h; simp [go_sem,h]),(fun a _ h=>by simp [Act.eval] at h; simp [go_sem,h])⟩ (by kernel_rfl) ?_
      refine Xf (b:=true) rfl (by kernel_rfl) ?_
      refine Jd (zE ?_)
      cases h58
      exact Jey (by kernel_rfl) (by kernel_rfl) (by kernel_rfl)
     refine Jwq (Et _ _ _ _ _ (some r44) h56) (by kernel_rfl) (by kernel_rfl) (Lm 6 1 (zE (Jr2 (Jz ?_))))
     cases h52
     exact zJ
    refine zU hb (Jj (Jz ?_))
    cases h52
    exact zJ
   rintro x40 rfl
   have h44:=Kb h44
   refine Jd (zE ?_)
   cases h44
   exact zB
  refine zU hb (Jy (Jv ?_))
  cases h44
  exact zX
 rintro x35 s' rfl hs
 have h:=Kb h
 refine Jt (Jb (Ka hs (Ja (Jd (zE (Jb (Jq ?_)))))))
 refine Juj (Joj (pan:=false) (caps:=[.ref 10 0]) (by kernel_rfl) Tryz.func237 (by rfl) rfl Tryz.ntmps237 (by rfl) ?_)
 refine Jlc ((Jag 19 (by kernel_rfl)).trans (.of (j:=⟨[(0,.ref 19010 0),(13,.ref 19010 0),(59,.fn 237 [.ref 19010 0])],[(19010,.cells ([Jn .frozen (x35:(List Jh))]))],[],[]⟩) (n:=5700060) (by kernel_rfl) (by kernel_rfl))) ?_
 refine Jhj ⟨rfl,rfl,rfl,rfl,fun _ _=>rfl,(fun a _ _ _ h=>by simp [Act.eval] at h; simp [go_sem,h]),(fun a _ h=>by simp [Act.eval] at h; simp [go_sem,h])⟩ (by kernel_rfl) ?_
 refine Tw (b:=false) rfl (by kernel_rfl) ?_
 refine Jj ?_
 cases h
 exact Jey (by kernel_rfl) (by kernel_rfl) (by kernel_rfl)
end PM
