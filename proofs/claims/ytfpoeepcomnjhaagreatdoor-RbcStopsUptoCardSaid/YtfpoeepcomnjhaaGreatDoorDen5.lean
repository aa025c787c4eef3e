/-
 Plain functions for the program's functions, and the proofs that the program does them. Printed by den.py.
-/
import Derived.Test.YtfpoeepcomnjhaaGreatDoorDen4
namespace PM
open Go Go.RowKit Go.Proofs
attribute [local irreducible] Kp pwp
/-! profile.Cut -/
noncomputable def Jbh (a0:(List Jh)) (a1:Int) (a2:Int):(Int×(List Jh))→Option ((Int×(List Jh))⊕((List Jh)⊕(List Jh))):=fun (x17,x18) =>
 bif decide (x17<((a0.length:Nat):Int)) then (
  onInl (α:=(List Jh)) (β:=((Int×(List Jh))⊕((List Jh)⊕(List Jh)))) (
   (ixO a0 x17).bind fun x31 =>
   (Zx (Bj.mk a1 a2) x31).bind fun r32 =>
   bif r32.2 then (
    (Ut x18 [r32.1]).bind fun x33 =>
    some (.inl x33)
   ) else (
    some (.inl x18)
   )
  ) fun x30 =>
  some (.inl (w64 (x17+1),x30))
 ) else (
  some (.inr (.inl x18))
 )
noncomputable def Lt (a0:(List Jh)) (a1:Int) (a2:Int):Option (List Jh) :=
 (Yd a0).bind fun r1 =>
 bif (!r1) then (
  some ([]:(List Jh))
 ) else (
  onInl (α:=(List Jh)) (β:=(List Jh)) (Ko (Jbh a0 a1 a2) (0,([]:(List Jh)))) fun x26 =>
  some x26
 )
theorem Jhr (a0:(List Jh)) (a1:Int) (a2:Int) (r:(List Jh)) (h:Lt a0 a1 a2=some r):Kj Tryz.prog GlS 178 [Enc.pv a0,Enc.pv a1,Enc.pv a2] (Jn (.own 100007) r):=by
 unfold Lt at h
 refine zC Tryz.func178 Tryz.ntmps178 ?_
 refine Ja (Jd (zE (Jb (Ja (Ja (Jd (zR 1 ?_)))))))
 obtain ⟨r1,h1,h⟩:=Je h
 refine zP (Za _ r1 h1) (zE (Jb ?_))
 rcases Jl h with ⟨hb,h⟩|⟨hb,h⟩
 ·refine zT hb (Ja (Jd (zE (Jb (Yn 6 100007 4 32 (by kernel_rfl) (by kernel_rfl) (Jq (Jm ?_)))))))
  cases h
  exact zQ
 refine zU hb (Jj (Jb (Ja (Jd (zE (Jb (Ja (Ja (Jd (zR 1 ?_))))))))))
 refine zL (L:=(a0:(List Jh))) ?_
 refine zE (Jb (Jp (Yn 7 100007 4 32 (by kernel_rfl) (by kernel_rfl) ?_)))
 obtain ⟨o24,h24,h⟩:=Kk h
 refine zA 36 0 (fun (x17,x18)=>⟨[(1,.int .i64 a1),(2,.int .i64 a2),(7,Jn (.own 100007) (x18:(List Jh))),(15,Jn .frozen (a0:(List Jh))),(16,.int .i64 ((a0.length:Nat):Int)),(17,.int .i64 x17)],[],[(100007,(((x18).map cellsOf).length,4))],[]⟩) (fun x26=>⟨[(7,Jn (.own 100007) (x26:(List Jh)))],[],[(100007,(((x26).map cellsOf).length,4))],[]⟩) h24 ?_ ?_
 ·rintro ⟨x17,x18⟩ oh23 h23
  unfold Jbh at h23
  refine Ja (Jd (zE (Jb (Ja ?_))))
  rcases Jl h23 with ⟨hb,h23⟩|⟨hb,h23⟩
  ·refine zT hb (Jj (Jb ?_))
   obtain ⟨o28,h28,h23⟩:=Kk h23
   refine Qp (o:=o28) 36 (fun x30=>⟨[(1,.int .i64 a1),(2,.int .i64 a2),(7,Jn (.own 100007) (x30:(List Jh))),(15,Jn .frozen (a0:(List Jh))),(16,.int .i64 ((a0.length:Nat):Int)),(17,.int .i64 x17)],[],[(100007,(((x30).map cellsOf).length,4))],[]⟩) ?_ ?_
   ·refine Jp (Ja (Jd ?_))
    obtain ⟨x31,h29,h28⟩:=Je h28
    refine zI h29 (zE (Jb (Ja (Jd (zR 4 ?_)))))
    obtain ⟨r32,h30,h28⟩:=Je h28
    refine zP (Hg _ _ r32 h30) (zE (Jb (Ja (Jd (zE (Jb ?_))))))
    rcases Jl h28 with ⟨hb,h28⟩|⟨hb,h28⟩
    ·refine zT hb (Jd (zR 3 ?_))
     obtain ⟨x33,h31,h28⟩:=Je h28
     refine zW (tk:=100007) h31 ?_
     refine zE (Jz ?_)
     cases h28
     exact zJ
    refine zU hb (Jj (Jz ?_))
    cases h28
    exact zJ
   rintro x30 rfl
   have h23:=Kb h23
   refine Jd (zE ?_)
   cases h23
   exact zB
  refine zU hb (Jy (Jv ?_))
  cases h23
  exact zX
 rintro x26 s' rfl hs
 have h:=Kb h
 refine Jt (Jb (Ka hs (Ja (Jd (zE (Jb (Jq ?_)))))))
 cases h
 exact zQ
theorem Jhc (a0:(List Jh)) (a1:Int) (a2:Int) (r:(List Jh)) (h:Lt a0 a1 a2=some r):Kj Tryz.prog GlS 178 [Enc.pv a0,Enc.pv a1,Enc.pv a2] (Enc.pv r) :=
 (Jhr a0 a1 a2 r h).freeze (by kernel_rfl) (by kernel_rfl) (by kernel_rfl)
/-! linking.passed -/
noncomputable def Lc (a0:Int) (a1:Jf):Option Bool :=
 bif decide (a0=1) then (
  some true
 ) else (
  onInl (α:=Bool) (β:=Bool) (
   bif decide (a0=2) then (
    some (.inl (decide (a0=2)))
   ) else (
    some (.inl (decide (a0=3)))
   )
  ) fun x1 =>
  bif x1 then (
   some (((decide (a1.In=0))&&(decide (a1.Out=1)))||((decide (a1.In=1))&&(decide (a1.Out=0))))
  ) else (
   some false
  )
 )
theorem Jd9 (a0:Int) (a1:Jf) (r:Bool) (h:Lc a0 a1=some r):Kj Tryz.prog GlS 246 [Enc.pv a0,Enc.pv a1] (Enc.pv r):=by
 unfold Lc at h
 refine zC Tryz.func246 Tryz.ntmps246 ?_
 refine Ja (Jd (zE (Jb (Ja (Ja (Jd (zE (Jb (Jp (Ja (Jd (zE (Jb ?_)))))))))))))
 rcases Jl h with ⟨hb,h⟩|⟨hb,h⟩
 ·refine zT hb (Ja (Jd (zE (Jb (Jq (Js (Jm ?_)))))))
  cases h
  exact zQ
 refine zU hb ?_
 obtain ⟨o1,h1,h⟩:=Kk h
 refine Qp (o:=o1) 29 (fun x1=>⟨[(3,.ref 3 0),(8,.bool x1)],[(3,.cells (cellsOf a1))],[],[]⟩) ?_ ?_
 ·refine Ja (Jd (zE (Jb ?_)))
  rcases Jl h1 with ⟨hb,h1⟩|⟨hb,h1⟩
  ·refine zT hb (Jj ?_)
   cases h1
   exact zJ
  refine zU hb (Jd (zE ?_))
  cases h1
  exact zJ
 rintro x1 rfl
 have h:=Kb h
 rcases Jl h with ⟨hb,h⟩|⟨hb,h⟩
 ·refine zT hb (Ja (Jd (zR 4 ?_)))
  refine Ku 4 18 ((decide (a1.In=0))&&(decide (a1.Out=1))) (fun x hx=>?_) ?_
  ·rcases Vm hx with ⟨hb,hx⟩|⟨hb,hx⟩
   ·refine zS 14 hb ?_
    subst hx
    exact zF
   refine zS 14 hb ?_
   subst hx
   exact zF
  refine zR 1 ?_
  refine Ku 9 28 (((decide (a1.In=0))&&(decide (a1.Out=1)))||((decide (a1.In=1))&&(decide (a1.Out=0)))) (fun x hx=>?_) ?_
  ·rcases Vs hx with ⟨hb,hx⟩|⟨hb,hx⟩
   ·refine zS 19 hb ?_
    subst hx
    exact zF
   refine zS 19 hb (zR 4 ?_)
   refine Ph 4 27 ((decide (a1.In=1))&&(decide (a1.Out=0))) (fun x hx=>?_) ?_
   ·rcases Vm hx with ⟨hb,hx⟩|⟨hb,hx⟩
    ·refine zS 23 hb ?_
     subst hx
     exact zF
    refine zS 23 hb ?_
    subst hx
    exact zF
   subst hx
   exact zF
  refine zE (Jb (Jq (Js (Jm ?_))))
  cases h
  exact zQ
 refine zU hb (Jj (Jz (Jb (Ja (Jd (zE (Jb (Jq ?_))))))))
 cases h
 exact zQ
/-! cmp.isNaN[int] -/
noncomputable def Ex (a0:Int):Option Bool :=
 some (!(decide (a0=a0)))
theorem Pp (a0:Int) (r:Bool) (h:Ex a0=some r):Kj Tryz.prog GlS 270 [Enc.pv a0] (Enc.pv r):=by
 unfold Ex at h
 refine zC Tryz.func270 Tryz.ntmps270 ?_
 refine Ja (Jd (zE (Jb (Ja (Jd (zE (Jb (Jq ?_))))))))
 cases h
 exact zQ
/-! cmp.Compare[int] -/
noncomputable def Cn (a0:Int) (a1:Int):Option Int :=
 (Ex a0).bind fun r1 =>
 (Ex a1).bind fun r2 =>
 bif r1 then (
  bif r2 then (
   some 0
  ) else (
   some (-1)
  )
 ) else (
  bif r2 then (
   some 1
  ) else (
   bif decide (a0<a1) then (
    some (-1)
   ) else (
    bif decide (a1<a0) then (
     some 1
    ) else (
     some 0
    )
   )
  )
 )
theorem Lu (a0:Int) (a1:Int) (r:Int) (h:Cn a0 a1=some r):Kj Tryz.prog GlS 250 [Enc.pv a0,Enc.pv a1] (Enc.pv r):=by
 unfold Cn at h
 refine zC Tryz.func250 Tryz.ntmps250 ?_
 refine Ja (Jd (zE (Jb (Ja (Jd (zR 1 ?_))))))
 obtain ⟨r1,h1,h⟩:=Je h
 refine zP (Pp _ r1 h1) (zE (Jb (Ja (Jd (zR 1 ?_)))))
 obtain ⟨r2,h2,h⟩:=Je h
 refine zP (Pp _ r2 h2) (zE (Jb (Ja (Ja (Jd (zE (Jb ?_)))))))
 rcases Jl h with ⟨hb,h⟩|⟨hb,h⟩
 ·refine zT hb (Ja (Ja (Jd (zE (Jb ?_)))))
  rcases Jl h with ⟨hb,h⟩|⟨hb,h⟩
  ·refine zT hb (Ja (Jd (zE (Jb (Jq (Jm (Jm ?_)))))))
   cases h
   exact zQ
  refine zU hb (Jj (Jb (Ja (Jd (zE (Jb (Jq (Jm ?_))))))))
  cases h
  exact zQ
 refine zU hb (Jj (Jb (Ja (Ja (Jd (zE (Jb ?_)))))))
 rcases Jl h with ⟨hb,h⟩|⟨hb,h⟩
 ·refine zT hb (Ja (Jd (zE (Jb (Jq (Jm ?_))))))
  cases h
  exact zQ
 refine zU hb (Jj (Jb (Ja (Ja (Jd (zE (Jb ?_)))))))
 rcases Jl h with ⟨hb,h⟩|⟨hb,h⟩
 ·refine zT hb (Ja (Jd (zE (Jb (Jq (Jm ?_))))))
  cases h
  exact zQ
 refine zU hb (Jj (Jb (Ja (Ja (Jd (zE (Jb ?_)))))))
 rcases Jl h with ⟨hb,h⟩|⟨hb,h⟩
 ·refine zT hb (Ja (Jd (zE (Jb (Jq (Jm ?_))))))
  cases h
  exact zQ
 refine zU hb (Jj (Jb (Ja (Jd (zE (Jb (Jq ?_)))))))
 cases h
 exact zQ
/-! cmp.Or[int] -/
noncomputable def Jdb (a0:(List Int)):Int→Option (Int⊕(Unit⊕Int)):=fun x2 =>
 bif decide (x2<((a0.length:Nat):Int)) then (
  (ixO a0 x2).bind fun x4 =>
  bif (!(decide (x4=0))) then (
   some (.inr (.inr x4))
  ) else (
   some (.inl (w64 (x2+1)))
  )
 ) else (
  some (.inr (.inl ()))
 )
noncomputable def Jah (a0:(List Int)):Option Int :=
 onInl (α:=Unit) (β:=Int) (Ko (Jdb a0) 0) fun _ =>
 some 0
theorem Jjo (a0:(List Int)) (r:Int) (h:Jah a0=some r):Kj Tryz.prog GlS 249 [Enc.pv a0] (Enc.pv r):=by
 unfold Jah at h
 refine zC Tryz.func249 Tryz.ntmps249 ?_
 refine Ja (Jd (zE (Jb (Ja (Jd (zE (Jb (Ja (Ja (Jd (zR 1 ?_)))))))))))
 refine zL (L:=(a0:(List Int))) ?_
 refine zE (Jb (Jp ?_))
 obtain ⟨o6,h6,h⟩:=Kk h
 refine zA 18 0 (fun x2=>⟨[(3,.int .i64 0),(6,Jn .frozen (a0:(List Int))),(7,.int .i64 ((a0.length:Nat):Int)),(8,.int .i64 x2)],[],[],[]⟩) (fun (_:Unit)=>⟨[(3,.int .i64 0)],[],[],[]⟩) h6 ?_ ?_
 ·rintro x2 oh5 h5
  unfold Jdb at h5
  refine Ja (Jd (zE (Jb (Ja ?_))))
  rcases Jl h5 with ⟨hb,h5⟩|⟨hb,h5⟩
  ·refine zT hb (Jj (Jb (Ja (Jp (Ja (Jd ?_))))))
   obtain ⟨x4,h7,h5⟩:=Je h5
   refine zI h7 (zE (Jb (Ja (Jd (zE (Jb ?_))))))
   rcases Jl h5 with ⟨hb,h5⟩|⟨hb,h5⟩
   ·refine zT hb (Ja (Jd (zE (Jb (Jq (Js (Jm ?_)))))))
    cases h5
    refine Kd fun he=>?_
    subst he
    have h8:=Kq h
    refine Js (Jm ?_)
    cases h8
    exact zQ
   refine zU hb (Jj (Jz (Jb (Jd (zE ?_)))))
   cases h5
   exact zB
  refine zU hb (Jy (Jv ?_))
  cases h5
  exact zX
 rintro _ s' rfl hs
 have h:=Kb h
 refine Jt (Jb (Ka hs (Ja (Jd (zE (Jb (Jq ?_)))))))
 cases h
 exact zQ
/-! linking.Of$1 -/
noncomputable def Zl (a0:Jc) (a1:Jc):Option Int :=
 (Cn a0.At a1.At).bind fun r1 =>
 (Cn a0.Id a1.Id).bind fun r2 =>
 (Jah [r1,r2]).bind fun r3 =>
 some r3
theorem Bx (a0:Jc) (a1:Jc) (r:Int) (h:Zl a0 a1=some r):Kj Tryz.prog GlS 248 [Enc.pv a0,Enc.pv a1] (Enc.pv r):=by
 unfold Zl at h
 refine zC Tryz.func248 Tryz.ntmps248 ?_
 refine Ja (Jd (zE (Jb (Ja (zD (zR 4 ?_))))))
 obtain ⟨r1,h1,h⟩:=Je h
 refine zP (Lu _ _ r1 h1) (zR 4 ?_)
 obtain ⟨r2,h2,h⟩:=Je h
 refine zP (Lu _ _ r2 h2) (zR 1 ?_)
 obtain ⟨r3,h3,h⟩:=Je h
 refine zP (Jjo _ r3 h3) (zE (Jb (Jq ?_)))
 cases h
 exact zQ
/-! slices.insertionSortCmpFunc[api.Linked] -/
noncomputable def Vz (a0:(List Jc)) (a1:Int):(Int×(List Jc))→Option ((Int×(List Jc))⊕((List Jc)⊕((Int×(List Jc))⊕((List Jc)⊕(List Jc))))):=fun (x108,x109) =>
 ((bif decide (a1<x108) then (
  (Wn 0 (((a0:(List Jc)).map cellsOf).length) x108).bind fun j126 =>
  (Vq x109 (((a0:(List Jc)).map cellsOf).length) j126).bind fun x127 =>
  (Wn 0 (((a0:(List Jc)).map cellsOf).length) (w64 (x108 - 1))).bind fun j128 =>
  (Vq x109 (((a0:(List Jc)).map cellsOf).length) j128).bind fun x129 =>
  (Zl x127 x129).bind fun r130 =>
  some (decide (r130<0))
 ) else some false):Option Bool).bind fun b125 =>
 bif b125 then (
  (Wn 0 (((a0:(List Jc)).map cellsOf).length) (w64 (x108 - 1))).bind fun j131 =>
  (Vq x109 (((a0:(List Jc)).map cellsOf).length) j131).bind fun x132 =>
  (Wn 0 (((a0:(List Jc)).map cellsOf).length) x108).bind fun j133 =>
  (Vq x109 (((a0:(List Jc)).map cellsOf).length) j133).bind fun x134 =>
  (Wn 0 (((a0:(List Jc)).map cellsOf).length) x108).bind fun j135 =>
  (Vq x109 (((a0:(List Jc)).map cellsOf).length) j135).bind fun x136 =>
  (Wn 0 (((a0:(List Jc)).map cellsOf).length) (w64 (x108 - 1))).bind fun j137 =>
  (Vq (x109.set j135 x132) (((a0:(List Jc)).map cellsOf).length) j137).bind fun x138 =>
  some (.inl (w64 (x108 - 1),((x109.set j135 x132).set j137 x134)))
 ) else (
  some (.inr (.inl x109))
 )
noncomputable def Wa (a0:(List Jc)) (a1:Int) (a2:Int):(Int×(List Jc))→Option ((Int×(List Jc))⊕((List Jc)⊕(List Jc))):=fun (x46,x47) =>
 bif decide (x46<a2) then (
  onInl (α:=(List Jc)) (β:=((Int×(List Jc))⊕((List Jc)⊕(List Jc)))) (Ko (Vz a0 a1) (x46,x47)) fun x124 =>
  some (.inl (w64 (x46+1),x124))
 ) else (
  some (.inr (.inl x47))
 )
noncomputable def Qh (a0:(List Jc)) (a1:Int) (a2:Int):Option (List Jc) :=
 onInl (α:=(List Jc)) (β:=(List Jc)) (Ko (Wa a0 a1 a2) (w64 (a1+1),a0)) fun x93 =>
 some x93
theorem Um (a0:(List Jc)) (a1:Int) (a2:Int) (r:(List Jc)) (h:Qh a0 a1 a2=some r):Ma Tryz.prog GlS 277 2 16 (a0.map cellsOf) [Enc.pv a1,Enc.pv a2,.fn 248 []] none (r.map cellsOf):=by
 unfold Qh at h
 refine Zt Tryz.func277 (by rfl) rfl Tryz.ntmps277 (by rfl) rfl ?_
 refine Ja (Jd (zE (Jb (Jp ?_))))
 obtain ⟨o90,h90,h⟩:=Kk h
 refine zA 53 0 (fun (x46,x47)=>⟨[(0,.ex 1000000000 2 16 (((a0:(List Jc)).map cellsOf).length) 0 (((a0:(List Jc)).map cellsOf).length)),(1,.int .i64 a1),(2,.int .i64 a2),(3,.fn 248 []),(8,.int .i64 x46)],[],[(1000000000,(((a0:(List Jc)).map cellsOf).length,0))],[(1000000000,(2,(16,(x47:(List Jc)).map cellsOf)))]⟩) (fun x93=>⟨[],[],[(1000000000,(((a0:(List Jc)).map cellsOf).length,0))],[(1000000000,(2,(16,(x93:(List Jc)).map cellsOf)))]⟩) h90 ?_ ?_
 ·rintro ⟨x46,x47⟩ oh89 h89
  unfold Wa at h89
  refine Ja (Ja (Jd (zE (Jb ?_))))
  rcases Jl h89 with ⟨hb,h89⟩|⟨hb,h89⟩
  ·refine zT hb (Jj (Jb (Ja (Jp (Ja (Jd (zE (Jb (Jp ?_)))))))))
   obtain ⟨o120,h120,h89⟩:=Kk h89
   refine zA 53 2 (fun (x108,x109)=>⟨[(0,.ex 1000000000 2 16 (((a0:(List Jc)).map cellsOf).length) 0 (((a0:(List Jc)).map cellsOf).length)),(1,.int .i64 a1),(2,.int .i64 a2),(3,.fn 248 []),(8,.int .i64 x46),(9,.int .i64 x108)],[],[(1000000000,(((a0:(List Jc)).map cellsOf).length,0))],[(1000000000,(2,(16,(x109:(List Jc)).map cellsOf)))]⟩) (fun x124=>⟨[(0,.ex 1000000000 2 16 (((a0:(List Jc)).map cellsOf).length) 0 (((a0:(List Jc)).map cellsOf).length)),(1,.int .i64 a1),(2,.int .i64 a2),(3,.fn 248 []),(8,.int .i64 x46)],[],[(1000000000,(((a0:(List Jc)).map cellsOf).length,0))],[(1000000000,(2,(16,(x124:(List Jc)).map cellsOf)))]⟩) h120 ?_ ?_
   ·rintro ⟨x108,x109⟩ oh119 h119
    unfold Vz at h119
    refine Ja (Ja (zD ?_))
    obtain ⟨b125,h121,h119⟩:=Je h119
    refine zR 4 ?_
    refine Km 13 34 (.bool b125) ?_ ?_
    ·rcases Jl h121 with ⟨hb,h121⟩|⟨hb,h121⟩
     ·refine zS 21 hb (zR 3 ?_)
      obtain ⟨j126,h122,h121⟩:=Je h121
      refine Uv (tk:=1000000000) (k:=2) (N:=((a0:(List Jc)).map cellsOf).length) h122 (by kernel_rfl) ?_
      obtain ⟨x127,h123,h121⟩:=Je h121
      refine Vo (L:=(x109:(List Jc))) (N:=((a0:(List Jc)).map cellsOf).length) (j:=j126) (y:=x127) (v:=Enc.pv x127) h123 true 2 0 (by kernel_rfl) (by kernel_rfl) ?_
      refine zR 3 ?_
      obtain ⟨j128,h124,h121⟩:=Je h121
      refine Uv (tk:=1000000000) (k:=2) (N:=((a0:(List Jc)).map cellsOf).length) h124 (by kernel_rfl) ?_
      obtain ⟨x129,h125,h121⟩:=Je h121
      refine Vo (L:=(x109:(List Jc))) (N:=((a0:(List Jc)).map cellsOf).length) (j:=j128) (y:=x129) (v:=Enc.pv x129) h125 true 2 0 (by kernel_rfl) (by kernel_rfl) ?_
      obtain ⟨r130,h126,h121⟩:=Je h121
      refine zP (Bx _ _ r130 h126) ?_
      cases h121
      exact zF
     refine zS 21 hb ?_
     cases h121
     exact zF
    refine zN (Jb ?_)
    rcases Jl h119 with ⟨hb,h119⟩|⟨hb,h119⟩
    ·refine zT hb (Jj (Jb (Ja (Jp (zD (zR 8 ?_))))))
     obtain ⟨j131,h127,h119⟩:=Je h119
     refine Uv (tk:=1000000000) (k:=2) (N:=((a0:(List Jc)).map cellsOf).length) h127 (by kernel_rfl) ?_
     obtain ⟨x132,h128,h119⟩:=Je h119
     refine Vo (L:=(x109:(List Jc))) (N:=((a0:(List Jc)).map cellsOf).length) (j:=j131) (y:=x132) (v:=Enc.pv x132) h128 true 2 0 (by kernel_rfl) (by kernel_rfl) ?_
     refine zR 2 ?_
     obtain ⟨j133,h129,h119⟩:=Je h119
     refine Uv (tk:=1000000000) (k:=2) (N:=((a0:(List Jc)).map cellsOf).length) h129 (by kernel_rfl) ?_
     obtain ⟨x134,h130,h119⟩:=Je h119
     refine Vo (L:=(x109:(List Jc))) (N:=((a0:(List Jc)).map cellsOf).length) (j:=j133) (y:=x134) (v:=Enc.pv x134) h130 true 2 0 (by kernel_rfl) (by kernel_rfl) ?_
     obtain ⟨j135,h131,h119⟩:=Je h119
     refine Uv (tk:=1000000000) (k:=2) (N:=((a0:(List Jc)).map cellsOf).length) h131 (by kernel_rfl) ?_
     obtain ⟨x136,h132,h119⟩:=Je h119
     refine Ev (L:=(x109:(List Jc))) (tk:=1000000000) (N:=((a0:(List Jc)).map cellsOf).length) (j:=j135) (y:=x136) (y':=x132) h132 0 2 [.int .i64 x132.Id,.int .i64 x132.At] (by kernel_rfl) (by kernel_rfl) ?_
     obtain ⟨j137,h133,h119⟩:=Je h119
     refine Uv (tk:=1000000000) (k:=2) (N:=((a0:(List Jc)).map cellsOf).length) h133 (by kernel_rfl) ?_
     obtain ⟨x138,h134,h119⟩:=Je h119
     refine Ev (L:=((x109.set j135 x132):(List Jc))) (tk:=1000000000) (N:=((a0:(List Jc)).map cellsOf).length) (j:=j137) (y:=x138) (y':=x134) h134 0 2 [.int .i64 x134.Id,.int .i64 x134.At] (by kernel_rfl) (by kernel_rfl) ?_
     refine zN (Jz (Jb (Jd (zE ?_))))
     cases h119
     exact zB
    refine zU hb (Jy (Jv ?_))
    cases h119
    exact zX
   rintro x124 s' rfl hs
   have h89:=Kb h89
   refine Jt (Jz (Jb (Ka hs (Jd (zE ?_)))))
   cases h89
   exact zB
  refine zU hb (Jy (Jv ?_))
  cases h89
  exact zX
 rintro x93 s' rfl hs
 have h:=Kb h
 refine Jt ?_
 cases h
 exact Jg1 hs (by kernel_rfl)
/-! slices.swapRangeCmpFunc[api.Linked] -/
noncomputable def Wo (a0:(List Jc)) (a1:Int) (a2:Int) (a3:Int):(Int×(List Jc))→Option ((Int×(List Jc))⊕((List Jc)⊕(List Jc))):=fun (x9,x10) =>
 bif decide (x9<a3) then (
  (Wn 0 (((a0:(List Jc)).map cellsOf).length) (w64 (a2+x9))).bind fun j20 =>
  (Vq x10 (((a0:(List Jc)).map cellsOf).length) j20).bind fun x21 =>
  (Wn 0 (((a0:(List Jc)).map cellsOf).length) (w64 (a1+x9))).bind fun j22 =>
  (Vq x10 (((a0:(List Jc)).map cellsOf).length) j22).bind fun x23 =>
  (Wn 0 (((a0:(List Jc)).map cellsOf).length) (w64 (a1+x9))).bind fun j24 =>
  (Vq x10 (((a0:(List Jc)).map cellsOf).length) j24).bind fun x25 =>
  (Wn 0 (((a0:(List Jc)).map cellsOf).length) (w64 (a2+x9))).bind fun j26 =>
  (Vq (x10.set j24 x21) (((a0:(List Jc)).map cellsOf).length) j26).bind fun x27 =>
  some (.inl (w64 (x9+1),((x10.set j24 x21).set j26 x23)))
 ) else (
  some (.inr (.inl x10))
 )
noncomputable def Qe (a0:(List Jc)) (a1:Int) (a2:Int) (a3:Int):Option (List Jc) :=
 onInl (α:=(List Jc)) (β:=(List Jc)) (Ko (Wo a0 a1 a2 a3) (0,a0)) fun x19 =>
 some x19
theorem Qt (a0:(List Jc)) (a1:Int) (a2:Int) (a3:Int) (r:(List Jc)) (h:Qe a0 a1 a2 a3=some r):Ma Tryz.prog GlS 280 2 16 (a0.map cellsOf) [Enc.pv a1,Enc.pv a2,Enc.pv a3,.fn 248 []] none (r.map cellsOf):=by
 unfold Qe at h
 refine Zt Tryz.func280 (by rfl) rfl Tryz.ntmps280 (by rfl) rfl ?_
 refine Ja (Jd (zE (Jb (Jp ?_))))
 obtain ⟨o18,h18,h⟩:=Kk h
 refine zA 38 0 (fun (x9,x10)=>⟨[(0,.ex 1000000000 2 16 (((a0:(List Jc)).map cellsOf).length) 0 (((a0:(List Jc)).map cellsOf).length)),(1,.int .i64 a1),(2,.int .i64 a2),(3,.int .i64 a3),(10,.int .i64 x9)],[],[(1000000000,(((a0:(List Jc)).map cellsOf).length,0))],[(1000000000,(2,(16,(x10:(List Jc)).map cellsOf)))]⟩) (fun x19=>⟨[],[],[(1000000000,(((a0:(List Jc)).map cellsOf).length,0))],[(1000000000,(2,(16,(x19:(List Jc)).map cellsOf)))]⟩) h18 ?_ ?_
 ·rintro ⟨x9,x10⟩ oh17 h17
  unfold Wo at h17
  refine Ja (Ja (Jd (zE (Jb ?_))))
  rcases Jl h17 with ⟨hb,h17⟩|⟨hb,h17⟩
  ·refine zT hb (Jj (Jb (Ja (Jp (zD (zR 12 ?_))))))
   obtain ⟨j20,h19,h17⟩:=Je h17
   refine Uv (tk:=1000000000) (k:=2) (N:=((a0:(List Jc)).map cellsOf).length) h19 (by kernel_rfl) ?_
   obtain ⟨x21,h20,h17⟩:=Je h17
   refine Vo (L:=(x10:(List Jc))) (N:=((a0:(List Jc)).map cellsOf).length) (j:=j20) (y:=x21) (v:=Enc.pv x21) h20 true 2 0 (by kernel_rfl) (by kernel_rfl) ?_
   refine zR 4 ?_
   obtain ⟨j22,h21,h17⟩:=Je h17
   refine Uv (tk:=1000000000) (k:=2) (N:=((a0:(List Jc)).map cellsOf).length) h21 (by kernel_rfl) ?_
   obtain ⟨x23,h22,h17⟩:=Je h17
   refine Vo (L:=(x10:(List Jc))) (N:=((a0:(List Jc)).map cellsOf).length) (j:=j22) (y:=x23) (v:=Enc.pv x23) h22 true 2 0 (by kernel_rfl) (by kernel_rfl) ?_
   obtain ⟨j24,h23,h17⟩:=Je h17
   refine Uv (tk:=1000000000) (k:=2) (N:=((a0:(List Jc)).map cellsOf).length) h23 (by kernel_rfl) ?_
   obtain ⟨x25,h24,h17⟩:=Je h17
   refine Ev (L:=(x10:(List Jc))) (tk:=1000000000) (N:=((a0:(List Jc)).map cellsOf).length) (j:=j24) (y:=x25) (y':=x21) h24 0 2 [.int .i64 x21.Id,.int .i64 x21.At] (by kernel_rfl) (by kernel_rfl) ?_
   obtain ⟨j26,h25,h17⟩:=Je h17
   refine Uv (tk:=1000000000) (k:=2) (N:=((a0:(List Jc)).map cellsOf).length) h25 (by kernel_rfl) ?_
   obtain ⟨x27,h26,h17⟩:=Je h17
   refine Ev (L:=((x10.set j24 x21):(List Jc))) (tk:=1000000000) (N:=((a0:(List Jc)).map cellsOf).length) (j:=j26) (y:=x27) (y':=x23) h26 0 2 [.int .i64 x23.Id,.int .i64 x23.At] (by kernel_rfl) (by kernel_rfl) ?_
   refine zN (Jz (Jb (Jd (zE ?_))))
   cases h17
   exact zB
  refine zU hb (Jy (Jv ?_))
  cases h17
  exact zX
 rintro x19 s' rfl hs
 have h:=Kb h
 refine Jt ?_
 cases h
 exact Jg1 hs (by kernel_rfl)
/-! slices.rotateCmpFunc[api.Linked] -/
noncomputable def Ym (a2:Int):(Int×(List Jc)×Int)→Option ((Int×(List Jc)×Int)⊕(((List Jc)×Int)⊕(List Jc))):=fun (x3,x4,x5) =>
 bif (!(decide (x3=x5))) then (
  bif decide (x5<x3) then (
   (Qe x4 (w64 (a2 - x3)) a2 x5).bind fun r10 =>
   some (.inl (w64 (x3 - x5),r10,x5))
  ) else (
   (Qe x4 (w64 (a2 - x3)) (w64 ((w64 (a2+x5)) - x3)) x3).bind fun r11 =>
   some (.inl (x3,r11,w64 (x5 - x3)))
  )
 ) else (
  some (.inr (.inl (x4,x3)))
 )
noncomputable def Ud (a0:(List Jc)) (a1:Int) (a2:Int) (a3:Int):Option (List Jc) :=
 onInl (α:=((List Jc)×Int)) (β:=(List Jc)) (Ko (Ym a2) (w64 (a2 - a1),a0,w64 (a3 - a2))) fun (x8,x9) =>
 (Qe x8 (w64 (a2 - x9)) a2 x9).bind fun r12 =>
 some r12
theorem Yr (a0:(List Jc)) (a1:Int) (a2:Int) (a3:Int) (r:(List Jc)) (h:Ud a0 a1 a2 a3=some r):Ma Tryz.prog GlS 279 2 16 (a0.map cellsOf) [Enc.pv a1,Enc.pv a2,Enc.pv a3,.fn 248 []] none (r.map cellsOf):=by
 unfold Ud at h
 refine Zt Tryz.func279 (by rfl) rfl Tryz.ntmps279 (by rfl) rfl ?_
 refine Ja (Jd (zE (Jb (Ja (Jd (zE (Jb (Ja (Jp ?_)))))))))
 obtain ⟨o6,h6,h⟩:=Kk h
 refine zA 58 0 (fun (x3,x4,x5)=>⟨[(0,.ex 1000000000 2 16 (((a0:(List Jc)).map cellsOf).length) 0 (((a0:(List Jc)).map cellsOf).length)),(2,.int .i64 a2),(4,.fn 248 []),(10,.int .i64 x3),(11,.int .i64 x5)],[],[(1000000000,(((a0:(List Jc)).map cellsOf).length,0))],[(1000000000,(2,(16,(x4:(List Jc)).map cellsOf)))]⟩) (fun (x8,x9)=>⟨[(0,.ex 1000000000 2 16 (((a0:(List Jc)).map cellsOf).length) 0 (((a0:(List Jc)).map cellsOf).length)),(2,.int .i64 a2),(4,.fn 248 []),(10,.int .i64 x9)],[],[(1000000000,(((a0:(List Jc)).map cellsOf).length,0))],[(1000000000,(2,(16,(x8:(List Jc)).map cellsOf)))]⟩) h6 ?_ ?_
 ·rintro ⟨x3,x4,x5⟩ oh5 h5
  unfold Ym at h5
  refine Ja (Ja (Jd (zE (Jb ?_))))
  rcases Jl h5 with ⟨hb,h5⟩|⟨hb,h5⟩
  ·refine zT hb (Jj (Jb (Jp (Ja (Jd (zE (Jb ?_)))))))
   rcases Jl h5 with ⟨hb,h5⟩|⟨hb,h5⟩
   ·refine zT hb (Ja (Jd (zR 7 ?_)))
    obtain ⟨r10,h7,h5⟩:=Je h5
    refine Dd (t:=1000000000) (L:=(x4:(List Jc))) (L':=(r10:(List Jc))) (N:=((a0:(List Jc)).map cellsOf).length) (by kernel_rfl) (by kernel_rfl) (by kernel_rfl) (Qt _ _ _ _ r10 h7) ?_
    refine zN (Jb (Jd (zE (Jz ?_))))
    cases h5
    exact zB
   refine zU hb (Ja (Jd (zR 11 ?_)))
   obtain ⟨r11,h8,h5⟩:=Je h5
   refine Dd (t:=1000000000) (L:=(x4:(List Jc))) (L':=(r11:(List Jc))) (N:=((a0:(List Jc)).map cellsOf).length) (by kernel_rfl) (by kernel_rfl) (by kernel_rfl) (Qt _ _ _ _ r11 h8) ?_
   refine zN (Jb (Jd (zE (Jz ?_))))
   cases h5
   exact zB
  refine zU hb (Jy (Jv ?_))
  cases h5
  exact zX
 rintro ⟨x8,x9⟩ s' rfl hs
 have h:=Kb h
 refine Jt (Jb (Ka hs (Jd (zR 7 ?_))))
 obtain ⟨r12,h9,h⟩:=Je h
 refine Dd (t:=1000000000) (L:=(x8:(List Jc))) (L':=(r12:(List Jc))) (N:=((a0:(List Jc)).map cellsOf).length) (by kernel_rfl) (by kernel_rfl) (by kernel_rfl) (Qt _ _ _ _ r12 h9) ?_
 refine zN ?_
 cases h
 exact Rj (by kernel_rfl)
/-! slices.symMergeCmpFunc[api.Linked] -/
noncomputable def Wy (a0:(List Jc)) (a1:Int):(Int×Int)→Option ((Int×Int)⊕(Int⊕(List Jc))):=fun (x6,x7) =>
 bif decide (x6<x7) then (
  (Wn 0 (((a0:(List Jc)).map cellsOf).length) (w64 ((IntKind.u64.wrap (w64 (x6+x7))).fdiv 2))).bind fun j14 =>
  (Vq a0 (((a0:(List Jc)).map cellsOf).length) j14).bind fun x15 =>
  (Wn 0 (((a0:(List Jc)).map cellsOf).length) a1).bind fun j16 =>
  (Vq a0 (((a0:(List Jc)).map cellsOf).length) j16).bind fun x17 =>
  (Zl x15 x17).bind fun r18 =>
  bif decide (r18<0) then (
   some (.inl (w64 ((w64 ((IntKind.u64.wrap (w64 (x6+x7))).fdiv 2))+1),x7))
  ) else (
   some (.inl (x6,w64 ((IntKind.u64.wrap (w64 (x6+x7))).fdiv 2)))
  )
 ) else (
  some (.inr (.inl x6))
 )
noncomputable def Wx (a0:(List Jc)) (x13:Int):(Int×(List Jc))→Option ((Int×(List Jc))⊕((List Jc)⊕(List Jc))):=fun (x27,x28) =>
 bif decide (x27<(w64 (x13 - 1))) then (
  (Wn 0 (((a0:(List Jc)).map cellsOf).length) (w64 (x27+1))).bind fun j38 =>
  (Vq x28 (((a0:(List Jc)).map cellsOf).length) j38).bind fun x39 =>
  (Wn 0 (((a0:(List Jc)).map cellsOf).length) x27).bind fun j40 =>
  (Vq x28 (((a0:(List Jc)).map cellsOf).length) j40).bind fun x41 =>
  (Wn 0 (((a0:(List Jc)).map cellsOf).length) x27).bind fun j42 =>
  (Vq x28 (((a0:(List Jc)).map cellsOf).length) j42).bind fun x43 =>
  (Wn 0 (((a0:(List Jc)).map cellsOf).length) (w64 (x27+1))).bind fun j44 =>
  (Vq (x28.set j42 x39) (((a0:(List Jc)).map cellsOf).length) j44).bind fun x45 =>
  some (.inl (w64 (x27+1),((x28.set j42 x39).set j44 x41)))
 ) else (
  some (.inr (.inl x28))
 )
noncomputable def Wv (a0:(List Jc)) (a2:Int):(Int×Int)→Option ((Int×Int)⊕(Int⊕(List Jc))):=fun (x51,x52) =>
 bif decide (x51<x52) then (
  (Wn 0 (((a0:(List Jc)).map cellsOf).length) a2).bind fun j59 =>
  (Vq a0 (((a0:(List Jc)).map cellsOf).length) j59).bind fun x60 =>
  (Wn 0 (((a0:(List Jc)).map cellsOf).length) (w64 ((IntKind.u64.wrap (w64 (x51+x52))).fdiv 2))).bind fun j61 =>
  (Vq a0 (((a0:(List Jc)).map cellsOf).length) j61).bind fun x62 =>
  (Zl x60 x62).bind fun r63 =>
  bif (!(decide (r63<0))) then (
   some (.inl (w64 ((w64 ((IntKind.u64.wrap (w64 (x51+x52))).fdiv 2))+1),x52))
  ) else (
   some (.inl (x51,w64 ((IntKind.u64.wrap (w64 (x51+x52))).fdiv 2)))
  )
 ) else (
  some (.inr (.inl x51))
 )
noncomputable def Wu (a0:(List Jc)) (x58:Int):(Int×(List Jc))→Option ((Int×(List Jc))⊕((List Jc)⊕(List Jc))):=fun (x72,x73) =>
 bif decide (x58<x72) then (
  (Wn 0 (((a0:(List Jc)).map cellsOf).length) (w64 (x72 - 1))).bind fun j83 =>
  (Vq x73 (((a0:(List Jc)).map cellsOf).length) j83).bind fun x84 =>
  (Wn 0 (((a0:(List Jc)).map cellsOf).length) x72).bind fun j85 =>
  (Vq x73 (((a0:(List Jc)).map cellsOf).length) j85).bind fun x86 =>
  (Wn 0 (((a0:(List Jc)).map cellsOf).length) x72).bind fun j87 =>
  (Vq x73 (((a0:(List Jc)).map cellsOf).length) j87).bind fun x88 =>
  (Wn 0 (((a0:(List Jc)).map cellsOf).length) (w64 (x72 - 1))).bind fun j89 =>
  (Vq (x73.set j87 x84) (((a0:(List Jc)).map cellsOf).length) j89).bind fun x90 =>
  some (.inl (w64 (x72 - 1),((x73.set j87 x84).set j89 x86)))
 ) else (
  some (.inr (.inl x73))
 )
noncomputable def Wz (a0:(List Jc)) (a1:Int) (a2:Int) (a3:Int):(Int×Int)→Option ((Int×Int)⊕(Int⊕(List Jc))):=fun (x98,x99) =>
 bif decide (x98<x99) then (
  (Wn 0 (((a0:(List Jc)).map cellsOf).length) (w64 ((w64 ((w64 ((w64 ((IntKind.u64.wrap (w64 (a1+a3))).fdiv 2))+a2)) - 1)) - (w64 ((IntKind.u64.wrap (w64 (x98+x99))).fdiv 2))))).bind fun j106 =>
  (Vq a0 (((a0:(List Jc)).map cellsOf).length) j106).bind fun x107 =>
  (Wn 0 (((a0:(List Jc)).map cellsOf).length) (w64 ((IntKind.u64.wrap (w64 (x98+x99))).fdiv 2))).bind fun j108 =>
  (Vq a0 (((a0:(List Jc)).map cellsOf).length) j108).bind fun x109 =>
  (Zl x107 x109).bind fun r110 =>
  bif (!(decide (r110<0))) then (
   some (.inl (w64 ((w64 ((IntKind.u64.wrap (w64 (x98+x99))).fdiv 2))+1),x99))
  ) else (
   some (.inl (x98,w64 ((IntKind.u64.wrap (w64 (x98+x99))).fdiv 2)))
  )
 ) else (
  some (.inr (.inl x98))
 )
noncomputable def Ql (rc_d_slices_symMergeCmpFunc_api_Linked__linking_Of_c1:(List Jc)→Int→Int→Int→Option (List Jc)) (a0:(List Jc)) (a1:Int) (a2:Int) (a3:Int):Option (List Jc) :=
 bif decide ((w64 (a2 - a1))=1) then (
  onInl (α:=Int) (β:=(List Jc)) (Ko (Wy a0 a1) (a2,a3)) fun x13 =>
  onInl (α:=(List Jc)) (β:=(List Jc)) (Ko (Wx a0 x13) (a1,a0)) fun x37 =>
  some x37
 ) else (
  bif decide ((w64 (a3 - a2))=1) then (
   onInl (α:=Int) (β:=(List Jc)) (Ko (Wv a0 a2) (a1,a2)) fun x58 =>
   onInl (α:=(List Jc)) (β:=(List Jc)) (Ko (Wu a0 x58) (a2,a0)) fun x82 =>
   some x82
  ) else (
   onInl (α:=(Int×Int)) (β:=(List Jc)) (
    bif decide ((w64 ((IntKind.u64.wrap (w64 (a1+a3))).fdiv 2))<a2) then (
     some (.inl (w64 ((w64 ((w64 ((IntKind.u64.wrap (w64 (a1+a3))).fdiv 2))+a2)) - a3),w64 ((IntKind.u64.wrap (w64 (a1+a3))).fdiv 2)))
    ) else (
     some (.inl (a1,a2))
    )
   ) fun (x91,x92) =>
   onInl (α:=Int) (β:=(List Jc)) (Ko (Wz a0 a1 a2 a3) (x91,x92)) fun x105 =>
   onInl (α:=(List Jc)) (β:=(List Jc)) (
    bif ((decide (x105<a2))&&(decide (a2<(w64 ((w64 ((w64 ((IntKind.u64.wrap (w64 (a1+a3))).fdiv 2))+a2)) - x105))))) then (
     (Ud a0 x105 a2 (w64 ((w64 ((w64 ((IntKind.u64.wrap (w64 (a1+a3))).fdiv 2))+a2)) - x105))).bind fun r113 =>
     some (.inl r113)
    ) else (
     some (.inl a0)
    )
   ) fun x112 =>
   onInl (α:=(List Jc)) (β:=(List Jc)) (
    bif ((decide (a1<x105))&&(decide (x105<(w64 ((IntKind.u64.wrap (w64 (a1+a3))).fdiv 2))))) then (
     (rc_d_slices_symMergeCmpFunc_api_Linked__linking_Of_c1 x112 a1 x105 (w64 ((IntKind.u64.wrap (w64 (a1+a3))).fdiv 2))).bind fun r116 =>
     some (.inl r116)
    ) else (
     some (.inl x112)
    )
   ) fun x115 =>
   bif ((decide ((w64 ((IntKind.u64.wrap (w64 (a1+a3))).fdiv 2))<(w64 ((w64 ((w64 ((IntKind.u64.wrap (w64 (a1+a3))).fdiv 2))+a2)) - x105))))&&(decide ((w64 ((w64 ((w64 ((IntKind.u64.wrap (w64 (a1+a3))).fdiv 2))+a2)) - x105))<a3))) then (
    (rc_d_slices_symMergeCmpFunc_api_Linked__linking_Of_c1 x115 (w64 ((IntKind.u64.wrap (w64 (a1+a3))).fdiv 2)) (w64 ((w64 ((w64 ((IntKind.u64.wrap (w64 (a1+a3))).fdiv 2))+a2)) - x105)) a3).bind fun r117 =>
    some r117
   ) else (
    some x115
   )
  )
 )
theorem Uw (rc_d_slices_symMergeCmpFunc_api_Linked__linking_Of_c1:(List Jc)→Int→Int→Int→Option (List Jc)) (hrc_d_slices_symMergeCmpFunc_api_Linked__linking_Of_c1:∀ (a0:(List Jc)) (a1:Int) (a2:Int) (a3:Int) (r:(List Jc)),rc_d_slices_symMergeCmpFunc_api_Linked__linking_Of_c1 a0 a1 a2 a3=some r→Ma Tryz.prog GlS 278 2 16 (a0.map cellsOf) [Enc.pv a1,Enc.pv a2,Enc.pv a3,.fn 248 []] none (r.map cellsOf)) (a0:(List Jc)) (a1:Int) (a2:Int) (a3:Int) (r:(List Jc)) (h:Ql rc_d_slices_symMergeCmpFunc_api_Linked__linking_Of_c1 a0 a1 a2 a3=some r):Ma Tryz.prog GlS 278 2 16 (a0.map cellsOf) [Enc.pv a1,Enc.pv a2,Enc.pv a3,.fn 248 []] none (r.map cellsOf):=by
 unfold Ql at h
 refine Zt Tryz.func278 (by rfl) rfl Tryz.ntmps278 (by rfl) rfl ?_
 refine Ja (Ja (Jd (zE (Jb ?_))))
 rcases Jl h with ⟨hb,h⟩|⟨hb,h⟩
 ·refine zT hb (Ja (Jd (zE (Jb (Ja (Jd (zE (Jb (Ja (Jp ?_))))))))))
  obtain ⟨o12,h12,h⟩:=Kk h
  refine zA 220 0 (fun (x6,x7)=>⟨[(0,.ex 1000000000 2 16 (((a0:(List Jc)).map cellsOf).length) 0 (((a0:(List Jc)).map cellsOf).length)),(1,.int .i64 a1),(4,.fn 248 []),(10,.int .i64 x6),(11,.int .i64 x7)],[],[(1000000000,(((a0:(List Jc)).map cellsOf).length,0))],[(1000000000,(2,(16,(a0:(List Jc)).map cellsOf)))]⟩) (fun x13=>⟨[(0,.ex 1000000000 2 16 (((a0:(List Jc)).map cellsOf).length) 0 (((a0:(List Jc)).map cellsOf).length)),(1,.int .i64 a1),(10,.int .i64 x13)],[],[(1000000000,(((a0:(List Jc)).map cellsOf).length,0))],[(1000000000,(2,(16,(a0:(List Jc)).map cellsOf)))]⟩) h12 ?_ ?_
  ·rintro ⟨x6,x7⟩ oh11 h11
   unfold Wy at h11
   refine Ja (Ja (Jd (zE (Jb ?_))))
   rcases Jl h11 with ⟨hb,h11⟩|⟨hb,h11⟩
   ·refine zT hb (Jj (Jb (Jp (Ja (Jd (zE (Jb (Ja (zD (zR 3 ?_))))))))))
    obtain ⟨j14,h13,h11⟩:=Je h11
    refine Uv (tk:=1000000000) (k:=2) (N:=((a0:(List Jc)).map cellsOf).length) h13 (by kernel_rfl) ?_
    obtain ⟨x15,h14,h11⟩:=Je h11
    refine Vo (L:=(a0:(List Jc))) (N:=((a0:(List Jc)).map cellsOf).length) (j:=j14) (y:=x15) (v:=Enc.pv x15) h14 true 2 0 (by kernel_rfl) (by kernel_rfl) ?_
    refine zR 2 ?_
    obtain ⟨j16,h15,h11⟩:=Je h11
    refine Uv (tk:=1000000000) (k:=2) (N:=((a0:(List Jc)).map cellsOf).length) h15 (by kernel_rfl) ?_
    obtain ⟨x17,h16,h11⟩:=Je h11
    refine Vo (L:=(a0:(List Jc))) (N:=((a0:(List Jc)).map cellsOf).length) (j:=j16) (y:=x17) (v:=Enc.pv x17) h16 true 2 0 (by kernel_rfl) (by kernel_rfl) ?_
    obtain ⟨r18,h17,h11⟩:=Je h11
    refine zP (Bx _ _ r18 h17) (zE (Jb ?_))
    rcases Jl h11 with ⟨hb,h11⟩|⟨hb,h11⟩
    ·refine zT hb (Jd (zE (Jz ?_)))
     cases h11
     exact zB
    refine zU hb (Jd (zE (Jz ?_)))
    cases h11
    exact zB
   refine zU hb (Jy (Jv ?_))
   cases h11
   exact zX
  rintro x13 s' rfl hs
  have h:=Kb h
  refine Jt (Jb (Ka hs (Ja (Ja (Jd (zE (Jb (Jp ?_))))))))
  obtain ⟨o35,h35,h⟩:=Kk h
  refine zA 220 2 (fun (x27,x28)=>⟨[(0,.ex 1000000000 2 16 (((a0:(List Jc)).map cellsOf).length) 0 (((a0:(List Jc)).map cellsOf).length)),(10,.int .i64 x13),(13,.int .i64 x27)],[],[(1000000000,(((a0:(List Jc)).map cellsOf).length,0))],[(1000000000,(2,(16,(x28:(List Jc)).map cellsOf)))]⟩) (fun x37=>⟨[],[],[(1000000000,(((a0:(List Jc)).map cellsOf).length,0))],[(1000000000,(2,(16,(x37:(List Jc)).map cellsOf)))]⟩) h35 ?_ ?_
  ·rintro ⟨x27,x28⟩ oh34 h34
   unfold Wx at h34
   refine Ja (Ja (Jd (zE (Jb ?_))))
   rcases Jl h34 with ⟨hb,h34⟩|⟨hb,h34⟩
   ·refine zT hb (Jj (Jb (Ja (Jp (zD (zR 8 ?_))))))
    obtain ⟨j38,h36,h34⟩:=Je h34
    refine Uv (tk:=1000000000) (k:=2) (N:=((a0:(List Jc)).map cellsOf).length) h36 (by kernel_rfl) ?_
    obtain ⟨x39,h37,h34⟩:=Je h34
    refine Vo (L:=(x28:(List Jc))) (N:=((a0:(List Jc)).map cellsOf).length) (j:=j38) (y:=x39) (v:=Enc.pv x39) h37 true 2 0 (by kernel_rfl) (by kernel_rfl) ?_
    refine zR 2 ?_
    obtain ⟨j40,h38,h34⟩:=Je h34
    refine Uv (tk:=1000000000) (k:=2) (N:=((a0:(List Jc)).map cellsOf).length) h38 (by kernel_rfl) ?_
    obtain ⟨x41,h39,h34⟩:=Je h34
    refine Vo (L:=(x28:(List Jc))) (N:=((a0:(List Jc)).map cellsOf).length) (j:=j40) (y:=x41) (v:=Enc.pv x41) h39 true 2 0 (by kernel_rfl) (by kernel_rfl) ?_
    obtain ⟨j42,h40,h34⟩:=Je h34
    refine Uv (tk:=1000000000) (k:=2) (N:=((a0:(List Jc)).map cellsOf).length) h40 (by kernel_rfl) ?_
    obtain ⟨x43,h41,h34⟩:=Je h34
    refine Ev (L:=(x28:(List Jc))) (tk:=1000000000) (N:=((a0:(List Jc)).map cellsOf).length) (j:=j42) (y:=x43) (y':=x39) h41 0 2 [.int .i64 x39.Id,.int .i64 x39.At] (by kernel_rfl) (by kernel_rfl) ?_
    obtain ⟨j44,h42,h34⟩:=Je h34
    refine Uv (tk:=1000000000) (k:=2) (N:=((a0:(List Jc)).map cellsOf).length) h42 (by kernel_rfl) ?_
    obtain ⟨x45,h43,h34⟩:=Je h34
    refine Ev (L:=((x28.set j42 x39):(List Jc))) (tk:=1000000000) (N:=((a0:(List Jc)).map cellsOf).length) (j:=j44) (y:=x45) (y':=x41) h43 0 2 [.int .i64 x41.Id,.int .i64 x41.At] (by kernel_rfl) (by kernel_rfl) ?_
    refine zN (Jz (Jb (Jd (zE ?_))))
    cases h34
    exact zB
   refine zU hb (Jy (Jv ?_))
   cases h34
   exact zX
  rintro x37 s' rfl hs
  have h:=Kb h
  refine Jt (Jb (Ka hs (Jq (Jm ?_))))
  cases h
  exact Rj (by kernel_rfl)
 refine zU hb (Jj (Jb (Ja (Ja (Jd (zE (Jb ?_)))))))
 rcases Jl h with ⟨hb,h⟩|⟨hb,h⟩
 ·refine zT hb (Ja (Jd (zE (Jb (Ja (Jd (zE (Jb (Ja (Jp ?_))))))))))
  obtain ⟨o55,h55,h⟩:=Kk h
  refine zA 220 4 (fun (x51,x52)=>⟨[(0,.ex 1000000000 2 16 (((a0:(List Jc)).map cellsOf).length) 0 (((a0:(List Jc)).map cellsOf).length)),(2,.int .i64 a2),(4,.fn 248 []),(14,.int .i64 x51),(15,.int .i64 x52)],[],[(1000000000,(((a0:(List Jc)).map cellsOf).length,0))],[(1000000000,(2,(16,(a0:(List Jc)).map cellsOf)))]⟩) (fun x58=>⟨[(0,.ex 1000000000 2 16 (((a0:(List Jc)).map cellsOf).length) 0 (((a0:(List Jc)).map cellsOf).length)),(2,.int .i64 a2),(14,.int .i64 x58)],[],[(1000000000,(((a0:(List Jc)).map cellsOf).length,0))],[(1000000000,(2,(16,(a0:(List Jc)).map cellsOf)))]⟩) h55 ?_ ?_
  ·rintro ⟨x51,x52⟩ oh54 h54
   unfold Wv at h54
   refine Ja (Ja (Jd (zE (Jb ?_))))
   rcases Jl h54 with ⟨hb,h54⟩|⟨hb,h54⟩
   ·refine zT hb (Jj (Jb (Jp (Ja (Jd (zE (Jb (Ja (zD (zR 3 ?_))))))))))
    obtain ⟨j59,h56,h54⟩:=Je h54
    refine Uv (tk:=1000000000) (k:=2) (N:=((a0:(List Jc)).map cellsOf).length) h56 (by kernel_rfl) ?_
    obtain ⟨x60,h57,h54⟩:=Je h54
    refine Vo (L:=(a0:(List Jc))) (N:=((a0:(List Jc)).map cellsOf).length) (j:=j59) (y:=x60) (v:=Enc.pv x60) h57 true 2 0 (by kernel_rfl) (by kernel_rfl) ?_
    refine zR 2 ?_
    obtain ⟨j61,h58,h54⟩:=Je h54
    refine Uv (tk:=1000000000) (k:=2) (N:=((a0:(List Jc)).map cellsOf).length) h58 (by kernel_rfl) ?_
    obtain ⟨x62,h59,h54⟩:=Je h54
    refine Vo (L:=(a0:(List Jc))) (N:=((a0:(List Jc)).map cellsOf).length) (j:=j61) (y:=x62) (v:=Enc.pv x62) h59 true 2 0 (by kernel_rfl) (by kernel_rfl) ?_
    obtain ⟨r63,h60,h54⟩:=Je h54
    refine zP (Bx _ _ r63 h60) (zE (Jb ?_))
    rcases Jl h54 with ⟨hb,h54⟩|⟨hb,h54⟩
    ·refine zT hb (Jd (zE (Jz ?_)))
     cases h54
     exact zB
    refine zU hb (Jd (zE (Jz ?_)))
    cases h54
    exact zB
   refine zU hb (Jy (Jv ?_))
   cases h54
   exact zX
  rintro x58 s' rfl hs
  have h:=Kb h
  refine Jt (Jb (Ka hs (Ja (Ja (Jd (zE (Jb (Jp ?_))))))))
  obtain ⟨o78,h78,h⟩:=Kk h
  refine zA 220 6 (fun (x72,x73)=>⟨[(0,.ex 1000000000 2 16 (((a0:(List Jc)).map cellsOf).length) 0 (((a0:(List Jc)).map cellsOf).length)),(14,.int .i64 x58),(17,.int .i64 x72)],[],[(1000000000,(((a0:(List Jc)).map cellsOf).length,0))],[(1000000000,(2,(16,(x73:(List Jc)).map cellsOf)))]⟩) (fun x82=>⟨[],[],[(1000000000,(((a0:(List Jc)).map cellsOf).length,0))],[(1000000000,(2,(16,(x82:(List Jc)).map cellsOf)))]⟩) h78 ?_ ?_
  ·rintro ⟨x72,x73⟩ oh77 h77
   unfold Wu at h77
   refine Ja (Ja (Jd (zE (Jb ?_))))
   rcases Jl h77 with ⟨hb,h77⟩|⟨hb,h77⟩
   ·refine zT hb (Jj (Jb (Ja (Jp (zD (zR 8 ?_))))))
    obtain ⟨j83,h79,h77⟩:=Je h77
    refine Uv (tk:=1000000000) (k:=2) (N:=((a0:(List Jc)).map cellsOf).length) h79 (by kernel_rfl) ?_
    obtain ⟨x84,h80,h77⟩:=Je h77
    refine Vo (L:=(x73:(List Jc))) (N:=((a0:(List Jc)).map cellsOf).length) (j:=j83) (y:=x84) (v:=Enc.pv x84) h80 true 2 0 (by kernel_rfl) (by kernel_rfl) ?_
    refine zR 2 ?_
    obtain ⟨j85,h81,h77⟩:=Je h77
    refine Uv (tk:=1000000000) (k:=2) (N:=((a0:(List Jc)).map cellsOf).length) h81 (by kernel_rfl) ?_
    obtain ⟨x86,h82,h77⟩:=Je h77
    refine Vo (L:=(x73:(List Jc))) (N:=((a0:(List Jc)).map cellsOf).length) (j:=j85) (y:=x86) (v:=Enc.pv x86) h82 true 2 0 (by kernel_rfl) (by kernel_rfl) ?_
    obtain ⟨j87,h83,h77⟩:=Je h77
    refine Uv (tk:=1000000000) (k:=2) (N:=((a0:(List Jc)).map cellsOf).length) h83 (by kernel_rfl) ?_
    obtain ⟨x88,h84,h77⟩:=Je h77
    refine Ev (L:=(x73:(List Jc))) (tk:=1000000000) (N:=((a0:(List Jc)).map cellsOf).length) (j:=j87) (y:=x88) (y':=x84) h84 0 2 [.int .i64 x84.Id,.int .i64 x84.At] (by kernel_rfl) (by kernel_rfl) ?_
    obtain ⟨j89,h85,h77⟩:=Je h77
    refine Uv (tk:=1000000000) (k:=2) (N:=((a0:(List Jc)).map cellsOf).length) h85 (by kernel_rfl) ?_
    obtain ⟨x90,h86,h77⟩:=Je h77
    refine Ev (L:=((x73.set j87 x84):(List Jc))) (tk:=1000000000) (N:=((a0:(List Jc)).map cellsOf).length) (j:=j89) (y:=x90) (y':=x86) h86 0 2 [.int .i64 x86.Id,.int .i64 x86.At] (by kernel_rfl) (by kernel_rfl) ?_
    refine zN (Jz (Jb (Jd (zE ?_))))
    cases h77
    exact zB
   refine zU hb (Jy (Jv ?_))
   cases h77
   exact zX
  rintro x82 s' rfl hs
  have h:=Kb h
  refine Jt (Jb (Ka hs (Jq (Jm ?_))))
  cases h
  exact Rj (by kernel_rfl)
 refine zU hb (Jj (Jb (Ja (Jd (zE (Jb (Ja (Jd (zE (Jb (Ja (Jd (zE (Jb ?_))))))))))))))
 obtain ⟨o87,h87,h⟩:=Kk h
 refine Qp (o:=o87) 220 (fun (x91,x92)=>⟨[(0,.ex 1000000000 2 16 (((a0:(List Jc)).map cellsOf).length) 0 (((a0:(List Jc)).map cellsOf).length)),(1,.int .i64 a1),(2,.int .i64 a2),(3,.int .i64 a3),(4,.fn 248 []),(18,.int .i64 (w64 ((IntKind.u64.wrap (w64 (a1+a3))).fdiv 2))),(19,.int .i64 (w64 ((w64 ((IntKind.u64.wrap (w64 (a1+a3))).fdiv 2))+a2))),(20,.int .i64 x91),(21,.int .i64 x92)],[],[(1000000000,(((a0:(List Jc)).map cellsOf).length,0))],[(1000000000,(2,(16,(a0:(List Jc)).map cellsOf)))]⟩) ?_ ?_
 ·refine Ja (Jd (zE (Jb ?_)))
  rcases Jl h87 with ⟨hb,h87⟩|⟨hb,h87⟩
  ·refine zT hb (Ja (Jd (zE (Jb (Jd (zE ?_))))))
   cases h87
   exact zJ
  refine zU hb (Ja (Jd (zE (Jb (Jd (zE ?_))))))
  cases h87
  exact zJ
 rintro ⟨x91,x92⟩ rfl
 have h:=Kb h
 refine Ja (Jd (zE (Jb (Ja (Jp ?_)))))
 obtain ⟨o99,h99,h⟩:=Kk h
 refine zA 220 8 (fun (x98,x99)=>⟨[(0,.ex 1000000000 2 16 (((a0:(List Jc)).map cellsOf).length) 0 (((a0:(List Jc)).map cellsOf).length)),(1,.int .i64 a1),(2,.int .i64 a2),(3,.int .i64 a3),(4,.fn 248 []),(18,.int .i64 (w64 ((IntKind.u64.wrap (w64 (a1+a3))).fdiv 2))),(19,.int .i64 (w64 ((w64 ((IntKind.u64.wrap (w64 (a1+a3))).fdiv 2))+a2))),(20,.int .i64 x98),(21,.int .i64 x99),(22,.int .i64 (w64 ((w64 ((w64 ((IntKind.u64.wrap (w64 (a1+a3))).fdiv 2))+a2)) - 1)))],[],[(1000000000,(((a0:(List Jc)).map cellsOf).length,0))],[(1000000000,(2,(16,(a0:(List Jc)).map cellsOf)))]⟩) (fun x105=>⟨[(0,.ex 1000000000 2 16 (((a0:(List Jc)).map cellsOf).length) 0 (((a0:(List Jc)).map cellsOf).length)),(1,.int .i64 a1),(2,.int .i64 a2),(3,.int .i64 a3),(4,.fn 248 []),(18,.int .i64 (w64 ((IntKind.u64.wrap (w64 (a1+a3))).fdiv 2))),(19,.int .i64 (w64 ((w64 ((IntKind.u64.wrap (w64 (a1+a3))).fdiv 2))+a2))),(20,.int .i64 x105)],[],[(1000000000,(((a0:(List Jc)).map cellsOf).length,0))],[(1000000000,(2,(16,(a0:(List Jc)).map cellsOf)))]⟩) h99 ?_ ?_
 ·rintro ⟨x98,x99⟩ oh98 h98
  unfold Wz at h98
  refine Ja (Ja (Jd (zE (Jb ?_))))
  rcases Jl h98 with ⟨hb,h98⟩|⟨hb,h98⟩
  ·refine zT hb (Jj (Jb (Jp (Ja (Jd (zE (Jb (Ja (zD (zR 5 ?_))))))))))
   obtain ⟨j106,h100,h98⟩:=Je h98
   refine Uv (tk:=1000000000) (k:=2) (N:=((a0:(List Jc)).map cellsOf).length) h100 (by kernel_rfl) ?_
   obtain ⟨x107,h101,h98⟩:=Je h98
   refine Vo (L:=(a0:(List Jc))) (N:=((a0:(List Jc)).map cellsOf).length) (j:=j106) (y:=x107) (v:=Enc.pv x107) h101 true 2 0 (by kernel_rfl) (by kernel_rfl) ?_
   refine zR 2 ?_
   obtain ⟨j108,h102,h98⟩:=Je h98
   refine Uv (tk:=1000000000) (k:=2) (N:=((a0:(List Jc)).map cellsOf).length) h102 (by kernel_rfl) ?_
   obtain ⟨x109,h103,h98⟩:=Je h98
   refine Vo (L:=(a0:(List Jc))) (N:=((a0:(List Jc)).map cellsOf).length) (j:=j108) (y:=x109) (v:=Enc.pv x109) h103 true 2 0 (by kernel_rfl) (by kernel_rfl) ?_
   obtain ⟨r110,h104,h98⟩:=Je h98
   refine zP (Bx _ _ r110 h104) (zE (Jb ?_))
   rcases Jl h98 with ⟨hb,h98⟩|⟨hb,h98⟩
   ·refine zT hb (Jd (zE (Jz ?_)))
    cases h98
    exact zB
   refine zU hb (Jd (zE (Jz ?_)))
   cases h98
   exact zB
  refine zU hb (Jy (Jv ?_))
  cases h98
  exact zX
 rintro x105 s' rfl hs
 have h:=Kb h
 refine Jt (Jb (Ka hs (Ja (Jd (zE (Jb ?_))))))
 obtain ⟨o106,h106,h⟩:=Kk h
 refine Qp (o:=o106) 220 (fun x112=>⟨[(0,.ex 1000000000 2 16 (((a0:(List Jc)).map cellsOf).length) 0 (((a0:(List Jc)).map cellsOf).length)),(1,.int .i64 a1),(3,.int .i64 a3),(4,.fn 248 []),(18,.int .i64 (w64 ((IntKind.u64.wrap (w64 (a1+a3))).fdiv 2))),(20,.int .i64 x105),(24,.int .i64 (w64 ((w64 ((w64 ((IntKind.u64.wrap (w64 (a1+a3))).fdiv 2))+a2)) - x105)))],[],[(1000000000,(((a0:(List Jc)).map cellsOf).length,0))],[(1000000000,(2,(16,(x112:(List Jc)).map cellsOf)))]⟩) ?_ ?_
 ·refine Ja (Jd (zR 4 ?_))
  refine Ku 4 185 ((decide (x105<a2))&&(decide (a2<(w64 ((w64 ((w64 ((IntKind.u64.wrap (w64 (a1+a3))).fdiv 2))+a2)) - x105))))) (fun x hx=>?_) ?_
  ·rcases Vm hx with ⟨hb,hx⟩|⟨hb,hx⟩
   ·refine zS 181 hb ?_
    subst hx
    exact zF
   refine zS 181 hb ?_
   subst hx
   exact zF
  refine zN (Jb ?_)
  rcases Jl h106 with ⟨hb,h106⟩|⟨hb,h106⟩
  ·refine zT hb (Jd (zR 5 ?_))
   obtain ⟨r113,h107,h106⟩:=Je h106
   refine Dd (t:=1000000000) (L:=(a0:(List Jc))) (L':=(r113:(List Jc))) (N:=((a0:(List Jc)).map cellsOf).length) (by kernel_rfl) (by kernel_rfl) (by kernel_rfl) (Yr _ _ _ _ r113 h107) ?_
   refine zN ?_
   cases h106
   exact zJ
  refine zU hb (Jj ?_)
  cases h106
  exact zJ
 rintro x112 rfl
 have h:=Kb h
 obtain ⟨o109,h109,h⟩:=Kk h
 refine Qp (o:=o109) 220 (fun x115=>⟨[(0,.ex 1000000000 2 16 (((a0:(List Jc)).map cellsOf).length) 0 (((a0:(List Jc)).map cellsOf).length)),(3,.int .i64 a3),(4,.fn 248 []),(18,.int .i64 (w64 ((IntKind.u64.wrap (w64 (a1+a3))).fdiv 2))),(24,.int .i64 (w64 ((w64 ((w64 ((IntKind.u64.wrap (w64 (a1+a3))).fdiv 2))+a2)) - x105)))],[],[(1000000000,(((a0:(List Jc)).map cellsOf).length,0))],[(1000000000,(2,(16,(x115:(List Jc)).map cellsOf)))]⟩) ?_ ?_
 ·refine Ja (Jd (zR 4 ?_))
  refine Ku 4 199 ((decide (a1<x105))&&(decide (x105<(w64 ((IntKind.u64.wrap (w64 (a1+a3))).fdiv 2))))) (fun x hx=>?_) ?_
  ·rcases Vm hx with ⟨hb,hx⟩|⟨hb,hx⟩
   ·refine zS 195 hb ?_
    subst hx
    exact zF
   refine zS 195 hb ?_
   subst hx
   exact zF
  refine zN (Jb ?_)
  rcases Jl h109 with ⟨hb,h109⟩|⟨hb,h109⟩
  ·refine zT hb (Jd (zR 5 ?_))
   obtain ⟨r116,h110,h109⟩:=Je h109
   refine Dd (t:=1000000000) (L:=(x112:(List Jc))) (L':=(r116:(List Jc))) (N:=((a0:(List Jc)).map cellsOf).length) (by kernel_rfl) (by kernel_rfl) (by kernel_rfl) (hrc_d_slices_symMergeCmpFunc_api_Linked__linking_Of_c1 _ _ _ _ r116 h110) ?_
   refine zN ?_
   cases h109
   exact zJ
  refine zU hb (Jj ?_)
  cases h109
  exact zJ
 rintro x115 rfl
 have h:=Kb h
 refine Ja (Jd (zR 4 ?_))
 refine Ku 4 213 ((decide ((w64 ((IntKind.u64.wrap (w64 (a1+a3))).fdiv 2))<(w64 ((w64 ((w64 ((IntKind.u64.wrap (w64 (a1+a3))).fdiv 2))+a2)) - x105))))&&(decide ((w64 ((w64 ((w64 ((IntKind.u64.wrap (w64 (a1+a3))).fdiv 2))+a2)) - x105))<a3))) (fun x hx=>?_) ?_
 ·rcases Vm hx with ⟨hb,hx⟩|⟨hb,hx⟩
  ·refine zS 209 hb ?_
   subst hx
   exact zF
  refine zS 209 hb ?_
  subst hx
  exact zF
 refine zN (Jb ?_)
 rcases Jl h with ⟨hb,h⟩|⟨hb,h⟩
 ·refine zT hb (Jd (zR 5 ?_))
  obtain ⟨r117,h111,h⟩:=Je h
  refine Dd (t:=1000000000) (L:=(x115:(List Jc))) (L':=(r117:(List Jc))) (N:=((a0:(List Jc)).map cellsOf).length) (by kernel_rfl) (by kernel_rfl) (by kernel_rfl) (hrc_d_slices_symMergeCmpFunc_api_Linked__linking_Of_c1 _ _ _ _ r117 h111) ?_
  refine zN ?_
  cases h
  exact Rj (by kernel_rfl)
 refine zU hb (Jj ?_)
 cases h
 exact Rj (by kernel_rfl)
noncomputable def Qk (n:Nat):(List Jc)→Int→Int→Int→Option (List Jc):=Nat.rec (fun _ _ _ _=>none) (fun _ ih=>Ql ih) n
theorem Ux : ∀ (n:Nat) (a0:(List Jc)) (a1:Int) (a2:Int) (a3:Int) (r:(List Jc)),Qk n a0 a1 a2 a3=some r→Ma Tryz.prog GlS 278 2 16 (a0.map cellsOf) [Enc.pv a1,Enc.pv a2,Enc.pv a3,.fn 248 []] none (r.map cellsOf)
 | 0,_,_,_,_,_,h=>by cases h
 | n+1,a0,a1,a2,a3,r,h=>Uw (Qk n) (Ux n) a0 a1 a2 a3 r h
noncomputable def Qy (a0:(List Jc)) (a1:Int) (a2:Int) (a3:Int):Option (List Jc):=Ql (Qk Jdu) a0 a1 a2 a3
theorem Vb (a0:(List Jc)) (a1:Int) (a2:Int) (a3:Int) (r:(List Jc)) (h:Qy a0 a1 a2 a3=some r):Ma Tryz.prog GlS 278 2 16 (a0.map cellsOf) [Enc.pv a1,Enc.pv a2,Enc.pv a3,.fn 248 []] none (r.map cellsOf):=Uw (Qk Jdu) (Ux Jdu) a0 a1 a2 a3 r h
/-! slices.stableCmpFunc[api.Linked] -/
noncomputable def Yo (a1:Int):(Int×Int×(List Jc))→Option ((Int×Int×(List Jc))⊕(((List Jc)×Int)⊕(List Jc))):=fun (x2,x3,x4) =>
 bif decide (x3≤a1) then (
  (Qh x4 x2 x3).bind fun r8 =>
  some (.inl (x3,w64 (x3+20),r8))
 ) else (
  some (.inr (.inl (x4,x2)))
 )
noncomputable def Yl (a1:Int) (x21:Int):(Int×Int×(List Jc))→Option ((Int×Int×(List Jc))⊕(((List Jc)×Int)⊕((Int×(List Jc))⊕((List Jc)⊕(List Jc))))):=fun (x36,x37,x38) =>
 bif decide (x37≤a1) then (
  (Qy x38 x36 (w64 (x36+x21)) x37).bind fun r42 =>
  some (.inl (x37,w64 (x37+(w64 (2 * x21))),r42))
 ) else (
  some (.inr (.inl (x38,x36)))
 )
noncomputable def Yk (a1:Int):(Int×(List Jc))→Option ((Int×(List Jc))⊕((List Jc)⊕(List Jc))):=fun (x21,x22) =>
 bif decide (x21<a1) then (
  onInl (α:=((List Jc)×Int)) (β:=((Int×(List Jc))⊕((List Jc)⊕(List Jc)))) (Ko (Yl a1 x21) (0,w64 (2 * x21),x22)) fun (x40,x41) =>
  onInl (α:=(List Jc)) (β:=((Int×(List Jc))⊕((List Jc)⊕(List Jc)))) (
   bif decide ((w64 (x41+x21))<a1) then (
    (Qy x40 x41 (w64 (x41+x21)) a1).bind fun r45 =>
    some (.inl r45)
   ) else (
    some (.inl x40)
   )
  ) fun x44 =>
  some (.inl (w64 (x21 * 2),x44))
 ) else (
  some (.inr (.inl x22))
 )
noncomputable def Ua (a0:(List Jc)) (a1:Int):Option (List Jc) :=
 onInl (α:=((List Jc)×Int)) (β:=(List Jc)) (Ko (Yo a1) (0,20,a0)) fun (x6,x7) =>
 (Qh x6 x7 a1).bind fun r9 =>
 onInl (α:=(List Jc)) (β:=(List Jc)) (Ko (Yk a1) (20,r9)) fun x34 =>
 some x34
theorem Yp (a0:(List Jc)) (a1:Int) (r:(List Jc)) (h:Ua a0 a1=some r):Ma Tryz.prog GlS 274 2 16 (a0.map cellsOf) [Enc.pv a1,.fn 248 []] none (r.map cellsOf):=by
 unfold Ua at h
 refine Zt Tryz.func274 (by rfl) rfl Tryz.ntmps274 (by rfl) rfl ?_
 refine Ja (Jd (zE (Jb (Ja (Jd (zE (Jb (Ja (Jp ?_)))))))))
 obtain ⟨o4,h4,h⟩:=Kk h
 refine zA 63 0 (fun (x2,x3,x4)=>⟨[(0,.ex 1000000000 2 16 (((a0:(List Jc)).map cellsOf).length) 0 (((a0:(List Jc)).map cellsOf).length)),(1,.int .i64 a1),(2,.fn 248 []),(6,.int .i64 20),(7,.int .i64 x2),(8,.int .i64 x3)],[],[(1000000000,(((a0:(List Jc)).map cellsOf).length,0))],[(1000000000,(2,(16,(x4:(List Jc)).map cellsOf)))]⟩) (fun (x6,x7)=>⟨[(0,.ex 1000000000 2 16 (((a0:(List Jc)).map cellsOf).length) 0 (((a0:(List Jc)).map cellsOf).length)),(1,.int .i64 a1),(2,.fn 248 []),(6,.int .i64 20),(7,.int .i64 x7)],[],[(1000000000,(((a0:(List Jc)).map cellsOf).length,0))],[(1000000000,(2,(16,(x6:(List Jc)).map cellsOf)))]⟩) h4 ?_ ?_
 ·rintro ⟨x2,x3,x4⟩ oh3 h3
  unfold Yo at h3
  refine Ja (Ja (Jd (zE (Jb ?_))))
  rcases Jl h3 with ⟨hb,h3⟩|⟨hb,h3⟩
  ·refine zT hb (Jj (Jb (Jp (Ja (Jd (zR 4 ?_))))))
   obtain ⟨r8,h5,h3⟩:=Je h3
   refine Dd (t:=1000000000) (L:=(x4:(List Jc))) (L':=(r8:(List Jc))) (N:=((a0:(List Jc)).map cellsOf).length) (by kernel_rfl) (by kernel_rfl) (by kernel_rfl) (Um _ _ _ r8 h5) ?_
   refine zN (Jb (Ja (Jd (zE (Jb (Jd (zE (Jz ?_))))))))
   cases h3
   exact zB
  refine zU hb (Jy (Jv ?_))
  cases h3
  exact zX
 rintro ⟨x6,x7⟩ s' rfl hs
 have h:=Kb h
 refine Jt (Jb (Ka hs (Ja (Jd (zR 4 ?_)))))
 obtain ⟨r9,h6,h⟩:=Je h
 refine Dd (t:=1000000000) (L:=(x6:(List Jc))) (L':=(r9:(List Jc))) (N:=((a0:(List Jc)).map cellsOf).length) (by kernel_rfl) (by kernel_rfl) (by kernel_rfl) (Um _ _ _ r9 h6) ?_
 refine zN (Jb (Jp ?_))
 obtain ⟨o24,h24,h⟩:=Kk h
 refine zA 63 2 (fun (x21,x22)=>⟨[(0,.ex 1000000000 2 16 (((a0:(List Jc)).map cellsOf).length) 0 (((a0:(List Jc)).map cellsOf).length)),(1,.int .i64 a1),(2,.fn 248 []),(6,.int .i64 x21)],[],[(1000000000,(((a0:(List Jc)).map cellsOf).length,0))],[(1000000000,(2,(16,(x22:(List Jc)).map cellsOf)))]⟩) (fun x34=>⟨[],[],[(1000000000,(((a0:(List Jc)).map cellsOf).length,0))],[(1000000000,(2,(16,(x34:(List Jc)).map cellsOf)))]⟩) h24 ?_ ?_
 ·rintro ⟨x21,x22⟩ oh23 h23
  unfold Yk at h23
  refine Ja (Ja (Jd (zE (Jb ?_))))
  rcases Jl h23 with ⟨hb,h23⟩|⟨hb,h23⟩
  ·refine zT hb (Jj (Jb (Jp (Ja (Jd (zE (Jb (Ja (Jp ?_)))))))))
   obtain ⟨o28,h28,h23⟩:=Kk h23
   refine zA 63 4 (fun (x36,x37,x38)=>⟨[(0,.ex 1000000000 2 16 (((a0:(List Jc)).map cellsOf).length) 0 (((a0:(List Jc)).map cellsOf).length)),(1,.int .i64 a1),(2,.fn 248 []),(6,.int .i64 x21),(7,.int .i64 x36),(8,.int .i64 x37)],[],[(1000000000,(((a0:(List Jc)).map cellsOf).length,0))],[(1000000000,(2,(16,(x38:(List Jc)).map cellsOf)))]⟩) (fun (x40,x41)=>⟨[(0,.ex 1000000000 2 16 (((a0:(List Jc)).map cellsOf).length) 0 (((a0:(List Jc)).map cellsOf).length)),(1,.int .i64 a1),(2,.fn 248 []),(6,.int .i64 x21),(7,.int .i64 x41)],[],[(1000000000,(((a0:(List Jc)).map cellsOf).length,0))],[(1000000000,(2,(16,(x40:(List Jc)).map cellsOf)))]⟩) h28 ?_ ?_
   ·rintro ⟨x36,x37,x38⟩ oh27 h27
    unfold Yl at h27
    refine Ja (Ja (Jd (zE (Jb ?_))))
    rcases Jl h27 with ⟨hb,h27⟩|⟨hb,h27⟩
    ·refine zT hb (Jj (Jb (Jp (Ja (Jd (zR 7 ?_))))))
     obtain ⟨r42,h29,h27⟩:=Je h27
     refine Dd (t:=1000000000) (L:=(x38:(List Jc))) (L':=(r42:(List Jc))) (N:=((a0:(List Jc)).map cellsOf).length) (by kernel_rfl) (by kernel_rfl) (by kernel_rfl) (Vb _ _ _ _ r42 h29) ?_
     refine zN (Jb (Ja (Jd (zE (Jb (Jd (zE (Jz ?_))))))))
     cases h27
     exact zB
    refine zU hb (Jy (Jv ?_))
    cases h27
    exact zX
   rintro ⟨x40,x41⟩ s' rfl hs
   have h23:=Kb h23
   refine Jt (Jb (Ka hs ?_))
   obtain ⟨o31,h31,h23⟩:=Kk h23
   refine Qp (o:=o31) 63 (fun x44=>⟨[(0,.ex 1000000000 2 16 (((a0:(List Jc)).map cellsOf).length) 0 (((a0:(List Jc)).map cellsOf).length)),(1,.int .i64 a1),(2,.fn 248 []),(6,.int .i64 x21)],[],[(1000000000,(((a0:(List Jc)).map cellsOf).length,0))],[(1000000000,(2,(16,(x44:(List Jc)).map cellsOf)))]⟩) ?_ ?_
   ·refine Ja (Jd (zE (Jb (Ja (Jd (zE (Jb ?_)))))))
    rcases Jl h31 with ⟨hb,h31⟩|⟨hb,h31⟩
    ·refine zT hb (Jd (zR 5 ?_))
     obtain ⟨r45,h32,h31⟩:=Je h31
     refine Dd (t:=1000000000) (L:=(x40:(List Jc))) (L':=(r45:(List Jc))) (N:=((a0:(List Jc)).map cellsOf).length) (by kernel_rfl) (by kernel_rfl) (by kernel_rfl) (Vb _ _ _ _ r45 h32) ?_
     refine zN ?_
     cases h31
     exact zJ
    refine zU hb (Jj ?_)
    cases h31
    exact zJ
   rintro x44 rfl
   have h23:=Kb h23
   refine Jd (zE (Jz ?_))
   cases h23
   exact zB
  refine zU hb (Jy (Jv ?_))
  cases h23
  exact zX
 rintro x34 s' rfl hs
 have h:=Kb h
 refine Jt ?_
 cases h
 exact Jg1 hs (by kernel_rfl)
/-! slices.SortStableFunc[[]api.Linked,api.Linked] -/
noncomputable def Qz (a0:(List Jc)):Option (List Jc) :=
 (Ua a0 ((((a0:(List Jc)).map cellsOf).length:Nat):Int)).bind fun r1 =>
 some r1
theorem Yi (a0:(List Jc)) (r:(List Jc)) (h:Qz a0=some r):Ma Tryz.prog GlS 247 2 16 (a0.map cellsOf) [.fn 248 []] none (r.map cellsOf):=by
 unfold Qz at h
 refine Zt Tryz.func247 (by rfl) rfl Tryz.ntmps247 (by rfl) rfl ?_
 refine Jd (zR 4 ?_)
 obtain ⟨r1,h1,h⟩:=Je h
 refine Dd (t:=1000000000) (L:=(a0:(List Jc))) (L':=(r1:(List Jc))) (N:=((a0:(List Jc)).map cellsOf).length) (by kernel_rfl) (by kernel_rfl) (by kernel_rfl) (Yp _ _ r1 h1) ?_
 refine zN ?_
 cases h
 exact Rj (by kernel_rfl)
/-! linking.Of -/
noncomputable def Jcx (a3:Int) (x132:Int) (x134:(List (Int×(List Jx)))) (x192:Jf) (x194:Ke):(Int×(List Jc))→Option ((Int×(List Jc))⊕((List Jc)⊕(((List Jc)×(List (Int×(List Jx))))⊕((Int×Int×(List (Int×(List Jx)))×(List Jc))⊕((List Jc)⊕(List Jc)))))):=fun (x230,x231) =>
 bif decide (x230<((((Vy (x134:(List (Int×(List Jx)))) x192.El).getD ([]:(List Jx))).length:Nat):Int)) then (
  onInl (α:=(List Jc)) (β:=((Int×(List Jc))⊕((List Jc)⊕(((List Jc)×(List (Int×(List Jx))))⊕((Int×Int×(List (Int×(List Jx)))×(List Jc))⊕((List Jc)⊕(List Jc))))))) (
   (ixO ((Vy (x134:(List (Int×(List Jx)))) x192.El).getD ([]:(List Jx))) x230).bind fun x244 =>
   onInl (α:=Int) (β:=((List Jc)⊕((Int×(List Jc))⊕((List Jc)⊕(((List Jc)×(List (Int×(List Jx))))⊕((Int×Int×(List (Int×(List Jx)))×(List Jc))⊕((List Jc)⊕(List Jc)))))))) (
    bif decide (x192.In=1) then (
     some (.inl (w64 ((w64 (x132+x194.Length)) - x244.Offset)))
    ) else (
     some (.inl (w64 (x132+x244.Offset)))
    )
   ) fun x245 =>
   bif decide (x245≤a3) then (
    (Ut x231 [(Jc.mk x244.Id x245)]).bind fun x246 =>
    some (.inl x246)
   ) else (
    some (.inl x231)
   )
  ) fun x243 =>
  some (.inl (w64 (x230+1),x243))
 ) else (
  some (.inr (.inl x231))
 )
noncomputable def Jc9 (a0:Ji) (a1:(List Jf)) (a3:Int):(Int×Int×(List (Int×(List Jx)))×(List Jc))→Option ((Int×Int×(List (Int×(List Jx)))×(List Jc))⊕((List Jc)⊕(List Jc))):=fun (x132,x133,x134,x135) =>
 bif decide (x133<((a1.length:Nat):Int)) then (
  (ixO a1 x133).bind fun x192 =>
  ((bif decide (x192.El<0) then some true else (
   some (decide (((a0.Elements.length:Nat):Int)≤x192.El))
  )):Option Bool).bind fun b193 =>
  bif b193 then (
   some (.inr (.inr ([]:(List Jc))))
  ) else (
   (ixO a0.Elements x192.El).bind fun x194 =>
   onInl (α:=((List Jc)×(List (Int×(List Jx))))) (β:=((Int×Int×(List (Int×(List Jx)))×(List Jc))⊕((List Jc)⊕(List Jc)))) (
    (Lc x194.Kind x192).bind fun r222 =>
    bif r222 then (
     onInl (α:=(List Jc)) (β:=(((List Jc)×(List (Int×(List Jx))))⊕((Int×Int×(List (Int×(List Jx)))×(List Jc))⊕((List Jc)⊕(List Jc))))) (Ko (Jcx a3 x132 x134 x192 x194) (0,x135)) fun x239 =>
     some (.inl (x239,(Jn8 x192.El x134)))
    ) else (
     some (.inl (x135,x134))
    )
   ) fun (x220,x221) =>
   some (.inl (w64 (x132+x194.Length),w64 (x133+1),x221,x220))
  )
 ) else (
  some (.inr (.inl x135))
 )
noncomputable def Jaz (a0:Ji) (a1:(List Jf)) (a2:Int) (a3:Int):Option (List Jc) :=
 (Dp a0 a1).bind fun r1 =>
 bif (!r1) then (
  some ([]:(List Jc))
 ) else (
  (Jri (fun (x:Jx)=>x.El) a0.Balises).bind fun m2 =>
  onInl (α:=(List Jc)) (β:=(List Jc)) (Ko (Jc9 a0 a1 a3) (a2,0,m2,([]:(List Jc)))) fun x191 =>
  (Qz x191).bind fun r247 =>
  some r247
 )
theorem Jjn (a0:Ji) (a1:(List Jf)) (a2:Int) (a3:Int) (r:(List Jc)) (h:Jaz a0 a1 a2 a3=some r):Kj Tryz.prog GlS 179 [Enc.pv a0,Enc.pv a1,Enc.pv a2,Enc.pv a3] (Enc.pv r):=by
 unfold Jaz at h
 refine zC Tryz.func179 Tryz.ntmps179 ?_
 refine Ja (Jd (zE (Jb (Ja (Ja (Jd (zR 2 ?_)))))))
 obtain ⟨r1,h1,h⟩:=Je h
 refine zP (Fc _ _ r1 h1) (zE (Jb ?_))
 rcases Jl h with ⟨hb,h⟩|⟨hb,h⟩
 ·refine zT hb (Ja (Jd (zE (Jb (Jq (Jm ?_))))))
  cases h
  exact zQ
 refine zU hb (Jj (Jb (Ja (Jd (zE (Jb (Ja (Ja (Jd (zR 2 ?_))))))))))
 refine zL (L:=(a0.Balises:(List Jx))) ?_
 refine zE (Jb (Jp ?_))
 obtain ⟨m2,h2,h⟩:=Je h
 obtain ⟨em2,hz,hz2⟩:=Jp2 h2
 refine Jwh (κ:=Int) (ν:=Jx) a0.Balises (fun (x:Jx)=>x.El) 0 (fun (i:Nat) (m:List (Int×List Jx))=>Jbs ⟨[(1,Jn .frozen (a1:(List Jf))),(2,.int .i64 a2),(3,.int .i64 a3),(4,.ref 4 0),(9,.mp 24),(26,Jn .frozen (a0.Balises:(List Jx))),(27,.int .i64 ((a0.Balises.length:Nat):Int)),(28,.int .i64 ((i:Nat):Int))],[(4,.cells (cellsOf a0))],[],[]⟩ 116 24 (.mapo (esO m) (Enc.k Jx) (Enc.b Jx) Vg) (Pc m)) (fun (m:List (Int×List Jx))=>((⟨[(1,Jn .frozen (a1:(List Jf))),(2,.int .i64 a2),(3,.int .i64 a3),(4,.ref 4 0),(9,.mp 24)],(24,.map (Wg m))::[(4,.cells (cellsOf a0))],[],[]⟩:JS).st 116)) ?_ ?_ ?_ ?_
 ·exact Jww 24 (by kernel_rfl) (by kernel_rfl) (by decide) (by kernel_rfl)
 ·intro i x hx
  have hi:=Jhf hx
  refine Ja (Jd (zE (Jb (Ja ?_))))
  refine Xf (b:=decide (((i:Nat):Int)<((a0.Balises.length:Nat):Int))) (decide_eq_true (by omega)) (by kernel_rfl) ?_
  refine Jj (Jb (Ja (Jp (Ja (Jd (p_ix (Jsw hx) (by kernel_rfl) (zE (Jb (Jv9 (by kernel_rfl) (by kernel_rfl) (zR 6 ?_))))))))))
  refine Jz5 (m:=(grp (fun (x:Jx)=>x.El) (a0.Balises.take i))) (k:=x.El) (tk:=Vg) 24 (by kernel_rfl) (by kernel_rfl) ?_
  cases hf:Zv x.El (grp (fun (x:Jx)=>x.El) (a0.Balises.take i)) with
  | none =>
   refine zR 2 ?_
   refine Sy (α:=Jx) (tk:=41) (L:=([]:List Jx)) (ys:=[x]) (M:=[x]) (Jsd (n:=a0.Balises.length) (by simp; omega) hz) (by kernel_rfl) ?_
   refine Juc (m:=(grp (fun (x:Jx)=>x.El) (a0.Balises.take i))) (k:=x.El) (M:=[x]) (tk:=Vg) 41 24 (by kernel_rfl) (by kernel_rfl) ?_
   refine zN ?_
   refine Jz (Jb (Ka (Jwp (j:=⟨[(1,Jn .frozen (a1:(List Jf))),(2,.int .i64 a2),(3,.int .i64 a3),(4,.ref 4 0),(9,.mp 24),(26,Jn .frozen (a0.Balises:(List Jx))),(27,.int .i64 ((a0.Balises.length:Nat):Int)),(28,.int .i64 ((i:Nat):Int))],[(4,.cells (cellsOf a0))],[],[]⟩) (n:=116) 24 41 (fk:=(fun (x:Jx)=>x.El)) (x:=x) (m:=(grp (fun (x:Jx)=>x.El) (a0.Balises.take i))) (by decide) hf (by kernel_rfl) (by kernel_rfl) (by have h1:=Jqu (fun (x:Jx)=>x.El) (a0.Balises.take i); simp only [List.length_take] at h1; omega) (by kernel_rfl) (by kernel_rfl)) ?_))
   refine Jd (zE ?_)
   refine ⟨rfl, ?_⟩
   have hw:((i+1:Nat):Int)=w64 ((i:Int)+1):=(Jvz (by omega)).symm
   show Wkr _ (Jbs ⟨[(1,Jn .frozen (a1:(List Jf))),(2,.int .i64 a2),(3,.int .i64 a3),(4,.ref 4 0),(9,.mp 24),(26,Jn .frozen (a0.Balises:(List Jx))),(27,.int .i64 ((a0.Balises.length:Nat):Int)),(28,.int .i64 ((i+1:Nat):Int))],[(4,.cells (cellsOf a0))],[],[]⟩ 116 24 (.mapo (esO (Re (fun (x:Jx)=>x.El) x (grp (fun (x:Jx)=>x.El) (a0.Balises.take i)))) (Enc.k Jx) (Enc.b Jx) Vg) (Pc (Re (fun (x:Jx)=>x.El) x (grp (fun (x:Jx)=>x.El) (a0.Balises.take i)))))
   rw [hw]
   exact Jj0 24 (by kernel_rfl) (by kernel_rfl) (by kernel_rfl) (by kernel_rfl)
  | some y =>
   obtain ⟨q,M⟩:=y
   refine zR 2 ?_
   refine Jyv (α:=Jx) (tk:=Vg q) (L:=M) (ys:=[x]) (M:=M++[x]) (T:=Pc (grp (fun (x:Jx)=>x.El) (a0.Balises.take i))) (Jsd (Jnu hx hf) hz) (by kernel_rfl) (Jtc hf) (by kernel_rfl) ?_
   refine Juc (m:=(grp (fun (x:Jx)=>x.El) (a0.Balises.take i))) (k:=x.El) (M:=M++[x]) (tk:=Vg) (Vg q) 24 (by kernel_rfl) (by kernel_rfl) ?_
   refine zN ?_
   refine Jz (Jb (Ka (Jw8 (j:=⟨[(1,Jn .frozen (a1:(List Jf))),(2,.int .i64 a2),(3,.int .i64 a3),(4,.ref 4 0),(9,.mp 24),(26,Jn .frozen (a0.Balises:(List Jx))),(27,.int .i64 ((a0.Balises.length:Nat):Int)),(28,.int .i64 ((i:Nat):Int))],[(4,.cells (cellsOf a0))],[],[]⟩) (n:=116) 24 (fk:=(fun (x:Jx)=>x.El)) (x:=x) (m:=(grp (fun (x:Jx)=>x.El) (a0.Balises.take i))) hf (by kernel_rfl) (by kernel_rfl) (by kernel_rfl) (by kernel_rfl)) ?_))
   refine Jd (zE ?_)
   refine ⟨rfl, ?_⟩
   have hw:((i+1:Nat):Int)=w64 ((i:Int)+1):=(Jvz (by omega)).symm
   show Wkr _ (Jbs ⟨[(1,Jn .frozen (a1:(List Jf))),(2,.int .i64 a2),(3,.int .i64 a3),(4,.ref 4 0),(9,.mp 24),(26,Jn .frozen (a0.Balises:(List Jx))),(27,.int .i64 ((a0.Balises.length:Nat):Int)),(28,.int .i64 ((i+1:Nat):Int))],[(4,.cells (cellsOf a0))],[],[]⟩ 116 24 (.mapo (esO (Re (fun (x:Jx)=>x.El) x (grp (fun (x:Jx)=>x.El) (a0.Balises.take i)))) (Enc.k Jx) (Enc.b Jx) Vg) (Pc (Re (fun (x:Jx)=>x.El) x (grp (fun (x:Jx)=>x.El) (a0.Balises.take i)))))
   rw [hw]
   exact Jj0 24 (by kernel_rfl) (by kernel_rfl) (by kernel_rfl) (by kernel_rfl)
 ·intro m
  refine Ja (Jd (zE (Jb (Ja ?_))))
  refine Tw (b:=decide (((a0.Balises.length:Nat):Int)<((a0.Balises.length:Nat):Int))) (decide_eq_false (by omega)) (by kernel_rfl) ?_
  refine Jy (Jv ?_)
  exact ⟨rfl,Jxa (j:=⟨[(1,Jn .frozen (a1:(List Jf))),(2,.int .i64 a2),(3,.int .i64 a3),(4,.ref 4 0),(9,.mp 24)],[(4,.cells (cellsOf a0))],[],[]⟩) (m:=m) (tk:=Vg) 24 (by kernel_rfl) (by kernel_rfl) (by kernel_rfl)⟩
 intro s' hs
 rw [← em2] at hs
 refine Jt (Jb (Ka hs (Ja (Jd (zE (Jb (Ja (Jd (zE (Jb (Ja (Ja (Jd (zR 1 ?_))))))))))))))
 refine zL (L:=(a1:(List Jf))) ?_
 refine zE (Jb (Jp (Ka (Jgg 12 100012 2 16 (by kernel_rfl) (by kernel_rfl)) ?_)))
 obtain ⟨o177,h177,h⟩:=Kk h
 refine zA 116 2 (fun (x132,x133,x134,x135)=>⟨[(3,.int .i64 a3),(4,.ref 4 0),(9,.mp 24),(12,.ex 100012 2 16 (((x135:(List Jc)).map cellsOf).length) 0 (((x135:(List Jc)).map cellsOf).length)),(13,.int .i64 x132),(44,Jn .frozen (a1:(List Jf))),(45,.int .i64 ((a1.length:Nat):Int)),(46,.int .i64 x133)],[(4,.cells (cellsOf a0)),(24,.map (Wg (x134:(List (Int×(List Jx))))))],[(100012,(((x135:(List Jc)).map cellsOf).length,0))],[(100012,(2,(16,(x135:(List Jc)).map cellsOf)))]⟩) (fun x191=>⟨[(12,.ex 100012 2 16 (((x191:(List Jc)).map cellsOf).length) 0 (((x191:(List Jc)).map cellsOf).length))],[],[(100012,(((x191:(List Jc)).map cellsOf).length,0))],[(100012,(2,(16,(x191:(List Jc)).map cellsOf)))]⟩) h177 ?_ ?_
 ·rintro ⟨x132,x133,x134,x135⟩ oh176 h176
  unfold Jc9 at h176
  refine Ja (Jd (zE (Jb (Ja ?_))))
  rcases Jl h176 with ⟨hb,h176⟩|⟨hb,h176⟩
  ·refine zT hb (Jj (Jb (Ja (Jp (Ja (Jd ?_))))))
   obtain ⟨x192,h178,h176⟩:=Je h176
   refine zI h178 (zE (Jb (Ja (Ja (Jd ?_)))))
   obtain ⟨b193,h179,h176⟩:=Je h176
   refine zR 4 ?_
   refine Km 7 60 (.bool b193) ?_ ?_
   ·rcases Jl h179 with ⟨hb,h179⟩|⟨hb,h179⟩
    ·refine zS 53 hb ?_
     cases h179
     exact zF
    refine zS 53 hb (zR 4 ?_)
    refine zL (L:=(a0.Elements:(List Ke))) ?_
    cases h179
    exact zF
   refine zN (Jb ?_)
   rcases Jl h176 with ⟨hb,h176⟩|⟨hb,h176⟩
   ·refine zT hb (Ja (Jd (zE (Jb (Jq (Jm (Js (Jm ?_))))))))
    cases h176
    refine Kd fun he=>?_
    subst he
    have h180:=Kq h
    refine Js (Jm ?_)
    cases h180
    exact zQ
   refine zU hb (Jj (Jb (Ja (Jd (zR 4 ?_)))))
   obtain ⟨x194,h181,h176⟩:=Je h176
   refine zI h181 (zE (Jb ?_))
   obtain ⟨o206,h206,h176⟩:=Kk h176
   refine Qp (o:=o206) 116 (fun (x220,x221)=>⟨[(3,.int .i64 a3),(4,.ref 4 0),(9,.mp 24),(12,.ex 100012 2 16 (((x220:(List Jc)).map cellsOf).length) 0 (((x220:(List Jc)).map cellsOf).length)),(13,.int .i64 x132),(16,.ref 16 0),(44,Jn .frozen (a1:(List Jf))),(45,.int .i64 ((a1.length:Nat):Int)),(46,.int .i64 x133)],[(4,.cells (cellsOf a0)),(16,.cells (cellsOf x194)),(24,.map (Wg (x221:(List (Int×(List Jx))))))],[(100012,(((x220:(List Jc)).map cellsOf).length,0))],[(100012,(2,(16,(x220:(List Jc)).map cellsOf)))]⟩) ?_ ?_
   ·refine Ja (Jd (zR 3 ?_))
    obtain ⟨r222,h207,h206⟩:=Je h206
    refine zP (Jd9 _ _ r222 h207) (zN (Jb ?_))
    rcases Jl h206 with ⟨hb,h206⟩|⟨hb,h206⟩
    ·refine zT hb (Ja (Ja (Jd (zR 3 ?_))))
     refine Jci (m:=(x134:(List (Int×(List Jx))))) (k:=x192.El) ([]:(List Jx)) 24 (by kernel_rfl) (by kernel_rfl) ?_
     refine zL (L:=(((Vy (x134:(List (Int×(List Jx)))) x192.El).getD ([]:(List Jx))):(List Jx))) ?_
     refine zE (Jb (Jp ?_))
     obtain ⟨o223,h223,h206⟩:=Kk h206
     refine zA 116 4 (fun (x230,x231)=>⟨[(3,.int .i64 a3),(4,.ref 4 0),(9,.mp 24),(12,.ex 100012 2 16 (((x231:(List Jc)).map cellsOf).length) 0 (((x231:(List Jc)).map cellsOf).length)),(13,.int .i64 x132),(15,.ref 15 0),(16,.ref 16 0),(44,Jn .frozen (a1:(List Jf))),(45,.int .i64 ((a1.length:Nat):Int)),(46,.int .i64 x133),(74,Jn .frozen (((Vy (x134:(List (Int×(List Jx)))) x192.El).getD ([]:(List Jx))):(List Jx))),(75,.int .i64 ((((Vy (x134:(List (Int×(List Jx)))) x192.El).getD ([]:(List Jx))).length:Nat):Int)),(76,.int .i64 x230)],[(4,.cells (cellsOf a0)),(15,.cells (cellsOf x192)),(16,.cells (cellsOf x194)),(24,.map (Wg (x134:(List (Int×(List Jx))))))],[(100012,(((x231:(List Jc)).map cellsOf).length,0))],[(100012,(2,(16,(x231:(List Jc)).map cellsOf)))]⟩) (fun x239=>⟨[(3,.int .i64 a3),(4,.ref 4 0),(9,.mp 24),(12,.ex 100012 2 16 (((x239:(List Jc)).map cellsOf).length) 0 (((x239:(List Jc)).map cellsOf).length)),(13,.int .i64 x132),(15,.ref 15 0),(16,.ref 16 0),(44,Jn .frozen (a1:(List Jf))),(45,.int .i64 ((a1.length:Nat):Int)),(46,.int .i64 x133)],[(4,.cells (cellsOf a0)),(15,.cells (cellsOf x192)),(16,.cells (cellsOf x194)),(24,.map (Wg (x134:(List (Int×(List Jx))))))],[(100012,(((x239:(List Jc)).map cellsOf).length,0))],[(100012,(2,(16,(x239:(List Jc)).map cellsOf)))]⟩) h223 ?_ ?_
     ·rintro ⟨x230,x231⟩ oh222 h222
      unfold Jcx at h222
      refine Ja (Jd (zE (Jb (Ja ?_))))
      rcases Jl h222 with ⟨hb,h222⟩|⟨hb,h222⟩
      ·refine zT hb (Jj (Jb ?_))
       obtain ⟨o227,h227,h222⟩:=Kk h222
       refine Qp (o:=o227) 116 (fun x243=>⟨[(3,.int .i64 a3),(4,.ref 4 0),(9,.mp 24),(12,.ex 100012 2 16 (((x243:(List Jc)).map cellsOf).length) 0 (((x243:(List Jc)).map cellsOf).length)),(13,.int .i64 x132),(15,.ref 15 0),(16,.ref 16 0),(44,Jn .frozen (a1:(List Jf))),(45,.int .i64 ((a1.length:Nat):Int)),(46,.int .i64 x133),(74,Jn .frozen (((Vy (x134:(List (Int×(List Jx)))) x192.El).getD ([]:(List Jx))):(List Jx))),(75,.int .i64 ((((Vy (x134:(List (Int×(List Jx)))) x192.El).getD ([]:(List Jx))).length:Nat):Int)),(76,.int .i64 x230)],[(4,.cells (cellsOf a0)),(15,.cells (cellsOf x192)),(16,.cells (cellsOf x194)),(24,.map (Wg (x134:(List (Int×(List Jx))))))],[(100012,(((x243:(List Jc)).map cellsOf).length,0))],[(100012,(2,(16,(x243:(List Jc)).map cellsOf)))]⟩) ?_ ?_
       ·refine Jp (Ja (Jd ?_))
        obtain ⟨x244,h228,h227⟩:=Je h227
        refine zI h228 (zE (Jb (Ja (Jd (zE (Jb ?_))))))
        obtain ⟨o229,h229,h227⟩:=Kk h227
        refine Qp (o:=o229) 116 (fun x245=>⟨[(3,.int .i64 a3),(4,.ref 4 0),(9,.mp 24),(12,.ex 100012 2 16 (((x231:(List Jc)).map cellsOf).length) 0 (((x231:(List Jc)).map cellsOf).length)),(13,.int .i64 x132),(15,.ref 15 0),(16,.ref 16 0),(18,.ref 18 0),(19,.int .i64 x245),(44,Jn .frozen (a1:(List Jf))),(45,.int .i64 ((a1.length:Nat):Int)),(46,.int .i64 x133),(74,Jn .frozen (((Vy (x134:(List (Int×(List Jx)))) x192.El).getD ([]:(List Jx))):(List Jx))),(75,.int .i64 ((((Vy (x134:(List (Int×(List Jx)))) x192.El).getD ([]:(List Jx))).length:Nat):Int)),(76,.int .i64 x230)],[(4,.cells (cellsOf a0)),(15,.cells (cellsOf x192)),(16,.cells (cellsOf x194)),(18,.cells (cellsOf x244)),(24,.map (Wg (x134:(List (Int×(List Jx))))))],[(100012,(((x231:(List Jc)).map cellsOf).length,0))],[(100012,(2,(16,(x231:(List Jc)).map cellsOf)))]⟩) ?_ ?_
        ·refine Ja (Jd (zE (Jb ?_)))
         rcases Jl h229 with ⟨hb,h229⟩|⟨hb,h229⟩
         ·refine zT hb (Jd (zE ?_))
          cases h229
          exact zJ
         refine zU hb (Jj ?_)
         cases h229
         exact zJ
        rintro x245 rfl
        have h227:=Kb h227
        refine Ja (Jd (zE (Jb ?_)))
        rcases Jl h227 with ⟨hb,h227⟩|⟨hb,h227⟩
        ·refine zT hb (Jd (zR 6 ?_))
         obtain ⟨x246,h230,h227⟩:=Je h227
         refine Jq0 (tk:=100012) (N:=((x231:(List Jc)).map cellsOf).length) h230 (by kernel_rfl) (by kernel_rfl) (by kernel_rfl) ?_
         refine zE (Jz ?_)
         cases h227
         exact zJ
        refine zU hb (Jj (Jz ?_))
        cases h227
        exact zJ
       rintro x243 rfl
       have h222:=Kb h222
       refine Jd (zE ?_)
       cases h222
       exact zB
      refine zU hb (Jy (Jv ?_))
      cases h222
      exact zX
     rintro x239 s' rfl hs
     have h206:=Kb h206
     refine Jt (Jb (Ka hs (Jd (zR 3 ?_))))
     refine Jyi (m:=(x134:(List (Int×(List Jx))))) (k:=x192.El) 24 (by kernel_rfl) (by kernel_rfl) ?_
     refine zN ?_
     cases h206
     exact zJ
    refine zU hb (Jj ?_)
    cases h206
    exact zJ
   rintro ⟨x220,x221⟩ rfl
   have h176:=Kb h176
   refine Jd (zE (Jz (Jb (Jd (zE ?_)))))
   cases h176
   exact zB
  refine zU hb (Jy (Jv ?_))
  cases h176
  exact zX
 rintro x191 s' rfl hs
 have h:=Kb h
 refine Jt (Jb (Ka hs (Ja (Jd (zR 1 ?_)))))
 obtain ⟨r247,h231,h⟩:=Je h
 refine Dd (t:=100012) (L:=(x191:(List Jc))) (L':=(r247:(List Jc))) (N:=((x191:(List Jc)).map cellsOf).length) (by kernel_rfl) (by kernel_rfl) (by kernel_rfl) (Yi _ r247 h231) ?_
 refine zN (Jb (Ja (Jd (zE (Jb ?_)))))
 refine Ka (Bd (xss:=(r247:(List Jc)).map cellsOf) 100012 2 16 (((x191:(List Jc)).map cellsOf).length) [8,12,113,115] [] (by kernel_rfl) (by kernel_rfl) (by kernel_rfl) (by kernel_rfl)) ?_
 refine Jq ?_
 cases h
 exact zQ
/-! linking.find -/
noncomputable def Xc (a0:(List Jc)) (a2:Int):Int→Option (Int⊕(Unit⊕Int)):=fun x2 =>
 bif decide (x2<((a0.length:Nat):Int)) then (
  (ixO a0 x2).bind fun x4 =>
  bif decide (x4.Id=a2) then (
   some (.inr (.inr x2))
  ) else (
   some (.inl (w64 (x2+1)))
  )
 ) else (
  some (.inr (.inl ()))
 )
noncomputable def Pf (a0:(List Jc)) (a1:Int) (a2:Int):Option Int :=
 onInl (α:=Unit) (β:=Int) (Ko (Xc a0 a2) a1) fun _ =>
 some (-1)
theorem Jfz (a0:(List Jc)) (a1:Int) (a2:Int) (r:Int) (h:Pf a0 a1 a2=some r):Kj Tryz.prog GlS 272 [Enc.pv a0,Enc.pv a1,Enc.pv a2] (Enc.pv r):=by
 unfold Pf at h
 refine zC Tryz.func272 Tryz.ntmps272 ?_
 refine Ja (Jd (zE (Jb (Ja (Ja (Jd (zE (Jb (Jp ?_)))))))))
 obtain ⟨o6,h6,h⟩:=Kk h
 refine zA 23 0 (fun x2=>⟨[(0,Jn .frozen (a0:(List Jc))),(2,.int .i64 a2),(7,.int .i64 x2)],[],[],[]⟩) (fun (_:Unit)=>⟨[],[],[],[]⟩) h6 ?_ ?_
 ·rintro x2 oh5 h5
  unfold Xc at h5
  refine Ja (Ja (Jd (zR 2 ?_)))
  refine zL (L:=(a0:(List Jc))) ?_
  refine zE (Jb ?_)
  rcases Jl h5 with ⟨hb,h5⟩|⟨hb,h5⟩
  ·refine zT hb (Jj (Jb (Ja (Jp (Ja (Jd (zR 2 ?_)))))))
   obtain ⟨x4,h7,h5⟩:=Je h5
   refine zI h7 (zE (Jb ?_))
   rcases Jl h5 with ⟨hb,h5⟩|⟨hb,h5⟩
   ·refine zT hb (Ja (Jd (zE (Jb (Jq (Js (Jm ?_)))))))
    cases h5
    refine Kd fun he=>?_
    subst he
    have h8:=Kq h
    refine Js (Jm ?_)
    cases h8
    exact zQ
   refine zU hb (Jj (Jz (Jb (Jd (zE ?_)))))
   cases h5
   exact zB
  refine zU hb (Jy (Jv ?_))
  cases h5
  exact zX
 rintro _ s' rfl hs
 have h:=Kb h
 refine Jt (Jb (Ka hs (Ja (Jd (zE (Jb (Jq ?_)))))))
 cases h
 exact zQ
/-! linking.Valid -/
noncomputable def Sa (a0:(List Jc)):Int→Option (Int⊕(Unit⊕Bool)):=fun x7 =>
 bif decide (x7<((a0.length:Nat):Int)) then (
  (ixO a0 x7).bind fun x14 =>
  ((bif decide (0<x7) then (
   (ixO a0 (w64 (x7 - 1))).bind fun x16 =>
   some (decide (x14.At<x16.At))
  ) else some false):Option Bool).bind fun b15 =>
  ((bif b15 then some true else (
   (slO a0 none (some x7) none).bind fun x18 =>
   (Pf x18 0 x14.Id).bind fun r19 =>
   some (decide (0≤r19))
  )):Option Bool).bind fun b17 =>
  bif b17 then (
   some (.inr (.inr false))
  ) else (
   some (.inl (w64 (x7+1)))
  )
 ) else (
  some (.inr (.inl ()))
 )
noncomputable def Na (a0:(List Jc)):Option Bool :=
 bif decide (24<((a0.length:Nat):Int)) then (
  some false
 ) else (
  onInl (α:=Unit) (β:=Bool) (Ko (Sa a0) 0) fun _ =>
  some true
 )
theorem Jfa (a0:(List Jc)) (r:Bool) (h:Na a0=some r):Kj Tryz.prog GlS 236 [Enc.pv a0] (Enc.pv r):=by
 unfold Na at h
 refine zC Tryz.func236 Tryz.ntmps236 ?_
 refine Ja (Jd (zE (Jb (Ja (Ja (Jd (zR 1 ?_)))))))
 refine zL (L:=(a0:(List Jc))) ?_
 refine zE (Jb ?_)
 rcases Jl h with ⟨hb,h⟩|⟨hb,h⟩
 ·refine zT hb (Ja (Jd (zE (Jb (Jq (Jm ?_))))))
  cases h
  exact zQ
 refine zU hb (Jj (Jb (Ja (Ja (Jd (zR 1 ?_))))))
 refine zL (L:=(a0:(List Jc))) ?_
 refine zE (Jb (Jp ?_))
 obtain ⟨o16,h16,h⟩:=Kk h
 refine zA 38 0 (fun x7=>⟨[(0,Jn .frozen (a0:(List Jc))),(8,Jn .frozen (a0:(List Jc))),(9,.int .i64 ((a0.length:Nat):Int)),(10,.int .i64 x7)],[],[],[]⟩) (fun (_:Unit)=>⟨[],[],[],[]⟩) h16 ?_ ?_
 ·rintro x7 oh15 h15
  unfold Sa at h15
  refine Ja (Jd (zE (Jb (Ja ?_))))
  rcases Jl h15 with ⟨hb,h15⟩|⟨hb,h15⟩
  ·refine zT hb (Jj (Jb (Ja (Jp (Ja (Jd (zR 1 ?_)))))))
   obtain ⟨x14,h17,h15⟩:=Je h15
   refine zI h17 (zE (Jb (Ja (zD ?_))))
   obtain ⟨b15,h18,h15⟩:=Je h15
   refine zR 3 ?_
   refine Km 10 27 (.bool b15) ?_ ?_
   ·rcases Jl h18 with ⟨hb,h18⟩|⟨hb,h18⟩
    ·refine zS 17 hb (zR 5 ?_)
     obtain ⟨x16,h19,h18⟩:=Je h18
     refine zI h19 ?_
     cases h18
     exact zF
    refine zS 17 hb ?_
    cases h18
    exact zF
   obtain ⟨b17,h20,h15⟩:=Je h15
   refine zR 1 ?_
   refine Km 8 36 (.bool b17) ?_ ?_
   ·rcases Jl h20 with ⟨hb,h20⟩|⟨hb,h20⟩
    ·refine zS 28 hb ?_
     cases h20
     exact zF
    refine zS 28 hb (zR 2 ?_)
    obtain ⟨x18,h21,h20⟩:=Je h20
    refine Jvt h21 .frozen (by kernel_rfl) (by kernel_rfl) (by kernel_rfl) ?_
    refine zR 2 ?_
    obtain ⟨r19,h22,h20⟩:=Je h20
    refine zP (Jfz _ _ _ r19 h22) ?_
    cases h20
    exact zF
   refine zN (Jb ?_)
   rcases Jl h15 with ⟨hb,h15⟩|⟨hb,h15⟩
   ·refine zT hb (Ja (Jd (zE (Jb (Jq (Js (Jm ?_)))))))
    cases h15
    refine Kd fun he=>?_
    subst he
    have h23:=Kq h
    refine Js (Jm ?_)
    cases h23
    exact zQ
   refine zU hb (Jj (Jz (Jb (Jd (zE ?_)))))
   cases h15
   exact zB
  refine zU hb (Jy (Jv ?_))
  cases h15
  exact zX
 rintro _ s' rfl hs
 have h:=Kb h
 refine Jt (Jb (Ka hs (Ja (Jd (zE (Jb (Jq ?_)))))))
 cases h
 exact zQ
/-! authority.Valid -/
noncomputable def Ha (a0:Ks):Option Bool :=
 ((bif ((decide (1≤a0.Seq))&&(decide (a0.Seq≤1073741824))) then (
  (Yd a0.Profile).bind fun r2 =>
  some r2
 ) else some false):Option Bool).bind fun b1 =>
 ((bif (b1&&(decide (0<((a0.Profile.length:Nat):Int)))) then (
  (ixO a0.Profile (w64 (((a0.Profile.length:Nat):Int) - 1))).bind fun x4 =>
  some (decide (x4.To=a0.End))
 ) else some false):Option Bool).bind fun b3 =>
 ((bif b3 then (
  (Na a0.Links).bind fun r6 =>
  some r6
 ) else some false):Option Bool).bind fun b5 =>
 some b5
theorem Jcp (a0:Ks) (r:Bool) (h:Ha a0=some r):Kj Tryz.prog GlS 175 [Enc.pv a0] (Enc.pv r):=by
 unfold Ha at h
 refine zC Tryz.func175 Tryz.ntmps175 ?_
 refine Ja (Jd (zE (Jb (Ja (Jd (zR 2 ?_))))))
 refine zL (L:=(a0.Profile:(List Jh))) ?_
 refine zE (Jb (Ja (zD (zR 4 ?_))))
 refine Ku 4 14 ((decide (1≤a0.Seq))&&(decide (a0.Seq≤1073741824))) (fun x hx=>?_) ?_
 ·rcases Vm hx with ⟨hb,hx⟩|⟨hb,hx⟩
  ·refine zS 10 hb ?_
   subst hx
   exact zF
  refine zS 10 hb ?_
  subst hx
  exact zF
 obtain ⟨b1,h1,h⟩:=Je h
 refine zR 1 ?_
 refine Km 4 19 (.bool b1) ?_ ?_
 ·rcases Jl h1 with ⟨hb,h1⟩|⟨hb,h1⟩
  ·refine zS 15 hb (zR 2 ?_)
   obtain ⟨r2,h2,h1⟩:=Je h1
   refine zP (Za _ r2 h2) ?_
   cases h1
   exact zF
  refine zS 15 hb ?_
  cases h1
  exact zF
 refine zR 1 ?_
 refine Ku 3 23 (b1&&(decide (0<((a0.Profile.length:Nat):Int)))) (fun x hx=>?_) ?_
 ·rcases Vm hx with ⟨hb,hx⟩|⟨hb,hx⟩
  ·refine zS 20 hb ?_
   subst hx
   exact zF
  refine zS 20 hb ?_
  subst hx
  exact zF
 obtain ⟨b3,h3,h⟩:=Je h
 refine zR 1 ?_
 refine Km 11 35 (.bool b3) ?_ ?_
 ·rcases Jl h3 with ⟨hb,h3⟩|⟨hb,h3⟩
  ·refine zS 24 hb (zR 4 ?_)
   obtain ⟨x4,h4,h3⟩:=Je h3
   refine zI h4 ?_
   cases h3
   exact zF
  refine zS 24 hb ?_
  cases h3
  exact zF
 obtain ⟨b5,h5,h⟩:=Je h
 refine zR 1 ?_
 refine Km 4 40 (.bool b5) ?_ ?_
 ·rcases Jl h5 with ⟨hb,h5⟩|⟨hb,h5⟩
  ·refine zS 36 hb (zR 2 ?_)
   obtain ⟨r6,h6,h5⟩:=Je h5
   refine zP (Jfa _ r6 h6) ?_
   cases h5
   exact zF
  refine zS 36 hb ?_
  cases h5
  exact zF
 refine zE (Jb (Jq ?_))
 cases h
 exact zQ
/-! authority.Build -/
noncomputable def Ie (a0:Ji) (a1:Jg) (a2:(List Kf)) (a3:Int):Option (Ks×Int) :=
 (Dp a0 a1.Steps).bind fun r1 =>
 bif (((!r1)||(decide (a3<1)))||(decide (1073741824<a3))) then (
  some ((Ks.mk 0 0 [] []),1)
 ) else (
  (Jam a0 a1.Steps a1.Origin).bind fun r2 =>
  (Dy a2 a1.Steps a1.Origin a0 r2).bind fun r3 =>
  (Lt r3 a1.Origin a1.At).bind fun r4 =>
  (Jaz a0 a1.Steps a1.Origin a1.At).bind fun r5 =>
  (Ha (Ks.mk a3 a1.At r4 r5)).bind fun r6 =>
  bif (!r6) then (
   some ((Ks.mk 0 0 [] []),2)
  ) else (
   some ((Ks.mk a3 a1.At r4 r5),0)
  )
 )
set_option maxRecDepth 100000 in
theorem Jc3 (a0:Ji) (a1:Jg) (a2:(List Kf)) (a3:Int) (r:(Ks×Int)) (h:Ie a0 a1 a2 a3=some r):Kj Tryz.prog GlS 99 [Enc.pv a0,Enc.pv a1,Enc.pv a2,Enc.pv a3] (.tup [Enc.pv r.1,Enc.pv r.2]):=by
 unfold Ie at h
 refine Jl7 Tryz.func99 (by rfl) rfl Tryz.ntmps99 (by rfl) rfl ?_
 refine Jgk (Jd (zE (Jjy (Jgk (Ja (Jd (zR 3 ?_)))))))
 obtain ⟨r1,h1,h⟩:=Je h
 refine zP (Fc _ _ r1 h1) (zR 2 ?_)
 refine Ku 3 19 ((!r1)||(decide (a3<1))) (fun x hx=>?_) ?_
 ·rcases Vs hx with ⟨hb,hx⟩|⟨hb,hx⟩
  ·refine zS 16 hb ?_
   subst hx
   exact zF
  refine zS 16 hb ?_
  subst hx
  exact zF
 refine zR 1 ?_
 refine Ku 3 23 (((!r1)||(decide (a3<1)))||(decide (1073741824<a3))) (fun x hx=>?_) ?_
 ·rcases Vs hx with ⟨hb,hx⟩|⟨hb,hx⟩
  ·refine zS 20 hb ?_
   subst hx
   exact zF
  refine zS 20 hb ?_
  subst hx
  exact zF
 refine zN (Jb ?_)
 rcases Jl h with ⟨hb,h⟩|⟨hb,h⟩
 ·refine zT hb (Ja (Jd (zE (Jb (Jq (Jy1 ?_))))))
  cases h
  exact zQ
 refine zU hb (Jj (Jjy ?_))
 refine Jfu 1 174 [.ref 8 0,.ref 9 0] (by rfl) ?_
 refine zE ?_
 refine ⟨by kernel_rfl,by kernel_rfl,by kernel_rfl, ?_⟩
 refine Ja (zD (zR 11 ?_))
 obtain ⟨r2,h2,h⟩:=Je h
 refine zP (Jjf _ _ _ r2 h2) ?_
 obtain ⟨r3,h3,h⟩:=Je h
 refine zP (Jao _ _ _ _ _ r3 h3) (zE (Jb (Ja (zD (zR 8 ?_)))))
 obtain ⟨r4,h4,h⟩:=Je h
 refine zP (Jhc _ _ _ r4 h4) (zR 7 ?_)
 obtain ⟨r5,h5,h⟩:=Je h
 refine zP (Jjn _ _ _ _ r5 h5) (zE (Jb (Jq ?_)))
 refine Jy4 (caps:=[.ref 8 0,.ref 9 0]) (by kernel_rfl) Tryz.func174 (by rfl) rfl Tryz.ntmps174 (by rfl) ?_
 refine Ka ((Jag 1 (by kernel_rfl)).trans (.of (j:=⟨[(0,.ref 1008 0),(1,.ref 1009 0),(14,.ref 1008 0),(15,.ref 1009 0),(63,.fn 174 [.ref 1008 0,.ref 1009 0])],[(1008,.cells ([.int .i64 a3,.int .i64 a1.At,Jn .frozen (r4:(List Jh)),Jn .frozen (r5:(List Jc))])),(1009,.cells ([.int .i64 0]))],[],[]⟩) (n:=5800064) (by kernel_rfl) (by kernel_rfl))) ?_
 refine Ja (Jd (zR 1 ?_))
 obtain ⟨r6,h6,h⟩:=Je h
 refine zP (Jcp _ r6 h6) (zE (Jb ?_))
 rcases Jl h with ⟨hb,h⟩|⟨hb,h⟩
 ·refine zT hb (Jd (zE ?_))
  cases h
  exact Jey (by kernel_rfl) (by kernel_rfl) (by kernel_rfl)
 refine zU hb (Jj ?_)
 cases h
 exact Jey (by kernel_rfl) (by kernel_rfl) (by kernel_rfl)
/-! rbc.offer -/
noncomputable def Jdf (a0:Ji) (a1:(List Kf)) (a2:Jg):Option (Jg×Kc) :=
 onInl (α:=(Int×Int×Int×Int×Int×(List Jf)×(List Int)×(List Int)×(List Int)×(List Int)×Int×Int×Int×Int×Int)) (β:=(Jg×Kc)) (
  bif (!(decide (a2.CutSeq=0))) then (
   (Nj a0 a2).bind fun r17 =>
   some (.inl (3,r17.Id,r17.Origin,r17.End,r17.At,r17.Steps,r17.Routes,r17.Starts,r17.Ends,r17.Done,r17.Min,r17.Sent,r17.Accepted,r17.Cut,r17.CutSeq))
  ) else (
   some (.inl (2,a2.Id,a2.Origin,a2.End,a2.At,a2.Steps,a2.Routes,a2.Starts,a2.Ends,a2.Done,a2.Min,a2.Sent,a2.Accepted,a2.Cut,a2.CutSeq))
  )
 ) fun (x2,x3,x4,x5,x6,x7,x8,x9,x10,x11,x12,x13,x14,x15,x16) =>
 (Ie a0 (Jg.mk x3 x4 x5 x6 x7 x8 x9 x10 x11 x12 x13 x14 x15 x16) a1 (w64 (a2.Sent+1))).bind fun r18 =>
 bif (!(decide (r18.2=0))) then (
  some (a2,(Kc.mk 5 0 0 0 0 (Ks.mk 0 0 [] []) (Uh.mk 0 0 0 0 false)))
 ) else (
  some ((Jg.mk a2.Id a2.Origin a2.End a2.At a2.Steps a2.Routes a2.Starts a2.Ends a2.Done a2.Min (w64 (a2.Sent+1)) a2.Accepted a2.Cut a2.CutSeq),(Kc.mk x2 0 0 0 0 r18.1 (Uh.mk 0 0 0 0 false)))
 )
theorem Jlm (a0:Ji) (a1:(List Kf)) (a2:Jg) (r:(Jg×Kc)) (h:Jdf a0 a1 a2=some r):Kj Tryz.prog GlS 44 [Enc.pv a0,Enc.pv a1,Enc.pv a2] (.tup [Enc.pv r.1,Enc.pv r.2]):=by
 unfold Jdf at h
 refine zC Tryz.func44 Tryz.ntmps44 ?_
 refine Ja (Jd (zE (Jb (Ja (zD (zE (Jb ?_)))))))
 obtain ⟨o2,h2,h⟩:=Kk h
 refine Qp (o:=o2) 41 (fun (x2,x3,x4,x5,x6,x7,x8,x9,x10,x11,x12,x13,x14,x15,x16)=>⟨[(1,Jn .frozen (a1:(List Kf))),(3,.ref 3 0),(5,.ref 5 0),(6,.ref 6 0),(7,.ref 7 0),(8,.int .i64 x2),(9,.ref 9 0)],[(3,.cells (cellsOf a0)),(5,.cells (cellsOf a2)),(6,.cells ([.int .i64 0,.int .i64 0,.int .i64 0,.int .i64 0,.nil,.nil,.nil,.nil,.nil,.int .i64 0,.int .i64 0,.int .i64 0,.int .i64 0,.int .i64 0])),(7,.cells ([.int .i64 0,.int .i64 0,.int .i64 0,.int .i64 0,.int .i64 0,.int .i64 0,.int .i64 0,.nil,.nil,.int .i64 0,.int .i64 0,.int .i64 0,.int .i64 0,.bool false])),(9,.cells ([.int .i64 x3,.int .i64 x4,.int .i64 x5,.int .i64 x6,Jn .frozen (x7:(List Jf)),Jn .frozen (x8:(List Int)),Jn .frozen (x9:(List Int)),Jn .frozen (x10:(List Int)),Jn .frozen (x11:(List Int)),.int .i64 x12,.int .i64 x13,.int .i64 x14,.int .i64 x15,.int .i64 x16]))],[],[]⟩) ?_ ?_
 ·refine Ja (Jd (zE (Jb ?_)))
  rcases Jl h2 with ⟨hb,h2⟩|⟨hb,h2⟩
  ·refine zT hb (Jd (zR 2 ?_))
   obtain ⟨r17,h3,h2⟩:=Je h2
   refine zP (Je1 _ _ r17 h3) (zE ?_)
   cases h2
   exact zJ
  refine zU hb (Jj ?_)
  cases h2
  exact zJ
 rintro ⟨x2,x3,x4,x5,x6,x7,x8,x9,x10,x11,x12,x13,x14,x15,x16⟩ rfl
 have h:=Kb h
 refine Ja (Jd (zR 6 ?_))
 obtain ⟨r18,h4,h⟩:=Je h
 refine zP (Jc3 _ _ _ _ r18 h4) (zE (Jb (Ja (Ja (Jd (zE (Jb ?_)))))))
 rcases Jl h with ⟨hb,h⟩|⟨hb,h⟩
 ·refine zT hb (Ja (Jd (zE (Jb (Jq (Jm ?_))))))
  cases h
  exact zQ
 refine zU hb (Jj (Jb (Ja (Jd (zE (Jb (Ja ?_)))))))
 refine Jfd 41 ⟨[(6,.ref 6 0),(7,.ref 7 0)],[(6,.cells ([.int .i64 a2.Id,.int .i64 a2.Origin,.int .i64 a2.End,.int .i64 a2.At,Jn .frozen (a2.Steps:(List Jf)),Jn .frozen (a2.Routes:(List Int)),Jn .frozen (a2.Starts:(List Int)),Jn .frozen (a2.Ends:(List Int)),Jn .frozen (a2.Done:(List Int)),.int .i64 a2.Min,.int .i64 (w64 (a2.Sent+1)),.int .i64 a2.Accepted,.int .i64 a2.Cut,.int .i64 a2.CutSeq])),(7,.cells ([.int .i64 x2,.int .i64 0,.int .i64 0,.int .i64 0,.int .i64 0,.int .i64 r18.1.Seq,.int .i64 r18.1.End,Jn .frozen r18.1.Profile,Jn .frozen r18.1.Links,.int .i64 0,.int .i64 0,.int .i64 0,.int .i64 0,.bool false]))],[],[]⟩ (by kernel_rfl) ?_ ?_
 ·refine Wb [0,1] 4 (by kernel_rfl) ?_
  refine zR 2 (Kt (by kernel_rfl) ?_)
  refine Dq (n:=3) [2,4] (by kernel_rfl) ⟨?_, ?_,trivial⟩
  ·refine ⟨_,rfl, ?_⟩
   refine zR 1 (Kt (by kernel_rfl) ?_)
   refine Wb [3,4,5] 0 (by kernel_rfl) ?_
   refine zR 3 (Kt (by kernel_rfl) ?_)
   exact Wj (by kernel_rfl) (.of (by kernel_rfl) (by kernel_rfl))
  refine ⟨_,rfl, ?_⟩
  refine zR 1 (Kt (by kernel_rfl) ?_)
  refine Wb [2,3,5] 0 (by kernel_rfl) ?_
  refine zR 3 (Kt (by kernel_rfl) ?_)
  exact Wj (by kernel_rfl) (.of (by kernel_rfl) (by kernel_rfl))
 refine Jb (Jq ?_)
 cases h
 exact zQ
/-! session.copied[api.Segment] -/
noncomputable def Va (a0:(List Jh)):Option (List Jh) :=
 (Ut ([]:(List Jh)) a0).bind fun x1 =>
 (slO x1 none (some ((a0.length:Nat):Int)) (some ((a0.length:Nat):Int))).bind fun x2 =>
 some x2
theorem Ig (a0:(List Jh)) (r:(List Jh)) (h:Va a0=some r):Kj Tryz.prog GlS 100 [Enc.pv a0] (Enc.pv r):=by
 unfold Va at h
 refine zC Tryz.func100 Tryz.ntmps100 ?_
 refine Ja (Jd (zE (Jb (Ja (Jd (zR 1 ?_))))))
 obtain ⟨x1,h1,h⟩:=Je h
 refine Sy (tk:=5) h1 (by kernel_rfl) ?_
 refine zE (Jb (Ja (Jd (zR 2 ?_))))
 refine zL (L:=(a0:(List Jh))) ?_
 refine zR 1 ?_
 refine zL (L:=(a0:(List Jh))) ?_
 obtain ⟨x2,h2,h⟩:=Je h
 refine Jxj h2 (.own 5) (by kernel_rfl) (by kernel_rfl) (.inl ⟨rfl,rfl⟩) ?_
 refine zE (Jb (Jq ?_))
 cases h
 exact zQ
/-! session.copied[api.Linked] -/
noncomputable def Vf (a0:(List Jc)):Option (List Jc) :=
 (Ut ([]:(List Jc)) a0).bind fun x1 =>
 (slO x1 none (some ((a0.length:Nat):Int)) (some ((a0.length:Nat):Int))).bind fun x2 =>
 some x2
theorem Lg (a0:(List Jc)) (r:(List Jc)) (h:Vf a0=some r):Kj Tryz.prog GlS 101 [Enc.pv a0] (Enc.pv r):=by
 unfold Vf at h
 refine zC Tryz.func101 Tryz.ntmps101 ?_
 refine Ja (Jd (zE (Jb (Ja (Jd (zR 1 ?_))))))
 obtain ⟨x1,h1,h⟩:=Je h
 refine Sy (tk:=5) h1 (by kernel_rfl) ?_
 refine zE (Jb (Ja (Jd (zR 2 ?_))))
 refine zL (L:=(a0:(List Jc))) ?_
 refine zR 1 ?_
 refine zL (L:=(a0:(List Jc))) ?_
 obtain ⟨x2,h2,h⟩:=Je h
 refine Jxj h2 (.own 5) (by kernel_rfl) (by kernel_rfl) (.inl ⟨rfl,rfl⟩) ?_
 refine zE (Jb (Jq ?_))
 cases h
 exact zQ
end PM
