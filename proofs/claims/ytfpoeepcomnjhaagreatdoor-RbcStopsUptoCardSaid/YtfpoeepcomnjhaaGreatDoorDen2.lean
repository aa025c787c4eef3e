/-
 Plain functions for the program's functions, and the proofs that the program does them. Printed by den.py.
-/
import Derived.Test.YtfpoeepcomnjhaaGreatDoorDen1
namespace PM
open Go Go.RowKit Go.Proofs
attribute [local irreducible] Kp pwp
/-! signallingref14.Search -/
noncomputable def Xp (a0:Ji) (a1:Ju):(Int×Int×Int)→Option ((Int×Int×Int)⊕(Unit⊕(Jr×Int×Bool))):=fun (x13,x14,x15) =>
 bif decide (x13<4) then (
  (Zb a0 (Jo.mk x14 x15)).bind fun r28 =>
  bif (!r28.2) then (
   some (.inr (.inr ((Jr.mk 0 0),(-1),true)))
  ) else (
   (Hj a0 r28.1).bind fun r29 =>
   bif decide (0≤r29) then (
    some (.inr (.inr ((Jr.mk 0 0),r29,true)))
   ) else (
    (Oa a1.Path r28.1.El).bind fun r30 =>
    ((bif r30 then some true else (
     (Oa a1.Over r28.1.El).bind fun r32 =>
     some r32
    )):Option Bool).bind fun b31 =>
    bif b31 then (
     some (.inr (.inr ((Jr.mk 0 0),(-1),true)))
    ) else (
     ((bif decide (r28.1.El<0) then some true else (
      some (decide (((a0.Elements.length:Nat):Int)≤r28.1.El))
     )):Option Bool).bind fun b33 =>
     ((bif b33 then some true else (
      (ixO a0.Elements r28.1.El).bind fun x35 =>
      some ((decide (x35.Kind=2))&&(decide (r28.1.Side=0)))
     )):Option Bool).bind fun b34 =>
     bif b34 then (
      some (.inr (.inr ((Jr.mk 0 0),(-1),false)))
     ) else (
      (ixO a0.Elements r28.1.El).bind fun x36 =>
      bif decide (x36.Kind=2) then (
       (Jc5 a1 r28.1).bind fun r37 =>
       some (.inr (.inr (r37.1,r37.2.1,r37.2.2)))
      ) else (
       (ixO a0.Elements r28.1.El).bind fun x38 =>
       (Jdd x38.Kind r28.1.Side 0).bind fun r39 =>
       some (.inl (w64 (x13+1),r28.1.El,r39.1))
      )
     )
    )
   )
  )
 ) else (
  some (.inr (.inl ()))
 )
noncomputable def Ol (a0:Ji) (a1:Ju) (a2:Jo):Option (Jr×Int×Bool) :=
 onInl (α:=Unit) (β:=(Jr×Int×Bool)) (Ko (Xp a0 a1) (0,a2.El,a2.Side)) fun _ =>
 some ((Jr.mk 0 0),(-1),false)
theorem Jgs (a0:Ji) (a1:Ju) (a2:Jo) (r:(Jr×Int×Bool)) (h:Ol a0 a1 a2=some r):Kj Tryz.prog GlS 127 [Enc.pv a0,Enc.pv a1,Enc.pv a2] (.tup [Enc.pv r.1,Enc.pv r.2.1,Enc.pv r.2.2]):=by
 unfold Ol at h
 refine zC Tryz.func127 Tryz.ntmps127 ?_
 refine Ja (Jd (zE (Jb (Ja (Ja (Jd (zE (Jb (Jp ?_)))))))))
 obtain ⟨o36,h36,h⟩:=Kk h
 refine zA 107 0 (fun (x13,x14,x15)=>⟨[(3,.ref 3 0),(4,.ref 4 0),(5,.ref 5 0),(6,.ref 6 0),(9,.int .i64 x13)],[(3,.cells (cellsOf a0)),(4,.cells (cellsOf a1)),(5,.cells ([.int .i64 x14,.int .i64 x15])),(6,.cells ([.int .i64 0,.int .i64 0]))],[],[]⟩) (fun (_:Unit)=>⟨[(6,.ref 6 0)],[(6,.cells ([.int .i64 0,.int .i64 0]))],[],[]⟩) h36 ?_ ?_
 ·rintro ⟨x13,x14,x15⟩ oh35 h35
  unfold Xp at h35
  refine Ja (Ja (Jd (zE (Jb ?_))))
  rcases Jl h35 with ⟨hb,h35⟩|⟨hb,h35⟩
  ·refine zT hb (Jj (Jb (Ja (Jp (Ja (Jd (zR 2 ?_)))))))
   obtain ⟨r28,h37,h35⟩:=Je h35
   refine zP (Zm _ _ r28 h37) (zE (Jb (Ja (Ja (Jd (zE (Jb ?_)))))))
   rcases Jl h35 with ⟨hb,h35⟩|⟨hb,h35⟩
   ·refine zT hb (Ja (Jd (zE (Jb (Jq (Jm (Js (Jm ?_))))))))
    cases h35
    refine Kd fun he=>?_
    subst he
    have h38:=Kq h
    refine Js (Jm ?_)
    cases h38
    exact zQ
   refine zU hb (Jj (Jb (Ja (Jd (zR 2 ?_)))))
   obtain ⟨r29,h39,h35⟩:=Je h35
   refine zP (Rm _ _ r29 h39) (zE (Jb (Ja (Ja (Jd (zE (Jb ?_)))))))
   rcases Jl h35 with ⟨hb,h35⟩|⟨hb,h35⟩
   ·refine zT hb (Ja (Jd (zE (Jb (Jq (Jm (Js (Jm ?_))))))))
    cases h35
    refine Kd fun he=>?_
    subst he
    have h40:=Kq h
    refine Js (Jm ?_)
    cases h40
    exact zQ
   refine zU hb (Jj (Jb (Ja (Ja (Jd (zR 4 ?_))))))
   obtain ⟨r30,h41,h35⟩:=Je h35
   refine zP (Ja7 _ _ r30 h41) ?_
   obtain ⟨b31,h42,h35⟩:=Je h35
   refine zR 1 ?_
   refine Km 6 46 (.bool b31) ?_ ?_
   ·rcases Jl h42 with ⟨hb,h42⟩|⟨hb,h42⟩
    ·refine zS 40 hb ?_
     cases h42
     exact zF
    refine zS 40 hb (zR 4 ?_)
    obtain ⟨r32,h43,h42⟩:=Je h42
    refine zP (Ja7 _ _ r32 h43) ?_
    cases h42
    exact zF
   refine zN (Jb ?_)
   rcases Jl h35 with ⟨hb,h35⟩|⟨hb,h35⟩
   ·refine zT hb (Ja (Jd (zE (Jb (Jq (Jm (Js (Jm ?_))))))))
    cases h35
    refine Kd fun he=>?_
    subst he
    have h44:=Kq h
    refine Js (Jm ?_)
    cases h44
    exact zQ
   refine zU hb (Jj (Jb (Ja (Ja (Jd ?_)))))
   obtain ⟨b33,h45,h35⟩:=Je h35
   refine zR 4 ?_
   refine Km 7 58 (.bool b33) ?_ ?_
   ·rcases Jl h45 with ⟨hb,h45⟩|⟨hb,h45⟩
    ·refine zS 51 hb ?_
     cases h45
     exact zF
    refine zS 51 hb (zR 4 ?_)
    refine zL (L:=(a0.Elements:(List Ke))) ?_
    cases h45
    exact zF
   obtain ⟨b34,h46,h35⟩:=Je h35
   refine zR 1 ?_
   refine Km 14 73 (.bool b34) ?_ ?_
   ·rcases Jl h46 with ⟨hb,h46⟩|⟨hb,h46⟩
    ·refine zS 59 hb ?_
     cases h46
     exact zF
    refine zS 59 hb (zR 4 ?_)
    obtain ⟨x35,h47,h46⟩:=Je h46
    refine zI h47 (zR 4 ?_)
    refine Ph 4 72 ((decide (x35.Kind=2))&&(decide (r28.1.Side=0))) (fun x hx=>?_) ?_
    ·rcases Vm hx with ⟨hb,hx⟩|⟨hb,hx⟩
     ·refine zS 68 hb ?_
      subst hx
      exact zF
     refine zS 68 hb ?_
     subst hx
     exact zF
    cases h46
    exact zF
   refine zN (Jb ?_)
   rcases Jl h35 with ⟨hb,h35⟩|⟨hb,h35⟩
   ·refine zT hb (Ja (Jd (zE (Jb (Jq (Jm (Js (Jm ?_))))))))
    cases h35
    refine Kd fun he=>?_
    subst he
    have h48:=Kq h
    refine Js (Jm ?_)
    cases h48
    exact zQ
   refine zU hb (Jj (Jb (Ja (Ja (Jd (zR 4 ?_))))))
   obtain ⟨x36,h49,h35⟩:=Je h35
   refine zI h49 (zE (Jb ?_))
   rcases Jl h35 with ⟨hb,h35⟩|⟨hb,h35⟩
   ·refine zT hb (Ja (Jd (zR 2 ?_)))
    obtain ⟨r37,h50,h35⟩:=Je h35
    refine zP (Jlz _ _ r37 h50) (zE (Jb (Jq (Jm (Js (Jm ?_))))))
    cases h35
    refine Kd fun he=>?_
    subst he
    have h51:=Kq h
    refine Js (Jm ?_)
    cases h51
    exact zQ
   refine zU hb (Jj (Jb (Ja (zD (zR 4 ?_)))))
   obtain ⟨x38,h52,h35⟩:=Je h35
   refine zI h52 (zR 4 ?_)
   obtain ⟨r39,h53,h35⟩:=Je h35
   refine zP (Jj9 _ _ _ r39 h53) (zE (Jb (Jd (zE (Jz (Jb (Jd (zE ?_))))))))
   cases h35
   exact zB
  refine zU hb (Jy (Jv ?_))
  cases h35
  exact zX
 rintro _ s' rfl hs
 have h:=Kb h
 refine Jt (Jb (Ka hs (Ja (Jd (zE (Jb (Jq ?_)))))))
 cases h
 exact zQ
/-! signallingref14.put -/
noncomputable def Jei (a0:(List Jr)) (a1:Jr):(Bool×Int×(List Jr))→Option ((Bool×Int×(List Jr))⊕(((List Jr)×Bool)⊕(List Jr))):=fun (x24,x25,x26) =>
 bif decide (x25<((a0.length:Nat):Int)) then (
  onInl (α:=((List Jr)×Bool)) (β:=((Bool×Int×(List Jr))⊕(((List Jr)×Bool)⊕(List Jr)))) (
   ((bif (!x24) then (
    (ixO a0 x25).bind fun x45 =>
    some (decide (a1.El<x45.El))
   ) else some false):Option Bool).bind fun b44 =>
   bif b44 then (
    (Ut x26 [a1]).bind fun x46 =>
    some (.inl (x46,true))
   ) else (
    some (.inl (x26,x24))
   )
  ) fun (x42,x43) =>
  (ixO a0 x25).bind fun x47 =>
  (Ut x42 [x47]).bind fun x48 =>
  some (.inl (x43,w64 (x25+1),x48))
 ) else (
  some (.inr (.inl (x26,x24)))
 )
noncomputable def Jcg (a0:(List Jr)) (a1:Jr):Option (List Jr) :=
 (Gc a0 a1).bind fun r1 =>
 bif r1 then (
  some a0
 ) else (
  onInl (α:=((List Jr)×Bool)) (β:=(List Jr)) (Ko (Jei a0 a1) (false,0,([]:(List Jr)))) fun (x37,x38) =>
  onInl (α:=(List Jr)) (β:=(List Jr)) (
   bif (!x38) then (
    (Ut x37 [a1]).bind fun x51 =>
    some (.inl x51)
   ) else (
    some (.inl x37)
   )
  ) fun x50 =>
  some x50
 )
theorem Jkn (a0:(List Jr)) (a1:Jr) (r:(List Jr)) (h:Jcg a0 a1=some r):Kj Tryz.prog GlS 128 [Enc.pv a0,Enc.pv a1] (Enc.pv r):=by
 unfold Jcg at h
 refine zC Tryz.func128 Tryz.ntmps128 ?_
 refine Ja (Jd (zE (Jb (Ja (Ja (Jd (zR 2 ?_)))))))
 obtain ⟨r1,h1,h⟩:=Je h
 refine zP (Ib _ _ r1 h1) (zN (Jb ?_))
 rcases Jl h with ⟨hb,h⟩|⟨hb,h⟩
 ·refine zT hb (Ja (Jd (zE (Jb (Jq (Jm ?_))))))
  cases h
  exact zQ
 refine zU hb (Jj (Jb (Ja (Jd (zE (Jb (Ja (Jd (zE (Jb (Ja (Ja (Jd (zE ?_))))))))))))))
 refine Jb (Jp (Yn 5 100005 2 16 (by kernel_rfl) (by kernel_rfl) ?_))
 obtain ⟨o30,h30,h⟩:=Kk h
 refine zA 48 0 (fun (x24,x25,x26)=>⟨[(0,Jn .frozen (a0:(List Jr))),(3,.ref 3 0),(5,Jn (.own 100005) (x26:(List Jr))),(6,.bool x24),(7,.int .i64 x25)],[(3,.cells (cellsOf a1))],[(100005,(((x26).map cellsOf).length,2))],[]⟩) (fun (x37,x38)=>⟨[(3,.ref 3 0),(5,Jn (.own 100005) (x37:(List Jr))),(6,.bool x38)],[(3,.cells (cellsOf a1))],[(100005,(((x37).map cellsOf).length,2))],[]⟩) h30 ?_ ?_
 ·rintro ⟨x24,x25,x26⟩ oh29 h29
  unfold Jei at h29
  refine Ja (Ja (Jd (zR 2 ?_)))
  refine zL (L:=(a0:(List Jr))) ?_
  refine zE (Jb ?_)
  rcases Jl h29 with ⟨hb,h29⟩|⟨hb,h29⟩
  ·refine zT hb (Jj (Jb (Ja (Jp ?_))))
   obtain ⟨o34,h34,h29⟩:=Kk h29
   refine Qp (o:=o34) 48 (fun (x42,x43)=>⟨[(0,Jn .frozen (a0:(List Jr))),(3,.ref 3 0),(5,Jn (.own 100005) (x42:(List Jr))),(6,.bool x43),(7,.int .i64 x25)],[(3,.cells (cellsOf a1))],[(100005,(((x42).map cellsOf).length,2))],[]⟩) ?_ ?_
   ·refine Ja (zD ?_)
    obtain ⟨b44,h35,h34⟩:=Je h34
    refine zR 3 ?_
    refine Km 9 29 (.bool b44) ?_ ?_
    ·rcases Jl h35 with ⟨hb,h35⟩|⟨hb,h35⟩
     ·refine zS 20 hb (zR 2 ?_)
      obtain ⟨x45,h36,h35⟩:=Je h35
      refine zI h36 ?_
      cases h35
      exact zF
     refine zS 20 hb ?_
     cases h35
     exact zF
    refine zN (Jb ?_)
    rcases Jl h34 with ⟨hb,h34⟩|⟨hb,h34⟩
    ·refine zT hb (Ja (Jd (zR 3 ?_)))
     obtain ⟨x46,h37,h34⟩:=Je h34
     refine zW (tk:=100005) h37 ?_
     refine zE (Jb (Jd (zE ?_)))
     cases h34
     exact zJ
    refine zU hb (Jj ?_)
    cases h34
    exact zJ
   rintro ⟨x42,x43⟩ rfl
   have h29:=Kb h29
   refine Jd (zR 3 ?_)
   obtain ⟨x47,h38,h29⟩:=Je h29
   refine zI h38 (zR 2 ?_)
   obtain ⟨x48,h39,h29⟩:=Je h29
   refine zW (tk:=100005) h39 ?_
   refine zE (Jz (Jb (Jd (zE ?_))))
   cases h29
   exact zB
  refine zU hb (Jy (Jv ?_))
  cases h29
  exact zX
 rintro ⟨x37,x38⟩ s' rfl hs
 have h:=Kb h
 refine Jt (Jb (Ka hs ?_))
 obtain ⟨o41,h41,h⟩:=Kk h
 refine Qp (o:=o41) 48 (fun x50=>⟨[(5,Jn (.own 100005) (x50:(List Jr)))],[],[(100005,(((x50).map cellsOf).length,2))],[]⟩) ?_ ?_
 ·refine Ja (Jd (zE (Jb ?_)))
  rcases Jl h41 with ⟨hb,h41⟩|⟨hb,h41⟩
  ·refine zT hb (Jd (zR 3 ?_))
   obtain ⟨x51,h42,h41⟩:=Je h41
   refine zW (tk:=100005) h42 ?_
   refine zE ?_
   cases h41
   exact zJ
  refine zU hb (Jj ?_)
  cases h41
  exact zJ
 rintro x50 rfl
 have h:=Kb h
 refine Ja (Jd (zE (Jb (Jq ?_))))
 cases h
 exact zQ
/-! signallingref02.Has -/
noncomputable def Jet (a0:(List Int)) (a1:Int):Int→Option (Int⊕(Unit⊕Bool)):=fun x2 =>
 bif decide (x2<((a0.length:Nat):Int)) then (
  (ixO a0 x2).bind fun x4 =>
  bif decide (x4=a1) then (
   some (.inr (.inr true))
  ) else (
   some (.inl (w64 (x2+1)))
  )
 ) else (
  some (.inr (.inl ()))
 )
noncomputable def Jb2 (a0:(List Int)) (a1:Int):Option Bool :=
 onInl (α:=Unit) (β:=Bool) (Ko (Jet a0 a1) 0) fun _ =>
 some false
theorem Jlh (a0:(List Int)) (a1:Int) (r:Bool) (h:Jb2 a0 a1=some r):Kj Tryz.prog GlS 186 [Enc.pv a0,Enc.pv a1] (Enc.pv r):=by
 unfold Jb2 at h
 refine zC Tryz.func186 Tryz.ntmps186 ?_
 refine Ja (Jd (zE (Jb (Ja (Ja (Jd (zE (Jb (Jp ?_)))))))))
 obtain ⟨o6,h6,h⟩:=Kk h
 refine zA 18 0 (fun x2=>⟨[(0,Jn .frozen (a0:(List Int))),(1,.int .i64 a1),(5,.int .i64 x2)],[],[],[]⟩) (fun (_:Unit)=>⟨[],[],[],[]⟩) h6 ?_ ?_
 ·rintro x2 oh5 h5
  unfold Jet at h5
  refine Ja (Ja (Jd (zR 2 ?_)))
  refine zL (L:=(a0:(List Int))) ?_
  refine zE (Jb ?_)
  rcases Jl h5 with ⟨hb,h5⟩|⟨hb,h5⟩
  ·refine zT hb (Jj (Jb (Ja (Jp (Ja (Jd (zR 2 ?_)))))))
   obtain ⟨x4,h7,h5⟩:=Je h5
   refine zI h7 (zE (Jb ?_))
   rcases Jl h5 with ⟨hb,h5⟩|⟨hb,h5⟩
   ·refine zT hb (Ja (Jd (zE (Jb (Jq (Js (Jm ?_)))))))
    cases h5
    refine Kd fun he=>?_
    subst he
    have h8:=Kq h
    refine Js (Jm ?_)
    cases h8
    exact zQ
   refine zU hb (Jj (Jz (Jb (Jd (zE ?_)))))
   cases h5
   exact zB
  refine zU hb (Jy (Jv ?_))
  cases h5
  exact zX
 rintro _ s' rfl hs
 have h:=Kb h
 refine Jt (Jb (Ka hs (Ja (Jd (zE (Jb (Jq ?_)))))))
 cases h
 exact zQ
/-! signallingref02.insert -/
noncomputable def Tu (a0:(List Int)) (a1:Int):(Bool×Int×(List Int))→Option ((Bool×Int×(List Int))⊕(((List Int)×Bool)⊕(List Int))):=fun (x24,x25,x26) =>
 bif decide (x25<((a0.length:Nat):Int)) then (
  onInl (α:=((List Int)×Bool)) (β:=((Bool×Int×(List Int))⊕(((List Int)×Bool)⊕(List Int)))) (
   ((bif (!x24) then (
    (ixO a0 x25).bind fun x45 =>
    some (decide (a1<x45))
   ) else some false):Option Bool).bind fun b44 =>
   bif b44 then (
    (Ut x26 [a1]).bind fun x46 =>
    some (.inl (x46,true))
   ) else (
    some (.inl (x26,x24))
   )
  ) fun (x42,x43) =>
  (ixO a0 x25).bind fun x47 =>
  (Ut x42 [x47]).bind fun x48 =>
  some (.inl (x43,w64 (x25+1),x48))
 ) else (
  some (.inr (.inl (x26,x24)))
 )
noncomputable def Hb (a0:(List Int)) (a1:Int):Option (List Int) :=
 (Jb2 a0 a1).bind fun r1 =>
 bif r1 then (
  some a0
 ) else (
  onInl (α:=((List Int)×Bool)) (β:=(List Int)) (Ko (Tu a0 a1) (false,0,([]:(List Int)))) fun (x37,x38) =>
  onInl (α:=(List Int)) (β:=(List Int)) (
   bif (!x38) then (
    (Ut x37 [a1]).bind fun x51 =>
    some (.inl x51)
   ) else (
    some (.inl x37)
   )
  ) fun x50 =>
  some x50
 )
theorem Rp (a0:(List Int)) (a1:Int) (r:(List Int)) (h:Hb a0 a1=some r):Kj Tryz.prog GlS 108 [Enc.pv a0,Enc.pv a1] (Enc.pv r):=by
 unfold Hb at h
 refine zC Tryz.func108 Tryz.ntmps108 ?_
 refine Ja (Jd (zE (Jb (Ja (Ja (Jd (zR 2 ?_)))))))
 obtain ⟨r1,h1,h⟩:=Je h
 refine zP (Jlh _ _ r1 h1) (zN (Jb ?_))
 rcases Jl h with ⟨hb,h⟩|⟨hb,h⟩
 ·refine zT hb (Ja (Jd (zE (Jb (Jq (Jm ?_))))))
  cases h
  exact zQ
 refine zU hb (Jj (Jb (Ja (Jd (zE (Jb (Ja (Jd (zE (Jb (Ja (Ja (Jd (zE ?_))))))))))))))
 refine Jb (Jp (Yn 5 100005 1 8 (by kernel_rfl) (by kernel_rfl) ?_))
 obtain ⟨o30,h30,h⟩:=Kk h
 refine zA 46 0 (fun (x24,x25,x26)=>⟨[(0,Jn .frozen (a0:(List Int))),(1,.int .i64 a1),(5,Jn (.own 100005) (x26:(List Int))),(6,.bool x24),(7,.int .i64 x25)],[],[(100005,(((x26).map cellsOf).length,1))],[]⟩) (fun (x37,x38)=>⟨[(1,.int .i64 a1),(5,Jn (.own 100005) (x37:(List Int))),(6,.bool x38)],[],[(100005,(((x37).map cellsOf).length,1))],[]⟩) h30 ?_ ?_
 ·rintro ⟨x24,x25,x26⟩ oh29 h29
  unfold Tu at h29
  refine Ja (Ja (Jd (zR 2 ?_)))
  refine zL (L:=(a0:(List Int))) ?_
  refine zE (Jb ?_)
  rcases Jl h29 with ⟨hb,h29⟩|⟨hb,h29⟩
  ·refine zT hb (Jj (Jb (Ja (Jp ?_))))
   obtain ⟨o34,h34,h29⟩:=Kk h29
   refine Qp (o:=o34) 46 (fun (x42,x43)=>⟨[(0,Jn .frozen (a0:(List Int))),(1,.int .i64 a1),(5,Jn (.own 100005) (x42:(List Int))),(6,.bool x43),(7,.int .i64 x25)],[],[(100005,(((x42).map cellsOf).length,1))],[]⟩) ?_ ?_
   ·refine Ja (Jd ?_)
    obtain ⟨b44,h35,h34⟩:=Je h34
    refine zR 3 ?_
    refine Km 7 27 (.bool b44) ?_ ?_
    ·rcases Jl h35 with ⟨hb,h35⟩|⟨hb,h35⟩
     ·refine zS 20 hb (zR 2 ?_)
      obtain ⟨x45,h36,h35⟩:=Je h35
      refine zI h36 ?_
      cases h35
      exact zF
     refine zS 20 hb ?_
     cases h35
     exact zF
    refine zN (Jb ?_)
    rcases Jl h34 with ⟨hb,h34⟩|⟨hb,h34⟩
    ·refine zT hb (Ja (Jd (zR 3 ?_)))
     obtain ⟨x46,h37,h34⟩:=Je h34
     refine zW (tk:=100005) h37 ?_
     refine zE (Jb (Jd (zE ?_)))
     cases h34
     exact zJ
    refine zU hb (Jj ?_)
    cases h34
    exact zJ
   rintro ⟨x42,x43⟩ rfl
   have h29:=Kb h29
   refine Jd (zR 3 ?_)
   obtain ⟨x47,h38,h29⟩:=Je h29
   refine zI h38 (zR 2 ?_)
   obtain ⟨x48,h39,h29⟩:=Je h29
   refine zW (tk:=100005) h39 ?_
   refine zE (Jz (Jb (Jd (zE ?_))))
   cases h29
   exact zB
  refine zU hb (Jy (Jv ?_))
  cases h29
  exact zX
 rintro ⟨x37,x38⟩ s' rfl hs
 have h:=Kb h
 refine Jt (Jb (Ka hs ?_))
 obtain ⟨o41,h41,h⟩:=Kk h
 refine Qp (o:=o41) 46 (fun x50=>⟨[(5,Jn (.own 100005) (x50:(List Int)))],[],[(100005,(((x50).map cellsOf).length,1))],[]⟩) ?_ ?_
 ·refine Ja (Jd (zE (Jb ?_)))
  rcases Jl h41 with ⟨hb,h41⟩|⟨hb,h41⟩
  ·refine zT hb (Jd (zR 3 ?_))
   obtain ⟨x51,h42,h41⟩:=Je h41
   refine zW (tk:=100005) h42 ?_
   refine zE ?_
   cases h41
   exact zJ
  refine zU hb (Jj ?_)
  cases h41
  exact zJ
 rintro x50 rfl
 have h:=Kb h
 refine Ja (Jd (zE (Jb (Jq ?_))))
 cases h
 exact zQ
/-! signallingref02.Make -/
noncomputable def Jdl (a0:(List Int)):(Int×(List Int))→Option ((Int×(List Int))⊕((List Int)⊕(List Int))):=fun (x6,x7) =>
 bif decide (x6<((a0.length:Nat):Int)) then (
  (ixO a0 x6).bind fun x11 =>
  (Hb x7 x11).bind fun r12 =>
  some (.inl (w64 (x6+1),r12))
 ) else (
  some (.inr (.inl x7))
 )
noncomputable def Xx (a0:(List Int)):Option (List Int) :=
 onInl (α:=(List Int)) (β:=(List Int)) (Ko (Jdl a0) (0,([]:(List Int)))) fun x10 =>
 some x10
theorem Ji6 (a0:(List Int)) (r:(List Int)) (h:Xx a0=some r):Kj Tryz.prog GlS 56 [Enc.pv a0] (Enc.pv r):=by
 unfold Xx at h
 refine zC Tryz.func56 Tryz.ntmps56 ?_
 refine Ja (Jd (zE (Jb (Ja (Jd (zE (Jb (Ja (Ja (Jd (zE (Jb (Jp ?_)))))))))))))
 obtain ⟨o8,h8,h⟩:=Kk h
 refine zA 18 0 (fun (x6,x7)=>⟨[(0,Jn .frozen (a0:(List Int))),(3,Jn .frozen (x7:(List Int))),(4,.int .i64 x6)],[],[],[]⟩) (fun x10=>⟨[(3,Jn .frozen (x10:(List Int)))],[],[],[]⟩) h8 ?_ ?_
 ·rintro ⟨x6,x7⟩ oh7 h7
  unfold Jdl at h7
  refine Ja (Ja (Jd (zR 2 ?_)))
  refine zL (L:=(a0:(List Int))) ?_
  refine zE (Jb ?_)
  rcases Jl h7 with ⟨hb,h7⟩|⟨hb,h7⟩
  ·refine zT hb (Jj (Jb (Ja (Jp (Jd (zR 3 ?_))))))
   obtain ⟨x11,h9,h7⟩:=Je h7
   refine zI h9 (zR 1 ?_)
   obtain ⟨r12,h10,h7⟩:=Je h7
   refine zP (Rp _ _ r12 h10) (zE (Jz (Jb (Jd (zE ?_)))))
   cases h7
   exact zB
  refine zU hb (Jy (Jv ?_))
  cases h7
  exact zX
 rintro x10 s' rfl hs
 have h:=Kb h
 refine Jt (Jb (Ka hs (Ja (Jd (zE (Jb (Jq ?_)))))))
 cases h
 exact zQ
/-! signallingref02.Union -/
noncomputable def Jbg (a1:(List Int)):((List Int)×Int)→Option (((List Int)×Int)⊕((List Int)⊕(List Int))):=fun (x4,x5) =>
 bif decide (x5<((a1.length:Nat):Int)) then (
  (ixO a1 x5).bind fun x9 =>
  (Hb x4 x9).bind fun r10 =>
  some (.inl (r10,w64 (x5+1)))
 ) else (
  some (.inr (.inl x4))
 )
noncomputable def Th (a0:(List Int)) (a1:(List Int)):Option (List Int) :=
 (Xx a0).bind fun r1 =>
 onInl (α:=(List Int)) (β:=(List Int)) (Ko (Jbg a1) (r1,0)) fun x8 =>
 some x8
theorem Jhh (a0:(List Int)) (a1:(List Int)) (r:(List Int)) (h:Th a0 a1=some r):Kj Tryz.prog GlS 129 [Enc.pv a0,Enc.pv a1] (Enc.pv r):=by
 unfold Th at h
 refine zC Tryz.func129 Tryz.ntmps129 ?_
 refine Ja (Jd (zE (Jb (Ja (Jd (zR 1 ?_))))))
 obtain ⟨r1,h1,h⟩:=Je h
 refine zP (Ji6 _ r1 h1) (zE (Jb (Ja (Ja (Jd (zE (Jb (Jp ?_))))))))
 obtain ⟨o7,h7,h⟩:=Kk h
 refine zA 22 0 (fun (x4,x5)=>⟨[(1,Jn .frozen (a1:(List Int))),(5,Jn .frozen (x4:(List Int))),(6,.int .i64 x5)],[],[],[]⟩) (fun x8=>⟨[(5,Jn .frozen (x8:(List Int)))],[],[],[]⟩) h7 ?_ ?_
 ·rintro ⟨x4,x5⟩ oh6 h6
  unfold Jbg at h6
  refine Ja (Ja (Jd (zR 2 ?_)))
  refine zL (L:=(a1:(List Int))) ?_
  refine zE (Jb ?_)
  rcases Jl h6 with ⟨hb,h6⟩|⟨hb,h6⟩
  ·refine zT hb (Jj (Jb (Ja (Jp (Jd (zR 3 ?_))))))
   obtain ⟨x9,h8,h6⟩:=Je h6
   refine zI h8 (zR 1 ?_)
   obtain ⟨r10,h9,h6⟩:=Je h6
   refine zP (Rp _ _ r10 h9) (zE (Jz (Jb (Jd (zE ?_)))))
   cases h6
   exact zB
  refine zU hb (Jy (Jv ?_))
  cases h6
  exact zX
 rintro x8 s' rfl hs
 have h:=Kb h
 refine Jt (Jb (Ka hs (Ja (Jd (zE (Jb (Jq ?_)))))))
 cases h
 exact zQ
/-! signallingref14.Find -/
noncomputable def Jch (a0:Ji) (a1:Ju) (r1:(List Jo)):(Int×(List Jr)×(List Int)×(List Jo))→Option ((Int×(List Jr)×(List Int)×(List Jo))⊕(((List Jr)×(List Int)×(List Jo))⊕Ju)):=fun (x55,x56,x57,x58) =>
 bif decide (x55<((r1.length:Nat):Int)) then (
  onInl (α:=((List Jr)×(List Int)×(List Jo))) (β:=((Int×(List Jr)×(List Int)×(List Jo))⊕(((List Jr)×(List Int)×(List Jo))⊕Ju))) (
   (ixO r1 x55).bind fun x101 =>
   (Ol a0 (Ju.mk a1.Name a1.Entry a1.Exit a1.Path a1.Points a1.Sections a1.Approach a1.Length a1.Over a1.OverPoints a1.OverSections x56 x57 x58) x101).bind fun r102 =>
   onInl (α:=(List Jo)) (β:=(((List Jr)×(List Int)×(List Jo))⊕((Int×(List Jr)×(List Int)×(List Jo))⊕(((List Jr)×(List Int)×(List Jo))⊕Ju)))) (
    bif (!r102.2.2) then (
     (ixO r1 x55).bind fun x106 =>
     (Ut x58 [x106]).bind fun x107 =>
     some (.inl x107)
    ) else (
     some (.inl x58)
    )
   ) fun x105 =>
   onInl (α:=(List Jr)) (β:=(((List Jr)×(List Int)×(List Jo))⊕((Int×(List Jr)×(List Int)×(List Jo))⊕(((List Jr)×(List Int)×(List Jo))⊕Ju)))) (
    bif (!(decide (r102.1.Pos=0))) then (
     (Jcg x56 r102.1).bind fun r110 =>
     some (.inl r110)
    ) else (
     some (.inl x56)
    )
   ) fun x109 =>
   bif decide (0≤r102.2.1) then (
    (Th x57 [r102.2.1]).bind fun r111 =>
    some (.inl (x109,r111,x105))
   ) else (
    some (.inl (x109,x57,x105))
   )
  ) fun (x98,x99,x100) =>
  some (.inl (w64 (x55+1),x98,x99,x100))
 ) else (
  some (.inr (.inl (x56,x57,x58)))
 )
noncomputable def Xw (a0:Ji) (a1:Ju):Option Ju :=
 (Sj a0 (Ju.mk a1.Name a1.Entry a1.Exit a1.Path a1.Points a1.Sections a1.Approach a1.Length a1.Over a1.OverPoints a1.OverSections [] [] [])).bind fun r1 =>
 onInl (α:=((List Jr)×(List Int)×(List Jo))) (β:=Ju) (Ko (Jch a0 a1 r1) (0,([]:(List Jr)),([]:(List Int)),([]:(List Jo)))) fun (x84,x85,x86) =>
 some (Ju.mk a1.Name a1.Entry a1.Exit a1.Path a1.Points a1.Sections a1.Approach a1.Length a1.Over a1.OverPoints a1.OverSections x84 x85 x86)
theorem Jja (a0:Ji) (a1:Ju) (r:Ju) (h:Xw a0 a1=some r):Kj Tryz.prog GlS 67 [Enc.pv a0,Enc.pv a1] (Enc.pv r):=by
 unfold Xw at h
 refine zC Tryz.func67 Tryz.ntmps67 ?_
 refine Ja (Jd (zE (Jb (Ja (Jd (zE (Jb (Ja (Jd (zE (Jb (Ja (Jd (zE ?_))))))))))))))
 refine Jb (Ja (Jd (zR 2 ?_)))
 obtain ⟨r1,h1,h⟩:=Je h
 refine zP (Jh2 _ _ r1 h1) (zE (Jb (Ja (Ja (Jd (zE (Jb (Jp ?_))))))))
 refine Ka (Ho 3 13 200313 2 16 (cs:=[.str a1.Name,.int .i64 a1.Entry,.int .i64 a1.Exit,Jn .frozen (a1.Path:(List Jf)),Jn .frozen (a1.Points:(List Jr)),Jn .frozen (a1.Sections:(List Int)),.int .i64 a1.Approach,.int .i64 a1.Length,Jn .frozen (a1.Over:(List Jf)),Jn .frozen (a1.OverPoints:(List Jr)),Jn .frozen (a1.OverSections:(List Int)),.nil,.nil,.nil]) (by kernel_rfl) (by kernel_rfl) (by kernel_rfl)) ?_
 obtain ⟨o72,h72,h⟩:=Kk h
 refine zA 61 0 (fun (x55,x56,x57,x58)=>⟨[(2,.ref 2 0),(3,.ref 3 0),(4,.ref 4 0),(5,Jn (.own 115005) (r1:(List Jo))),(6,.int .i64 x55)],[(2,.cells (cellsOf a0)),(3,.cells ([.str a1.Name,.int .i64 a1.Entry,.int .i64 a1.Exit,Jn .frozen (a1.Path:(List Jf)),Jn .frozen (a1.Points:(List Jr)),Jn .frozen (a1.Sections:(List Int)),.int .i64 a1.Approach,.int .i64 a1.Length,Jn .frozen (a1.Over:(List Jf)),Jn .frozen (a1.OverPoints:(List Jr)),Jn .frozen (a1.OverSections:(List Int)),Jn .frozen (x56:(List Jr)),Jn .frozen (x57:(List Int)),Jn (.own 200313) (x58:(List Jo))])),(4,.cells ([.str ByteArray.empty,.int .i64 0,.int .i64 0,.nil,.nil,.nil,.int .i64 0,.int .i64 0,.nil,.nil,.nil,.nil,.nil,.nil]))],[(115005,(((r1).map cellsOf).length,2)),(200313,(((x58).map cellsOf).length,2))],[]⟩) (fun (x84,x85,x86)=>⟨[(3,.ref 3 0),(4,.ref 4 0)],[(3,.cells ([.str a1.Name,.int .i64 a1.Entry,.int .i64 a1.Exit,Jn .frozen (a1.Path:(List Jf)),Jn .frozen (a1.Points:(List Jr)),Jn .frozen (a1.Sections:(List Int)),.int .i64 a1.Approach,.int .i64 a1.Length,Jn .frozen (a1.Over:(List Jf)),Jn .frozen (a1.OverPoints:(List Jr)),Jn .frozen (a1.OverSections:(List Int)),Jn .frozen (x84:(List Jr)),Jn .frozen (x85:(List Int)),Jn (.own 200313) (x86:(List Jo))])),(4,.cells ([.str ByteArray.empty,.int .i64 0,.int .i64 0,.nil,.nil,.nil,.int .i64 0,.int .i64 0,.nil,.nil,.nil,.nil,.nil,.nil]))],[(200313,(((x86).map cellsOf).length,2))],[]⟩) h72 ?_ ?_
 ·rintro ⟨x55,x56,x57,x58⟩ oh71 h71
  unfold Jch at h71
  refine Ja (Ja (Jd (zR 2 ?_)))
  refine zL (L:=(r1:(List Jo))) ?_
  refine zE (Jb ?_)
  rcases Jl h71 with ⟨hb,h71⟩|⟨hb,h71⟩
  ·refine zT hb (Jj (Jb ?_))
   obtain ⟨o84,h84,h71⟩:=Kk h71
   refine Qp (o:=o84) 61 (fun (x98,x99,x100)=>⟨[(2,.ref 2 0),(3,.ref 3 0),(4,.ref 4 0),(5,Jn (.own 115005) (r1:(List Jo))),(6,.int .i64 x55)],[(2,.cells (cellsOf a0)),(3,.cells ([.str a1.Name,.int .i64 a1.Entry,.int .i64 a1.Exit,Jn .frozen (a1.Path:(List Jf)),Jn .frozen (a1.Points:(List Jr)),Jn .frozen (a1.Sections:(List Int)),.int .i64 a1.Approach,.int .i64 a1.Length,Jn .frozen (a1.Over:(List Jf)),Jn .frozen (a1.OverPoints:(List Jr)),Jn .frozen (a1.OverSections:(List Int)),Jn .frozen (x98:(List Jr)),Jn .frozen (x99:(List Int)),Jn (.own 200313) (x100:(List Jo))])),(4,.cells ([.str ByteArray.empty,.int .i64 0,.int .i64 0,.nil,.nil,.nil,.int .i64 0,.int .i64 0,.nil,.nil,.nil,.nil,.nil,.nil]))],[(115005,(((r1).map cellsOf).length,2)),(200313,(((x100).map cellsOf).length,2))],[]⟩) ?_ ?_
   ·refine Jp (Ja (zD (zR 4 ?_)))
    obtain ⟨x101,h85,h84⟩:=Je h84
    refine zI h85 (zR 1 ?_)
    obtain ⟨r102,h86,h84⟩:=Je h84
    refine zP (Jgs _ _ _ r102 h86) (zE (Jb ?_))
    obtain ⟨o89,h89,h84⟩:=Kk h84
    refine Qp (o:=o89) 61 (fun x105=>⟨[(2,.ref 2 0),(3,.ref 3 0),(4,.ref 4 0),(5,Jn (.own 115005) (r1:(List Jo))),(6,.int .i64 x55),(7,.ref 7 0),(8,.int .i64 r102.2.1)],[(2,.cells (cellsOf a0)),(3,.cells ([.str a1.Name,.int .i64 a1.Entry,.int .i64 a1.Exit,Jn .frozen (a1.Path:(List Jf)),Jn .frozen (a1.Points:(List Jr)),Jn .frozen (a1.Sections:(List Int)),.int .i64 a1.Approach,.int .i64 a1.Length,Jn .frozen (a1.Over:(List Jf)),Jn .frozen (a1.OverPoints:(List Jr)),Jn .frozen (a1.OverSections:(List Int)),Jn .frozen (x56:(List Jr)),Jn .frozen (x57:(List Int)),Jn (.own 200313) (x105:(List Jo))])),(4,.cells ([.str ByteArray.empty,.int .i64 0,.int .i64 0,.nil,.nil,.nil,.int .i64 0,.int .i64 0,.nil,.nil,.nil,.nil,.nil,.nil])),(7,.cells (cellsOf r102.1))],[(115005,(((r1).map cellsOf).length,2)),(200313,(((x105).map cellsOf).length,2))],[]⟩) ?_ ?_
    ·refine Ja (Jd (zE (Jb ?_)))
     rcases Jl h89 with ⟨hb,h89⟩|⟨hb,h89⟩
     ·refine zT hb (zD (zR 4 ?_))
      obtain ⟨x106,h90,h89⟩:=Je h89
      refine zI h90 (zR 2 ?_)
      obtain ⟨x107,h91,h89⟩:=Je h89
      refine zW (tk:=200313) h91 ?_
      refine zE ?_
      cases h89
      exact zJ
     refine zU hb (Jj ?_)
     cases h89
     exact zJ
    rintro x105 rfl
    have h84:=Kb h84
    obtain ⟨o93,h93,h84⟩:=Kk h84
    refine Qp (o:=o93) 61 (fun x109=>⟨[(2,.ref 2 0),(3,.ref 3 0),(4,.ref 4 0),(5,Jn (.own 115005) (r1:(List Jo))),(6,.int .i64 x55),(8,.int .i64 r102.2.1)],[(2,.cells (cellsOf a0)),(3,.cells ([.str a1.Name,.int .i64 a1.Entry,.int .i64 a1.Exit,Jn .frozen (a1.Path:(List Jf)),Jn .frozen (a1.Points:(List Jr)),Jn .frozen (a1.Sections:(List Int)),.int .i64 a1.Approach,.int .i64 a1.Length,Jn .frozen (a1.Over:(List Jf)),Jn .frozen (a1.OverPoints:(List Jr)),Jn .frozen (a1.OverSections:(List Int)),Jn .frozen (x109:(List Jr)),Jn .frozen (x57:(List Int)),Jn (.own 200313) (x105:(List Jo))])),(4,.cells ([.str ByteArray.empty,.int .i64 0,.int .i64 0,.nil,.nil,.nil,.int .i64 0,.int .i64 0,.nil,.nil,.nil,.nil,.nil,.nil]))],[(115005,(((r1).map cellsOf).length,2)),(200313,(((x105).map cellsOf).length,2))],[]⟩) ?_ ?_
    ·refine Ja (Jd (zE (Jb ?_)))
     rcases Jl h93 with ⟨hb,h93⟩|⟨hb,h93⟩
     ·refine zT hb (Jd (zR 3 ?_))
      obtain ⟨r110,h94,h93⟩:=Je h93
      refine zP (Jkn _ _ r110 h94) (zE ?_)
      cases h93
      exact zJ
     refine zU hb (Jj ?_)
     cases h93
     exact zJ
    rintro x109 rfl
    have h84:=Kb h84
    refine Ja (Jd (zE (Jb ?_)))
    rcases Jl h84 with ⟨hb,h84⟩|⟨hb,h84⟩
    ·refine zT hb (Jd (zR 4 ?_))
     obtain ⟨r111,h95,h84⟩:=Je h84
     refine zP (Jhh _ _ r111 h95) (zE (Jz ?_))
     cases h84
     exact zJ
    refine zU hb (Jj (Jz ?_))
    cases h84
    exact zJ
   rintro ⟨x98,x99,x100⟩ rfl
   have h71:=Kb h71
   refine Jd (zE ?_)
   cases h71
   exact zB
  refine zU hb (Jy (Jv ?_))
  cases h71
  exact zX
 rintro ⟨x84,x85,x86⟩ s' rfl hs
 have h:=Kb h
 refine Jt (Jb (Ka hs (Ja (Jd (zE (Jb (Jq ?_)))))))
 cases h
 exact zQ
/-! signallingref16.Build -/
noncomputable def Ja2 (a0:Ji) (r1:((List Ju)×Int)):(Int×(List Ju))→Option ((Int×(List Ju))⊕((List Ju)⊕(Kz×Int))):=fun (x12,x13) =>
 bif decide (x12<((r1.1.length:Nat):Int)) then (
  (ixO r1.1 x12).bind fun x19 =>
  (Xs a0 x19).bind fun r20 =>
  (Xw a0 r20).bind fun r21 =>
  (Ut x13 [r21]).bind fun x22 =>
  some (.inl (w64 (x12+1),x22))
 ) else (
  some (.inr (.inl x13))
 )
noncomputable def Jbe (a0:Ji) (r2:(List Int)):(Int×(List Int))→Option ((Int×(List Int))⊕((List Int)⊕(Kz×Int))):=fun (x30,x31) =>
 bif decide (x30<((r2.length:Nat):Int)) then (
  (ixO r2 x30).bind fun x36 =>
  (Ya a0 x36).bind fun r37 =>
  (Ut x31 [r37]).bind fun x38 =>
  some (.inl (w64 (x30+1),x38))
 ) else (
  some (.inr (.inl x31))
 )
noncomputable def Te (a0:Ji):Option (Kz×Int) :=
 (Jb4 a0).bind fun r1 =>
 bif (!(decide (r1.2=0))) then (
  some ((Kz.mk [] [] [] 0 0),r1.2)
 ) else (
  (He a0).bind fun r2 =>
  onInl (α:=(List Ju)) (β:=(Kz×Int)) (Ko (Ja2 a0 r1) (0,([]:(List Ju)))) fun x18 =>
  onInl (α:=(List Int)) (β:=(Kz×Int)) (Ko (Jbe a0 r2) (0,([]:(List Int)))) fun x35 =>
  some ((Kz.mk x18 r2 x35 ((a0.Sections.length:Nat):Int) ((a0.Signals.length:Nat):Int)),0)
 )
theorem Jg2 (a0:Ji) (r:(Kz×Int)) (h:Te a0=some r):Kj Tryz.prog GlS 28 [Enc.pv a0] (.tup [Enc.pv r.1,Enc.pv r.2]):=by
 unfold Te at h
 refine zC Tryz.func28 Tryz.ntmps28 ?_
 refine Ja (Jd (zE (Jb (Ja (Jd (zR 1 ?_))))))
 obtain ⟨r1,h1,h⟩:=Je h
 refine zP (Jj3 _ r1 h1) (zE (Jb (Ja (Ja (Jd (zE (Jb ?_)))))))
 rcases Jl h with ⟨hb,h⟩|⟨hb,h⟩
 ·refine zT hb (Ja (Jd (zE (Jb (Jq (Jm ?_))))))
  cases h
  exact zQ
 refine zU hb (Jj (Jb (Ja (zD (zR 1 ?_)))))
 obtain ⟨r2,h2,h⟩:=Je h
 refine zP (Jf1 _ r2 h2) (zR 2 ?_)
 refine zL (L:=(a0.Sections:(List ByteArray))) ?_
 refine zR 2 ?_
 refine zL (L:=(a0.Signals:(List Kl))) ?_
 refine zE (Jb (Ja (Ja (Jd (zR 1 ?_)))))
 refine zL (L:=(r1.1:(List Ju))) ?_
 refine zE (Jb (Jp ?_))
 refine Ka (Ho 6 0 200600 14 264 (cs:=[.nil,Jn .frozen (r2:(List Int)),.nil,.int .i64 ((a0.Sections.length:Nat):Int),.int .i64 ((a0.Signals.length:Nat):Int)]) (by kernel_rfl) (by kernel_rfl) (by kernel_rfl)) ?_
 obtain ⟨o16,h16,h⟩:=Kk h
 refine zA 63 0 (fun (x12,x13)=>⟨[(1,.ref 1 0),(2,.ref 2 0),(6,.ref 6 0),(29,Jn .frozen (r1.1:(List Ju))),(30,.int .i64 ((r1.1.length:Nat):Int)),(31,.int .i64 x12)],[(1,.cells (cellsOf a0)),(2,.cells ([.nil,.nil,.nil,.int .i64 0,.int .i64 0])),(6,.cells ([Jn (.own 200600) (x13:(List Ju)),Jn .frozen (r2:(List Int)),.nil,.int .i64 ((a0.Sections.length:Nat):Int),.int .i64 ((a0.Signals.length:Nat):Int)]))],[(200600,(((x13).map cellsOf).length,14))],[]⟩) (fun x18=>⟨[(1,.ref 1 0),(2,.ref 2 0),(6,.ref 6 0)],[(1,.cells (cellsOf a0)),(2,.cells ([.nil,.nil,.nil,.int .i64 0,.int .i64 0])),(6,.cells ([Jn (.own 200600) (x18:(List Ju)),Jn .frozen (r2:(List Int)),.nil,.int .i64 ((a0.Sections.length:Nat):Int),.int .i64 ((a0.Signals.length:Nat):Int)]))],[(200600,(((x18).map cellsOf).length,14))],[]⟩) h16 ?_ ?_
 ·rintro ⟨x12,x13⟩ oh15 h15
  unfold Ja2 at h15
  refine Ja (Jd (zE (Jb (Ja ?_))))
  rcases Jl h15 with ⟨hb,h15⟩|⟨hb,h15⟩
  ·refine zT hb (Jj (Jb (Ja (Jp (Ja (Jd ?_))))))
   obtain ⟨x19,h17,h15⟩:=Je h15
   refine zI h17 (zE (Jb (zD (zR 5 ?_))))
   obtain ⟨r20,h18,h15⟩:=Je h15
   refine zP (Jjq _ _ r20 h18) ?_
   obtain ⟨r21,h19,h15⟩:=Je h15
   refine zP (Jja _ _ r21 h19) (zR 1 ?_)
   obtain ⟨x22,h20,h15⟩:=Je h15
   refine zW (tk:=200600) h20 ?_
   refine zE (Jz (Jb (Jd (zE ?_))))
   cases h15
   exact zB
  refine zU hb (Jy (Jv ?_))
  cases h15
  exact zX
 rintro x18 s' rfl hs
 have h:=Kb h
 refine Jt (Jb (Ka hs (Ja (Ja (Jd (zR 2 ?_))))))
 refine zL (L:=(r2:(List Int))) ?_
 refine zE (Jb (Jp ?_))
 refine Ka (Ho 6 2 200602 1 8 (cs:=[Jn (.own 200600) (x18:(List Ju)),Jn .frozen (r2:(List Int)),.nil,.int .i64 ((a0.Sections.length:Nat):Int),.int .i64 ((a0.Signals.length:Nat):Int)]) (by kernel_rfl) (by kernel_rfl) (by kernel_rfl)) ?_
 obtain ⟨o31,h31,h⟩:=Kk h
 refine zA 63 2 (fun (x30,x31)=>⟨[(1,.ref 1 0),(2,.ref 2 0),(6,.ref 6 0),(47,Jn .frozen (r2:(List Int))),(48,.int .i64 ((r2.length:Nat):Int)),(49,.int .i64 x30)],[(1,.cells (cellsOf a0)),(2,.cells ([.nil,.nil,.nil,.int .i64 0,.int .i64 0])),(6,.cells ([Jn (.own 200600) (x18:(List Ju)),Jn .frozen (r2:(List Int)),Jn (.own 200602) (x31:(List Int)),.int .i64 ((a0.Sections.length:Nat):Int),.int .i64 ((a0.Signals.length:Nat):Int)]))],[(200600,(((x18).map cellsOf).length,14)),(200602,(((x31).map cellsOf).length,1))],[]⟩) (fun x35=>⟨[(2,.ref 2 0),(6,.ref 6 0)],[(2,.cells ([.nil,.nil,.nil,.int .i64 0,.int .i64 0])),(6,.cells ([Jn (.own 200600) (x18:(List Ju)),Jn .frozen (r2:(List Int)),Jn (.own 200602) (x35:(List Int)),.int .i64 ((a0.Sections.length:Nat):Int),.int .i64 ((a0.Signals.length:Nat):Int)]))],[(200600,(((x18).map cellsOf).length,14)),(200602,(((x35).map cellsOf).length,1))],[]⟩) h31 ?_ ?_
 ·rintro ⟨x30,x31⟩ oh30 h30
  unfold Jbe at h30
  refine Ja (Jd (zE (Jb (Ja ?_))))
  rcases Jl h30 with ⟨hb,h30⟩|⟨hb,h30⟩
  ·refine zT hb (Jj (Jb (Ja (Jp (Ja (Jd ?_))))))
   obtain ⟨x36,h32,h30⟩:=Je h30
   refine zI h32 (zE (Jb (zD (zR 4 ?_))))
   obtain ⟨r37,h33,h30⟩:=Je h30
   refine zP (Zc _ _ r37 h33) (zR 1 ?_)
   obtain ⟨x38,h34,h30⟩:=Je h30
   refine zW (tk:=200602) h34 ?_
   refine zE (Jz (Jb (Jd (zE ?_))))
   cases h30
   exact zB
  refine zU hb (Jy (Jv ?_))
  cases h30
  exact zX
 rintro x35 s' rfl hs
 have h:=Kb h
 refine Jt (Jb (Ka hs (Ja (Jd (zE (Jb (Jq ?_)))))))
 cases h
 exact zQ
/-! signallinglaw47.Train -/
noncomputable def Sm : Option (Qd×Qo) :=
 some ((Qd.mk 3 (ByteArray.mk #[105,99,101]) 5000 900 50 50 100 0 0 0),(Qo.mk [(Jf.mk 0 0 1)] 15000 5000))
theorem Jhq (r:(Qd×Qo)) (h:Sm=some r):Kj Tryz.prog GlS 29 [] (.tup [Enc.pv r.1,Enc.pv r.2]):=by
 unfold Sm at h
 refine zC Tryz.func29 Tryz.ntmps29 ?_
 refine Ja (Jd (zE (Jb (Ja (Jd (zE (Jb (Jq ?_))))))))
 cases h
 exact zQ
/-! layout.within -/
noncomputable def Qq (a0:Int) (a1:Int) (a2:Int):Option Bool :=
 some ((decide (a1≤a0))&&(decide (a0≤a2)))
theorem Qm (a0:Int) (a1:Int) (a2:Int) (r:Bool) (h:Qq a0 a1 a2=some r):Kj Tryz.prog GlS 205 [Enc.pv a0,Enc.pv a1,Enc.pv a2] (Enc.pv r):=by
 unfold Qq at h
 refine zC Tryz.func205 Tryz.ntmps205 ?_
 refine Ja (Jd (zE (Jb (Ja (Jd (zR 4 ?_))))))
 refine Ku 4 14 ((decide (a1≤a0))&&(decide (a0≤a2))) (fun x hx=>?_) ?_
 ·rcases Vm hx with ⟨hb,hx⟩|⟨hb,hx⟩
  ·refine zS 10 hb ?_
   subst hx
   exact zF
  refine zS 10 hb ?_
  subst hx
  exact zF
 refine zE (Jb (Jq ?_))
 cases h
 exact zQ
/-! layout.countsFit -/
noncomputable def Fm (a0:Ji):Option Bool :=
 (Qq ((a0.Elements.length:Nat):Int) 1 32).bind fun r1 =>
 ((bif r1 then (
  (Qq ((a0.Sections.length:Nat):Int) 1 24).bind fun r3 =>
  some r3
 ) else some false):Option Bool).bind fun b2 =>
 ((bif b2 then (
  some (decide (((a0.Signals.length:Nat):Int)≤20))
 ) else some false):Option Bool).bind fun b4 =>
 ((bif b4 then (
  some (decide (((a0.Balises.length:Nat):Int)≤24))
 ) else some false):Option Bool).bind fun b5 =>
 some b5
theorem Jby (a0:Ji) (r:Bool) (h:Fm a0=some r):Kj Tryz.prog GlS 137 [Enc.pv a0] (Enc.pv r):=by
 unfold Fm at h
 refine zC Tryz.func137 Tryz.ntmps137 ?_
 refine Ja (Jd (zE (Jb (Ja (Jd (zR 2 ?_))))))
 refine zL (L:=(a0.Elements:(List Ke))) ?_
 obtain ⟨r1,h1,h⟩:=Je h
 refine zP (Qm _ _ _ r1 h1) ?_
 obtain ⟨b2,h2,h⟩:=Je h
 refine zR 1 ?_
 refine Km 5 12 (.bool b2) ?_ ?_
 ·rcases Jl h2 with ⟨hb,h2⟩|⟨hb,h2⟩
  ·refine zS 7 hb (zR 2 ?_)
   refine zL (L:=(a0.Sections:(List ByteArray))) ?_
   obtain ⟨r3,h3,h2⟩:=Je h2
   refine zP (Qm _ _ _ r3 h3) ?_
   cases h2
   exact zF
  refine zS 7 hb ?_
  cases h2
  exact zF
 obtain ⟨b4,h4,h⟩:=Je h
 refine zR 1 ?_
 refine Km 5 18 (.bool b4) ?_ ?_
 ·rcases Jl h4 with ⟨hb,h4⟩|⟨hb,h4⟩
  ·refine zS 13 hb (zR 2 ?_)
   refine zL (L:=(a0.Signals:(List Kl))) ?_
   cases h4
   exact zF
  refine zS 13 hb ?_
  cases h4
  exact zF
 obtain ⟨b5,h5,h⟩:=Je h
 refine zR 1 ?_
 refine Km 5 24 (.bool b5) ?_ ?_
 ·rcases Jl h5 with ⟨hb,h5⟩|⟨hb,h5⟩
  ·refine zS 19 hb (zR 2 ?_)
   refine zL (L:=(a0.Balises:(List Jx))) ?_
   cases h5
   exact zF
  refine zS 19 hb ?_
  cases h5
  exact zF
 refine zE (Jb (Jq ?_))
 cases h
 exact zQ
/-! words.Name -/
noncomputable def Jcd (a0:ByteArray):Nat→Option (Nat⊕(Unit⊕Bool)):=fun x5 =>
 bif decide (x5<a0.size) then (
  bif ((((decide ((((Go.Utf8.decode a0 x5).1:Nat):Int)<97))||(decide (122<(((Go.Utf8.decode a0 x5).1:Nat):Int))))&&((decide ((((Go.Utf8.decode a0 x5).1:Nat):Int)<48))||(decide (57<(((Go.Utf8.decode a0 x5).1:Nat):Int)))))&&(!(decide ((((Go.Utf8.decode a0 x5).1:Nat):Int)=95)))) then (
   some (.inr (.inr false))
  ) else (
   some (.inl (x5+(Go.Utf8.decode a0 x5).2))
  )
 ) else (
  some (.inr (.inl ()))
 )
noncomputable def Ob (a0:ByteArray):Option Bool :=
 ((bif ((decide (a0=ByteArray.empty))||(decide (12<((a0.size:Nat):Int)))) then some true else (
  (Jox a0 0).bind fun x2 =>
  some (decide (x2<97))
 )):Option Bool).bind fun b1 =>
 ((bif b1 then some true else (
  (Jox a0 0).bind fun x4 =>
  some (decide (122<x4))
 )):Option Bool).bind fun b3 =>
 bif b3 then (
  some false
 ) else (
  onInl (α:=Unit) (β:=Bool) (Ko (Jcd a0) 0) fun _ =>
  some true
 )
theorem Ja3 (a0:ByteArray) (r:Bool) (h:Ob a0=some r):Kj Tryz.prog GlS 144 [Enc.pv a0] (Enc.pv r):=by
 unfold Ob at h
 refine zC Tryz.func144 Tryz.ntmps144 ?_
 refine Ja (Jd (zE (Jb (Ja (Ja (Jd (zR 3 ?_)))))))
 refine Ku 4 11 ((decide (a0=ByteArray.empty))||(decide (12<((a0.size:Nat):Int)))) (fun x hx=>?_) ?_
 ·rcases Vs hx with ⟨hb,hx⟩|⟨hb,hx⟩
  ·refine zS 7 hb ?_
   subst hx
   exact zF
  refine zS 7 hb ?_
  subst hx
  exact zF
 obtain ⟨b1,h1,h⟩:=Je h
 refine zR 1 ?_
 refine Km 4 16 (.bool b1) ?_ ?_
 ·rcases Jl h1 with ⟨hb,h1⟩|⟨hb,h1⟩
  ·refine zS 12 hb ?_
   cases h1
   exact zF
  refine zS 12 hb (zR 1 ?_)
  obtain ⟨x2,h2,h1⟩:=Je h1
  refine Jle h2 (by kernel_rfl) ?_
  cases h1
  exact zF
 obtain ⟨b3,h3,h⟩:=Je h
 refine zR 1 ?_
 refine Km 4 21 (.bool b3) ?_ ?_
 ·rcases Jl h3 with ⟨hb,h3⟩|⟨hb,h3⟩
  ·refine zS 17 hb ?_
   cases h3
   exact zF
  refine zS 17 hb (zR 1 ?_)
  obtain ⟨x4,h4,h3⟩:=Je h3
  refine Jle h4 (by kernel_rfl) ?_
  cases h3
  exact zF
 refine zN (Jb ?_)
 rcases Jl h with ⟨hb,h⟩|⟨hb,h⟩
 ·refine zT hb (Ja (Jd (zE (Jb (Jq (Jm ?_))))))
  cases h
  exact zQ
 refine zU hb (Jj (Jb (Ja (Ja (Jd (zR 1 ?_))))))
 refine Jwm (b:=a0) (l:=23) (by kernel_rfl) ?_
 refine zN (Jb (Jp ?_))
 obtain ⟨o8,h8,h⟩:=Kk h
 refine zA 45 0 (fun x5=>⟨[(23,.ref 23 0)],[(23,.iter a0 x5)],[],[]⟩) (fun (_:Unit)=>⟨[],[],[],[]⟩) h8 ?_ ?_
 ·rintro x5 oh7 h7
  unfold Jcd at h7
  refine Ja (Jd ?_)
  rcases Jl h7 with ⟨hb,h7⟩|⟨hb,h7⟩
  ·refine Jux (b:=a0) (pos:=x5) 23 (by kernel_rfl) hb (by kernel_rfl) ?_
   refine zE (Jb (Ja ?_))
   refine Xf (b:=true) rfl (by kernel_rfl) ?_
   refine Jj (Jb (Jp (Ja (Jd (zE (Jb (Ja (Jd (zR 3 ?_)))))))))
   refine Ku 3 32 ((decide ((((Go.Utf8.decode a0 x5).1:Nat):Int)<97))||(decide (122<(((Go.Utf8.decode a0 x5).1:Nat):Int)))) (fun x hx=>?_) ?_
   ·rcases Vs hx with ⟨hb,hx⟩|⟨hb,hx⟩
    ·refine zS 29 hb ?_
     subst hx
     exact zF
    refine zS 29 hb ?_
    subst hx
    exact zF
   refine zR 1 ?_
   refine Ku 7 40 (((decide ((((Go.Utf8.decode a0 x5).1:Nat):Int)<97))||(decide (122<(((Go.Utf8.decode a0 x5).1:Nat):Int))))&&((decide ((((Go.Utf8.decode a0 x5).1:Nat):Int)<48))||(decide (57<(((Go.Utf8.decode a0 x5).1:Nat):Int))))) (fun x hx=>?_) ?_
   ·rcases Vm hx with ⟨hb,hx⟩|⟨hb,hx⟩
    ·refine zS 33 hb (zR 3 ?_)
     refine Ph 3 39 ((decide ((((Go.Utf8.decode a0 x5).1:Nat):Int)<48))||(decide (57<(((Go.Utf8.decode a0 x5).1:Nat):Int)))) (fun x hx=>?_) ?_
     ·rcases Vs hx with ⟨hb,hx⟩|⟨hb,hx⟩
      ·refine zS 36 hb ?_
       subst hx
       exact zF
      refine zS 36 hb ?_
      subst hx
      exact zF
     subst hx
     exact zF
    refine zS 33 hb ?_
    subst hx
    exact zF
   refine zR 1 ?_
   refine Ku 3 44 ((((decide ((((Go.Utf8.decode a0 x5).1:Nat):Int)<97))||(decide (122<(((Go.Utf8.decode a0 x5).1:Nat):Int))))&&((decide ((((Go.Utf8.decode a0 x5).1:Nat):Int)<48))||(decide (57<(((Go.Utf8.decode a0 x5).1:Nat):Int)))))&&(!(decide ((((Go.Utf8.decode a0 x5).1:Nat):Int)=95)))) (fun x hx=>?_) ?_
   ·rcases Vm hx with ⟨hb,hx⟩|⟨hb,hx⟩
    ·refine zS 41 hb ?_
     subst hx
     exact zF
    refine zS 41 hb ?_
    subst hx
    exact zF
   refine zN (Jb ?_)
   rcases Jl h7 with ⟨hb,h7⟩|⟨hb,h7⟩
   ·refine zT hb (Ja (Jd (zE (Jb (Jq (Js ?_))))))
    cases h7
    refine Kd fun he=>?_
    subst he
    have h9:=Kq h
    refine Js (Jm ?_)
    cases h9
    exact zQ
   refine zU hb (Jj (Jz ?_))
   cases h7
   exact zB
  refine Jue (b:=a0) (pos:=x5) 23 (by kernel_rfl) hb (by kernel_rfl) ?_
  refine zE (Jb (Ja ?_))
  refine Tw (b:=false) rfl (by kernel_rfl) ?_
  refine Jy (Jv ?_)
  cases h7
  exact zX
 rintro _ s' rfl hs
 have h:=Kb h
 refine Jt (Jb (Ka hs (Ja (Jd (zE (Jb (Jq ?_)))))))
 cases h
 exact zQ
/-! layout.checkNames -/
noncomputable def It (a0:Ji):((List ByteArray)×Int)→Option (((List ByteArray)×Int)⊕((List ByteArray)⊕Int)):=fun (x4,x5) =>
 bif decide (x5<((a0.Elements.length:Nat):Int)) then (
  (ixO a0.Elements x5).bind fun x9 =>
  (Ut x4 [x9.Name]).bind fun x10 =>
  some (.inl (x10,w64 (x5+1)))
 ) else (
  some (.inr (.inl x4))
 )
noncomputable def Ir (a0:Ji):((List ByteArray)×Int)→Option (((List ByteArray)×Int)⊕((List ByteArray)⊕Int)):=fun (x14,x15) =>
 bif decide (x15<((a0.Signals.length:Nat):Int)) then (
  (ixO a0.Signals x15).bind fun x19 =>
  (Ut x14 [x19.Name]).bind fun x20 =>
  some (.inl (x20,w64 (x15+1)))
 ) else (
  some (.inr (.inl x14))
 )
noncomputable def Ip (x38:(List ByteArray)):Int→Option (Int⊕(Unit⊕(Int⊕(Unit⊕Int)))):=fun x41 =>
 bif decide (x41<((x38.length:Nat):Int)) then (
  (ixO x38 x41).bind fun x44 =>
  (Ob x44).bind fun r45 =>
  bif (!r45) then (
   some (.inr (.inr (.inr (.inr 3))))
  ) else (
   some (.inl (w64 (x41+1)))
  )
 ) else (
  some (.inr (.inl ()))
 )
noncomputable def Il (a0:Ji) (x8:(List ByteArray)) (x18:(List ByteArray)):Int→Option (Int⊕(Unit⊕Int)):=fun x29 =>
 bif decide (x29<(([[a0.Name],a0.Sections,x8,x18].length:Nat):Int)) then (
  (ixO [[a0.Name],a0.Sections,x8,x18] x29).bind fun x38 =>
  onInl (α:=Unit) (β:=(Int⊕(Unit⊕Int))) (Ko (Ip x38) 0) fun _ =>
  some (.inl (w64 (x29+1)))
 ) else (
  some (.inr (.inl ()))
 )
noncomputable def Ii (x59:(List ByteArray)):(Int×(List (ByteArray×Bool)))→Option ((Int×(List (ByteArray×Bool)))⊕(Unit⊕(Int⊕(Unit⊕Int)))):=fun (x61,x62) =>
 bif decide (x61<((x59.length:Nat):Int)) then (
  (ixO x59 x61).bind fun x64 =>
  bif ((Vy (x62:(List (ByteArray×Bool))) x64).getD false) then (
   some (.inr (.inr (.inr (.inr 8))))
  ) else (
   some (.inl (w64 (x61+1),(Cq x64 true x62)))
  )
 ) else (
  some (.inr (.inl ()))
 )
noncomputable def Ih (a0:Ji) (x8:(List ByteArray)) (x18:(List ByteArray)):Int→Option (Int⊕(Unit⊕Int)):=fun x52 =>
 bif decide (x52<(([[a0.Name],a0.Sections,x8,x18].length:Nat):Int)) then (
  (ixO [[a0.Name],a0.Sections,x8,x18] x52).bind fun x59 =>
  onInl (α:=Unit) (β:=(Int⊕(Unit⊕Int))) (Ko (Ii x59) (0,([]:(List (ByteArray×Bool))))) fun _ =>
  some (.inl (w64 (x52+1)))
 ) else (
  some (.inr (.inl ()))
 )
noncomputable def Ec (a0:Ji):Option Int :=
 (mkO ByteArray ((a0.Elements.length:Nat):Int)).bind fun x1 =>
 onInl (α:=(List ByteArray)) (β:=Int) (Ko (It a0) (x1,0)) fun x8 =>
 (mkO ByteArray ((a0.Signals.length:Nat):Int)).bind fun x11 =>
 onInl (α:=(List ByteArray)) (β:=Int) (Ko (Ir a0) (x11,0)) fun x18 =>
 onInl (α:=Unit) (β:=Int) (Ko (Il a0 x8 x18) 0) fun _ =>
 onInl (α:=Unit) (β:=Int) (Ko (Ih a0 x8 x18) 0) fun _ =>
 some 0
theorem Jay (a0:Ji) (r:Int) (h:Ec a0=some r):Kj Tryz.prog GlS 138 [Enc.pv a0] (Enc.pv r):=by
 unfold Ec at h
 refine zC Tryz.func138 Tryz.ntmps138 ?_
 refine Ja (Jd (zE (Jb (Ja (Jd (zR 2 ?_))))))
 refine zL (L:=(a0.Elements:(List Ke))) ?_
 obtain ⟨x1,h1,h⟩:=Je h
 refine Jx3 22 h1 (by kernel_rfl) (zE (Jb (Ja (Ja (Jd (zR 2 ?_))))))
 refine zL (L:=(a0.Elements:(List Ke))) ?_
 refine zE (Jb (Jp ?_))
 obtain ⟨o7,h7,h⟩:=Kk h
 refine zA 98 0 (fun (x4,x5)=>⟨[(1,.ref 1 0),(3,Jn (.own 22) (x4:(List ByteArray))),(24,Jn .frozen (a0.Elements:(List Ke))),(25,.int .i64 ((a0.Elements.length:Nat):Int)),(26,.int .i64 x5)],[(1,.cells (cellsOf a0))],[(22,(((x4).map cellsOf).length,1))],[]⟩) (fun x8=>⟨[(1,.ref 1 0),(3,Jn (.own 22) (x8:(List ByteArray)))],[(1,.cells (cellsOf a0))],[(22,(((x8).map cellsOf).length,1))],[]⟩) h7 ?_ ?_
 ·rintro ⟨x4,x5⟩ oh6 h6
  unfold It at h6
  refine Ja (Jd (zE (Jb (Ja ?_))))
  rcases Jl h6 with ⟨hb,h6⟩|⟨hb,h6⟩
  ·refine zT hb (Jj (Jb (Ja (Jp (Ja (Jd ?_))))))
   obtain ⟨x9,h8,h6⟩:=Je h6
   refine zI h8 (zE (Jb (Jd (zR 4 ?_))))
   obtain ⟨x10,h9,h6⟩:=Je h6
   refine zW (tk:=22) h9 ?_
   refine zE (Jz (Jb (Jd (zE ?_))))
   cases h6
   exact zB
  refine zU hb (Jy (Jv ?_))
  cases h6
  exact zX
 rintro x8 s' rfl hs
 have h:=Kb h
 refine Jt (Jb (Ka hs (Ja (Jd (zR 2 ?_)))))
 refine zL (L:=(a0.Signals:(List Kl))) ?_
 obtain ⟨x11,h10,h⟩:=Je h
 refine Jx3 39 h10 (by kernel_rfl) (zE (Jb (Ja (Ja (Jd (zR 2 ?_))))))
 refine zL (L:=(a0.Signals:(List Kl))) ?_
 refine zE (Jb (Jp ?_))
 obtain ⟨o16,h16,h⟩:=Kk h
 refine zA 98 2 (fun (x14,x15)=>⟨[(1,.ref 1 0),(3,Jn (.own 22) (x8:(List ByteArray))),(6,Jn (.own 39) (x14:(List ByteArray))),(41,Jn .frozen (a0.Signals:(List Kl))),(42,.int .i64 ((a0.Signals.length:Nat):Int)),(43,.int .i64 x15)],[(1,.cells (cellsOf a0))],[(22,(((x8).map cellsOf).length,1)),(39,(((x14).map cellsOf).length,1))],[]⟩) (fun x18=>⟨[(1,.ref 1 0),(3,Jn (.own 22) (x8:(List ByteArray))),(6,Jn (.own 39) (x18:(List ByteArray)))],[(1,.cells (cellsOf a0))],[(22,(((x8).map cellsOf).length,1)),(39,(((x18).map cellsOf).length,1))],[]⟩) h16 ?_ ?_
 ·rintro ⟨x14,x15⟩ oh15 h15
  unfold Ir at h15
  refine Ja (Jd (zE (Jb (Ja ?_))))
  rcases Jl h15 with ⟨hb,h15⟩|⟨hb,h15⟩
  ·refine zT hb (Jj (Jb (Ja (Jp (Ja (Jd ?_))))))
   obtain ⟨x19,h17,h15⟩:=Je h15
   refine zI h17 (zE (Jb (Jd (zR 4 ?_))))
   obtain ⟨x20,h18,h15⟩:=Je h15
   refine zW (tk:=39) h18 ?_
   refine zE (Jz (Jb (Jd (zE ?_))))
   cases h15
   exact zB
  refine zU hb (Jy (Jv ?_))
  cases h15
  exact zX
 rintro x18 s' rfl hs
 have h:=Kb h
 refine Jt (Jb (Ka hs (Ja (Jd (zE (Jb (Ja (Ja (Jd (zR 1 ?_))))))))))
 refine zL (L:=([[a0.Name],a0.Sections,x8,x18]:(List (List ByteArray)))) ?_
 refine zE (Jb (Jp ?_))
 obtain ⟨o50,h50,h⟩:=Kk h
 refine zA 98 4 (fun x29=>⟨[(9,Jn .full ([[a0.Name],a0.Sections,x8,x18]:(List (List ByteArray)))),(61,Jn .full ([[a0.Name],a0.Sections,x8,x18]:(List (List ByteArray)))),(62,.int .i64 (([[a0.Name],a0.Sections,x8,x18].length:Nat):Int)),(63,.int .i64 x29)],[],[],[]⟩) (fun (_:Unit)=>⟨[(9,Jn .full ([[a0.Name],a0.Sections,x8,x18]:(List (List ByteArray))))],[],[],[]⟩) h50 ?_ ?_
 ·rintro x29 oh49 h49
  unfold Il at h49
  refine Ja (Jd (zE (Jb (Ja ?_))))
  rcases Jl h49 with ⟨hb,h49⟩|⟨hb,h49⟩
  ·refine zT hb (Jj (Jb (Ja (Jp (Ja (Jd ?_))))))
   obtain ⟨x38,h51,h49⟩:=Je h49
   refine zI h51 (zE (Jb (Ja (Jd (zR 1 ?_)))))
   refine zL (L:=(x38:(List ByteArray))) ?_
   refine zE (Jb (Jp ?_))
   obtain ⟨o61,h61,h49⟩:=Kk h49
   refine zA 98 6 (fun x41=>⟨[(9,Jn .full ([[a0.Name],a0.Sections,x8,x18]:(List (List ByteArray)))),(61,Jn .full ([[a0.Name],a0.Sections,x8,x18]:(List (List ByteArray)))),(62,.int .i64 (([[a0.Name],a0.Sections,x8,x18].length:Nat):Int)),(63,.int .i64 x29),(67,Jn .frozen (x38:(List ByteArray))),(68,.int .i64 ((x38.length:Nat):Int)),(69,.int .i64 x41)],[],[],[]⟩) (fun (_:Unit)=>⟨[(9,Jn .full ([[a0.Name],a0.Sections,x8,x18]:(List (List ByteArray)))),(61,Jn .full ([[a0.Name],a0.Sections,x8,x18]:(List (List ByteArray)))),(62,.int .i64 (([[a0.Name],a0.Sections,x8,x18].length:Nat):Int)),(63,.int .i64 x29)],[],[],[]⟩) h61 ?_ ?_
   ·rintro x41 oh60 h60
    unfold Ip at h60
    refine Ja (Jd (zE (Jb (Ja ?_))))
    rcases Jl h60 with ⟨hb,h60⟩|⟨hb,h60⟩
    ·refine zT hb (Jj (Jb (Ja (Jp (Ja (Jd ?_))))))
     obtain ⟨x44,h62,h60⟩:=Je h60
     refine zI h62 (zE (Jb (Ja (Jd (zR 1 ?_)))))
     obtain ⟨r45,h63,h60⟩:=Je h60
     refine zP (Ja3 _ r45 h63) (zE (Jb ?_))
     rcases Jl h60 with ⟨hb,h60⟩|⟨hb,h60⟩
     ·refine zT hb (Ja (Jd (zE (Jb (Jq (Js (Jm ?_)))))))
      cases h60
      refine Kd fun he=>?_
      subst he
      have h64:=Kq h49
      refine Js (Js (Jm ?_))
      cases h64
      refine Kd fun he=>?_
      subst he
      have h65:=Kq h
      refine Js (Jm ?_)
      cases h65
      exact zQ
     refine zU hb (Jj (Jz (Jb (Jd (zE ?_)))))
     cases h60
     exact zB
    refine zU hb (Jy (Jv ?_))
    cases h60
    exact zX
   rintro _ s' rfl hs
   have h49:=Kb h49
   refine Jt (Jz (Jb (Ka hs (Jd (zE ?_)))))
   cases h49
   exact zB
  refine zU hb (Jy (Jv ?_))
  cases h49
  exact zX
 rintro _ s' rfl hs
 have h:=Kb h
 refine Jt (Jb (Ka hs (Ja (Ja (Jd (zR 1 ?_))))))
 refine zL (L:=([[a0.Name],a0.Sections,x8,x18]:(List (List ByteArray)))) ?_
 refine zE (Jb (Jp ?_))
 obtain ⟨o91,h91,h⟩:=Kk h
 refine zA 98 8 (fun x52=>⟨[(78,Jn .full ([[a0.Name],a0.Sections,x8,x18]:(List (List ByteArray)))),(79,.int .i64 (([[a0.Name],a0.Sections,x8,x18].length:Nat):Int)),(80,.int .i64 x52)],[],[],[]⟩) (fun (_:Unit)=>⟨[],[],[],[]⟩) h91 ?_ ?_
 ·rintro x52 oh90 h90
  unfold Ih at h90
  refine Ja (Jd (zE (Jb (Ja ?_))))
  rcases Jl h90 with ⟨hb,h90⟩|⟨hb,h90⟩
  ·refine zT hb (Jj (Jb (Ja (Jp (Ja (Jd ?_))))))
   obtain ⟨x59,h92,h90⟩:=Je h90
   refine zI h92 (zE (Jb (Ja (Jd (zE (Jb (Ja (Jd (zR 1 ?_)))))))))
   refine zL (L:=(x59:(List ByteArray))) ?_
   refine zE (Jb (Jp ?_))
   obtain ⟨o100,h100,h90⟩:=Kk h90
   refine zA 98 10 (fun (x61,x62)=>⟨[(16,.mp 84),(78,Jn .full ([[a0.Name],a0.Sections,x8,x18]:(List (List ByteArray)))),(79,.int .i64 (([[a0.Name],a0.Sections,x8,x18].length:Nat):Int)),(80,.int .i64 x52),(85,Jn .frozen (x59:(List ByteArray))),(86,.int .i64 ((x59.length:Nat):Int)),(87,.int .i64 x61)],[(84,.map (Wg (x62:(List (ByteArray×Bool)))))],[],[]⟩) (fun (_:Unit)=>⟨[(78,Jn .full ([[a0.Name],a0.Sections,x8,x18]:(List (List ByteArray)))),(79,.int .i64 (([[a0.Name],a0.Sections,x8,x18].length:Nat):Int)),(80,.int .i64 x52)],[],[],[]⟩) h100 ?_ ?_
   ·rintro ⟨x61,x62⟩ oh99 h99
    unfold Ii at h99
    refine Ja (Jd (zE (Jb (Ja ?_))))
    rcases Jl h99 with ⟨hb,h99⟩|⟨hb,h99⟩
    ·refine zT hb (Jj (Jb (Ja (Jp (Ja (Jd ?_))))))
     obtain ⟨x64,h101,h99⟩:=Je h99
     refine zI h101 (zE (Jb (Ja (Ja (Jd (zR 2 ?_))))))
     refine Jci (m:=(x62:(List (ByteArray×Bool)))) (k:=x64) false 84 (by kernel_rfl) (by kernel_rfl) ?_
     refine zN (Jb ?_)
     rcases Jl h99 with ⟨hb,h99⟩|⟨hb,h99⟩
     ·refine zT hb (Ja (Jd (zE (Jb (Jq (Jm (Js (Jm ?_))))))))
      cases h99
      refine Kd fun he=>?_
      subst he
      have h102:=Kq h90
      refine Js (Js (Jm ?_))
      cases h102
      refine Kd fun he=>?_
      subst he
      have h103:=Kq h
      refine Js (Jm ?_)
      cases h103
      exact zQ
     refine zU hb (Jj (Jb (Jd (zR 2 ?_))))
     refine Je3 (m:=(x62:(List (ByteArray×Bool)))) (k:=x64) (v:=true) 84 (by kernel_rfl) (by kernel_rfl) (by kernel_rfl) ?_
     refine zN (Jz (Jb (Jd (zE ?_))))
     cases h99
     exact zB
    refine zU hb (Jy (Jv ?_))
    cases h99
    exact zX
   rintro _ s' rfl hs
   have h90:=Kb h90
   refine Jt (Jz (Jb (Ka hs (Jd (zE ?_)))))
   cases h90
   exact zB
  refine zU hb (Jy (Jv ?_))
  cases h90
  exact zX
 rintro _ s' rfl hs
 have h:=Kb h
 refine Jt (Jb (Ka hs (Ja (Jd (zE (Jb (Jq ?_)))))))
 cases h
 exact zQ
/-! layout.elementsFit -/
noncomputable def Hp (a0:Ji):Int→Option (Int⊕(Unit⊕Bool)):=fun x13 =>
 bif decide (x13<((a0.Elements.length:Nat):Int)) then (
  (ixO a0.Elements x13).bind fun x26 =>
  (Qq x26.Kind 1 3).bind fun r27 =>
  ((bif (!r27) then some true else (
   (Qq x26.Length 500 1000000).bind fun r29 =>
   some (!r29)
  )):Option Bool).bind fun b28 =>
  ((bif b28 then some true else (
   (Qq x26.Grade (-50) 50).bind fun r31 =>
   some (!r31)
  )):Option Bool).bind fun b30 =>
  ((bif b30 then some true else (
   (Qq x26.Speed 100 10000).bind fun r33 =>
   some (!r33)
  )):Option Bool).bind fun b32 =>
  ((bif b32 then some true else (
   (Qq x26.Section 0 (w64 (((a0.Sections.length:Nat):Int) - 1))).bind fun r35 =>
   some (!r35)
  )):Option Bool).bind fun b34 =>
  bif b34 then (
   some (.inr (.inr false))
  ) else (
   ((bif decide (x26.Kind=2) then (
    (Qq x26.Slow 100 x26.Speed).bind fun r37 =>
    some (!r37)
   ) else some false):Option Bool).bind fun b36 =>
   bif (b36||((!(decide (x26.Kind=2)))&&(!(decide (x26.Slow=0))))) then (
    some (.inr (.inr false))
   ) else (
    some (.inl (w64 (x13+1)))
   )
  )
 ) else (
  some (.inr (.inl ()))
 )
noncomputable def Cv (a0:Ji):Option Bool :=
 onInl (α:=Unit) (β:=Bool) (Ko (Hp a0) 0) fun _ =>
 some true
theorem Tm (a0:Ji) (r:Bool) (h:Cv a0=some r):Kj Tryz.prog GlS 139 [Enc.pv a0] (Enc.pv r):=by
 unfold Cv at h
 refine zC Tryz.func139 Tryz.ntmps139 ?_
 refine Ja (Jd (zE (Jb (Ja (Ja (Jd (zR 2 ?_)))))))
 refine zL (L:=(a0.Elements:(List Ke))) ?_
 refine zE (Jb (Jp ?_))
 obtain ⟨o30,h30,h⟩:=Kk h
 refine zA 66 0 (fun x13=>⟨[(1,.ref 1 0),(6,Jn .frozen (a0.Elements:(List Ke))),(7,.int .i64 ((a0.Elements.length:Nat):Int)),(8,.int .i64 x13)],[(1,.cells (cellsOf a0))],[],[]⟩) (fun (_:Unit)=>⟨[],[],[],[]⟩) h30 ?_ ?_
 ·rintro x13 oh29 h29
  unfold Hp at h29
  refine Ja (Jd (zE (Jb (Ja ?_))))
  rcases Jl h29 with ⟨hb,h29⟩|⟨hb,h29⟩
  ·refine zT hb (Jj (Jb (Ja (Jp (Ja (Jd ?_))))))
   obtain ⟨x26,h31,h29⟩:=Je h29
   refine zI h31 (zE (Jb (Ja (Ja (Jd (zR 2 ?_))))))
   obtain ⟨r27,h32,h29⟩:=Je h29
   refine zP (Qm _ _ _ r27 h32) ?_
   obtain ⟨b28,h33,h29⟩:=Je h29
   refine zR 2 ?_
   refine Km 5 21 (.bool b28) ?_ ?_
   ·rcases Jl h33 with ⟨hb,h33⟩|⟨hb,h33⟩
    ·refine zS 16 hb ?_
     cases h33
     exact zF
    refine zS 16 hb (zR 2 ?_)
    obtain ⟨r29,h34,h33⟩:=Je h33
    refine zP (Qm _ _ _ r29 h34) ?_
    cases h33
    exact zF
   obtain ⟨b30,h35,h29⟩:=Je h29
   refine zR 1 ?_
   refine Km 5 27 (.bool b30) ?_ ?_
   ·rcases Jl h35 with ⟨hb,h35⟩|⟨hb,h35⟩
    ·refine zS 22 hb ?_
     cases h35
     exact zF
    refine zS 22 hb (zR 2 ?_)
    obtain ⟨r31,h36,h35⟩:=Je h35
    refine zP (Qm _ _ _ r31 h36) ?_
    cases h35
    exact zF
   obtain ⟨b32,h37,h29⟩:=Je h29
   refine zR 1 ?_
   refine Km 5 33 (.bool b32) ?_ ?_
   ·rcases Jl h37 with ⟨hb,h37⟩|⟨hb,h37⟩
    ·refine zS 28 hb ?_
     cases h37
     exact zF
    refine zS 28 hb (zR 2 ?_)
    obtain ⟨r33,h38,h37⟩:=Je h37
    refine zP (Qm _ _ _ r33 h38) ?_
    cases h37
    exact zF
   obtain ⟨b34,h39,h29⟩:=Je h29
   refine zR 1 ?_
   refine Km 9 43 (.bool b34) ?_ ?_
   ·rcases Jl h39 with ⟨hb,h39⟩|⟨hb,h39⟩
    ·refine zS 34 hb ?_
     cases h39
     exact zF
    refine zS 34 hb (zR 4 ?_)
    refine zL (L:=(a0.Sections:(List ByteArray))) ?_
    refine zR 1 ?_
    obtain ⟨r35,h40,h39⟩:=Je h39
    refine zP (Qm _ _ _ r35 h40) ?_
    cases h39
    exact zF
   refine zN (Jb ?_)
   rcases Jl h29 with ⟨hb,h29⟩|⟨hb,h29⟩
   ·refine zT hb (Ja (Jd (zE (Jb (Jq (Jm (Js (Jm ?_))))))))
    cases h29
    refine Kd fun he=>?_
    subst he
    have h41:=Kq h
    refine Js (Jm ?_)
    cases h41
    exact zQ
   refine zU hb (Jj (Jb (Ja (Jd ?_))))
   obtain ⟨b36,h42,h29⟩:=Je h29
   refine zR 4 ?_
   refine Km 7 54 (.bool b36) ?_ ?_
   ·rcases Jl h42 with ⟨hb,h42⟩|⟨hb,h42⟩
    ·refine zS 47 hb (zR 4 ?_)
     obtain ⟨r37,h43,h42⟩:=Je h42
     refine zP (Qm _ _ _ r37 h43) ?_
     cases h42
     exact zF
    refine zS 47 hb ?_
    cases h42
    exact zF
   refine zR 1 ?_
   refine Ku 9 64 (b36||((!(decide (x26.Kind=2)))&&(!(decide (x26.Slow=0))))) (fun x hx=>?_) ?_
   ·rcases Vs hx with ⟨hb,hx⟩|⟨hb,hx⟩
    ·refine zS 55 hb ?_
     subst hx
     exact zF
    refine zS 55 hb (zR 4 ?_)
    refine Ph 4 63 ((!(decide (x26.Kind=2)))&&(!(decide (x26.Slow=0)))) (fun x hx=>?_) ?_
    ·rcases Vm hx with ⟨hb,hx⟩|⟨hb,hx⟩
     ·refine zS 59 hb ?_
      subst hx
      exact zF
     refine zS 59 hb ?_
     subst hx
     exact zF
    subst hx
    exact zF
   refine zN (Jb ?_)
   rcases Jl h29 with ⟨hb,h29⟩|⟨hb,h29⟩
   ·refine zT hb (Ja (Jd (zE (Jb (Jq (Js (Jm ?_)))))))
    cases h29
    refine Kd fun he=>?_
    subst he
    have h44:=Kq h
    refine Js (Jm ?_)
    cases h44
    exact zQ
   refine zU hb (Jj (Jz (Jb (Jd (zE ?_)))))
   cases h29
   exact zB
  refine zU hb (Jy (Jv ?_))
  cases h29
  exact zX
 rintro _ s' rfl hs
 have h:=Kb h
 refine Jt (Jb (Ka hs (Ja (Jd (zE (Jb (Jq ?_)))))))
 cases h
 exact zQ
/-! layout.Members -/
noncomputable def Ps (a0:Ji) (a1:Int):(Int×(List Int))→Option ((Int×(List Int))⊕((List Int)⊕(List Int))):=fun (x13,x14) =>
 bif decide (x13<((a0.Elements.length:Nat):Int)) then (
  onInl (α:=(List Int)) (β:=((Int×(List Int))⊕((List Int)⊕(List Int)))) (
   (ixO a0.Elements x13).bind fun x24 =>
   bif decide (x24.Section=a1) then (
    (Ut x14 [x13]).bind fun x25 =>
    some (.inl x25)
   ) else (
    some (.inl x14)
   )
  ) fun x23 =>
  some (.inl (w64 (x13+1),x23))
 ) else (
  some (.inr (.inl x14))
 )
noncomputable def Ix (a0:Ji) (a1:Int):Option (List Int) :=
 ((bif decide (a1<0) then some true else (
  some (decide (((a0.Sections.length:Nat):Int)≤a1))
 )):Option Bool).bind fun b1 =>
 bif b1 then (
  some ([]:(List Int))
 ) else (
  onInl (α:=(List Int)) (β:=(List Int)) (Ko (Ps a0 a1) (0,([]:(List Int)))) fun x20 =>
  some x20
 )
theorem Jeg (a0:Ji) (a1:Int) (r:(List Int)) (h:Ix a0 a1=some r):Kj Tryz.prog GlS 206 [Enc.pv a0,Enc.pv a1] (Jn (.own 100005) r):=by
 unfold Ix at h
 refine zC Tryz.func206 Tryz.ntmps206 ?_
 refine Ja (Jd (zE (Jb (Ja (Ja (Jd ?_))))))
 obtain ⟨b1,h1,h⟩:=Je h
 refine zR 3 ?_
 refine Km 6 16 (.bool b1) ?_ ?_
 ·rcases Jl h1 with ⟨hb,h1⟩|⟨hb,h1⟩
  ·refine zS 10 hb ?_
   cases h1
   exact zF
  refine zS 10 hb (zR 3 ?_)
  refine zL (L:=(a0.Sections:(List ByteArray))) ?_
  cases h1
  exact zF
 refine zN (Jb ?_)
 rcases Jl h with ⟨hb,h⟩|⟨hb,h⟩
 ·refine zT hb (Ja (Jd (zE (Jb (Yn 4 100005 1 8 (by kernel_rfl) (by kernel_rfl) (Jq (Jm ?_)))))))
  cases h
  exact zQ
 refine zU hb (Jj (Jb (Ja (Jd (zE (Jb (Ja (Ja (Jd (zR 2 ?_))))))))))
 refine zL (L:=(a0.Elements:(List Ke))) ?_
 refine zE (Jb (Jp (Yn 5 100005 1 8 (by kernel_rfl) (by kernel_rfl) ?_)))
 obtain ⟨o18,h18,h⟩:=Kk h
 refine zA 35 0 (fun (x13,x14)=>⟨[(1,.int .i64 a1),(5,Jn (.own 100005) (x14:(List Int))),(18,Jn .frozen (a0.Elements:(List Ke))),(19,.int .i64 ((a0.Elements.length:Nat):Int)),(20,.int .i64 x13)],[],[(100005,(((x14).map cellsOf).length,1))],[]⟩) (fun x20=>⟨[(5,Jn (.own 100005) (x20:(List Int)))],[],[(100005,(((x20).map cellsOf).length,1))],[]⟩) h18 ?_ ?_
 ·rintro ⟨x13,x14⟩ oh17 h17
  unfold Ps at h17
  refine Ja (Jd (zE (Jb (Ja ?_))))
  rcases Jl h17 with ⟨hb,h17⟩|⟨hb,h17⟩
  ·refine zT hb (Jj (Jb ?_))
   obtain ⟨o21,h21,h17⟩:=Kk h17
   refine Qp (o:=o21) 35 (fun x23=>⟨[(1,.int .i64 a1),(5,Jn (.own 100005) (x23:(List Int))),(18,Jn .frozen (a0.Elements:(List Ke))),(19,.int .i64 ((a0.Elements.length:Nat):Int)),(20,.int .i64 x13)],[],[(100005,(((x23).map cellsOf).length,1))],[]⟩) ?_ ?_
   ·refine Jp (Ja (Jd (zR 1 ?_)))
    obtain ⟨x24,h22,h21⟩:=Je h21
    refine zI h22 (zE (Jb (Ja (Jd (zE (Jb ?_))))))
    rcases Jl h21 with ⟨hb,h21⟩|⟨hb,h21⟩
    ·refine zT hb (Jd (zR 3 ?_))
     obtain ⟨x25,h23,h21⟩:=Je h21
     refine zW (tk:=100005) h23 ?_
     refine zE (Jz ?_)
     cases h21
     exact zJ
    refine zU hb (Jj (Jz ?_))
    cases h21
    exact zJ
   rintro x23 rfl
   have h17:=Kb h17
   refine Jd (zE ?_)
   cases h17
   exact zB
  refine zU hb (Jy (Jv ?_))
  cases h17
  exact zX
 rintro x20 s' rfl hs
 have h:=Kb h
 refine Jt (Jb (Ka hs (Ja (Jd (zE (Jb (Jq ?_)))))))
 cases h
 exact zQ
/-! layout.sectionsUsed -/
noncomputable def Gi (a0:Ji):Int→Option (Int⊕(Unit⊕Bool)):=fun x2 =>
 bif decide (x2<((a0.Sections.length:Nat):Int)) then (
  (Ix a0 x2).bind fun r4 =>
  bif decide (((r4.length:Nat):Int)=0) then (
   some (.inr (.inr false))
  ) else (
   some (.inl (w64 (x2+1)))
  )
 ) else (
  some (.inr (.inl ()))
 )
noncomputable def Cf (a0:Ji):Option Bool :=
 onInl (α:=Unit) (β:=Bool) (Ko (Gi a0) 0) fun _ =>
 some true
theorem Sk (a0:Ji) (r:Bool) (h:Cf a0=some r):Kj Tryz.prog GlS 140 [Enc.pv a0] (Enc.pv r):=by
 unfold Cf at h
 refine zC Tryz.func140 Tryz.ntmps140 ?_
 refine Ja (Jd (zE (Jb (Ja (Ja (Jd (zR 2 ?_)))))))
 refine zL (L:=(a0.Sections:(List ByteArray))) ?_
 refine zE (Jb (Jp ?_))
 obtain ⟨o6,h6,h⟩:=Kk h
 refine zA 16 0 (fun x2=>⟨[(1,.ref 1 0),(6,.int .i64 ((a0.Sections.length:Nat):Int)),(7,.int .i64 x2)],[(1,.cells (cellsOf a0))],[],[]⟩) (fun (_:Unit)=>⟨[],[],[],[]⟩) h6 ?_ ?_
 ·rintro x2 oh5 h5
  unfold Gi at h5
  refine Ja (Jd (zE (Jb (Ja ?_))))
  rcases Jl h5 with ⟨hb,h5⟩|⟨hb,h5⟩
  ·refine zT hb (Jj (Jb (Ja (Jp (Ja (Jd (zE (Jb (Ja (Jd (zR 2 ?_)))))))))))
   obtain ⟨r4,h7,h5⟩:=Je h5
   refine zP (Jeg _ _ r4 h7) ?_
   refine zL (L:=(r4:(List Int))) ?_
   refine zE (Jb ?_)
   rcases Jl h5 with ⟨hb,h5⟩|⟨hb,h5⟩
   ·refine zT hb (Ja (Jd (zE (Jb (Jq (Js (Jm ?_)))))))
    cases h5
    refine Kd fun he=>?_
    subst he
    have h8:=Kq h
    refine Js (Jm ?_)
    cases h8
    exact zQ
   refine zU hb (Jj (Jz (Jb (Jd (zE ?_)))))
   cases h5
   exact zB
  refine zU hb (Jy (Jv ?_))
  cases h5
  exact zX
 rintro _ s' rfl hs
 have h:=Kb h
 refine Jt (Jb (Ka hs (Ja (Jd (zE (Jb (Jq ?_)))))))
 cases h
 exact zQ
/-! rail.Sides -/
noncomputable def Jaa (a0:Int):Option Int :=
 bif ((decide (a0<0))||(decide (4≤a0))) then (
  some 0
 ) else (
  (ixO Cu a0).bind fun x1 =>
  some x1
 )
theorem Jjc (a0:Int) (r:Int) (h:Jaa a0=some r):Kj Tryz.prog GlS 262 [Enc.pv a0] (Enc.pv r):=by
 unfold Jaa at h
 refine zC Tryz.func262 Tryz.ntmps262 ?_
 refine Ja (Jd (zE (Jb (Ja (Ja (Jd (zR 3 ?_)))))))
 refine Ku 3 8 ((decide (a0<0))||(decide (4≤a0))) (fun x hx=>?_) ?_
 ·rcases Vs hx with ⟨hb,hx⟩|⟨hb,hx⟩
  ·refine zS 5 hb ?_
   subst hx
   exact zF
  refine zS 5 hb ?_
  subst hx
  exact zF
 refine zN (Jb ?_)
 rcases Jl h with ⟨hb,h⟩|⟨hb,h⟩
 ·refine zT hb (Ja (Jd (zE (Jb (Jq (Jm ?_))))))
  cases h
  exact zQ
 refine zU hb (Jj (Jb (Ja (Jd (zR 1 ?_)))))
 obtain ⟨x1,h1,h⟩:=Je h
 refine Jzx h1 1 4 1 (by kernel_rfl) (by kernel_rfl) ?_
 refine Jwj (tab:=Cu) h1 false 1 (by kernel_rfl) (by kernel_rfl) (by kernel_rfl) ?_
 refine zE (Jb (Jq ?_))
 cases h
 exact zQ
/-! layout.exists -/
noncomputable def Cb (a0:Ji) (a1:Jo):Option Bool :=
 (Qq a1.El 0 (w64 (((a0.Elements.length:Nat):Int) - 1))).bind fun r1 =>
 ((bif r1 then (
  (ixO a0.Elements a1.El).bind fun x3 =>
  (Jaa x3.Kind).bind fun r4 =>
  (Qq a1.Side 0 (w64 (r4 - 1))).bind fun r5 =>
  some r5
 ) else some false):Option Bool).bind fun b2 =>
 some b2
theorem Fo (a0:Ji) (a1:Jo) (r:Bool) (h:Cb a0 a1=some r):Kj Tryz.prog GlS 207 [Enc.pv a0,Enc.pv a1] (Enc.pv r):=by
 unfold Cb at h
 refine zC Tryz.func207 Tryz.ntmps207 ?_
 refine Ja (Jd (zE (Jb (Ja (zD (zR 4 ?_))))))
 refine zL (L:=(a0.Elements:(List Ke))) ?_
 refine zR 1 ?_
 obtain ⟨r1,h1,h⟩:=Je h
 refine zP (Qm _ _ _ r1 h1) ?_
 obtain ⟨b2,h2,h⟩:=Je h
 refine zR 1 ?_
 refine Km 13 25 (.bool b2) ?_ ?_
 ·rcases Jl h2 with ⟨hb,h2⟩|⟨hb,h2⟩
  ·refine zS 12 hb (zR 6 ?_)
   obtain ⟨x3,h3,h2⟩:=Je h2
   refine zI h3 (zR 2 ?_)
   obtain ⟨r4,h4,h2⟩:=Je h2
   refine zP (Jjc _ r4 h4) (zR 1 ?_)
   obtain ⟨r5,h5,h2⟩:=Je h2
   refine zP (Qm _ _ _ r5 h5) ?_
   cases h2
   exact zF
  refine zS 12 hb ?_
  cases h2
  exact zF
 refine zE (Jb (Jq ?_))
 cases h
 exact zQ
/-! layout.joinEnds -/
noncomputable def Ns (a0:Ji):Int→Option (Int⊕(Unit⊕((List (Jo×Jo))×Int))):=fun x5 =>
 bif decide (x5<((a0.Joints.length:Nat):Int)) then (
  (ixO a0.Joints x5).bind fun x10 =>
  (Cb a0 x10.A).bind fun r11 =>
  ((bif (!r11) then some true else (
   (Cb a0 x10.B).bind fun r13 =>
   some (!r13)
  )):Option Bool).bind fun b12 =>
  bif (b12||(Vk x10.A x10.B)) then (
   some (.inr (.inr (([]:(List (Jo×Jo))),1)))
  ) else (
   some (.inl (w64 (x5+1)))
  )
 ) else (
  some (.inr (.inl ()))
 )
noncomputable def Nl (a0:Ji):(Int×(List (Jo×Jo)))→Option ((Int×(List (Jo×Jo)))⊕((List (Jo×Jo))⊕((List (Jo×Jo))×Int))):=fun (x15,x16) =>
 bif decide (x15<((a0.Joints.length:Nat):Int)) then (
  (ixO a0.Joints x15).bind fun x19 =>
  bif (((Vy (x16:(List (Jo×Jo))) x19.A).isSome)||((Vy (x16:(List (Jo×Jo))) x19.B).isSome)) then (
   some (.inr (.inr (([]:(List (Jo×Jo))),8)))
  ) else (
   some (.inl (w64 (x15+1),(Cq x19.B x19.A (Cq x19.A x19.B x16))))
  )
 ) else (
  some (.inr (.inl x16))
 )
noncomputable def Hy (a0:Ji):Option ((List (Jo×Jo))×Int) :=
 onInl (α:=Unit) (β:=((List (Jo×Jo))×Int)) (Ko (Ns a0) 0) fun _ =>
 onInl (α:=(List (Jo×Jo))) (β:=((List (Jo×Jo))×Int)) (Ko (Nl a0) (0,([]:(List (Jo×Jo))))) fun x18 =>
 some (x18,0)
theorem Jcb (a0:Ji) (r:((List (Jo×Jo))×Int)) (h:Hy a0=some r):Kj Tryz.prog GlS 141 [Enc.pv a0] (.tup [Jo4 (r.1:(List (Jo×Jo))),Enc.pv r.2]):=by
 unfold Hy at h
 refine zC Tryz.func141 Tryz.ntmps141 ?_
 refine Ja (Jd (zE (Jb (Ja (Ja (Jd (zR 2 ?_)))))))
 refine zL (L:=(a0.Joints:(List Qu))) ?_
 refine zE (Jb (Jp ?_))
 obtain ⟨o12,h12,h⟩:=Kk h
 refine zA 78 0 (fun x5=>⟨[(1,.ref 1 0),(14,Jn .frozen (a0.Joints:(List Qu))),(15,.int .i64 ((a0.Joints.length:Nat):Int)),(16,.int .i64 x5)],[(1,.cells (cellsOf a0))],[],[]⟩) (fun (_:Unit)=>⟨[(1,.ref 1 0)],[(1,.cells (cellsOf a0))],[],[]⟩) h12 ?_ ?_
 ·rintro x5 oh11 h11
  unfold Ns at h11
  refine Ja (Jd (zE (Jb (Ja ?_))))
  rcases Jl h11 with ⟨hb,h11⟩|⟨hb,h11⟩
  ·refine zT hb (Jj (Jb (Ja (Jp (Ja (Jd ?_))))))
   obtain ⟨x10,h13,h11⟩:=Je h11
   refine zI h13 (zE (Jb (Ja (Jd (zR 3 ?_)))))
   obtain ⟨r11,h14,h11⟩:=Je h11
   refine zP (Fo _ _ r11 h14) ?_
   obtain ⟨b12,h15,h11⟩:=Je h11
   refine zR 2 ?_
   refine Km 6 31 (.bool b12) ?_ ?_
   ·rcases Jl h15 with ⟨hb,h15⟩|⟨hb,h15⟩
    ·refine zS 25 hb ?_
     cases h15
     exact zF
    refine zS 25 hb (zR 3 ?_)
    obtain ⟨r13,h16,h15⟩:=Je h15
    refine zP (Fo _ _ r13 h16) ?_
    cases h15
    exact zF
   refine zR 1 ?_
   refine Ku 6 38 (b12||(Vk x10.A x10.B)) (fun x hx=>?_) ?_
   ·rcases Vs hx with ⟨hb,hx⟩|⟨hb,hx⟩
    ·refine zS 32 hb ?_
     subst hx
     exact zF
    refine zS 32 hb ?_
    subst hx
    exact zF
   refine zN (Jb ?_)
   rcases Jl h11 with ⟨hb,h11⟩|⟨hb,h11⟩
   ·refine zT hb (Ja (Jd (zE (Jb (Jq (Js (Jm ?_)))))))
    cases h11
    refine Kd fun he=>?_
    subst he
    have h17:=Kq h
    refine Js (Jm ?_)
    cases h17
    exact zQ
   refine zU hb (Jj (Jz (Jb (Jd (zE ?_)))))
   cases h11
   exact zB
  refine zU hb (Jy (Jv ?_))
  cases h11
  exact zX
 rintro _ s' rfl hs
 have h:=Kb h
 refine Jt (Jb (Ka hs (Ja (Jd (zE (Jb (Ja (Ja (Jd (zR 2 ?_))))))))))
 refine zL (L:=(a0.Joints:(List Qu))) ?_
 refine zE (Jb (Jp ?_))
 obtain ⟨o23,h23,h⟩:=Kk h
 refine zA 78 2 (fun (x15,x16)=>⟨[(6,.mp 40),(42,Jn .frozen (a0.Joints:(List Qu))),(43,.int .i64 ((a0.Joints.length:Nat):Int)),(44,.int .i64 x15)],[(40,.map (Wg (x16:(List (Jo×Jo)))))],[],[]⟩) (fun x18=>⟨[(6,.mp 40)],[(40,.map (Wg (x18:(List (Jo×Jo)))))],[],[]⟩) h23 ?_ ?_
 ·rintro ⟨x15,x16⟩ oh22 h22
  unfold Nl at h22
  refine Ja (Jd (zE (Jb (Ja ?_))))
  rcases Jl h22 with ⟨hb,h22⟩|⟨hb,h22⟩
  ·refine zT hb (Jj (Jb (Ja (Jp (Ja (Jd ?_))))))
   obtain ⟨x19,h24,h22⟩:=Je h22
   refine zI h24 (zE (Jb (Ja (Jd (zR 3 ?_)))))
   refine Jh8 (m:=(x16:(List (Jo×Jo)))) (k:=x19.A) (Jo.mk 0 0) 40 (by kernel_rfl) (by kernel_rfl) ?_
   refine zE (Jb (Ja (Jd (zR 3 ?_))))
   refine Jh8 (m:=(x16:(List (Jo×Jo)))) (k:=x19.B) (Jo.mk 0 0) 40 (by kernel_rfl) (by kernel_rfl) ?_
   refine zE (Jb (Ja (Ja (Jd (zR 2 ?_)))))
   refine Ku 2 65 (((Vy (x16:(List (Jo×Jo))) x19.A).isSome)||((Vy (x16:(List (Jo×Jo))) x19.B).isSome)) (fun x hx=>?_) ?_
   ·rcases Vs hx with ⟨hb,hx⟩|⟨hb,hx⟩
    ·refine zS 63 hb ?_
     subst hx
     exact zF
    refine zS 63 hb ?_
    subst hx
    exact zF
   refine zN (Jb ?_)
   rcases Jl h22 with ⟨hb,h22⟩|⟨hb,h22⟩
   ·refine zT hb (Ja (Jd (zE (Jb (Jq (Jm (Js (Jm ?_))))))))
    cases h22
    refine Kd fun he=>?_
    subst he
    have h25:=Kq h
    refine Js (Jm ?_)
    cases h25
    exact zQ
   refine zU hb (Jj (Jb (zD (zR 10 ?_))))
   refine Je3 (m:=(x16:(List (Jo×Jo)))) (k:=x19.A) (v:=x19.B) 40 (by kernel_rfl) (by kernel_rfl) (by kernel_rfl) ?_
   refine Je3 (m:=((Cq x19.A x19.B x16):(List (Jo×Jo)))) (k:=x19.B) (v:=x19.A) 40 (by kernel_rfl) (by kernel_rfl) (by kernel_rfl) ?_
   refine zN (Jz (Jb (Jd (zE ?_))))
   cases h22
   exact zB
  refine zU hb (Jy (Jv ?_))
  cases h22
  exact zX
 rintro x18 s' rfl hs
 have h:=Kb h
 refine Jt (Jb (Ka hs (Ja (Jd (zE (Jb ?_))))))
 refine Jxh 40 [] (x18:(List (Jo×Jo))) (by kernel_rfl) (by kernel_rfl) (by kernel_rfl) ?_
 refine Jq ?_
 cases h
 exact zQ
/-! layout.Signal -/
noncomputable def Sf (a0:Ji) (a1:Jo):Int→Option (Int⊕(Unit⊕Int)):=fun x2 =>
 bif decide (x2<((a0.Signals.length:Nat):Int)) then (
  (ixO a0.Signals x2).bind fun x4 =>
  bif Vk x4.At a1 then (
   some (.inr (.inr x2))
  ) else (
   some (.inl (w64 (x2+1)))
  )
 ) else (
  some (.inr (.inl ()))
 )
noncomputable def Fa (a0:Ji) (a1:Jo):Option Int :=
 onInl (α:=Unit) (β:=Int) (Ko (Sf a0 a1) 0) fun _ =>
 some (-1)
theorem Oo (a0:Ji) (a1:Jo) (r:Int) (h:Fa a0 a1=some r):Kj Tryz.prog GlS 73 [Enc.pv a0,Enc.pv a1] (Enc.pv r):=by
 unfold Fa at h
 refine zC Tryz.func73 Tryz.ntmps73 ?_
 refine Ja (Jd (zE (Jb (Ja (Ja (Jd (zR 2 ?_)))))))
 refine zL (L:=(a0.Signals:(List Kl))) ?_
 refine zE (Jb (Jp ?_))
 obtain ⟨o6,h6,h⟩:=Kk h
 refine zA 21 0 (fun x2=>⟨[(3,.ref 3 0),(8,Jn .frozen (a0.Signals:(List Kl))),(9,.int .i64 ((a0.Signals.length:Nat):Int)),(10,.int .i64 x2)],[(3,.cells (cellsOf a1))],[],[]⟩) (fun (_:Unit)=>⟨[],[],[],[]⟩) h6 ?_ ?_
 ·rintro x2 oh5 h5
  unfold Sf at h5
  refine Ja (Jd (zE (Jb (Ja ?_))))
  rcases Jl h5 with ⟨hb,h5⟩|⟨hb,h5⟩
  ·refine zT hb (Jj (Jb (Ja (Jp (Ja (Jd (zR 1 ?_)))))))
   obtain ⟨x4,h7,h5⟩:=Je h5
   refine zI h7 (zE (Jb (Ja (Jd (zE (Jb ?_))))))
   rcases Jl h5 with ⟨hb,h5⟩|⟨hb,h5⟩
   ·refine zT hb (Ja (Jd (zE (Jb (Jq (Js (Jm ?_)))))))
    cases h5
    refine Kd fun he=>?_
    subst he
    have h8:=Kq h
    refine Js (Jm ?_)
    cases h8
    exact zQ
   refine zU hb (Jj (Jz (Jb (Jd (zE ?_)))))
   cases h5
   exact zB
  refine zU hb (Jy (Jv ?_))
  cases h5
  exact zX
 rintro _ s' rfl hs
 have h:=Kb h
 refine Jt (Jb (Ka hs (Ja (Jd (zE (Jb (Jq ?_)))))))
 cases h
 exact zQ
/-! layout.Section -/
noncomputable def Be (a0:Ji) (a1:Int):Option Int :=
 ((bif decide (a1<0) then some true else (
  some (decide (((a0.Elements.length:Nat):Int)≤a1))
 )):Option Bool).bind fun b1 =>
 bif b1 then (
  some (-1)
 ) else (
  (ixO a0.Elements a1).bind fun x2 =>
  some x2.Section
 )
theorem Ed (a0:Ji) (a1:Int) (r:Int) (h:Be a0 a1=some r):Kj Tryz.prog GlS 208 [Enc.pv a0,Enc.pv a1] (Enc.pv r):=by
 unfold Be at h
 refine zC Tryz.func208 Tryz.ntmps208 ?_
 refine Ja (Jd (zE (Jb (Ja (Ja (Jd ?_))))))
 obtain ⟨b1,h1,h⟩:=Je h
 refine zR 3 ?_
 refine Km 6 13 (.bool b1) ?_ ?_
 ·rcases Jl h1 with ⟨hb,h1⟩|⟨hb,h1⟩
  ·refine zS 7 hb ?_
   cases h1
   exact zF
  refine zS 7 hb (zR 3 ?_)
  refine zL (L:=(a0.Elements:(List Ke))) ?_
  cases h1
  exact zF
 refine zN (Jb ?_)
 rcases Jl h with ⟨hb,h⟩|⟨hb,h⟩
 ·refine zT hb (Ja (Jd (zE (Jb (Jq (Jm ?_))))))
  cases h
  exact zQ
 refine zU hb (Jj (Jb (Ja (Jd (zR 3 ?_)))))
 obtain ⟨x2,h2,h⟩:=Je h
 refine zI h2 (zE (Jb (Jq ?_)))
 cases h
 exact zQ
/-! layout.checkSignals -/
noncomputable def Fx (a0:Ji):Int→Option (Int⊕(Unit⊕Int)):=fun x5 =>
 bif decide (x5<((a0.Signals.length:Nat):Int)) then (
  (ixO a0.Signals x5).bind fun x10 =>
  (Cb a0 x10.At).bind fun r11 =>
  ((bif (!r11) then some true else (
   (Qq x10.Overlap 0 1000000).bind fun r13 =>
   some (!r13)
  )):Option Bool).bind fun b12 =>
  bif b12 then (
   some (.inr (.inr 1))
  ) else (
   some (.inl (w64 (x5+1)))
  )
 ) else (
  some (.inr (.inl ()))
 )
noncomputable def Gf (a0:Ji):Int→Option (Int⊕(Unit⊕Int)):=fun x16 =>
 bif decide (x16<((a0.Signals.length:Nat):Int)) then (
  (ixO a0.Signals x16).bind fun x19 =>
  (Fa a0 x19.At).bind fun r20 =>
  bif (!(decide (r20=x16))) then (
   some (.inr (.inr 8))
  ) else (
   some (.inl (w64 (x16+1)))
  )
 ) else (
  some (.inr (.inl ()))
 )
noncomputable def Gj (a0:Ji) (a1:(List (Jo×Jo))):Int→Option (Int⊕(Unit⊕Int)):=fun x25 =>
 bif decide (x25<((a0.Signals.length:Nat):Int)) then (
  (ixO a0.Signals x25).bind fun x30 =>
  ((bif (!((Vy (a1:(List (Jo×Jo))) x30.At).isSome)) then some true else (
   (Be a0 (((Vy (a1:(List (Jo×Jo))) x30.At).getD (Jo.mk 0 0)).El)).bind fun r32 =>
   (Be a0 x30.At.El).bind fun r33 =>
   some (decide (r32=r33))
  )):Option Bool).bind fun b31 =>
  bif b31 then (
   some (.inr (.inr 14))
  ) else (
   some (.inl (w64 (x25+1)))
  )
 ) else (
  some (.inr (.inl ()))
 )
noncomputable def Cj (a0:Ji) (a1:(List (Jo×Jo))):Option Int :=
 onInl (α:=Unit) (β:=Int) (Ko (Fx a0) 0) fun _ =>
 onInl (α:=Unit) (β:=Int) (Ko (Gf a0) 0) fun _ =>
 onInl (α:=Unit) (β:=Int) (Ko (Gj a0 a1) 0) fun _ =>
 some 0
theorem Sl (a0:Ji) (a1:(List (Jo×Jo))) (r:Int) (h:Cj a0 a1=some r):Kj Tryz.prog GlS 142 [Enc.pv a0,Jo4 (a1:(List (Jo×Jo)))] (Enc.pv r):=by
 unfold Cj at h
 refine zC Tryz.func142 Tryz.ntmps142 ?_
 refine Ja (Jd (zE (Jb (Ja (Ja (Jd (zR 2 ?_)))))))
 refine zL (L:=(a0.Signals:(List Kl))) ?_
 refine zE (Jb (Jp ?_))
 obtain ⟨o12,h12,h⟩:=Kk h
 refine zA 76 0 (fun x5=>⟨[(1,Jo4 (a1:(List (Jo×Jo)))),(2,.ref 2 0),(14,Jn .frozen (a0.Signals:(List Kl))),(15,.int .i64 ((a0.Signals.length:Nat):Int)),(16,.int .i64 x5)],[(2,.cells (cellsOf a0))],[],[]⟩) (fun (_:Unit)=>⟨[(1,Jo4 (a1:(List (Jo×Jo)))),(2,.ref 2 0)],[(2,.cells (cellsOf a0))],[],[]⟩) h12 ?_ ?_
 ·rintro x5 oh11 h11
  unfold Fx at h11
  refine Ja (Jd (zE (Jb (Ja ?_))))
  rcases Jl h11 with ⟨hb,h11⟩|⟨hb,h11⟩
  ·refine zT hb (Jj (Jb (Ja (Jp (Ja (Jd ?_))))))
   obtain ⟨x10,h13,h11⟩:=Je h11
   refine zI h13 (zE (Jb (Ja (Jd (zR 3 ?_)))))
   obtain ⟨r11,h14,h11⟩:=Je h11
   refine zP (Fo _ _ r11 h14) ?_
   obtain ⟨b12,h15,h11⟩:=Je h11
   refine zR 2 ?_
   refine Km 5 30 (.bool b12) ?_ ?_
   ·rcases Jl h15 with ⟨hb,h15⟩|⟨hb,h15⟩
    ·refine zS 25 hb ?_
     cases h15
     exact zF
    refine zS 25 hb (zR 2 ?_)
    obtain ⟨r13,h16,h15⟩:=Je h15
    refine zP (Qm _ _ _ r13 h16) ?_
    cases h15
    exact zF
   refine zN (Jb ?_)
   rcases Jl h11 with ⟨hb,h11⟩|⟨hb,h11⟩
   ·refine zT hb (Ja (Jd (zE (Jb (Jq (Js (Jm ?_)))))))
    cases h11
    refine Kd fun he=>?_
    subst he
    have h17:=Kq h
    refine Js (Jm ?_)
    cases h17
    exact zQ
   refine zU hb (Jj (Jz (Jb (Jd (zE ?_)))))
   cases h11
   exact zB
  refine zU hb (Jy (Jv ?_))
  cases h11
  exact zX
 rintro _ s' rfl hs
 have h:=Kb h
 refine Jt (Jb (Ka hs (Ja (Ja (Jd (zR 2 ?_))))))
 refine zL (L:=(a0.Signals:(List Kl))) ?_
 refine zE (Jb (Jp ?_))
 obtain ⟨o25,h25,h⟩:=Kk h
 refine zA 76 2 (fun x16=>⟨[(1,Jo4 (a1:(List (Jo×Jo)))),(2,.ref 2 0),(33,Jn .frozen (a0.Signals:(List Kl))),(34,.int .i64 ((a0.Signals.length:Nat):Int)),(35,.int .i64 x16)],[(2,.cells (cellsOf a0))],[],[]⟩) (fun (_:Unit)=>⟨[(1,Jo4 (a1:(List (Jo×Jo)))),(2,.ref 2 0)],[(2,.cells (cellsOf a0))],[],[]⟩) h25 ?_ ?_
 ·rintro x16 oh24 h24
  unfold Gf at h24
  refine Ja (Jd (zE (Jb (Ja ?_))))
  rcases Jl h24 with ⟨hb,h24⟩|⟨hb,h24⟩
  ·refine zT hb (Jj (Jb (Ja (Jp (Ja (Jd (zR 1 ?_)))))))
   obtain ⟨x19,h26,h24⟩:=Je h24
   refine zI h26 (zE (Jb (Ja (Jd (zR 3 ?_)))))
   obtain ⟨r20,h27,h24⟩:=Je h24
   refine zP (Oo _ _ r20 h27) (zE (Jb ?_))
   rcases Jl h24 with ⟨hb,h24⟩|⟨hb,h24⟩
   ·refine zT hb (Ja (Jd (zE (Jb (Jq (Js (Jm ?_)))))))
    cases h24
    refine Kd fun he=>?_
    subst he
    have h28:=Kq h
    refine Js (Jm ?_)
    cases h28
    exact zQ
   refine zU hb (Jj (Jz (Jb (Jd (zE ?_)))))
   cases h24
   exact zB
  refine zU hb (Jy (Jv ?_))
  cases h24
  exact zX
 rintro _ s' rfl hs
 have h:=Kb h
 refine Jt (Jb (Ka hs (Ja (Ja (Jd (zR 2 ?_))))))
 refine zL (L:=(a0.Signals:(List Kl))) ?_
 refine zE (Jb (Jp ?_))
 obtain ⟨o40,h40,h⟩:=Kk h
 refine zA 76 4 (fun x25=>⟨[(1,Jo4 (a1:(List (Jo×Jo)))),(2,.ref 2 0),(48,Jn .frozen (a0.Signals:(List Kl))),(49,.int .i64 ((a0.Signals.length:Nat):Int)),(50,.int .i64 x25)],[(2,.cells (cellsOf a0))],[],[]⟩) (fun (_:Unit)=>⟨[],[],[],[]⟩) h40 ?_ ?_
 ·rintro x25 oh39 h39
  unfold Gj at h39
  refine Ja (Jd (zE (Jb (Ja ?_))))
  rcases Jl h39 with ⟨hb,h39⟩|⟨hb,h39⟩
  ·refine zT hb (Jj (Jb (Ja (Jp (Ja (Jd ?_))))))
   obtain ⟨x30,h41,h39⟩:=Je h39
   refine zI h41 (zE (Jb (Ja (Jd (zR 3 ?_)))))
   refine Jha (m:=(a1:(List (Jo×Jo)))) (k:=x30.At) (Jo.mk 0 0) true (by kernel_rfl) ?_
   refine zE (Jb (Ja (zD ?_)))
   obtain ⟨b31,h42,h39⟩:=Je h39
   refine zR 3 ?_
   refine Km 11 74 (.bool b31) ?_ ?_
   ·rcases Jl h42 with ⟨hb,h42⟩|⟨hb,h42⟩
    ·refine zS 63 hb ?_
     cases h42
     exact zF
    refine zS 63 hb (zR 3 ?_)
    obtain ⟨r32,h43,h42⟩:=Je h42
    refine zP (Ed _ _ r32 h43) (zR 4 ?_)
    obtain ⟨r33,h44,h42⟩:=Je h42
    refine zP (Ed _ _ r33 h44) ?_
    cases h42
    exact zF
   refine zN (Jb ?_)
   rcases Jl h39 with ⟨hb,h39⟩|⟨hb,h39⟩
   ·refine zT hb (Ja (Jd (zE (Jb (Jq (Js (Jm ?_)))))))
    cases h39
    refine Kd fun he=>?_
    subst he
    have h45:=Kq h
    refine Js (Jm ?_)
    cases h45
    exact zQ
   refine zU hb (Jj (Jz (Jb (Jd (zE ?_)))))
   cases h39
   exact zB
  refine zU hb (Jy (Jv ?_))
  cases h39
  exact zX
 rintro _ s' rfl hs
 have h:=Kb h
 refine Jt (Jb (Ka hs (Ja (Jd (zE (Jb (Jq ?_)))))))
 cases h
 exact zQ
end PM
