/-
 Plain functions for the program's functions, and the proofs that the program does them. Printed by den.py.
-/
import Derived.Test.YtfpoeepcomnjhaaGreatDoorDen8
namespace PM
open Go Go.RowKit Go.Proofs
attribute [local irreducible] Kp pwp
/-! signallingref32.place -/
/-! signallingref32.passes -/
/-! signallingref32.before -/
/-! signallingref32.put -/
/-! signallingref32.Of -/
/-! signallingref32.Valid -/
/-! signallingref45.Valid -/
/-! signallingref45.Build -/
/-! signallingref47.message -/
/-! signallingref38.Send -/
noncomputable def Hs (a0:Jk) (a1:Kc) (a2:Int):Option (Jk×Kc) :=
 onInl (α:=Int) (β:=(Jk×Kc)) (
  bif decide (a0.Out<1073741824) then (
   some (.inl (w64 (a0.Out+1)))
  ) else (
   some (.inl a0.Out)
  )
 ) fun x1 =>
 some ((Jk.mk a0.Peer x1 a0.In a0.Heard),(Kc.mk a1.Kind a1.From a0.Peer x1 a2 a1.Auth a1.Report))
theorem Jjk (a0:Jk) (a1:Kc) (a2:Int) (r:(Jk×Kc)) (h:Hs a0 a1 a2=some r):Kj Tryz.prog GlS 50 [Enc.pv a0,Enc.pv a1,Enc.pv a2] (.tup [Enc.pv r.1,Enc.pv r.2]):=by
 unfold Hs at h
 refine zC Tryz.func50 Tryz.ntmps50 ?_
 refine Ja (Jd (zE (Jb ?_)))
 obtain ⟨o1,h1,h⟩:=Kk h
 refine Qp (o:=o1) 25 (fun x1=>⟨[(2,.int .i64 a2),(3,.ref 3 0),(4,.ref 4 0),(6,.ref 6 0),(7,.ref 7 0)],[(3,.cells ([.int .i64 a0.Peer,.int .i64 x1,.int .i64 a0.In,.int .i64 a0.Heard])),(4,.cells (cellsOf a1)),(6,.cells ([.int .i64 0,.int .i64 0,.int .i64 0,.int .i64 0])),(7,.cells ([.int .i64 0,.int .i64 0,.int .i64 0,.int .i64 0,.int .i64 0,.int .i64 0,.int .i64 0,.nil,.nil,.int .i64 0,.int .i64 0,.int .i64 0,.int .i64 0,.bool false]))],[],[]⟩) ?_ ?_
 ·refine Ja (Jd (zE (Jb ?_)))
  rcases Jl h1 with ⟨hb,h1⟩|⟨hb,h1⟩
  ·refine zT hb (Jd (zE ?_))
   cases h1
   exact zJ
  refine zU hb (Jj ?_)
  cases h1
  exact zJ
 rintro x1 rfl
 have h:=Kb h
 refine Ja (Jd (zE (Jb (Ja (Jd (zE (Jb (Ja (Jd (zE (Jb (Ja ?_))))))))))))
 refine Jsa 25 ⟨[(6,.ref 6 0),(7,.ref 7 0)],[(6,.cells ([.int .i64 a0.Peer,.int .i64 x1,.int .i64 a0.In,.int .i64 a0.Heard])),(7,.cells ([.int .i64 a1.Kind,.int .i64 a1.From,.int .i64 a0.Peer,.int .i64 x1,.int .i64 a2,.int .i64 a1.Auth.Seq,.int .i64 a1.Auth.End,Jn .frozen a1.Auth.Profile,Jn .frozen a1.Auth.Links,.int .i64 a1.Report.Min,.int .i64 a1.Report.Speed,.int .i64 a1.Report.Mode,.int .i64 a1.Report.Accepted,.bool a1.Report.Whole]))],[],[]⟩ (by kernel_rfl) ?_ ?_
 ·refine Qr [0,1] (by kernel_rfl) ⟨?_, ?_,trivial⟩
  ·refine ⟨_,rfl, ?_⟩
   refine zR 1 (Wm ?_)
   refine Qr [1,2] (by kernel_rfl) ⟨?_, ?_,trivial⟩
   ·refine ⟨_,rfl, ?_⟩
    refine zR 1 (Wm ?_)
    refine Qr [2] (by kernel_rfl) ⟨?_,trivial⟩
    refine ⟨_,rfl, ?_⟩
    refine zR 1 (Wm ?_)
    refine Qr [3] (by kernel_rfl) ⟨?_,trivial⟩
    refine ⟨_,rfl, ?_⟩
    refine zR 1 (Wm ?_)
    exact Dr (by kernel_rfl) (.of (by kernel_rfl) (by kernel_rfl))
   refine ⟨_,rfl, ?_⟩
   refine zR 1 (Wm ?_)
   refine Qr [1] (by kernel_rfl) ⟨?_,trivial⟩
   refine ⟨_,rfl, ?_⟩
   refine zR 1 (Wm ?_)
   refine Qr [3] (by kernel_rfl) ⟨?_,trivial⟩
   refine ⟨_,rfl, ?_⟩
   refine zR 1 (Wm ?_)
   exact Dr (by kernel_rfl) (.of (by kernel_rfl) (by kernel_rfl))
  refine ⟨_,rfl, ?_⟩
  refine zR 1 (Wm ?_)
  refine Qr [0] (by kernel_rfl) ⟨?_,trivial⟩
  refine ⟨_,rfl, ?_⟩
  refine zR 1 (Wm ?_)
  refine Qr [2] (by kernel_rfl) ⟨?_,trivial⟩
  refine ⟨_,rfl, ?_⟩
  refine zR 1 (Wm ?_)
  refine Qr [3] (by kernel_rfl) ⟨?_,trivial⟩
  refine ⟨_,rfl, ?_⟩
  refine zR 1 (Wm ?_)
  exact Dr (by kernel_rfl) (.of (by kernel_rfl) (by kernel_rfl))
 refine Jb (Jq ?_)
 cases h
 exact zQ
/-! signallingref47.Grant -/
/-! signallingref10.Same -/
noncomputable def Jc1 (a0:(List Jh)) (a1:(List Jh)):Int→Option (Int⊕(Unit⊕Bool)):=fun x3 =>
 bif decide (x3<((a0.length:Nat):Int)) then (
  (ixO a0 x3).bind fun x6 =>
  (ixO a1 x3).bind fun x7 =>
  bif (!(Jg9 x6 x7)) then (
   some (.inr (.inr false))
  ) else (
   some (.inl (w64 (x3+1)))
  )
 ) else (
  some (.inr (.inl ()))
 )
noncomputable def Jal (a0:(List Jh)) (a1:(List Jh)):Option Bool :=
 bif (!(decide (((a0.length:Nat):Int)=((a1.length:Nat):Int)))) then (
  some false
 ) else (
  onInl (α:=Unit) (β:=Bool) (Ko (Jc1 a0 a1) 0) fun _ =>
  some true
 )
theorem Jje (a0:(List Jh)) (a1:(List Jh)) (r:Bool) (h:Jal a0 a1=some r):Kj Tryz.prog GlS 107 [Enc.pv a0,Enc.pv a1] (Enc.pv r):=by
 unfold Jal at h
 refine zC Tryz.func107 Tryz.ntmps107 ?_
 refine Ja (Jd (zE (Jb (Ja (Ja (Jd (zR 1 ?_)))))))
 refine zL (L:=(a0:(List Jh))) ?_
 refine zR 1 ?_
 refine zL (L:=(a1:(List Jh))) ?_
 refine zE (Jb ?_)
 rcases Jl h with ⟨hb,h⟩|⟨hb,h⟩
 ·refine zT hb (Ja (Jd (zE (Jb (Jq (Jm ?_))))))
  cases h
  exact zQ
 refine zU hb (Jj (Jb (Ja (Ja (Jd (zR 1 ?_))))))
 refine zL (L:=(a0:(List Jh))) ?_
 refine zE (Jb (Jp ?_))
 obtain ⟨o8,h8,h⟩:=Kk h
 refine zA 26 0 (fun x3=>⟨[(0,Jn .frozen (a0:(List Jh))),(1,Jn .frozen (a1:(List Jh))),(12,.int .i64 ((a0.length:Nat):Int)),(13,.int .i64 x3)],[],[],[]⟩) (fun (_:Unit)=>⟨[],[],[],[]⟩) h8 ?_ ?_
 ·rintro x3 oh7 h7
  unfold Jc1 at h7
  refine Ja (Jd (zE (Jb (Ja ?_))))
  rcases Jl h7 with ⟨hb,h7⟩|⟨hb,h7⟩
  ·refine zT hb (Jj (Jb (Ja (Jp (Ja (Jd (zE (Jb (Ja (zD (zR 2 ?_)))))))))))
   obtain ⟨x6,h9,h7⟩:=Je h7
   refine zI h9 (zR 3 ?_)
   obtain ⟨x7,h10,h7⟩:=Je h7
   refine zI h10 (zE (Jb ?_))
   rcases Jl h7 with ⟨hb,h7⟩|⟨hb,h7⟩
   ·refine zT hb (Ja (Jd (zE (Jb (Jq (Js (Jm ?_)))))))
    cases h7
    refine Kd fun he=>?_
    subst he
    have h11:=Kq h
    refine Js (Jm ?_)
    cases h11
    exact zQ
   refine zU hb (Jj (Jz (Jb (Jd (zE ?_)))))
   cases h7
   exact zB
  refine zU hb (Jy (Jv ?_))
  cases h7
  exact zX
 rintro _ s' rfl hs
 have h:=Kb h
 refine Jt (Jb (Ka hs (Ja (Jd (zE (Jb (Jq ?_)))))))
 cases h
 exact zQ
/-! signallingref37.SameAuthority -/
noncomputable def Ge (a0:Ks) (a1:Ks):Int→Option (Int⊕(Unit⊕Bool)):=fun x6 =>
 bif decide (x6<((a0.Links.length:Nat):Int)) then (
  (ixO a0.Links x6).bind fun x9 =>
  (ixO a1.Links x6).bind fun x10 =>
  bif (!(Ji5 x9 x10)) then (
   some (.inr (.inr false))
  ) else (
   some (.inl (w64 (x6+1)))
  )
 ) else (
  some (.inr (.inl ()))
 )
noncomputable def Zf (a0:Ks) (a1:Ks):Option Bool :=
 ((bif ((!(decide (a0.Seq=a1.Seq)))||(!(decide (a0.End=a1.End)))) then some true else (
  (Jal a0.Profile a1.Profile).bind fun r2 =>
  some (!r2)
 )):Option Bool).bind fun b1 =>
 ((bif b1 then some true else (
  some (!(decide (((a0.Links.length:Nat):Int)=((a1.Links.length:Nat):Int))))
 )):Option Bool).bind fun b3 =>
 bif b3 then (
  some false
 ) else (
  onInl (α:=Unit) (β:=Bool) (Ko (Ge a0 a1) 0) fun _ =>
  some true
 )
theorem Tj (a0:Ks) (a1:Ks) (r:Bool) (h:Zf a0 a1=some r):Kj Tryz.prog GlS 55 [Enc.pv a0,Enc.pv a1] (Enc.pv r):=by
 unfold Zf at h
 refine zC Tryz.func55 Tryz.ntmps55 ?_
 refine Ja (Jd (zE (Jb (Ja (Ja (Jd (zR 6 ?_)))))))
 refine Ku 6 17 ((!(decide (a0.Seq=a1.Seq)))||(!(decide (a0.End=a1.End)))) (fun x hx=>?_) ?_
 ·rcases Vs hx with ⟨hb,hx⟩|⟨hb,hx⟩
  ·refine zS 11 hb ?_
   subst hx
   exact zF
  refine zS 11 hb ?_
  subst hx
  exact zF
 obtain ⟨b1,h1,h⟩:=Je h
 refine zR 1 ?_
 refine Km 7 25 (.bool b1) ?_ ?_
 ·rcases Jl h1 with ⟨hb,h1⟩|⟨hb,h1⟩
  ·refine zS 18 hb ?_
   cases h1
   exact zF
  refine zS 18 hb (zR 4 ?_)
  obtain ⟨r2,h2,h1⟩:=Je h1
  refine zP (Jje _ _ r2 h2) ?_
  cases h1
  exact zF
 obtain ⟨b3,h3,h⟩:=Je h
 refine zR 1 ?_
 refine Km 8 34 (.bool b3) ?_ ?_
 ·rcases Jl h3 with ⟨hb,h3⟩|⟨hb,h3⟩
  ·refine zS 26 hb ?_
   cases h3
   exact zF
  refine zS 26 hb (zR 2 ?_)
  refine zL (L:=(a0.Links:(List Jc))) ?_
  refine zR 2 ?_
  refine zL (L:=(a1.Links:(List Jc))) ?_
  cases h3
  exact zF
 refine zN (Jb ?_)
 rcases Jl h with ⟨hb,h⟩|⟨hb,h⟩
 ·refine zT hb (Ja (Jd (zE (Jb (Jq (Jm ?_))))))
  cases h
  exact zQ
 refine zU hb (Jj (Jb (Ja (Ja (Jd (zR 2 ?_))))))
 refine zL (L:=(a0.Links:(List Jc))) ?_
 refine zE (Jb (Jp ?_))
 obtain ⟨o11,h11,h⟩:=Kk h
 refine zA 53 0 (fun x6=>⟨[(2,.ref 2 0),(3,.ref 3 0),(37,.int .i64 ((a0.Links.length:Nat):Int)),(38,.int .i64 x6)],[(2,.cells (cellsOf a0)),(3,.cells (cellsOf a1))],[],[]⟩) (fun (_:Unit)=>⟨[],[],[],[]⟩) h11 ?_ ?_
 ·rintro x6 oh10 h10
  unfold Ge at h10
  refine Ja (Jd (zE (Jb (Ja ?_))))
  rcases Jl h10 with ⟨hb,h10⟩|⟨hb,h10⟩
  ·refine zT hb (Jj (Jb (Ja (Jp (Ja (Jd (zE (Jb (Ja (zD (zR 3 ?_)))))))))))
   obtain ⟨x9,h12,h10⟩:=Je h10
   refine zI h12 (zR 4 ?_)
   obtain ⟨x10,h13,h10⟩:=Je h10
   refine zI h13 (zE (Jb ?_))
   rcases Jl h10 with ⟨hb,h10⟩|⟨hb,h10⟩
   ·refine zT hb (Ja (Jd (zE (Jb (Jq (Js (Jm ?_)))))))
    cases h10
    refine Kd fun he=>?_
    subst he
    have h14:=Kq h
    refine Js (Jm ?_)
    cases h14
    exact zQ
   refine zU hb (Jj (Jz (Jb (Jd (zE ?_)))))
   cases h10
   exact zB
  refine zU hb (Jy (Jv ?_))
  cases h10
  exact zX
 rintro _ s' rfl hs
 have h:=Kb h
 refine Jt (Jb (Ka hs (Ja (Jd (zE (Jb (Jq ?_)))))))
 cases h
 exact zQ
/-! signallingref37.Same -/
noncomputable def Di (a0:Kc) (a1:Kc):Option Bool :=
 ((bif (((((decide (a0.Kind=a1.Kind))&&(decide (a0.From=a1.From)))&&(decide (a0.To=a1.To)))&&(decide (a0.Seq=a1.Seq)))&&(decide (a0.Time=a1.Time))) then (
  (Zf a0.Auth a1.Auth).bind fun r2 =>
  some r2
 ) else some false):Option Bool).bind fun b1 =>
 some (b1&&(Fg a0.Report a1.Report))
theorem Ji3 (a0:Kc) (a1:Kc) (r:Bool) (h:Di a0 a1=some r):Kj Tryz.prog GlS 22 [Enc.pv a0,Enc.pv a1] (Enc.pv r):=by
 unfold Di at h
 refine zC Tryz.func22 Tryz.ntmps22 ?_
 refine Ja (Jd (zE (Jb (Ja (Jd (zR 6 ?_))))))
 refine Ku 6 16 ((decide (a0.Kind=a1.Kind))&&(decide (a0.From=a1.From))) (fun x hx=>?_) ?_
 ·rcases Vm hx with ⟨hb,hx⟩|⟨hb,hx⟩
  ·refine zS 10 hb ?_
   subst hx
   exact zF
  refine zS 10 hb ?_
  subst hx
  exact zF
 refine zR 1 ?_
 refine Ku 6 23 (((decide (a0.Kind=a1.Kind))&&(decide (a0.From=a1.From)))&&(decide (a0.To=a1.To))) (fun x hx=>?_) ?_
 ·rcases Vm hx with ⟨hb,hx⟩|⟨hb,hx⟩
  ·refine zS 17 hb ?_
   subst hx
   exact zF
  refine zS 17 hb ?_
  subst hx
  exact zF
 refine zR 1 ?_
 refine Ku 6 30 ((((decide (a0.Kind=a1.Kind))&&(decide (a0.From=a1.From)))&&(decide (a0.To=a1.To)))&&(decide (a0.Seq=a1.Seq))) (fun x hx=>?_) ?_
 ·rcases Vm hx with ⟨hb,hx⟩|⟨hb,hx⟩
  ·refine zS 24 hb ?_
   subst hx
   exact zF
  refine zS 24 hb ?_
  subst hx
  exact zF
 refine zR 1 ?_
 refine Ku 6 37 (((((decide (a0.Kind=a1.Kind))&&(decide (a0.From=a1.From)))&&(decide (a0.To=a1.To)))&&(decide (a0.Seq=a1.Seq)))&&(decide (a0.Time=a1.Time))) (fun x hx=>?_) ?_
 ·rcases Vm hx with ⟨hb,hx⟩|⟨hb,hx⟩
  ·refine zS 31 hb ?_
   subst hx
   exact zF
  refine zS 31 hb ?_
  subst hx
  exact zF
 obtain ⟨b1,h1,h⟩:=Je h
 refine zR 1 ?_
 refine Km 6 44 (.bool b1) ?_ ?_
 ·rcases Jl h1 with ⟨hb,h1⟩|⟨hb,h1⟩
  ·refine zS 38 hb (zR 4 ?_)
   obtain ⟨r2,h2,h1⟩:=Je h1
   refine zP (Tj _ _ r2 h2) ?_
   cases h1
   exact zF
  refine zS 38 hb ?_
  cases h1
  exact zF
 refine zR 1 ?_
 refine Ku 6 51 (b1&&(Fg a0.Report a1.Report)) (fun x hx=>?_) ?_
 ·rcases Vm hx with ⟨hb,hx⟩|⟨hb,hx⟩
  ·refine zS 45 hb ?_
   subst hx
   exact zF
  refine zS 45 hb ?_
  subst hx
  exact zF
 refine zE (Jb (Jq ?_))
 cases h
 exact zQ
/-! signallingref47.SameMessages -/
/-! signallinglaw47.RbcGrants -/
/-! signallingref47.track -/
noncomputable def Fi (a0:Jw) (a1:Int):Int→Option (Int⊕(Unit⊕Int)):=fun x2 =>
 bif decide (x2<((a0.Tracks.length:Nat):Int)) then (
  (ixO a0.Tracks x2).bind fun x4 =>
  bif decide (x4.Id=a1) then (
   some (.inr (.inr x2))
  ) else (
   some (.inl (w64 (x2+1)))
  )
 ) else (
  some (.inr (.inl ()))
 )
noncomputable def Zu (a0:Jw) (a1:Int):Option Int :=
 onInl (α:=Unit) (β:=Int) (Ko (Fi a0 a1) 0) fun _ =>
 some (-1)
theorem Tv (a0:Jw) (a1:Int) (r:Int) (h:Zu a0 a1=some r):Kj Tryz.prog GlS 54 [Enc.pv a0,Enc.pv a1] (Enc.pv r):=by
 unfold Zu at h
 refine zC Tryz.func54 Tryz.ntmps54 ?_
 refine Ja (Jd (zE (Jb (Ja (Ja (Jd (zE (Jb (Jp ?_)))))))))
 obtain ⟨o6,h6,h⟩:=Kk h
 refine zA 22 0 (fun x2=>⟨[(1,.int .i64 a1),(2,.ref 2 0),(5,.int .i64 x2)],[(2,.cells (cellsOf a0))],[],[]⟩) (fun (_:Unit)=>⟨[],[],[],[]⟩) h6 ?_ ?_
 ·rintro x2 oh5 h5
  unfold Fi at h5
  refine Ja (Ja (Jd (zR 3 ?_)))
  refine zL (L:=(a0.Tracks:(List Jg))) ?_
  refine zE (Jb ?_)
  rcases Jl h5 with ⟨hb,h5⟩|⟨hb,h5⟩
  ·refine zT hb (Jj (Jb (Ja (Jp (Ja (Jd (zR 3 ?_)))))))
   obtain ⟨x4,h7,h5⟩:=Je h5
   refine zI h7 (zE (Jb ?_))
   rcases Jl h5 with ⟨hb,h5⟩|⟨hb,h5⟩
   ·refine zT hb (Ja (Jd (zE (Jb (Jq (Js (Jm ?_)))))))
    cases h5
    refine Kd fun he=>?_
    subst he
    have h8:=Kq h
    refine Js (Jm ?_)
    cases h8
    exact zQ
   refine zU hb (Jj (Jz (Jb (Jd (zE ?_)))))
   cases h5
   exact zB
  refine zU hb (Jy (Jv ?_))
  cases h5
  exact zX
 rintro _ s' rfl hs
 have h:=Kb h
 refine Jt (Jb (Ka hs (Ja (Jd (zE (Jb (Jq ?_)))))))
 cases h
 exact zQ
/-! signallingref47.Stop -/
noncomputable def Dh (a0:Jw) (a1:Int) (a2:Int):Option (Jw×Kc×Int) :=
 (Yx a0).bind fun r1 =>
 bif (!r1) then (
  some ((Jw.mk [] []),(Kc.mk 0 0 0 0 0 (Ks.mk 0 0 [] []) (Uh.mk 0 0 0 0 false)),1)
 ) else (
  (Zu a0 a1).bind fun r2 =>
  bif decide (r2<0) then (
   some ((Jw.mk [] []),(Kc.mk 0 0 0 0 0 (Ks.mk 0 0 [] []) (Uh.mk 0 0 0 0 false)),9)
  ) else (
   (ixO a0.Sessions r2).bind fun x3 =>
   (Hs x3 (Kc.mk 4 0 0 0 0 (Ks.mk 0 0 [] []) (Uh.mk 0 0 0 0 false)) a2).bind fun r4 =>
   (ixO a0.Tracks r2).bind fun x5 =>
   (Df a0 r2 x5 r4.1).bind fun r6 =>
   some (r6,r4.2,0)
  )
 )
theorem Jjp (a0:Jw) (a1:Int) (a2:Int) (r:(Jw×Kc×Int)) (h:Dh a0 a1 a2=some r):Kj Tryz.prog GlS 19 [Enc.pv a0,Enc.pv a1,Enc.pv a2] (.tup [Enc.pv r.1,Enc.pv r.2.1,Enc.pv r.2.2]):=by
 unfold Dh at h
 refine zC Tryz.func19 Tryz.ntmps19 ?_
 refine Ja (Jd (zE (Jb (Ja (Ja (Jd (zR 1 ?_)))))))
 obtain ⟨r1,h1,h⟩:=Je h
 refine zP (Nn _ r1 h1) (zE (Jb ?_))
 rcases Jl h with ⟨hb,h⟩|⟨hb,h⟩
 ·refine zT hb (Ja (Jd (zE (Jb (Jq (Jm ?_))))))
  cases h
  exact zQ
 refine zU hb (Jj (Jb (Ja (Jd (zR 2 ?_)))))
 obtain ⟨r2,h2,h⟩:=Je h
 refine zP (Tv _ _ r2 h2) (zE (Jb (Ja (Ja (Jd (zE (Jb ?_)))))))
 rcases Jl h with ⟨hb,h⟩|⟨hb,h⟩
 ·refine zT hb (Ja (Jd (zE (Jb (Jq (Jm ?_))))))
  cases h
  exact zQ
 refine zU hb (Jj (Jb (Ja (Jd (zR 3 ?_)))))
 obtain ⟨x3,h3,h⟩:=Je h
 refine zI h3 (zR 3 ?_)
 obtain ⟨r4,h4,h⟩:=Je h
 refine zP (Jjk _ _ _ r4 h4) (zE (Jb (Ja ?_)))
 obtain ⟨x5,h5,h⟩:=Je h
 obtain ⟨r6,h6,h⟩:=Je h
 refine Jfd 45 ⟨[(6,.ref 6 0),(7,.ref 7 0),(8,.int .i64 0)],[(6,.cells (cellsOf r6)),(7,.cells (cellsOf r4.2))],[],[]⟩ (by kernel_rfl) ?_ ?_
 ·refine Wb [0,1,2,3,4,5,6,7,8] 4 (by kernel_rfl) ?_
  refine zR 5 (zI h5 (zR 2 (zP (Ja5 _ _ _ _ r6 h6) (Kt (by kernel_rfl) ?_))))
  refine Dq (n:=3) [9,10] (by kernel_rfl) ⟨?_, ?_,trivial⟩
  ·refine ⟨_,rfl, ?_⟩
   refine zR 1 (Kt (by kernel_rfl) ?_)
   refine Wb [10,11,12] 0 (by kernel_rfl) ?_
   refine zR 3 (Kt (by kernel_rfl) ?_)
   exact Wj (by kernel_rfl) (.of (by kernel_rfl) (by kernel_rfl))
  refine ⟨_,rfl, ?_⟩
  refine zR 1 (Kt (by kernel_rfl) ?_)
  refine Wb [9,11,12] 0 (by kernel_rfl) ?_
  refine zR 3 (Kt (by kernel_rfl) ?_)
  exact Wj (by kernel_rfl) (.of (by kernel_rfl) (by kernel_rfl))
 refine Jb (Jq ?_)
 cases h
 exact zQ
/-! signallingref47.Shorten -/
noncomputable def Zk (a0:Kz) (a1:Jw) (a2:Int) (a3:Int):Option (Jw×Int) :=
 (Yx a1).bind fun r1 =>
 bif (!r1) then (
  some ((Jw.mk [] []),1)
 ) else (
  (Zu a1 a2).bind fun r2 =>
  bif decide (r2<0) then (
   some ((Jw.mk [] []),9)
  ) else (
   (ixO a1.Tracks r2).bind fun x3 =>
   bif (!(decide (x3.CutSeq=0))) then (
    some ((Jw.mk [] []),11)
   ) else (
    ((bif decide (a3<0) then some true else (
     some (decide (((x3.Routes.length:Nat):Int)≤a3))
    )):Option Bool).bind fun b4 =>
    ((bif b4 then some true else (
     some (decide (((x3.Ends.length:Nat):Int)≤a3))
    )):Option Bool).bind fun b5 =>
    ((bif b5 then some true else (
     (ixO x3.Routes a3).bind fun x7 =>
     some (decide (x7<0))
    )):Option Bool).bind fun b6 =>
    ((bif b6 then some true else (
     (ixO x3.Routes a3).bind fun x9 =>
     some (decide (((a0.Routes.length:Nat):Int)≤x9))
    )):Option Bool).bind fun b8 =>
    bif b8 then (
     some ((Jw.mk [] []),1)
    ) else (
     (ixO x3.Ends a3).bind fun x10 =>
     (ixO x3.Routes a3).bind fun x11 =>
     (ixO a0.Routes x11).bind fun x12 =>
     (ixO a1.Sessions r2).bind fun x13 =>
     (Df a1 r2 (Jg.mk x3.Id x3.Origin x3.End x3.At x3.Steps x3.Routes x3.Starts x3.Ends x3.Done x3.Min x3.Sent x3.Accepted (w64 (x10 - x12.Length)) (w64 (x3.Sent+1))) x13).bind fun r14 =>
     some (r14,0)
    )
   )
  )
 )
theorem Je8 (a0:Kz) (a1:Jw) (a2:Int) (a3:Int) (r:(Jw×Int)) (h:Zk a0 a1 a2 a3=some r):Kj Tryz.prog GlS 21 [Enc.pv a0,Enc.pv a1,Enc.pv a2,Enc.pv a3] (.tup [Enc.pv r.1,Enc.pv r.2]):=by
 unfold Zk at h
 refine zC Tryz.func21 Tryz.ntmps21 ?_
 refine Ja (Jd (zE (Jb (Ja (Ja (Jd (zR 1 ?_)))))))
 obtain ⟨r1,h1,h⟩:=Je h
 refine zP (Nn _ r1 h1) (zE (Jb ?_))
 rcases Jl h with ⟨hb,h⟩|⟨hb,h⟩
 ·refine zT hb (Ja (Jd (zE (Jb (Jq (Jm ?_))))))
  cases h
  exact zQ
 refine zU hb (Jj (Jb (Ja (Jd (zR 2 ?_)))))
 obtain ⟨r2,h2,h⟩:=Je h
 refine zP (Tv _ _ r2 h2) (zE (Jb (Ja (Ja (Jd (zE (Jb ?_)))))))
 rcases Jl h with ⟨hb,h⟩|⟨hb,h⟩
 ·refine zT hb (Ja (Jd (zE (Jb (Jq (Jm ?_))))))
  cases h
  exact zQ
 refine zU hb (Jj (Jb (Ja (Jd (zR 3 ?_)))))
 obtain ⟨x3,h3,h⟩:=Je h
 refine zI h3 (zE (Jb (Ja (Ja (Jd (zE (Jb ?_)))))))
 rcases Jl h with ⟨hb,h⟩|⟨hb,h⟩
 ·refine zT hb (Ja (Jd (zE (Jb (Jq (Jm ?_))))))
  cases h
  exact zQ
 refine zU hb (Jj (Jb (Ja (Ja (zD ?_)))))
 obtain ⟨b4,h4,h⟩:=Je h
 refine zR 3 ?_
 refine Km 6 39 (.bool b4) ?_ ?_
 ·rcases Jl h4 with ⟨hb,h4⟩|⟨hb,h4⟩
  ·refine zS 33 hb ?_
   cases h4
   exact zF
  refine zS 33 hb (zR 3 ?_)
  refine zL (L:=(x3.Routes:(List Int))) ?_
  cases h4
  exact zF
 obtain ⟨b5,h5,h⟩:=Je h
 refine zR 1 ?_
 refine Km 6 46 (.bool b5) ?_ ?_
 ·rcases Jl h5 with ⟨hb,h5⟩|⟨hb,h5⟩
  ·refine zS 40 hb ?_
   cases h5
   exact zF
  refine zS 40 hb (zR 3 ?_)
  refine zL (L:=(x3.Ends:(List Int))) ?_
  cases h5
  exact zF
 obtain ⟨b6,h6,h⟩:=Je h
 refine zR 1 ?_
 refine Km 7 54 (.bool b6) ?_ ?_
 ·rcases Jl h6 with ⟨hb,h6⟩|⟨hb,h6⟩
  ·refine zS 47 hb ?_
   cases h6
   exact zF
  refine zS 47 hb (zR 3 ?_)
  obtain ⟨x7,h7,h6⟩:=Je h6
  refine zI h7 ?_
  cases h6
  exact zF
 obtain ⟨b8,h8,h⟩:=Je h
 refine zR 1 ?_
 refine Km 10 65 (.bool b8) ?_ ?_
 ·rcases Jl h8 with ⟨hb,h8⟩|⟨hb,h8⟩
  ·refine zS 55 hb ?_
   cases h8
   exact zF
  refine zS 55 hb (zR 3 ?_)
  obtain ⟨x9,h9,h8⟩:=Je h8
  refine zI h9 (zR 3 ?_)
  refine zL (L:=(a0.Routes:(List Ju))) ?_
  cases h8
  exact zF
 refine zN (Jb ?_)
 rcases Jl h with ⟨hb,h⟩|⟨hb,h⟩
 ·refine zT hb (Ja (Jd (zE (Jb (Jq (Jm ?_))))))
  cases h
  exact zQ
 refine zU hb (Jj (Jb (Ja (zD (zR 3 ?_)))))
 obtain ⟨x10,h10,h⟩:=Je h
 refine zI h10 (zR 6 ?_)
 obtain ⟨x11,h11,h⟩:=Je h
 refine zI h11 (zR 1 ?_)
 obtain ⟨x12,h12,h⟩:=Je h
 refine zI h12 (zE (Jb (Ja (Jd (zE (Jb (Ja (zD (zR 6 ?_)))))))))
 obtain ⟨x13,h13,h⟩:=Je h
 refine zI h13 (zR 1 ?_)
 obtain ⟨r14,h14,h⟩:=Je h
 refine zP (Ja5 _ _ _ _ r14 h14) (zE (Jb (Jq ?_)))
 cases h
 exact zQ
/-! signallinglaw47.RbcStops -/
noncomputable def Yu (a0:Qa) (a1:Int) (a2:Int) (a3:Int):Option Bool :=
 (Ep a0).bind fun r1 =>
 bif (!r1) then (
  (Ee ).bind fun r2 =>
  some r2
 ) else (
  (Ft a0.Center a1 a3).bind fun r3 =>
  (Dh a0.Center a1 a3).bind fun r4 =>
  (Zs a0.Table a0.Center a1 a2).bind fun r5 =>
  (Zk a0.Table a0.Center a1 a2).bind fun r6 =>
  (Bq r3.1 r4.1).bind fun r7 =>
  ((bif r7 then (
   (Di r3.2.1 r4.2.1).bind fun r9 =>
   some r9
  ) else some false):Option Bool).bind fun b8 =>
  ((bif (b8&&(decide (r3.2.2=r4.2.2))) then (
   (Bq r5.1 r6.1).bind fun r11 =>
   some r11
  ) else some false):Option Bool).bind fun b10 =>
  ((bif (b10&&(decide (r5.2=r6.2))) then (
   (Ee ).bind fun r13 =>
   some r13
  ) else some false):Option Bool).bind fun b12 =>
  some b12
 )
theorem Jee (a0:Qa) (a1:Int) (a2:Int) (a3:Int) (r:Bool) (h:Yu a0 a1 a2 a3=some r):Kj Tryz.prog GlS 5 [Enc.pv a0,Enc.pv a1,Enc.pv a2,Enc.pv a3] (Enc.pv r):=by
 unfold Yu at h
 refine zC Tryz.func5 Tryz.ntmps5 ?_
 refine Ja (Jd (zE (Jb (Ja (Ja (Jd (zR 1 ?_)))))))
 obtain ⟨r1,h1,h⟩:=Je h
 refine zP (Jhu _ r1 h1) (zE (Jb ?_))
 rcases Jl h with ⟨hb,h⟩|⟨hb,h⟩
 ·refine zT hb (Ja (Jd ?_))
  obtain ⟨r2,h2,h⟩:=Je h
  refine zP (Tr  r2 h2) (zE (Jb (Jq (Jm ?_))))
  cases h
  exact zQ
 refine zU hb (Jj (Jb (Ja (Jd (zR 4 ?_)))))
 obtain ⟨r3,h3,h⟩:=Je h
 refine zP (Jeu _ _ _ r3 h3) (zE (Jb (Ja (Jd (zR 4 ?_)))))
 obtain ⟨r4,h4,h⟩:=Je h
 refine zP (Jjp _ _ _ r4 h4) (zE (Jb (Ja (Jd (zR 6 ?_)))))
 obtain ⟨r5,h5,h⟩:=Je h
 refine zP (Tl _ _ _ _ r5 h5) (zE (Jb (Ja (Jd (zR 6 ?_)))))
 obtain ⟨r6,h6,h⟩:=Je h
 refine zP (Je8 _ _ _ _ r6 h6) (zE (Jb (Ja (Jd (zR 2 ?_)))))
 obtain ⟨r7,h7,h⟩:=Je h
 refine zP (Jba _ _ r7 h7) ?_
 obtain ⟨b8,h8,h⟩:=Je h
 refine zR 1 ?_
 refine Km 4 68 (.bool b8) ?_ ?_
 ·rcases Jl h8 with ⟨hb,h8⟩|⟨hb,h8⟩
  ·refine zS 64 hb (zR 2 ?_)
   obtain ⟨r9,h9,h8⟩:=Je h8
   refine zP (Ji3 _ _ r9 h9) ?_
   cases h8
   exact zF
  refine zS 64 hb ?_
  cases h8
  exact zF
 refine zR 1 ?_
 refine Ku 4 73 (b8&&(decide (r3.2.2=r4.2.2))) (fun x hx=>?_) ?_
 ·rcases Vm hx with ⟨hb,hx⟩|⟨hb,hx⟩
  ·refine zS 69 hb ?_
   subst hx
   exact zF
  refine zS 69 hb ?_
  subst hx
  exact zF
 obtain ⟨b10,h10,h⟩:=Je h
 refine zR 1 ?_
 refine Km 4 78 (.bool b10) ?_ ?_
 ·rcases Jl h10 with ⟨hb,h10⟩|⟨hb,h10⟩
  ·refine zS 74 hb (zR 2 ?_)
   obtain ⟨r11,h11,h10⟩:=Je h10
   refine zP (Jba _ _ r11 h11) ?_
   cases h10
   exact zF
  refine zS 74 hb ?_
  cases h10
  exact zF
 refine zR 1 ?_
 refine Ku 4 83 (b10&&(decide (r5.2=r6.2))) (fun x hx=>?_) ?_
 ·rcases Vm hx with ⟨hb,hx⟩|⟨hb,hx⟩
  ·refine zS 79 hb ?_
   subst hx
   exact zF
  refine zS 79 hb ?_
  subst hx
  exact zF
 obtain ⟨b12,h12,h⟩:=Je h
 refine zR 1 ?_
 refine Km 2 86 (.bool b12) ?_ ?_
 ·rcases Jl h12 with ⟨hb,h12⟩|⟨hb,h12⟩
  ·refine zS 84 hb ?_
   obtain ⟨r13,h13,h12⟩:=Je h12
   refine zP (Tr  r13 h13) ?_
   cases h12
   exact zF
  refine zS 84 hb ?_
  cases h12
  exact zF
 refine zE (Jb (Jq ?_))
 cases h
 exact zQ
/-! signallinglaw47.twice -/
/-! signallinglaw47.RbcExclusive -/
/-! message.within -/
/-! message.carries -/
/-! message.validAuthority -/
/-! message.validReport -/
end PM
