/-
 Plain functions for the program's functions, and the proofs that the program does them. Printed by den.py.
-/
import Derived.Test.YtfpoeepcomnjhaaGreatDoorDen6
namespace PM
open Go Go.RowKit Go.Proofs
attribute [local irreducible] Kp pwp
/-! signallingref40.Begin -/
/-! signallingref38.New -/
/-! signallingref11.Sections -/
/-! signallingref02.chosen -/
/-! signallingref02.Common -/
/-! signallingref47.apart -/
/-! signallingref47.New -/
/-! signallingref09.SameSteps -/
noncomputable def Nu (a0:(List Jf)) (a1:(List Jf)):Int→Option (Int⊕(Unit⊕Bool)):=fun x3 =>
 bif decide (x3<((a0.length:Nat):Int)) then (
  (ixO a0 x3).bind fun x6 =>
  (ixO a1 x3).bind fun x7 =>
  bif (!(Sr x6 x7)) then (
   some (.inr (.inr false))
  ) else (
   some (.inl (w64 (x3+1)))
  )
 ) else (
  some (.inr (.inl ()))
 )
noncomputable def Zo (a0:(List Jf)) (a1:(List Jf)):Option Bool :=
 bif (!(decide (((a0.length:Nat):Int)=((a1.length:Nat):Int)))) then (
  some false
 ) else (
  onInl (α:=Unit) (β:=Bool) (Ko (Nu a0 a1) 0) fun _ =>
  some true
 )
theorem Jc4 (a0:(List Jf)) (a1:(List Jf)) (r:Bool) (h:Zo a0 a1=some r):Kj Tryz.prog GlS 85 [Enc.pv a0,Enc.pv a1] (Enc.pv r):=by
 unfold Zo at h
 refine zC Tryz.func85 Tryz.ntmps85 ?_
 refine Ja (Jd (zE (Jb (Ja (Ja (Jd (zR 1 ?_)))))))
 refine zL (L:=(a0:(List Jf))) ?_
 refine zR 1 ?_
 refine zL (L:=(a1:(List Jf))) ?_
 refine zE (Jb ?_)
 rcases Jl h with ⟨hb,h⟩|⟨hb,h⟩
 ·refine zT hb (Ja (Jd (zE (Jb (Jq (Jm ?_))))))
  cases h
  exact zQ
 refine zU hb (Jj (Jb (Ja (Ja (Jd (zE (Jb (Jp ?_))))))))
 obtain ⟨o8,h8,h⟩:=Kk h
 refine zA 26 0 (fun x3=>⟨[(0,Jn .frozen (a0:(List Jf))),(1,Jn .frozen (a1:(List Jf))),(5,.int .i64 x3)],[],[],[]⟩) (fun (_:Unit)=>⟨[],[],[],[]⟩) h8 ?_ ?_
 ·rintro x3 oh7 h7
  unfold Nu at h7
  refine Ja (Ja (Jd (zR 2 ?_)))
  refine zL (L:=(a0:(List Jf))) ?_
  refine zE (Jb ?_)
  rcases Jl h7 with ⟨hb,h7⟩|⟨hb,h7⟩
  ·refine zT hb (Jj (Jb (Ja (Jp (Ja (zD (zR 2 ?_)))))))
   obtain ⟨x6,h9,h7⟩:=Je h7
   refine zI h9 (zR 3 ?_)
   obtain ⟨x7,h10,h7⟩:=Je h7
   refine zI h10 (zE (Jb ?_))
   rcases Jl h7 with ⟨hb,h7⟩|⟨hb,h7⟩
   ·refine zT hb (Ja (Jd (zE (Jb (Jq (Js (Jm ?_)))))))
    cases h7
    refine Kd fun he=>?_
    subst he
    have h11:=Kq h
    refine Js (Jm ?_)
    cases h11
    exact zQ
   refine zU hb (Jj (Jz (Jb (Jd (zE ?_)))))
   cases h7
   exact zB
  refine zU hb (Jy (Jv ?_))
  cases h7
  exact zX
 rintro _ s' rfl hs
 have h:=Kb h
 refine Jt (Jb (Ka hs (Ja (Jd (zE (Jb (Jq ?_)))))))
 cases h
 exact zQ
/-! signallingref07.SameInts -/
noncomputable def Po (a0:(List Int)) (a1:(List Int)):Int→Option (Int⊕(Unit⊕Bool)):=fun x3 =>
 bif decide (x3<((a0.length:Nat):Int)) then (
  (ixO a0 x3).bind fun x6 =>
  (ixO a1 x3).bind fun x7 =>
  bif (!(decide (x6=x7))) then (
   some (.inr (.inr false))
  ) else (
   some (.inl (w64 (x3+1)))
  )
 ) else (
  some (.inr (.inl ()))
 )
noncomputable def Vv (a0:(List Int)) (a1:(List Int)):Option Bool :=
 bif (!(decide (((a0.length:Nat):Int)=((a1.length:Nat):Int)))) then (
  some false
 ) else (
  onInl (α:=Unit) (β:=Bool) (Ko (Po a0 a1) 0) fun _ =>
  some true
 )
theorem Zz (a0:(List Int)) (a1:(List Int)) (r:Bool) (h:Vv a0 a1=some r):Kj Tryz.prog GlS 86 [Enc.pv a0,Enc.pv a1] (Enc.pv r):=by
 unfold Vv at h
 refine zC Tryz.func86 Tryz.ntmps86 ?_
 refine Ja (Jd (zE (Jb (Ja (Ja (Jd (zR 1 ?_)))))))
 refine zL (L:=(a0:(List Int))) ?_
 refine zR 1 ?_
 refine zL (L:=(a1:(List Int))) ?_
 refine zE (Jb ?_)
 rcases Jl h with ⟨hb,h⟩|⟨hb,h⟩
 ·refine zT hb (Ja (Jd (zE (Jb (Jq (Jm ?_))))))
  cases h
  exact zQ
 refine zU hb (Jj (Jb (Ja (Ja (Jd (zR 1 ?_))))))
 refine zL (L:=(a0:(List Int))) ?_
 refine zE (Jb (Jp ?_))
 obtain ⟨o8,h8,h⟩:=Kk h
 refine zA 26 0 (fun x3=>⟨[(0,Jn .frozen (a0:(List Int))),(1,Jn .frozen (a1:(List Int))),(12,.int .i64 ((a0.length:Nat):Int)),(13,.int .i64 x3)],[],[],[]⟩) (fun (_:Unit)=>⟨[],[],[],[]⟩) h8 ?_ ?_
 ·rintro x3 oh7 h7
  unfold Po at h7
  refine Ja (Jd (zE (Jb (Ja ?_))))
  rcases Jl h7 with ⟨hb,h7⟩|⟨hb,h7⟩
  ·refine zT hb (Jj (Jb (Ja (Jp (Ja (Jd (zE (Jb (Ja (zD (zR 2 ?_)))))))))))
   obtain ⟨x6,h9,h7⟩:=Je h7
   refine zI h9 (zR 3 ?_)
   obtain ⟨x7,h10,h7⟩:=Je h7
   refine zI h10 (zE (Jb ?_))
   rcases Jl h7 with ⟨hb,h7⟩|⟨hb,h7⟩
   ·refine zT hb (Ja (Jd (zE (Jb (Jq (Js (Jm ?_)))))))
    cases h7
    refine Kd fun he=>?_
    subst he
    have h11:=Kq h
    refine Js (Jm ?_)
    cases h11
    exact zQ
   refine zU hb (Jj (Jz (Jb (Jd (zE ?_)))))
   cases h7
   exact zB
  refine zU hb (Jy (Jv ?_))
  cases h7
  exact zX
 rintro _ s' rfl hs
 have h:=Kb h
 refine Jt (Jb (Ka hs (Ja (Jd (zE (Jb (Jq ?_)))))))
 cases h
 exact zQ
/-! signallingref40.Same -/
noncomputable def Hw (a0:Jg) (a1:Jg):Option Bool :=
 ((bif (((((((((!(decide (a0.Id=a1.Id)))||(!(decide (a0.Origin=a1.Origin))))||(!(decide (a0.End=a1.End))))||(!(decide (a0.At=a1.At))))||(!(decide (a0.Min=a1.Min))))||(!(decide (a0.Sent=a1.Sent))))||(!(decide (a0.Accepted=a1.Accepted))))||(!(decide (a0.Cut=a1.Cut))))||(!(decide (a0.CutSeq=a1.CutSeq)))) then some true else (
  (Zo a0.Steps a1.Steps).bind fun r2 =>
  some (!r2)
 )):Option Bool).bind fun b1 =>
 bif b1 then (
  some false
 ) else (
  (Vv a0.Routes a1.Routes).bind fun r3 =>
  ((bif r3 then (
   (Vv a0.Starts a1.Starts).bind fun r5 =>
   some r5
  ) else some false):Option Bool).bind fun b4 =>
  ((bif b4 then (
   (Vv a0.Ends a1.Ends).bind fun r7 =>
   some r7
  ) else some false):Option Bool).bind fun b6 =>
  ((bif b6 then (
   (Vv a0.Done a1.Done).bind fun r9 =>
   some r9
  ) else some false):Option Bool).bind fun b8 =>
  some b8
 )
theorem Ji9 (a0:Jg) (a1:Jg) (r:Bool) (h:Hw a0 a1=some r):Kj Tryz.prog GlS 36 [Enc.pv a0,Enc.pv a1] (Enc.pv r):=by
 unfold Hw at h
 refine zC Tryz.func36 Tryz.ntmps36 ?_
 refine Ja (Jd (zE (Jb (Ja (Ja (Jd (zR 6 ?_)))))))
 refine Ku 6 16 ((!(decide (a0.Id=a1.Id)))||(!(decide (a0.Origin=a1.Origin)))) (fun x hx=>?_) ?_
 ·rcases Vs hx with ⟨hb,hx⟩|⟨hb,hx⟩
  ·refine zS 10 hb ?_
   subst hx
   exact zF
  refine zS 10 hb ?_
  subst hx
  exact zF
 refine zR 1 ?_
 refine Ku 6 23 (((!(decide (a0.Id=a1.Id)))||(!(decide (a0.Origin=a1.Origin))))||(!(decide (a0.End=a1.End)))) (fun x hx=>?_) ?_
 ·rcases Vs hx with ⟨hb,hx⟩|⟨hb,hx⟩
  ·refine zS 17 hb ?_
   subst hx
   exact zF
  refine zS 17 hb ?_
  subst hx
  exact zF
 refine zR 1 ?_
 refine Ku 6 30 ((((!(decide (a0.Id=a1.Id)))||(!(decide (a0.Origin=a1.Origin))))||(!(decide (a0.End=a1.End))))||(!(decide (a0.At=a1.At)))) (fun x hx=>?_) ?_
 ·rcases Vs hx with ⟨hb,hx⟩|⟨hb,hx⟩
  ·refine zS 24 hb ?_
   subst hx
   exact zF
  refine zS 24 hb ?_
  subst hx
  exact zF
 refine zR 1 ?_
 refine Ku 6 37 (((((!(decide (a0.Id=a1.Id)))||(!(decide (a0.Origin=a1.Origin))))||(!(decide (a0.End=a1.End))))||(!(decide (a0.At=a1.At))))||(!(decide (a0.Min=a1.Min)))) (fun x hx=>?_) ?_
 ·rcases Vs hx with ⟨hb,hx⟩|⟨hb,hx⟩
  ·refine zS 31 hb ?_
   subst hx
   exact zF
  refine zS 31 hb ?_
  subst hx
  exact zF
 refine zR 1 ?_
 refine Ku 6 44 ((((((!(decide (a0.Id=a1.Id)))||(!(decide (a0.Origin=a1.Origin))))||(!(decide (a0.End=a1.End))))||(!(decide (a0.At=a1.At))))||(!(decide (a0.Min=a1.Min))))||(!(decide (a0.Sent=a1.Sent)))) (fun x hx=>?_) ?_
 ·rcases Vs hx with ⟨hb,hx⟩|⟨hb,hx⟩
  ·refine zS 38 hb ?_
   subst hx
   exact zF
  refine zS 38 hb ?_
  subst hx
  exact zF
 refine zR 1 ?_
 refine Ku 6 51 (((((((!(decide (a0.Id=a1.Id)))||(!(decide (a0.Origin=a1.Origin))))||(!(decide (a0.End=a1.End))))||(!(decide (a0.At=a1.At))))||(!(decide (a0.Min=a1.Min))))||(!(decide (a0.Sent=a1.Sent))))||(!(decide (a0.Accepted=a1.Accepted)))) (fun x hx=>?_) ?_
 ·rcases Vs hx with ⟨hb,hx⟩|⟨hb,hx⟩
  ·refine zS 45 hb ?_
   subst hx
   exact zF
  refine zS 45 hb ?_
  subst hx
  exact zF
 refine zR 1 ?_
 refine Ku 6 58 ((((((((!(decide (a0.Id=a1.Id)))||(!(decide (a0.Origin=a1.Origin))))||(!(decide (a0.End=a1.End))))||(!(decide (a0.At=a1.At))))||(!(decide (a0.Min=a1.Min))))||(!(decide (a0.Sent=a1.Sent))))||(!(decide (a0.Accepted=a1.Accepted))))||(!(decide (a0.Cut=a1.Cut)))) (fun x hx=>?_) ?_
 ·rcases Vs hx with ⟨hb,hx⟩|⟨hb,hx⟩
  ·refine zS 52 hb ?_
   subst hx
   exact zF
  refine zS 52 hb ?_
  subst hx
  exact zF
 refine zR 1 ?_
 refine Ku 6 65 (((((((((!(decide (a0.Id=a1.Id)))||(!(decide (a0.Origin=a1.Origin))))||(!(decide (a0.End=a1.End))))||(!(decide (a0.At=a1.At))))||(!(decide (a0.Min=a1.Min))))||(!(decide (a0.Sent=a1.Sent))))||(!(decide (a0.Accepted=a1.Accepted))))||(!(decide (a0.Cut=a1.Cut))))||(!(decide (a0.CutSeq=a1.CutSeq)))) (fun x hx=>?_) ?_
 ·rcases Vs hx with ⟨hb,hx⟩|⟨hb,hx⟩
  ·refine zS 59 hb ?_
   subst hx
   exact zF
  refine zS 59 hb ?_
  subst hx
  exact zF
 obtain ⟨b1,h1,h⟩:=Je h
 refine zR 1 ?_
 refine Km 7 73 (.bool b1) ?_ ?_
 ·rcases Jl h1 with ⟨hb,h1⟩|⟨hb,h1⟩
  ·refine zS 66 hb ?_
   cases h1
   exact zF
  refine zS 66 hb (zR 4 ?_)
  obtain ⟨r2,h2,h1⟩:=Je h1
  refine zP (Jc4 _ _ r2 h2) ?_
  cases h1
  exact zF
 refine zN (Jb ?_)
 rcases Jl h with ⟨hb,h⟩|⟨hb,h⟩
 ·refine zT hb (Ja (Jd (zE (Jb (Jq (Jm ?_))))))
  cases h
  exact zQ
 refine zU hb (Jj (Jb (Ja (Jd (zR 4 ?_)))))
 obtain ⟨r3,h3,h⟩:=Je h
 refine zP (Zz _ _ r3 h3) ?_
 obtain ⟨b4,h4,h⟩:=Je h
 refine zR 1 ?_
 refine Km 6 85 (.bool b4) ?_ ?_
 ·rcases Jl h4 with ⟨hb,h4⟩|⟨hb,h4⟩
  ·refine zS 79 hb (zR 4 ?_)
   obtain ⟨r5,h5,h4⟩:=Je h4
   refine zP (Zz _ _ r5 h5) ?_
   cases h4
   exact zF
  refine zS 79 hb ?_
  cases h4
  exact zF
 obtain ⟨b6,h6,h⟩:=Je h
 refine zR 1 ?_
 refine Km 6 92 (.bool b6) ?_ ?_
 ·rcases Jl h6 with ⟨hb,h6⟩|⟨hb,h6⟩
  ·refine zS 86 hb (zR 4 ?_)
   obtain ⟨r7,h7,h6⟩:=Je h6
   refine zP (Zz _ _ r7 h7) ?_
   cases h6
   exact zF
  refine zS 86 hb ?_
  cases h6
  exact zF
 obtain ⟨b8,h8,h⟩:=Je h
 refine zR 1 ?_
 refine Km 6 99 (.bool b8) ?_ ?_
 ·rcases Jl h8 with ⟨hb,h8⟩|⟨hb,h8⟩
  ·refine zS 93 hb (zR 4 ?_)
   obtain ⟨r9,h9,h8⟩:=Je h8
   refine zP (Zz _ _ r9 h9) ?_
   cases h8
   exact zF
  refine zS 93 hb ?_
  cases h8
  exact zF
 refine zE (Jb (Jq ?_))
 cases h
 exact zQ
/-! signallingref47.Same -/
noncomputable def Hu (a0:Jw) (a1:Jw):Int→Option (Int⊕(Unit⊕Bool)):=fun x5 =>
 bif decide (x5<((a0.Tracks.length:Nat):Int)) then (
  (ixO a0.Tracks x5).bind fun x9 =>
  (ixO a1.Tracks x5).bind fun x10 =>
  (Hw x9 x10).bind fun r11 =>
  bif (!r11) then (
   some (.inr (.inr false))
  ) else (
   some (.inl (w64 (x5+1)))
  )
 ) else (
  some (.inr (.inl ()))
 )
noncomputable def Hl (a0:Jw) (a1:Jw):Int→Option (Int⊕(Unit⊕Bool)):=fun x14 =>
 bif decide (x14<((a0.Sessions.length:Nat):Int)) then (
  (ixO a0.Sessions x14).bind fun x17 =>
  (ixO a1.Sessions x14).bind fun x18 =>
  bif (!(Iz x17 x18)) then (
   some (.inr (.inr false))
  ) else (
   some (.inl (w64 (x14+1)))
  )
 ) else (
  some (.inr (.inl ()))
 )
noncomputable def Bq (a0:Jw) (a1:Jw):Option Bool :=
 ((bif (!(decide (((a0.Tracks.length:Nat):Int)=((a1.Tracks.length:Nat):Int)))) then some true else (
  some (!(decide (((a0.Sessions.length:Nat):Int)=((a1.Sessions.length:Nat):Int))))
 )):Option Bool).bind fun b1 =>
 bif b1 then (
  some false
 ) else (
  onInl (α:=Unit) (β:=Bool) (Ko (Hu a0 a1) 0) fun _ =>
  onInl (α:=Unit) (β:=Bool) (Ko (Hl a0 a1) 0) fun _ =>
  some true
 )
theorem Jba (a0:Jw) (a1:Jw) (r:Bool) (h:Bq a0 a1=some r):Kj Tryz.prog GlS 12 [Enc.pv a0,Enc.pv a1] (Enc.pv r):=by
 unfold Bq at h
 refine zC Tryz.func12 Tryz.ntmps12 ?_
 refine Ja (Jd (zE (Jb (Ja (Ja (Jd (zR 2 ?_)))))))
 refine zL (L:=(a0.Tracks:(List Jg))) ?_
 refine zR 2 ?_
 refine zL (L:=(a1.Tracks:(List Jg))) ?_
 obtain ⟨b1,h1,h⟩:=Je h
 refine zR 2 ?_
 refine Km 8 22 (.bool b1) ?_ ?_
 ·rcases Jl h1 with ⟨hb,h1⟩|⟨hb,h1⟩
  ·refine zS 14 hb ?_
   cases h1
   exact zF
  refine zS 14 hb (zR 2 ?_)
  refine zL (L:=(a0.Sessions:(List Jk))) ?_
  refine zR 2 ?_
  refine zL (L:=(a1.Sessions:(List Jk))) ?_
  cases h1
  exact zF
 refine zN (Jb ?_)
 rcases Jl h with ⟨hb,h⟩|⟨hb,h⟩
 ·refine zT hb (Ja (Jd (zE (Jb (Jq (Jm ?_))))))
  cases h
  exact zQ
 refine zU hb (Jj (Jb (Ja (Ja (Jd (zE (Jb (Jp ?_))))))))
 obtain ⟨o11,h11,h⟩:=Kk h
 refine zA 60 0 (fun x5=>⟨[(2,.ref 2 0),(3,.ref 3 0),(5,.int .i64 x5)],[(2,.cells (cellsOf a0)),(3,.cells (cellsOf a1))],[],[]⟩) (fun (_:Unit)=>⟨[(2,.ref 2 0),(3,.ref 3 0)],[(2,.cells (cellsOf a0)),(3,.cells (cellsOf a1))],[],[]⟩) h11 ?_ ?_
 ·rintro x5 oh10 h10
  unfold Hu at h10
  refine Ja (Ja (Jd (zR 3 ?_)))
  refine zL (L:=(a0.Tracks:(List Jg))) ?_
  refine zE (Jb ?_)
  rcases Jl h10 with ⟨hb,h10⟩|⟨hb,h10⟩
  ·refine zT hb (Jj (Jb (Ja (Jp (Ja (zD (zR 3 ?_)))))))
   obtain ⟨x9,h12,h10⟩:=Je h10
   refine zI h12 (zR 4 ?_)
   obtain ⟨x10,h13,h10⟩:=Je h10
   refine zI h13 (zR 1 ?_)
   obtain ⟨r11,h14,h10⟩:=Je h10
   refine zP (Ji9 _ _ r11 h14) (zE (Jb ?_))
   rcases Jl h10 with ⟨hb,h10⟩|⟨hb,h10⟩
   ·refine zT hb (Ja (Jd (zE (Jb (Jq (Js (Jm ?_)))))))
    cases h10
    refine Kd fun he=>?_
    subst he
    have h15:=Kq h
    refine Js (Jm ?_)
    cases h15
    exact zQ
   refine zU hb (Jj (Jz (Jb (Jd (zE ?_)))))
   cases h10
   exact zB
  refine zU hb (Jy (Jv ?_))
  cases h10
  exact zX
 rintro _ s' rfl hs
 have h:=Kb h
 refine Jt (Jb (Ka hs (Ja (Ja (Jd (zE (Jb (Jp ?_))))))))
 obtain ⟨o23,h23,h⟩:=Kk h
 refine zA 60 2 (fun x14=>⟨[(2,.ref 2 0),(3,.ref 3 0),(6,.int .i64 x14)],[(2,.cells (cellsOf a0)),(3,.cells (cellsOf a1))],[],[]⟩) (fun (_:Unit)=>⟨[],[],[],[]⟩) h23 ?_ ?_
 ·rintro x14 oh22 h22
  unfold Hl at h22
  refine Ja (Ja (Jd (zR 3 ?_)))
  refine zL (L:=(a0.Sessions:(List Jk))) ?_
  refine zE (Jb ?_)
  rcases Jl h22 with ⟨hb,h22⟩|⟨hb,h22⟩
  ·refine zT hb (Jj (Jb (Ja (Jp (Ja (zD (zR 3 ?_)))))))
   obtain ⟨x17,h24,h22⟩:=Je h22
   refine zI h24 (zR 4 ?_)
   obtain ⟨x18,h25,h22⟩:=Je h22
   refine zI h25 (zE (Jb ?_))
   rcases Jl h22 with ⟨hb,h22⟩|⟨hb,h22⟩
   ·refine zT hb (Ja (Jd (zE (Jb (Jq (Js (Jm ?_)))))))
    cases h22
    refine Kd fun he=>?_
    subst he
    have h26:=Kq h
    refine Js (Jm ?_)
    cases h26
    exact zQ
   refine zU hb (Jj (Jz (Jb (Jd (zE ?_)))))
   cases h22
   exact zB
  refine zU hb (Jy (Jv ?_))
  cases h22
  exact zX
 rintro _ s' rfl hs
 have h:=Kb h
 refine Jt (Jb (Ka hs (Ja (Jd (zE (Jb (Jq ?_)))))))
 cases h
 exact zQ
/-! signallinglaw47.RbcNews -/
/-! signallinglaw21.Small -/
noncomputable def Ff (a0:Kz):Int→Option (Int⊕(Unit⊕Bool)):=fun x7 =>
 bif decide (x7<((a0.Routes.length:Nat):Int)) then (
  (ixO a0.Routes x7).bind fun x14 =>
  ((bif decide (30<((x14.Sections.length:Nat):Int)) then some true else (
   some (decide (30<((x14.OverSections.length:Nat):Int)))
  )):Option Bool).bind fun b15 =>
  ((bif b15 then some true else (
   some (decide (30<((x14.Points.length:Nat):Int)))
  )):Option Bool).bind fun b16 =>
  ((bif b16 then some true else (
   some (decide (30<((x14.OverPoints.length:Nat):Int)))
  )):Option Bool).bind fun b17 =>
  ((bif b17 then some true else (
   some (decide (30<((x14.Flank.length:Nat):Int)))
  )):Option Bool).bind fun b18 =>
  ((bif b18 then some true else (
   some (decide (30<((x14.Path.length:Nat):Int)))
  )):Option Bool).bind fun b19 =>
  bif b19 then (
   some (.inr (.inr false))
  ) else (
   some (.inl (w64 (x7+1)))
  )
 ) else (
  some (.inr (.inl ()))
 )
noncomputable def Er (a0:Kz) (a1:Qf):Option Bool :=
 onInl (α:=Unit) (β:=Bool) (Ko (Ff a0) 0) fun _ =>
 ((bif decide (((a0.Routes.length:Nat):Int)≤50) then (
  some (decide (((a0.Points.length:Nat):Int)≤40))
 ) else some false):Option Bool).bind fun b20 =>
 ((bif b20 then (
  some (decide (((a0.Homes.length:Nat):Int)≤40))
 ) else some false):Option Bool).bind fun b21 =>
 ((bif b21 then (
  some (decide (((a1.Routes.length:Nat):Int)≤50))
 ) else some false):Option Bool).bind fun b22 =>
 ((bif b22 then (
  some (decide (((a1.Lies.length:Nat):Int)≤40))
 ) else some false):Option Bool).bind fun b23 =>
 some b23
theorem Jhm (a0:Kz) (a1:Qf) (r:Bool) (h:Er a0 a1=some r):Kj Tryz.prog GlS 51 [Enc.pv a0,Enc.pv a1] (Enc.pv r):=by
 unfold Er at h
 refine zC Tryz.func51 Tryz.ntmps51 ?_
 refine Ja (Jd (zE (Jb (Ja (Ja (Jd (zR 2 ?_)))))))
 refine zL (L:=(a0.Routes:(List Ju))) ?_
 refine zE (Jb (Jp ?_))
 obtain ⟨o16,h16,h⟩:=Kk h
 refine zA 81 0 (fun x7=>⟨[(2,.ref 2 0),(3,.ref 3 0),(9,.int .i64 ((a0.Routes.length:Nat):Int)),(10,.int .i64 x7)],[(2,.cells (cellsOf a0)),(3,.cells (cellsOf a1))],[],[]⟩) (fun (_:Unit)=>⟨[(2,.ref 2 0),(3,.ref 3 0)],[(2,.cells (cellsOf a0)),(3,.cells (cellsOf a1))],[],[]⟩) h16 ?_ ?_
 ·rintro x7 oh15 h15
  unfold Ff at h15
  refine Ja (Jd (zE (Jb (Ja ?_))))
  rcases Jl h15 with ⟨hb,h15⟩|⟨hb,h15⟩
  ·refine zT hb (Jj (Jb (Ja (Jp (Ja (Jd (zE (Jb (Ja (Jd (zR 3 ?_)))))))))))
   obtain ⟨x14,h17,h15⟩:=Je h15
   refine zI h17 (zE (Jb (Ja (Jd (zR 2 ?_)))))
   refine zL (L:=(x14.Sections:(List Int))) ?_
   obtain ⟨b15,h18,h15⟩:=Je h15
   refine zR 2 ?_
   refine Km 5 27 (.bool b15) ?_ ?_
   ·rcases Jl h18 with ⟨hb,h18⟩|⟨hb,h18⟩
    ·refine zS 22 hb ?_
     cases h18
     exact zF
    refine zS 22 hb (zR 2 ?_)
    refine zL (L:=(x14.OverSections:(List Int))) ?_
    cases h18
    exact zF
   obtain ⟨b16,h19,h15⟩:=Je h15
   refine zR 1 ?_
   refine Km 5 33 (.bool b16) ?_ ?_
   ·rcases Jl h19 with ⟨hb,h19⟩|⟨hb,h19⟩
    ·refine zS 28 hb ?_
     cases h19
     exact zF
    refine zS 28 hb (zR 2 ?_)
    refine zL (L:=(x14.Points:(List Jr))) ?_
    cases h19
    exact zF
   obtain ⟨b17,h20,h15⟩:=Je h15
   refine zR 1 ?_
   refine Km 5 39 (.bool b17) ?_ ?_
   ·rcases Jl h20 with ⟨hb,h20⟩|⟨hb,h20⟩
    ·refine zS 34 hb ?_
     cases h20
     exact zF
    refine zS 34 hb (zR 2 ?_)
    refine zL (L:=(x14.OverPoints:(List Jr))) ?_
    cases h20
    exact zF
   obtain ⟨b18,h21,h15⟩:=Je h15
   refine zR 1 ?_
   refine Km 5 45 (.bool b18) ?_ ?_
   ·rcases Jl h21 with ⟨hb,h21⟩|⟨hb,h21⟩
    ·refine zS 40 hb ?_
     cases h21
     exact zF
    refine zS 40 hb (zR 2 ?_)
    refine zL (L:=(x14.Flank:(List Jr))) ?_
    cases h21
    exact zF
   obtain ⟨b19,h22,h15⟩:=Je h15
   refine zR 1 ?_
   refine Km 5 51 (.bool b19) ?_ ?_
   ·rcases Jl h22 with ⟨hb,h22⟩|⟨hb,h22⟩
    ·refine zS 46 hb ?_
     cases h22
     exact zF
    refine zS 46 hb (zR 2 ?_)
    refine zL (L:=(x14.Path:(List Jf))) ?_
    cases h22
    exact zF
   refine zN (Jb ?_)
   rcases Jl h15 with ⟨hb,h15⟩|⟨hb,h15⟩
   ·refine zT hb (Ja (Jd (zE (Jb (Jq (Js (Jm ?_)))))))
    cases h15
    refine Kd fun he=>?_
    subst he
    have h23:=Kq h
    refine Js (Jm ?_)
    cases h23
    exact zQ
   refine zU hb (Jj (Jz (Jb (Jd (zE ?_)))))
   cases h15
   exact zB
  refine zU hb (Jy (Jv ?_))
  cases h15
  exact zX
 rintro _ s' rfl hs
 have h:=Kb h
 refine Jt (Jb (Ka hs (Ja (Jd (zR 2 ?_)))))
 refine zL (L:=(a0.Routes:(List Ju))) ?_
 obtain ⟨b20,h24,h⟩:=Je h
 refine zR 2 ?_
 refine Km 5 62 (.bool b20) ?_ ?_
 ·rcases Jl h24 with ⟨hb,h24⟩|⟨hb,h24⟩
  ·refine zS 57 hb (zR 2 ?_)
   refine zL (L:=(a0.Points:(List Int))) ?_
   cases h24
   exact zF
  refine zS 57 hb ?_
  cases h24
  exact zF
 obtain ⟨b21,h25,h⟩:=Je h
 refine zR 1 ?_
 refine Km 5 68 (.bool b21) ?_ ?_
 ·rcases Jl h25 with ⟨hb,h25⟩|⟨hb,h25⟩
  ·refine zS 63 hb (zR 2 ?_)
   refine zL (L:=(a0.Homes:(List Int))) ?_
   cases h25
   exact zF
  refine zS 63 hb ?_
  cases h25
  exact zF
 obtain ⟨b22,h26,h⟩:=Je h
 refine zR 1 ?_
 refine Km 5 74 (.bool b22) ?_ ?_
 ·rcases Jl h26 with ⟨hb,h26⟩|⟨hb,h26⟩
  ·refine zS 69 hb (zR 2 ?_)
   refine zL (L:=(a1.Routes:(List Qn))) ?_
   cases h26
   exact zF
  refine zS 69 hb ?_
  cases h26
  exact zF
 obtain ⟨b23,h27,h⟩:=Je h
 refine zR 1 ?_
 refine Km 5 80 (.bool b23) ?_ ?_
 ·rcases Jl h27 with ⟨hb,h27⟩|⟨hb,h27⟩
  ·refine zS 75 hb (zR 2 ?_)
   refine zL (L:=(a1.Lies:(List Int))) ?_
   cases h27
   exact zF
  refine zS 75 hb ?_
  cases h27
  exact zF
 refine zE (Jb (Jq ?_))
 cases h
 exact zQ
/-! signallinglaw47.Few -/
noncomputable def Lq (a0:Jw):Int→Option (Int⊕(Unit⊕Bool)):=fun x6 =>
 bif decide (x6<((a0.Tracks.length:Nat):Int)) then (
  (ixO a0.Tracks x6).bind fun x12 =>
  ((bif decide (100<((x12.Steps.length:Nat):Int)) then some true else (
   some (decide (60<((x12.Routes.length:Nat):Int)))
  )):Option Bool).bind fun b13 =>
  ((bif b13 then some true else (
   some (decide (60<((x12.Starts.length:Nat):Int)))
  )):Option Bool).bind fun b14 =>
  ((bif b14 then some true else (
   some (decide (60<((x12.Ends.length:Nat):Int)))
  )):Option Bool).bind fun b15 =>
  ((bif b15 then some true else (
   some (decide (60<((x12.Done.length:Nat):Int)))
  )):Option Bool).bind fun b16 =>
  bif b16 then (
   some (.inr (.inr false))
  ) else (
   some (.inl (w64 (x6+1)))
  )
 ) else (
  some (.inr (.inl ()))
 )
noncomputable def Mf (a0:Jw):Option Bool :=
 onInl (α:=Unit) (β:=Bool) (Ko (Lq a0) 0) fun _ =>
 ((bif decide (((a0.Tracks.length:Nat):Int)≤10) then (
  some (decide (((a0.Sessions.length:Nat):Int)≤10))
 ) else some false):Option Bool).bind fun b17 =>
 some b17
theorem Jj1 (a0:Jw) (r:Bool) (h:Mf a0=some r):Kj Tryz.prog GlS 52 [Enc.pv a0] (Enc.pv r):=by
 unfold Mf at h
 refine zC Tryz.func52 Tryz.ntmps52 ?_
 refine Ja (Jd (zE (Jb (Ja (Ja (Jd (zR 2 ?_)))))))
 refine zL (L:=(a0.Tracks:(List Jg))) ?_
 refine zE (Jb (Jp ?_))
 obtain ⟨o14,h14,h⟩:=Kk h
 refine zA 55 0 (fun x6=>⟨[(1,.ref 1 0),(7,.int .i64 ((a0.Tracks.length:Nat):Int)),(8,.int .i64 x6)],[(1,.cells (cellsOf a0))],[],[]⟩) (fun (_:Unit)=>⟨[(1,.ref 1 0)],[(1,.cells (cellsOf a0))],[],[]⟩) h14 ?_ ?_
 ·rintro x6 oh13 h13
  unfold Lq at h13
  refine Ja (Jd (zE (Jb (Ja ?_))))
  rcases Jl h13 with ⟨hb,h13⟩|⟨hb,h13⟩
  ·refine zT hb (Jj (Jb (Ja (Jp (Ja (Jd (zE (Jb (Ja (Jd (zR 3 ?_)))))))))))
   obtain ⟨x12,h15,h13⟩:=Je h13
   refine zI h15 (zE (Jb (Ja (Jd (zR 2 ?_)))))
   refine zL (L:=(x12.Steps:(List Jf))) ?_
   obtain ⟨b13,h16,h13⟩:=Je h13
   refine zR 2 ?_
   refine Km 5 25 (.bool b13) ?_ ?_
   ·rcases Jl h16 with ⟨hb,h16⟩|⟨hb,h16⟩
    ·refine zS 20 hb ?_
     cases h16
     exact zF
    refine zS 20 hb (zR 2 ?_)
    refine zL (L:=(x12.Routes:(List Int))) ?_
    cases h16
    exact zF
   obtain ⟨b14,h17,h13⟩:=Je h13
   refine zR 1 ?_
   refine Km 5 31 (.bool b14) ?_ ?_
   ·rcases Jl h17 with ⟨hb,h17⟩|⟨hb,h17⟩
    ·refine zS 26 hb ?_
     cases h17
     exact zF
    refine zS 26 hb (zR 2 ?_)
    refine zL (L:=(x12.Starts:(List Int))) ?_
    cases h17
    exact zF
   obtain ⟨b15,h18,h13⟩:=Je h13
   refine zR 1 ?_
   refine Km 5 37 (.bool b15) ?_ ?_
   ·rcases Jl h18 with ⟨hb,h18⟩|⟨hb,h18⟩
    ·refine zS 32 hb ?_
     cases h18
     exact zF
    refine zS 32 hb (zR 2 ?_)
    refine zL (L:=(x12.Ends:(List Int))) ?_
    cases h18
    exact zF
   obtain ⟨b16,h19,h13⟩:=Je h13
   refine zR 1 ?_
   refine Km 5 43 (.bool b16) ?_ ?_
   ·rcases Jl h19 with ⟨hb,h19⟩|⟨hb,h19⟩
    ·refine zS 38 hb ?_
     cases h19
     exact zF
    refine zS 38 hb (zR 2 ?_)
    refine zL (L:=(x12.Done:(List Int))) ?_
    cases h19
    exact zF
   refine zN (Jb ?_)
   rcases Jl h13 with ⟨hb,h13⟩|⟨hb,h13⟩
   ·refine zT hb (Ja (Jd (zE (Jb (Jq (Js (Jm ?_)))))))
    cases h13
    refine Kd fun he=>?_
    subst he
    have h20:=Kq h
    refine Js (Jm ?_)
    cases h20
    exact zQ
   refine zU hb (Jj (Jz (Jb (Jd (zE ?_)))))
   cases h13
   exact zB
  refine zU hb (Jy (Jv ?_))
  cases h13
  exact zX
 rintro _ s' rfl hs
 have h:=Kb h
 refine Jt (Jb (Ka hs (Ja (Jd (zR 2 ?_)))))
 refine zL (L:=(a0.Tracks:(List Jg))) ?_
 obtain ⟨b17,h21,h⟩:=Je h
 refine zR 2 ?_
 refine Km 5 54 (.bool b17) ?_ ?_
 ·rcases Jl h21 with ⟨hb,h21⟩|⟨hb,h21⟩
  ·refine zS 49 hb (zR 2 ?_)
   refine zL (L:=(a0.Sessions:(List Jk))) ?_
   cases h21
   exact zF
  refine zS 49 hb ?_
  cases h21
  exact zF
 refine zE (Jb (Jq ?_))
 cases h
 exact zQ
/-! signallinglaw47.small -/
noncomputable def Ep (a0:Qa):Option Bool :=
 (Lp a0.Layout).bind fun r1 =>
 ((bif r1 then (
  (Er a0.Table a0.Inter).bind fun r3 =>
  some r3
 ) else some false):Option Bool).bind fun b2 =>
 ((bif b2 then (
  some (decide (((a0.Slow.length:Nat):Int)≤20))
 ) else some false):Option Bool).bind fun b4 =>
 ((bif b4 then (
  some (decide (((a0.Trains.length:Nat):Int)≤10))
 ) else some false):Option Bool).bind fun b5 =>
 ((bif b5 then (
  (Mf a0.Center).bind fun r7 =>
  some r7
 ) else some false):Option Bool).bind fun b6 =>
 some b6
theorem Jhu (a0:Qa) (r:Bool) (h:Ep a0=some r):Kj Tryz.prog GlS 17 [Enc.pv a0] (Enc.pv r):=by
 unfold Ep at h
 refine zC Tryz.func17 Tryz.ntmps17 ?_
 refine Ja (Jd (zE (Jb (Ja (Jd (zR 2 ?_))))))
 obtain ⟨r1,h1,h⟩:=Je h
 refine zP (Jg6 _ r1 h1) ?_
 obtain ⟨b2,h2,h⟩:=Je h
 refine zR 1 ?_
 refine Km 6 12 (.bool b2) ?_ ?_
 ·rcases Jl h2 with ⟨hb,h2⟩|⟨hb,h2⟩
  ·refine zS 6 hb (zR 4 ?_)
   obtain ⟨r3,h3,h2⟩:=Je h2
   refine zP (Jhm _ _ r3 h3) ?_
   cases h2
   exact zF
  refine zS 6 hb ?_
  cases h2
  exact zF
 obtain ⟨b4,h4,h⟩:=Je h
 refine zR 1 ?_
 refine Km 5 18 (.bool b4) ?_ ?_
 ·rcases Jl h4 with ⟨hb,h4⟩|⟨hb,h4⟩
  ·refine zS 13 hb (zR 2 ?_)
   refine zL (L:=(a0.Slow:(List Kf))) ?_
   cases h4
   exact zF
  refine zS 13 hb ?_
  cases h4
  exact zF
 obtain ⟨b5,h5,h⟩:=Je h
 refine zR 1 ?_
 refine Km 5 24 (.bool b5) ?_ ?_
 ·rcases Jl h5 with ⟨hb,h5⟩|⟨hb,h5⟩
  ·refine zS 19 hb (zR 2 ?_)
   refine zL (L:=(a0.Trains:(List Qd))) ?_
   cases h5
   exact zF
  refine zS 19 hb ?_
  cases h5
  exact zF
 obtain ⟨b6,h6,h⟩:=Je h
 refine zR 1 ?_
 refine Km 4 29 (.bool b6) ?_ ?_
 ·rcases Jl h6 with ⟨hb,h6⟩|⟨hb,h6⟩
  ·refine zS 25 hb (zR 2 ?_)
   obtain ⟨r7,h7,h6⟩:=Je h6
   refine zP (Jj1 _ r7 h7) ?_
   cases h6
   exact zF
  refine zS 25 hb ?_
  cases h6
  exact zF
 refine zE (Jb (Jq ?_))
 cases h
 exact zQ
/-! signallingref12.SameSteps -/
/-! signallingref09.SameSettings -/
/-! signallingref12.SameSettings -/
/-! signallingref09.SameInts -/
/-! signallingref12.SameInts -/
/-! signallingref12.sameEnds -/
/-! signallingref12.Same -/
/-! signallingref16.Same -/
/-! signallinglaw47.coordinates -/
/-! signallinglaw47.proper -/
/-! signallinglaw47.asked -/
end PM
