/-
 Plain functions for the program's functions, and the proofs that the program does them. Printed by den.py.
-/
import Derived.Test.YtombbpdpmagngaaGreatDoorDen1
namespace PM
open Go Go.RowKit
attribute [local irreducible] Kp pwp
/-! layout.elementsFit -/
noncomputable def Yf (a0:Jd):Int→Option (Int⊕(Unit⊕Bool)):=fun x13 =>
 bif decide (x13<((a0.Elements.length:Nat):Int)) then (
  (ixO a0.Elements x13).bind fun x26 =>
  (Ky x26.Kind 1 3).bind fun r27 =>
  ((bif (!r27) then some true else (
   (Ky x26.Length 500 1000000).bind fun r29 =>
   some (!r29)
  )):Option Bool).bind fun b28 =>
  ((bif b28 then some true else (
   (Ky x26.Grade (-50) 50).bind fun r31 =>
   some (!r31)
  )):Option Bool).bind fun b30 =>
  ((bif b30 then some true else (
   (Ky x26.Speed 100 10000).bind fun r33 =>
   some (!r33)
  )):Option Bool).bind fun b32 =>
  ((bif b32 then some true else (
   (Ky x26.Section 0 (w64 (((a0.Sections.length:Nat):Int) - 1))).bind fun r35 =>
   some (!r35)
  )):Option Bool).bind fun b34 =>
  bif b34 then (
   some (.inr (.inr false))
  ) else (
   ((bif decide (x26.Kind=2) then (
    (Ky x26.Slow 100 x26.Speed).bind fun r37 =>
    some (!r37)
   ) else some false):Option Bool).bind fun b36 =>
   bif (b36||((!(decide (x26.Kind=2)))&&(!(decide (x26.Slow=0))))) then (
    some (.inr (.inr false))
   ) else (
    some (.inl (w64 (x13+1)))
   )
  )
 ) else (
  some (.inr (.inl ()))
 )
noncomputable def Vf (a0:Jd):Option Bool :=
 onInl (α:=Unit) (β:=Bool) (Kl (Yf a0) 0) fun _ =>
 some true
theorem Rp (a0:Jd) (r:Bool) (h:Vf a0=some r):Km Go.Proofs.Tryz.prog GlS 87 [Enc.pv a0] (Enc.pv r):=by
 unfold Vf at h
 refine Jr Go.Proofs.Tryz.func87 (by rfl) rfl Go.Proofs.Tryz.ntmps87 (by rfl) rfl ?_
 refine Ja (Jf (zE (Jc (Ja (Ja (Jf (zR 2 ?_)))))))
 refine Kf (L:=(a0.Elements:(List Jq))) (by kernel_rfl) ?_
 refine zE (Jc (Jn ?_))
 obtain ⟨o30,h30,h⟩:=Kq h
 refine Ki 66 0 (fun x13=>⟨[(1,.ref 1 0),(6,Jo .frozen (a0.Elements:(List Jq))),(7,.int .i64 ((a0.Elements.length:Nat):Int)),(8,.int .i64 x13)],[(1,.cells (cellsOf a0))],[],[]⟩) (fun (_:Unit)=>⟨[],[],[],[]⟩) h30 (by kernel_rfl) (fun _=>by kernel_rfl) ?_ ?_
 ·rintro x13 oh29 h29
  unfold Yf at h29
  refine Ja (Jf (zE (Jc (Ja ?_))))
  rcases Jk h29 with ⟨hb,h29⟩|⟨hb,h29⟩
  ·refine zT hb (Jj (Jc (Ja (Jn (Ja (Jf ?_))))))
   obtain ⟨x26,h31,h29⟩:=Jh h29
   refine zI h31 (zE (Jc (Ja (Ja (Jf (zR 2 ?_))))))
   obtain ⟨r27,h32,h29⟩:=Jh h29
   refine Ju (Qa _ _ _ r27 h32) (by kernel_rfl) (by kernel_rfl) ?_
   obtain ⟨b28,h33,h29⟩:=Jh h29
   refine zR 2 ?_
   refine Kt 5 21 (.bool b28) ?_ ?_
   ·rcases Jk h33 with ⟨hb,h33⟩|⟨hb,h33⟩
    ·refine zS 16 hb ?_
     cases h33
     exact zF
    refine zS 16 hb (zR 2 ?_)
    obtain ⟨r29,h34,h33⟩:=Jh h33
    refine Ju (Qa _ _ _ r29 h34) (by kernel_rfl) (by kernel_rfl) ?_
    cases h33
    exact zF
   obtain ⟨b30,h35,h29⟩:=Jh h29
   refine zR 1 ?_
   refine Kt 5 27 (.bool b30) ?_ ?_
   ·rcases Jk h35 with ⟨hb,h35⟩|⟨hb,h35⟩
    ·refine zS 22 hb ?_
     cases h35
     exact zF
    refine zS 22 hb (zR 2 ?_)
    obtain ⟨r31,h36,h35⟩:=Jh h35
    refine Ju (Qa _ _ _ r31 h36) (by kernel_rfl) (by kernel_rfl) ?_
    cases h35
    exact zF
   obtain ⟨b32,h37,h29⟩:=Jh h29
   refine zR 1 ?_
   refine Kt 5 33 (.bool b32) ?_ ?_
   ·rcases Jk h37 with ⟨hb,h37⟩|⟨hb,h37⟩
    ·refine zS 28 hb ?_
     cases h37
     exact zF
    refine zS 28 hb (zR 2 ?_)
    obtain ⟨r33,h38,h37⟩:=Jh h37
    refine Ju (Qa _ _ _ r33 h38) (by kernel_rfl) (by kernel_rfl) ?_
    cases h37
    exact zF
   obtain ⟨b34,h39,h29⟩:=Jh h29
   refine zR 1 ?_
   refine Kt 9 43 (.bool b34) ?_ ?_
   ·rcases Jk h39 with ⟨hb,h39⟩|⟨hb,h39⟩
    ·refine zS 34 hb ?_
     cases h39
     exact zF
    refine zS 34 hb (zR 4 ?_)
    refine Kf (L:=(a0.Sections:(List ByteArray))) (by kernel_rfl) ?_
    refine zR 1 ?_
    obtain ⟨r35,h40,h39⟩:=Jh h39
    refine Ju (Qa _ _ _ r35 h40) (by kernel_rfl) (by kernel_rfl) ?_
    cases h39
    exact zF
   refine zN (Jc ?_)
   rcases Jk h29 with ⟨hb,h29⟩|⟨hb,h29⟩
   ·refine zT hb (Ja (Jf (zE (Jc (Jp (Ji (Jm (Ji ?_))))))))
    cases h29
    refine Kb fun he=>?_
    subst he
    have h41:=Ku h
    refine Jm (Ji ?_)
    cases h41
    exact zQ
   refine zU hb (Jj (Jc (Ja (Jf ?_))))
   obtain ⟨b36,h42,h29⟩:=Jh h29
   refine zR 4 ?_
   refine Kt 7 54 (.bool b36) ?_ ?_
   ·rcases Jk h42 with ⟨hb,h42⟩|⟨hb,h42⟩
    ·refine zS 47 hb (zR 4 ?_)
     obtain ⟨r37,h43,h42⟩:=Jh h42
     refine Ju (Qa _ _ _ r37 h43) (by kernel_rfl) (by kernel_rfl) ?_
     cases h42
     exact zF
    refine zS 47 hb ?_
    cases h42
    exact zF
   refine zR 1 ?_
   refine Qb 9 64 (b36||((!(decide (x26.Kind=2)))&&(!(decide (x26.Slow=0))))) (fun x hx=>?_) ?_
   ·rcases Ck hx with ⟨hb,hx⟩|⟨hb,hx⟩
    ·refine zS 55 hb ?_
     subst hx
     exact zF
    refine zS 55 hb (zR 4 ?_)
    refine Jh5 4 63 ((!(decide (x26.Kind=2)))&&(!(decide (x26.Slow=0)))) (fun x hx=>?_) ?_
    ·rcases Bq hx with ⟨hb,hx⟩|⟨hb,hx⟩
     ·refine zS 59 hb ?_
      subst hx
      exact zF
     refine zS 59 hb ?_
     subst hx
     exact zF
    subst hx
    exact zF
   refine zN (Jc ?_)
   rcases Jk h29 with ⟨hb,h29⟩|⟨hb,h29⟩
   ·refine zT hb (Ja (Jf (zE (Jc (Jp (Jm (Ji ?_)))))))
    cases h29
    refine Kb fun he=>?_
    subst he
    have h44:=Ku h
    refine Jm (Ji ?_)
    cases h44
    exact zQ
   refine zU hb (Jj (Kd (Jc (Jf (zE ?_)))))
   cases h29
   exact zB
  refine zU hb (Kc (Jv ?_))
  cases h29
  exact zX
 rintro _ s' rfl hs
 have h:=Kg h
 refine Jt (Jc (Ke hs (Ja (Jf (zE (Jc (Jp ?_)))))))
 cases h
 exact zQ
/-! layout.Members -/
noncomputable def Cb (a0:Jd) (a1:Int):(Int×(List Int))→Option ((Int×(List Int))⊕((List Int)⊕(List Int))):=fun (x13,x14) =>
 bif decide (x13<((a0.Elements.length:Nat):Int)) then (
  onInl (α:=(List Int)) (β:=((Int×(List Int))⊕((List Int)⊕(List Int)))) (
   (ixO a0.Elements x13).bind fun x24 =>
   bif decide (x24.Section=a1) then (
    (Vv x14 [x13]).bind fun x25 =>
    some (.inl x25)
   ) else (
    some (.inl x14)
   )
  ) fun x23 =>
  some (.inl (w64 (x13+1),x23))
 ) else (
  some (.inr (.inl x14))
 )
noncomputable def Yl (a0:Jd) (a1:Int):Option (List Int) :=
 ((bif decide (a1<0) then some true else (
  some (decide (((a0.Sections.length:Nat):Int)≤a1))
 )):Option Bool).bind fun b1 =>
 bif b1 then (
  some ([]:(List Int))
 ) else (
  onInl (α:=(List Int)) (β:=(List Int)) (Kl (Cb a0 a1) (0,([]:(List Int)))) fun x20 =>
  some x20
 )
theorem Jby (a0:Jd) (a1:Int) (r:(List Int)) (h:Yl a0 a1=some r):Km Go.Proofs.Tryz.prog GlS 106 [Enc.pv a0,Enc.pv a1] (Jo (.own 100005) r):=by
 unfold Yl at h
 refine Jr Go.Proofs.Tryz.func106 (by rfl) rfl Go.Proofs.Tryz.ntmps106 (by rfl) rfl ?_
 refine Ja (Jf (zE (Jc (Ja (Ja (Jf ?_))))))
 obtain ⟨b1,h1,h⟩:=Jh h
 refine zR 3 ?_
 refine Kt 6 16 (.bool b1) ?_ ?_
 ·rcases Jk h1 with ⟨hb,h1⟩|⟨hb,h1⟩
  ·refine zS 10 hb ?_
   cases h1
   exact zF
  refine zS 10 hb (zR 3 ?_)
  refine Kf (L:=(a0.Sections:(List ByteArray))) (by kernel_rfl) ?_
  cases h1
  exact zF
 refine zN (Jc ?_)
 rcases Jk h with ⟨hb,h⟩|⟨hb,h⟩
 ·refine zT hb (Ja (Jf (zE (Jc (Df 4 100005 1 8 (by kernel_rfl) (by kernel_rfl) (Jp (Ji ?_)))))))
  cases h
  exact zQ
 refine zU hb (Jj (Jc (Ja (Jf (zE (Jc (Ja (Ja (Jf (zR 2 ?_))))))))))
 refine Kf (L:=(a0.Elements:(List Jq))) (by kernel_rfl) ?_
 refine zE (Jc (Jn (Df 5 100005 1 8 (by kernel_rfl) (by kernel_rfl) ?_)))
 obtain ⟨o18,h18,h⟩:=Kq h
 refine Ki 35 0 (fun (x13,x14)=>⟨[(1,.int .i64 a1),(5,Jo (.own 100005) (x14:(List Int))),(18,Jo .frozen (a0.Elements:(List Jq))),(19,.int .i64 ((a0.Elements.length:Nat):Int)),(20,.int .i64 x13)],[],[(100005,(((x14).map cellsOf).length,1))],[]⟩) (fun x20=>⟨[(5,Jo (.own 100005) (x20:(List Int)))],[],[(100005,(((x20).map cellsOf).length,1))],[]⟩) h18 (by kernel_rfl) (fun _=>by kernel_rfl) ?_ ?_
 ·rintro ⟨x13,x14⟩ oh17 h17
  unfold Cb at h17
  refine Ja (Jf (zE (Jc (Ja ?_))))
  rcases Jk h17 with ⟨hb,h17⟩|⟨hb,h17⟩
  ·refine zT hb (Jj (Jc ?_))
   obtain ⟨o21,h21,h17⟩:=Kq h17
   refine Vx (o:=o21) 35 (fun x23=>⟨[(1,.int .i64 a1),(5,Jo (.own 100005) (x23:(List Int))),(18,Jo .frozen (a0.Elements:(List Jq))),(19,.int .i64 ((a0.Elements.length:Nat):Int)),(20,.int .i64 x13)],[],[(100005,(((x23).map cellsOf).length,1))],[]⟩) ?_ ?_
   ·refine Jn (Ja (Jf (zR 1 ?_)))
    obtain ⟨x24,h22,h21⟩:=Jh h21
    refine zI h22 (zE (Jc (Ja (Jf (zE (Jc ?_))))))
    rcases Jk h21 with ⟨hb,h21⟩|⟨hb,h21⟩
    ·refine zT hb (Jf (zR 3 ?_))
     obtain ⟨x25,h23,h21⟩:=Jh h21
     refine Zz (tk:=100005) h23 (by kernel_rfl) (by kernel_rfl) ?_
     refine zE (Kd ?_)
     cases h21
     exact zJ
    refine zU hb (Jj (Kd ?_))
    cases h21
    exact zJ
   rintro x23 rfl
   have h17:=Kg h17
   refine Jf (zE ?_)
   cases h17
   exact zB
  refine zU hb (Kc (Jv ?_))
  cases h17
  exact zX
 rintro x20 s' rfl hs
 have h:=Kg h
 refine Jt (Jc (Ke hs (Ja (Jf (zE (Jc (Jp ?_)))))))
 cases h
 exact zQ
/-! layout.sectionsUsed -/
noncomputable def Wm (a0:Jd):Int→Option (Int⊕(Unit⊕Bool)):=fun x2 =>
 bif decide (x2<((a0.Sections.length:Nat):Int)) then (
  (Yl a0 x2).bind fun r4 =>
  bif decide (((r4.length:Nat):Int)=0) then (
   some (.inr (.inr false))
  ) else (
   some (.inl (w64 (x2+1)))
  )
 ) else (
  some (.inr (.inl ()))
 )
noncomputable def Vu (a0:Jd):Option Bool :=
 onInl (α:=Unit) (β:=Bool) (Kl (Wm a0) 0) fun _ =>
 some true
theorem Ra (a0:Jd) (r:Bool) (h:Vu a0=some r):Km Go.Proofs.Tryz.prog GlS 88 [Enc.pv a0] (Enc.pv r):=by
 unfold Vu at h
 refine Jr Go.Proofs.Tryz.func88 (by rfl) rfl Go.Proofs.Tryz.ntmps88 (by rfl) rfl ?_
 refine Ja (Jf (zE (Jc (Ja (Ja (Jf (zR 2 ?_)))))))
 refine Kf (L:=(a0.Sections:(List ByteArray))) (by kernel_rfl) ?_
 refine zE (Jc (Jn ?_))
 obtain ⟨o6,h6,h⟩:=Kq h
 refine Ki 16 0 (fun x2=>⟨[(1,.ref 1 0),(6,.int .i64 ((a0.Sections.length:Nat):Int)),(7,.int .i64 x2)],[(1,.cells (cellsOf a0))],[],[]⟩) (fun (_:Unit)=>⟨[],[],[],[]⟩) h6 (by kernel_rfl) (fun _=>by kernel_rfl) ?_ ?_
 ·rintro x2 oh5 h5
  unfold Wm at h5
  refine Ja (Jf (zE (Jc (Ja ?_))))
  rcases Jk h5 with ⟨hb,h5⟩|⟨hb,h5⟩
  ·refine zT hb (Jj (Jc (Ja (Jn (Ja (Jf (zE (Jc (Ja (Jf (zR 2 ?_)))))))))))
   obtain ⟨r4,h7,h5⟩:=Jh h5
   refine Ju (Jby _ _ r4 h7) (by kernel_rfl) (by kernel_rfl) ?_
   refine Kf (L:=(r4:(List Int))) (by kernel_rfl) ?_
   refine zE (Jc ?_)
   rcases Jk h5 with ⟨hb,h5⟩|⟨hb,h5⟩
   ·refine zT hb (Ja (Jf (zE (Jc (Jp (Jm (Ji ?_)))))))
    cases h5
    refine Kb fun he=>?_
    subst he
    have h8:=Ku h
    refine Jm (Ji ?_)
    cases h8
    exact zQ
   refine zU hb (Jj (Kd (Jc (Jf (zE ?_)))))
   cases h5
   exact zB
  refine zU hb (Kc (Jv ?_))
  cases h5
  exact zX
 rintro _ s' rfl hs
 have h:=Kg h
 refine Jt (Jc (Ke hs (Ja (Jf (zE (Jc (Jp ?_)))))))
 cases h
 exact zQ
/-! rail.Sides -/
noncomputable def Ij (a0:Int):Option Int :=
 bif ((decide (a0<0))||(decide (4≤a0))) then (
  some 0
 ) else (
  (ixO Ee a0).bind fun x1 =>
  some x1
 )
theorem Jge (a0:Int) (r:Int) (h:Ij a0=some r):Km Go.Proofs.Tryz.prog GlS 123 [Enc.pv a0] (Enc.pv r):=by
 unfold Ij at h
 refine Jr Go.Proofs.Tryz.func123 (by rfl) rfl Go.Proofs.Tryz.ntmps123 (by rfl) rfl ?_
 refine Ja (Jf (zE (Jc (Ja (Ja (Jf (zR 3 ?_)))))))
 refine Qb 3 8 ((decide (a0<0))||(decide (4≤a0))) (fun x hx=>?_) ?_
 ·rcases Ck hx with ⟨hb,hx⟩|⟨hb,hx⟩
  ·refine zS 5 hb ?_
   subst hx
   exact zF
  refine zS 5 hb ?_
  subst hx
  exact zF
 refine zN (Jc ?_)
 rcases Jk h with ⟨hb,h⟩|⟨hb,h⟩
 ·refine zT hb (Ja (Jf (zE (Jc (Jp (Ji ?_))))))
  cases h
  exact zQ
 refine zU hb (Jj (Jc (Ja (Jf (zR 1 ?_)))))
 obtain ⟨x1,h1,h⟩:=Jh h
 refine Jxo h1 2 4 1 (by kernel_rfl) (by kernel_rfl) ?_
 refine Jvf (tab:=Ee) h1 false 1 (by kernel_rfl) (by kernel_rfl) (by kernel_rfl) ?_
 refine zE (Jc (Jp ?_))
 cases h
 exact zQ
/-! layout.exists -/
noncomputable def Wx (a0:Jd) (a1:Jg):Option Bool :=
 (Ky a1.El 0 (w64 (((a0.Elements.length:Nat):Int) - 1))).bind fun r1 =>
 ((bif r1 then (
  (ixO a0.Elements a1.El).bind fun x3 =>
  (Ij x3.Kind).bind fun r4 =>
  (Ky a1.Side 0 (w64 (r4 - 1))).bind fun r5 =>
  some r5
 ) else some false):Option Bool).bind fun b2 =>
 some b2
theorem Gm (a0:Jd) (a1:Jg) (r:Bool) (h:Wx a0 a1=some r):Km Go.Proofs.Tryz.prog GlS 107 [Enc.pv a0,Enc.pv a1] (Enc.pv r):=by
 unfold Wx at h
 refine Jr Go.Proofs.Tryz.func107 (by rfl) rfl Go.Proofs.Tryz.ntmps107 (by rfl) rfl ?_
 refine Ja (Jf (zE (Jc (Ja (Kv (by kernel_rfl) (by kernel_rfl) (zR 4 ?_))))))
 refine Kf (L:=(a0.Elements:(List Jq))) (by kernel_rfl) ?_
 refine zR 1 ?_
 obtain ⟨r1,h1,h⟩:=Jh h
 refine Ju (Qa _ _ _ r1 h1) (by kernel_rfl) (by kernel_rfl) ?_
 obtain ⟨b2,h2,h⟩:=Jh h
 refine zR 1 ?_
 refine Kt 13 25 (.bool b2) ?_ ?_
 ·rcases Jk h2 with ⟨hb,h2⟩|⟨hb,h2⟩
  ·refine zS 12 hb (zR 6 ?_)
   obtain ⟨x3,h3,h2⟩:=Jh h2
   refine zI h3 (zR 2 ?_)
   obtain ⟨r4,h4,h2⟩:=Jh h2
   refine Ju (Jge _ r4 h4) (by kernel_rfl) (by kernel_rfl) (zR 1 ?_)
   obtain ⟨r5,h5,h2⟩:=Jh h2
   refine Ju (Qa _ _ _ r5 h5) (by kernel_rfl) (by kernel_rfl) ?_
   cases h2
   exact zF
  refine zS 12 hb ?_
  cases h2
  exact zF
 refine zE (Jc (Jp ?_))
 cases h
 exact zQ
/-! layout.joinEnds -/
noncomputable def Bb (a0:Jd):Int→Option (Int⊕(Unit⊕((List (Jg×Jg))×Int))):=fun x5 =>
 bif decide (x5<((a0.Joints.length:Nat):Int)) then (
  (ixO a0.Joints x5).bind fun x10 =>
  (Wx a0 x10.A).bind fun r11 =>
  ((bif (!r11) then some true else (
   (Wx a0 x10.B).bind fun r13 =>
   some (!r13)
  )):Option Bool).bind fun b12 =>
  bif (b12||(Ka x10.A x10.B)) then (
   some (.inr (.inr (([]:(List (Jg×Jg))),1)))
  ) else (
   some (.inl (w64 (x5+1)))
  )
 ) else (
  some (.inr (.inl ()))
 )
noncomputable def Bd (a0:Jd):(Int×(List (Jg×Jg)))→Option ((Int×(List (Jg×Jg)))⊕((List (Jg×Jg))⊕((List (Jg×Jg))×Int))):=fun (x15,x16) =>
 bif decide (x15<((a0.Joints.length:Nat):Int)) then (
  (ixO a0.Joints x15).bind fun x19 =>
  bif (((Vo (x16:(List (Jg×Jg))) x19.A).isSome)||((Vo (x16:(List (Jg×Jg))) x19.B).isSome)) then (
   some (.inr (.inr (([]:(List (Jg×Jg))),8)))
  ) else (
   some (.inl (w64 (x15+1),(My x19.B x19.A (My x19.A x19.B x16))))
  )
 ) else (
  some (.inr (.inl x16))
 )
noncomputable def Zn (a0:Jd):Option ((List (Jg×Jg))×Int) :=
 onInl (α:=Unit) (β:=((List (Jg×Jg))×Int)) (Kl (Bb a0) 0) fun _ =>
 onInl (α:=(List (Jg×Jg))) (β:=((List (Jg×Jg))×Int)) (Kl (Bd a0) (0,([]:(List (Jg×Jg))))) fun x18 =>
 some (x18,0)
theorem Xv (a0:Jd) (r:((List (Jg×Jg))×Int)) (h:Zn a0=some r):Km Go.Proofs.Tryz.prog GlS 89 [Enc.pv a0] (.tup [Joy (r.1:(List (Jg×Jg))),Enc.pv r.2]):=by
 unfold Zn at h
 refine Jr Go.Proofs.Tryz.func89 (by rfl) rfl Go.Proofs.Tryz.ntmps89 (by rfl) rfl ?_
 refine Ja (Jf (zE (Jc (Ja (Ja (Jf (zR 2 ?_)))))))
 refine Kf (L:=(a0.Joints:(List Jx))) (by kernel_rfl) ?_
 refine zE (Jc (Jn ?_))
 obtain ⟨o12,h12,h⟩:=Kq h
 refine Ki 78 0 (fun x5=>⟨[(1,.ref 1 0),(14,Jo .frozen (a0.Joints:(List Jx))),(15,.int .i64 ((a0.Joints.length:Nat):Int)),(16,.int .i64 x5)],[(1,.cells (cellsOf a0))],[],[]⟩) (fun (_:Unit)=>⟨[(1,.ref 1 0)],[(1,.cells (cellsOf a0))],[],[]⟩) h12 (by kernel_rfl) (fun _=>by kernel_rfl) ?_ ?_
 ·rintro x5 oh11 h11
  unfold Bb at h11
  refine Ja (Jf (zE (Jc (Ja ?_))))
  rcases Jk h11 with ⟨hb,h11⟩|⟨hb,h11⟩
  ·refine zT hb (Jj (Jc (Ja (Jn (Ja (Jf ?_))))))
   obtain ⟨x10,h13,h11⟩:=Jh h11
   refine zI h13 (zE (Jc (Ja (Jf (zR 3 ?_)))))
   obtain ⟨r11,h14,h11⟩:=Jh h11
   refine Ju (Gm _ _ r11 h14) (by kernel_rfl) (by kernel_rfl) ?_
   obtain ⟨b12,h15,h11⟩:=Jh h11
   refine zR 2 ?_
   refine Kt 6 31 (.bool b12) ?_ ?_
   ·rcases Jk h15 with ⟨hb,h15⟩|⟨hb,h15⟩
    ·refine zS 25 hb ?_
     cases h15
     exact zF
    refine zS 25 hb (zR 3 ?_)
    obtain ⟨r13,h16,h15⟩:=Jh h15
    refine Ju (Gm _ _ r13 h16) (by kernel_rfl) (by kernel_rfl) ?_
    cases h15
    exact zF
   refine zR 1 ?_
   refine Qb 6 38 (b12||(Ka x10.A x10.B)) (fun x hx=>?_) ?_
   ·rcases Ck hx with ⟨hb,hx⟩|⟨hb,hx⟩
    ·refine zS 32 hb ?_
     subst hx
     exact zF
    refine zS 32 hb ?_
    subst hx
    exact zF
   refine zN (Jc ?_)
   rcases Jk h11 with ⟨hb,h11⟩|⟨hb,h11⟩
   ·refine zT hb (Ja (Jf (zE (Jc (Jp (Jm (Ji ?_)))))))
    cases h11
    refine Kb fun he=>?_
    subst he
    have h17:=Ku h
    refine Jm (Ji ?_)
    cases h17
    exact zQ
   refine zU hb (Jj (Kd (Jc (Jf (zE ?_)))))
   cases h11
   exact zB
  refine zU hb (Kc (Jv ?_))
  cases h11
  exact zX
 rintro _ s' rfl hs
 have h:=Kg h
 refine Jt (Jc (Ke hs (Ja (Jf (zE (Jc (Ja (Ja (Jf (zR 2 ?_))))))))))
 refine Kf (L:=(a0.Joints:(List Jx))) (by kernel_rfl) ?_
 refine zE (Jc (Jn ?_))
 obtain ⟨o23,h23,h⟩:=Kq h
 refine Ki 78 2 (fun (x15,x16)=>⟨[(6,.mp 40),(42,Jo .frozen (a0.Joints:(List Jx))),(43,.int .i64 ((a0.Joints.length:Nat):Int)),(44,.int .i64 x15)],[(40,.map (Lz (x16:(List (Jg×Jg)))))],[],[]⟩) (fun x18=>⟨[(6,.mp 40)],[(40,.map (Lz (x18:(List (Jg×Jg)))))],[],[]⟩) h23 (by kernel_rfl) (fun _=>by kernel_rfl) ?_ ?_
 ·rintro ⟨x15,x16⟩ oh22 h22
  unfold Bd at h22
  refine Ja (Jf (zE (Jc (Ja ?_))))
  rcases Jk h22 with ⟨hb,h22⟩|⟨hb,h22⟩
  ·refine zT hb (Jj (Jc (Ja (Jn (Ja (Jf ?_))))))
   obtain ⟨x19,h24,h22⟩:=Jh h22
   refine zI h24 (zE (Jc (Ja (Jf (zR 3 ?_)))))
   refine Jj3 (m:=(x16:(List (Jg×Jg)))) (k:=x19.A) (Jg.mk 0 0) 40 (by kernel_rfl) (by kernel_rfl) ?_
   refine zE (Jc (Ja (Jf (zR 3 ?_))))
   refine Jj3 (m:=(x16:(List (Jg×Jg)))) (k:=x19.B) (Jg.mk 0 0) 40 (by kernel_rfl) (by kernel_rfl) ?_
   refine zE (Jc (Ja (Ja (Jf (zR 2 ?_)))))
   refine Qb 2 65 (((Vo (x16:(List (Jg×Jg))) x19.A).isSome)||((Vo (x16:(List (Jg×Jg))) x19.B).isSome)) (fun x hx=>?_) ?_
   ·rcases Ck hx with ⟨hb,hx⟩|⟨hb,hx⟩
    ·refine zS 63 hb ?_
     subst hx
     exact zF
    refine zS 63 hb ?_
    subst hx
    exact zF
   refine zN (Jc ?_)
   rcases Jk h22 with ⟨hb,h22⟩|⟨hb,h22⟩
   ·refine zT hb (Ja (Jf (zE (Jc (Jp (Ji (Jm (Ji ?_))))))))
    cases h22
    refine Kb fun he=>?_
    subst he
    have h25:=Ku h
    refine Jm (Ji ?_)
    cases h25
    exact zQ
   refine zU hb (Jj (Jc (Kv (by kernel_rfl) (by kernel_rfl) (zR 10 ?_))))
   refine Jcz (m:=(x16:(List (Jg×Jg)))) (k:=x19.A) (v:=x19.B) 40 (by kernel_rfl) (by kernel_rfl) (by kernel_rfl) ?_
   refine Jcz (m:=((My x19.A x19.B x16):(List (Jg×Jg)))) (k:=x19.B) (v:=x19.A) 40 (by kernel_rfl) (by kernel_rfl) (by kernel_rfl) ?_
   refine zN (Kd (Jc (Jf (zE ?_))))
   cases h22
   exact zB
  refine zU hb (Kc (Jv ?_))
  cases h22
  exact zX
 rintro x18 s' rfl hs
 have h:=Kg h
 refine Jt (Jc (Ke hs (Ja (Jf (zE (Jc ?_))))))
 refine Jw1 40 [] (x18:(List (Jg×Jg))) (by kernel_rfl) (by kernel_rfl) (by kernel_rfl) ?_
 refine Jp ?_
 cases h
 exact zQ
/-! layout.checkSignals -/
noncomputable def Wo (a0:Jd):Int→Option (Int⊕(Unit⊕Int)):=fun x5 =>
 bif decide (x5<((a0.Signals.length:Nat):Int)) then (
  (ixO a0.Signals x5).bind fun x10 =>
  (Wx a0 x10.At).bind fun r11 =>
  ((bif (!r11) then some true else (
   (Ky x10.Overlap 0 1000000).bind fun r13 =>
   some (!r13)
  )):Option Bool).bind fun b12 =>
  bif b12 then (
   some (.inr (.inr 1))
  ) else (
   some (.inl (w64 (x5+1)))
  )
 ) else (
  some (.inr (.inl ()))
 )
noncomputable def Wp (a0:Jd):Int→Option (Int⊕(Unit⊕Int)):=fun x16 =>
 bif decide (x16<((a0.Signals.length:Nat):Int)) then (
  (ixO a0.Signals x16).bind fun x19 =>
  (Va a0 x19.At).bind fun r20 =>
  bif (!(decide (r20=x16))) then (
   some (.inr (.inr 8))
  ) else (
   some (.inl (w64 (x16+1)))
  )
 ) else (
  some (.inr (.inl ()))
 )
noncomputable def Wn (a0:Jd) (a1:(List (Jg×Jg))):Int→Option (Int⊕(Unit⊕Int)):=fun x25 =>
 bif decide (x25<((a0.Signals.length:Nat):Int)) then (
  (ixO a0.Signals x25).bind fun x30 =>
  ((bif (!((Vo (a1:(List (Jg×Jg))) x30.At).isSome)) then some true else (
   (Qe a0 (((Vo (a1:(List (Jg×Jg))) x30.At).getD (Jg.mk 0 0)).El)).bind fun r32 =>
   (Qe a0 x30.At.El).bind fun r33 =>
   some (decide (r32=r33))
  )):Option Bool).bind fun b31 =>
  bif b31 then (
   some (.inr (.inr 14))
  ) else (
   some (.inl (w64 (x25+1)))
  )
 ) else (
  some (.inr (.inl ()))
 )
noncomputable def Ux (a0:Jd) (a1:(List (Jg×Jg))):Option Int :=
 onInl (α:=Unit) (β:=Int) (Kl (Wo a0) 0) fun _ =>
 onInl (α:=Unit) (β:=Int) (Kl (Wp a0) 0) fun _ =>
 onInl (α:=Unit) (β:=Int) (Kl (Wn a0 a1) 0) fun _ =>
 some 0
theorem Rd (a0:Jd) (a1:(List (Jg×Jg))) (r:Int) (h:Ux a0 a1=some r):Km Go.Proofs.Tryz.prog GlS 90 [Enc.pv a0,Joy (a1:(List (Jg×Jg)))] (Enc.pv r):=by
 unfold Ux at h
 refine Jr Go.Proofs.Tryz.func90 (by rfl) rfl Go.Proofs.Tryz.ntmps90 (by rfl) rfl ?_
 refine Ja (Jf (zE (Jc (Ja (Ja (Jf (zR 2 ?_)))))))
 refine Kf (L:=(a0.Signals:(List Js))) (by kernel_rfl) ?_
 refine zE (Jc (Jn ?_))
 obtain ⟨o12,h12,h⟩:=Kq h
 refine Ki 76 0 (fun x5=>⟨[(1,Joy (a1:(List (Jg×Jg)))),(2,.ref 2 0),(14,Jo .frozen (a0.Signals:(List Js))),(15,.int .i64 ((a0.Signals.length:Nat):Int)),(16,.int .i64 x5)],[(2,.cells (cellsOf a0))],[],[]⟩) (fun (_:Unit)=>⟨[(1,Joy (a1:(List (Jg×Jg)))),(2,.ref 2 0)],[(2,.cells (cellsOf a0))],[],[]⟩) h12 (by kernel_rfl) (fun _=>by kernel_rfl) ?_ ?_
 ·rintro x5 oh11 h11
  unfold Wo at h11
  refine Ja (Jf (zE (Jc (Ja ?_))))
  rcases Jk h11 with ⟨hb,h11⟩|⟨hb,h11⟩
  ·refine zT hb (Jj (Jc (Ja (Jn (Ja (Jf ?_))))))
   obtain ⟨x10,h13,h11⟩:=Jh h11
   refine zI h13 (zE (Jc (Ja (Jf (zR 3 ?_)))))
   obtain ⟨r11,h14,h11⟩:=Jh h11
   refine Ju (Gm _ _ r11 h14) (by kernel_rfl) (by kernel_rfl) ?_
   obtain ⟨b12,h15,h11⟩:=Jh h11
   refine zR 2 ?_
   refine Kt 5 30 (.bool b12) ?_ ?_
   ·rcases Jk h15 with ⟨hb,h15⟩|⟨hb,h15⟩
    ·refine zS 25 hb ?_
     cases h15
     exact zF
    refine zS 25 hb (zR 2 ?_)
    obtain ⟨r13,h16,h15⟩:=Jh h15
    refine Ju (Qa _ _ _ r13 h16) (by kernel_rfl) (by kernel_rfl) ?_
    cases h15
    exact zF
   refine zN (Jc ?_)
   rcases Jk h11 with ⟨hb,h11⟩|⟨hb,h11⟩
   ·refine zT hb (Ja (Jf (zE (Jc (Jp (Jm (Ji ?_)))))))
    cases h11
    refine Kb fun he=>?_
    subst he
    have h17:=Ku h
    refine Jm (Ji ?_)
    cases h17
    exact zQ
   refine zU hb (Jj (Kd (Jc (Jf (zE ?_)))))
   cases h11
   exact zB
  refine zU hb (Kc (Jv ?_))
  cases h11
  exact zX
 rintro _ s' rfl hs
 have h:=Kg h
 refine Jt (Jc (Ke hs (Ja (Ja (Jf (zR 2 ?_))))))
 refine Kf (L:=(a0.Signals:(List Js))) (by kernel_rfl) ?_
 refine zE (Jc (Jn ?_))
 obtain ⟨o25,h25,h⟩:=Kq h
 refine Ki 76 2 (fun x16=>⟨[(1,Joy (a1:(List (Jg×Jg)))),(2,.ref 2 0),(33,Jo .frozen (a0.Signals:(List Js))),(34,.int .i64 ((a0.Signals.length:Nat):Int)),(35,.int .i64 x16)],[(2,.cells (cellsOf a0))],[],[]⟩) (fun (_:Unit)=>⟨[(1,Joy (a1:(List (Jg×Jg)))),(2,.ref 2 0)],[(2,.cells (cellsOf a0))],[],[]⟩) h25 (by kernel_rfl) (fun _=>by kernel_rfl) ?_ ?_
 ·rintro x16 oh24 h24
  unfold Wp at h24
  refine Ja (Jf (zE (Jc (Ja ?_))))
  rcases Jk h24 with ⟨hb,h24⟩|⟨hb,h24⟩
  ·refine zT hb (Jj (Jc (Ja (Jn (Ja (Jf (zR 1 ?_)))))))
   obtain ⟨x19,h26,h24⟩:=Jh h24
   refine zI h26 (zE (Jc (Ja (Jf (zR 3 ?_)))))
   obtain ⟨r20,h27,h24⟩:=Jh h24
   refine Ju (Yu _ _ r20 h27) (by kernel_rfl) (by kernel_rfl) (zE (Jc ?_))
   rcases Jk h24 with ⟨hb,h24⟩|⟨hb,h24⟩
   ·refine zT hb (Ja (Jf (zE (Jc (Jp (Jm (Ji ?_)))))))
    cases h24
    refine Kb fun he=>?_
    subst he
    have h28:=Ku h
    refine Jm (Ji ?_)
    cases h28
    exact zQ
   refine zU hb (Jj (Kd (Jc (Jf (zE ?_)))))
   cases h24
   exact zB
  refine zU hb (Kc (Jv ?_))
  cases h24
  exact zX
 rintro _ s' rfl hs
 have h:=Kg h
 refine Jt (Jc (Ke hs (Ja (Ja (Jf (zR 2 ?_))))))
 refine Kf (L:=(a0.Signals:(List Js))) (by kernel_rfl) ?_
 refine zE (Jc (Jn ?_))
 obtain ⟨o40,h40,h⟩:=Kq h
 refine Ki 76 4 (fun x25=>⟨[(1,Joy (a1:(List (Jg×Jg)))),(2,.ref 2 0),(48,Jo .frozen (a0.Signals:(List Js))),(49,.int .i64 ((a0.Signals.length:Nat):Int)),(50,.int .i64 x25)],[(2,.cells (cellsOf a0))],[],[]⟩) (fun (_:Unit)=>⟨[],[],[],[]⟩) h40 (by kernel_rfl) (fun _=>by kernel_rfl) ?_ ?_
 ·rintro x25 oh39 h39
  unfold Wn at h39
  refine Ja (Jf (zE (Jc (Ja ?_))))
  rcases Jk h39 with ⟨hb,h39⟩|⟨hb,h39⟩
  ·refine zT hb (Jj (Jc (Ja (Jn (Ja (Jf ?_))))))
   obtain ⟨x30,h41,h39⟩:=Jh h39
   refine zI h41 (zE (Jc (Ja (Jf (zR 3 ?_)))))
   refine Jrs (m:=(a1:(List (Jg×Jg)))) (k:=x30.At) (Jg.mk 0 0) true (by kernel_rfl) ?_
   refine zE (Jc (Ja (Kv (by kernel_rfl) (by kernel_rfl) ?_)))
   obtain ⟨b31,h42,h39⟩:=Jh h39
   refine zR 3 ?_
   refine Kt 11 74 (.bool b31) ?_ ?_
   ·rcases Jk h42 with ⟨hb,h42⟩|⟨hb,h42⟩
    ·refine zS 63 hb ?_
     cases h42
     exact zF
    refine zS 63 hb (zR 3 ?_)
    obtain ⟨r32,h43,h42⟩:=Jh h42
    refine Ju (Qt _ _ r32 h43) (by kernel_rfl) (by kernel_rfl) (zR 4 ?_)
    obtain ⟨r33,h44,h42⟩:=Jh h42
    refine Ju (Qt _ _ r33 h44) (by kernel_rfl) (by kernel_rfl) ?_
    cases h42
    exact zF
   refine zN (Jc ?_)
   rcases Jk h39 with ⟨hb,h39⟩|⟨hb,h39⟩
   ·refine zT hb (Ja (Jf (zE (Jc (Jp (Jm (Ji ?_)))))))
    cases h39
    refine Kb fun he=>?_
    subst he
    have h45:=Ku h
    refine Jm (Ji ?_)
    cases h45
    exact zQ
   refine zU hb (Jj (Kd (Jc (Jf (zE ?_)))))
   cases h39
   exact zB
  refine zU hb (Kc (Jv ?_))
  cases h39
  exact zX
 rintro _ s' rfl hs
 have h:=Kg h
 refine Jt (Jc (Ke hs (Ja (Jf (zE (Jc (Jp ?_)))))))
 cases h
 exact zQ
/-! layout.checkBalises -/
noncomputable def Wr (a0:Jd):Int→Option (Int⊕(Unit⊕Int)):=fun x8 =>
 bif decide (x8<((a0.Balises.length:Nat):Int)) then (
  (ixO a0.Balises x8).bind fun x16 =>
  (Ky x16.Id 1 1073741824).bind fun r17 =>
  ((bif (!r17) then some true else (
   (Ky x16.El 0 (w64 (((a0.Elements.length:Nat):Int) - 1))).bind fun r19 =>
   some (!r19)
  )):Option Bool).bind fun b18 =>
  ((bif b18 then some true else (
   (ixO a0.Elements x16.El).bind fun x21 =>
   (Ky x16.Offset 0 x21.Length).bind fun r22 =>
   some (!r22)
  )):Option Bool).bind fun b20 =>
  bif b20 then (
   some (.inr (.inr 1))
  ) else (
   some (.inl (w64 (x8+1)))
  )
 ) else (
  some (.inr (.inl ()))
 )
noncomputable def Wq (a0:Jd):(Int×(List (Int×Bool)))→Option ((Int×(List (Int×Bool)))⊕(Unit⊕Int)):=fun (x24,x25) =>
 bif decide (x24<((a0.Balises.length:Nat):Int)) then (
  (ixO a0.Balises x24).bind fun x27 =>
  bif ((Vo (x25:(List (Int×Bool))) x27.Id).getD false) then (
   some (.inr (.inr 8))
  ) else (
   some (.inl (w64 (x24+1),(My x27.Id true x25)))
  )
 ) else (
  some (.inr (.inl ()))
 )
noncomputable def Uz (a0:Jd):Option Int :=
 onInl (α:=Unit) (β:=Int) (Kl (Wr a0) 0) fun _ =>
 onInl (α:=Unit) (β:=Int) (Kl (Wq a0) (0,([]:(List (Int×Bool))))) fun _ =>
 some 0
theorem Py (a0:Jd) (r:Int) (h:Uz a0=some r):Km Go.Proofs.Tryz.prog GlS 91 [Enc.pv a0] (Enc.pv r):=by
 unfold Uz at h
 refine Jr Go.Proofs.Tryz.func91 (by rfl) rfl Go.Proofs.Tryz.ntmps91 (by rfl) rfl ?_
 refine Ja (Jf (zE (Jc (Ja (Ja (Jf (zR 2 ?_)))))))
 refine Kf (L:=(a0.Balises:(List Kh))) (by kernel_rfl) ?_
 refine zE (Jc (Jn ?_))
 obtain ⟨o18,h18,h⟩:=Kq h
 refine Ki 59 0 (fun x8=>⟨[(1,.ref 1 0),(9,Jo .frozen (a0.Balises:(List Kh))),(10,.int .i64 ((a0.Balises.length:Nat):Int)),(11,.int .i64 x8)],[(1,.cells (cellsOf a0))],[],[]⟩) (fun (_:Unit)=>⟨[(1,.ref 1 0)],[(1,.cells (cellsOf a0))],[],[]⟩) h18 (by kernel_rfl) (fun _=>by kernel_rfl) ?_ ?_
 ·rintro x8 oh17 h17
  unfold Wr at h17
  refine Ja (Jf (zE (Jc (Ja ?_))))
  rcases Jk h17 with ⟨hb,h17⟩|⟨hb,h17⟩
  ·refine zT hb (Jj (Jc (Ja (Jn (Ja (Jf ?_))))))
   obtain ⟨x16,h19,h17⟩:=Jh h17
   refine zI h19 (zE (Jc (Ja (Kv (by kernel_rfl) (by kernel_rfl) (zR 2 ?_)))))
   obtain ⟨r17,h20,h17⟩:=Jh h17
   refine Ju (Qa _ _ _ r17 h20) (by kernel_rfl) (by kernel_rfl) ?_
   obtain ⟨b18,h21,h17⟩:=Jh h17
   refine zR 2 ?_
   refine Kt 9 28 (.bool b18) ?_ ?_
   ·rcases Jk h21 with ⟨hb,h21⟩|⟨hb,h21⟩
    ·refine zS 19 hb ?_
     cases h21
     exact zF
    refine zS 19 hb (zR 4 ?_)
    refine Kf (L:=(a0.Elements:(List Jq))) (by kernel_rfl) ?_
    refine zR 1 ?_
    obtain ⟨r19,h22,h21⟩:=Jh h21
    refine Ju (Qa _ _ _ r19 h22) (by kernel_rfl) (by kernel_rfl) ?_
    cases h21
    exact zF
   obtain ⟨b20,h23,h17⟩:=Jh h17
   refine zR 1 ?_
   refine Kt 12 41 (.bool b20) ?_ ?_
   ·rcases Jk h23 with ⟨hb,h23⟩|⟨hb,h23⟩
    ·refine zS 29 hb ?_
     cases h23
     exact zF
    refine zS 29 hb (zR 6 ?_)
    obtain ⟨x21,h24,h23⟩:=Jh h23
    refine zI h24 (zR 2 ?_)
    obtain ⟨r22,h25,h23⟩:=Jh h23
    refine Ju (Qa _ _ _ r22 h25) (by kernel_rfl) (by kernel_rfl) ?_
    cases h23
    exact zF
   refine zN (Jc ?_)
   rcases Jk h17 with ⟨hb,h17⟩|⟨hb,h17⟩
   ·refine zT hb (Ja (Jf (zE (Jc (Jp (Jm (Ji ?_)))))))
    cases h17
    refine Kb fun he=>?_
    subst he
    have h26:=Ku h
    refine Jm (Ji ?_)
    cases h26
    exact zQ
   refine zU hb (Jj (Kd (Jc (Jf (zE ?_)))))
   cases h17
   exact zB
  refine zU hb (Kc (Jv ?_))
  cases h17
  exact zX
 rintro _ s' rfl hs
 have h:=Kg h
 refine Jt (Jc (Ke hs (Ja (Jf (zE (Jc (Ja (Ja (Jf (zR 2 ?_))))))))))
 refine Kf (L:=(a0.Balises:(List Kh))) (by kernel_rfl) ?_
 refine zE (Jc (Jn ?_))
 obtain ⟨o32,h32,h⟩:=Kq h
 refine Ki 59 2 (fun (x24,x25)=>⟨[(5,.mp 43),(45,Jo .frozen (a0.Balises:(List Kh))),(46,.int .i64 ((a0.Balises.length:Nat):Int)),(47,.int .i64 x24)],[(43,.map (Lz (x25:(List (Int×Bool)))))],[],[]⟩) (fun (_:Unit)=>⟨[],[],[],[]⟩) h32 (by kernel_rfl) (fun _=>by kernel_rfl) ?_ ?_
 ·rintro ⟨x24,x25⟩ oh31 h31
  unfold Wq at h31
  refine Ja (Jf (zE (Jc (Ja ?_))))
  rcases Jk h31 with ⟨hb,h31⟩|⟨hb,h31⟩
  ·refine zT hb (Jj (Jc (Ja (Jn (Ja (Jf ?_))))))
   obtain ⟨x27,h33,h31⟩:=Jh h31
   refine zI h33 (zE (Jc (Ja (Ja (Jf (zR 3 ?_))))))
   refine Sd (m:=(x25:(List (Int×Bool)))) (k:=x27.Id) false 43 (by kernel_rfl) (by kernel_rfl) ?_
   refine zN (Jc ?_)
   rcases Jk h31 with ⟨hb,h31⟩|⟨hb,h31⟩
   ·refine zT hb (Ja (Jf (zE (Jc (Jp (Ji (Jm (Ji ?_))))))))
    cases h31
    refine Kb fun he=>?_
    subst he
    have h34:=Ku h
    refine Jm (Ji ?_)
    cases h34
    exact zQ
   refine zU hb (Jj (Jc (Jf (zR 3 ?_))))
   refine Jcz (m:=(x25:(List (Int×Bool)))) (k:=x27.Id) (v:=true) 43 (by kernel_rfl) (by kernel_rfl) (by kernel_rfl) ?_
   refine zN (Kd (Jc (Jf (zE ?_))))
   cases h31
   exact zB
  refine zU hb (Kc (Jv ?_))
  cases h31
  exact zX
 rintro _ s' rfl hs
 have h:=Kg h
 refine Jt (Jc (Ke hs (Ja (Jf (zE (Jc (Jp ?_)))))))
 cases h
 exact zQ
/-! layout.Check -/
noncomputable def Bf (a0:Jd):Option Int :=
 (Yt a0).bind fun r1 =>
 bif (!r1) then (
  some 2
 ) else (
  (Yc a0).bind fun r2 =>
  bif (!(decide (r2=0))) then (
   some r2
  ) else (
   (Vf a0).bind fun r3 =>
   ((bif (!r3) then some true else (
    (Vu a0).bind fun r5 =>
    some (!r5)
   )):Option Bool).bind fun b4 =>
   bif b4 then (
    some 1
   ) else (
    (Zn a0).bind fun r6 =>
    bif (!(decide (r6.2=0))) then (
     some r6.2
    ) else (
     (Ux a0 r6.1).bind fun r7 =>
     bif (!(decide (r7=0))) then (
      some r7
     ) else (
      (Uz a0).bind fun r8 =>
      some r8
     )
    )
   )
  )
 )
theorem Jd3 (a0:Jd) (r:Int) (h:Bf a0=some r):Km Go.Proofs.Tryz.prog GlS 44 [Enc.pv a0] (Enc.pv r):=by
 unfold Bf at h
 refine Jr Go.Proofs.Tryz.func44 (by rfl) rfl Go.Proofs.Tryz.ntmps44 (by rfl) rfl ?_
 refine Ja (Jf (zE (Jc (Ja (Ja (Jf (zR 1 ?_)))))))
 obtain ⟨r1,h1,h⟩:=Jh h
 refine Ju (Xq _ r1 h1) (by kernel_rfl) (by kernel_rfl) (zE (Jc ?_))
 rcases Jk h with ⟨hb,h⟩|⟨hb,h⟩
 ·refine zT hb (Ja (Jf (zE (Jc (Jp (Ji ?_))))))
  cases h
  exact zQ
 refine zU hb (Jj (Jc (Ja (Ja (Jf (zR 1 ?_))))))
 obtain ⟨r2,h2,h⟩:=Jh h
 refine Ju (Th _ r2 h2) (by kernel_rfl) (by kernel_rfl) (zE (Jc (Ja (Jf (zE (Jc ?_))))))
 rcases Jk h with ⟨hb,h⟩|⟨hb,h⟩
 ·refine zT hb (Ja (Jf (zE (Jc (Jp (Ji ?_))))))
  cases h
  exact zQ
 refine zU hb (Jj (Jc (Ja (Ja (Jf (zR 1 ?_))))))
 obtain ⟨r3,h3,h⟩:=Jh h
 refine Ju (Rp _ r3 h3) (by kernel_rfl) (by kernel_rfl) ?_
 obtain ⟨b4,h4,h⟩:=Jh h
 refine zR 2 ?_
 refine Kt 4 22 (.bool b4) ?_ ?_
 ·rcases Jk h4 with ⟨hb,h4⟩|⟨hb,h4⟩
  ·refine zS 18 hb ?_
   cases h4
   exact zF
  refine zS 18 hb (zR 1 ?_)
  obtain ⟨r5,h5,h4⟩:=Jh h4
  refine Ju (Ra _ r5 h5) (by kernel_rfl) (by kernel_rfl) ?_
  cases h4
  exact zF
 refine zN (Jc ?_)
 rcases Jk h with ⟨hb,h⟩|⟨hb,h⟩
 ·refine zT hb (Ja (Jf (zE (Jc (Jp (Ji ?_))))))
  cases h
  exact zQ
 refine zU hb (Jj (Jc (Ja (Jf (zR 1 ?_)))))
 obtain ⟨r6,h6,h⟩:=Jh h
 refine Ju (Xv _ r6 h6) (by kernel_rfl) (by kernel_rfl) (zE (Jc (Ja (Ja (Jf (zE (Jc ?_)))))))
 rcases Jk h with ⟨hb,h⟩|⟨hb,h⟩
 ·refine zT hb (Ja (Jf (zE (Jc (Jp (Ji ?_))))))
  cases h
  exact zQ
 refine zU hb (Jj (Jc (Ja (Ja (Jf (zR 2 ?_))))))
 obtain ⟨r7,h7,h⟩:=Jh h
 refine Ju (Rd _ _ r7 h7) (by kernel_rfl) (by kernel_rfl) (zE (Jc (Ja (Jf (zE (Jc ?_))))))
 rcases Jk h with ⟨hb,h⟩|⟨hb,h⟩
 ·refine zT hb (Ja (Jf (zE (Jc (Jp (Ji ?_))))))
  cases h
  exact zQ
 refine zU hb (Jj (Jc (Ja (Jf (zR 1 ?_)))))
 obtain ⟨r8,h8,h⟩:=Jh h
 refine Ju (Py _ r8 h8) (by kernel_rfl) (by kernel_rfl) (zE (Jc (Jp ?_)))
 cases h
 exact zQ
/-! route.All -/
noncomputable def Ln (a0:Jd):(Int×(List Jl))→Option ((Int×(List Jl))⊕((List Jl)⊕((List Jl)×Int))):=fun (x7,x8) =>
 bif decide (x7<((a0.Signals.length:Nat):Int)) then (
  (Um a0 x7).bind fun r12 =>
  (Vv x8 r12).bind fun x13 =>
  some (.inl (w64 (x7+1),x13))
 ) else (
  some (.inr (.inl x8))
 )
noncomputable def Br (a0:Jd):Option ((List Jl)×Int) :=
 (Bf a0).bind fun r1 =>
 bif (!(decide (r1=0))) then (
  some (([]:(List Jl)),r1)
 ) else (
  onInl (α:=(List Jl)) (β:=((List Jl)×Int)) (Kl (Ln a0) (0,([]:(List Jl)))) fun x11 =>
  bif decide (48<((x11.length:Nat):Int)) then (
   some (([]:(List Jl)),2)
  ) else (
   some (x11,0)
  )
 )
theorem Nz (a0:Jd) (r:((List Jl)×Int)) (h:Br a0=some r):Km Go.Proofs.Tryz.prog GlS 14 [Enc.pv a0] (.tup [Enc.pv r.1,Enc.pv r.2]):=by
 unfold Br at h
 refine Jr Go.Proofs.Tryz.func14 (by rfl) rfl Go.Proofs.Tryz.ntmps14 (by rfl) rfl ?_
 refine Ja (Jf (zE (Jc (Ja (Ja (Jf (zR 1 ?_)))))))
 obtain ⟨r1,h1,h⟩:=Jh h
 refine Ju (Jd3 _ r1 h1) (by kernel_rfl) (by kernel_rfl) (zE (Jc (Ja (Jf (zE (Jc ?_))))))
 rcases Jk h with ⟨hb,h⟩|⟨hb,h⟩
 ·refine zT hb (Ja (Jf (zE (Jc (Jp (Ji ?_))))))
  cases h
  exact zQ
 refine zU hb (Jj (Jc (Ja (Jf (zE (Jc (Ja (Ja (Jf (zR 2 ?_))))))))))
 refine Kf (L:=(a0.Signals:(List Js))) (by kernel_rfl) ?_
 refine zE (Jc (Jn (Df 5 100005 14 264 (by kernel_rfl) (by kernel_rfl) ?_)))
 obtain ⟨o9,h9,h⟩:=Kq h
 refine Ki 28 0 (fun (x7,x8)=>⟨[(1,.ref 1 0),(5,Jo (.own 100005) (x8:(List Jl))),(14,.int .i64 ((a0.Signals.length:Nat):Int)),(15,.int .i64 x7)],[(1,.cells (cellsOf a0))],[(100005,(((x8).map cellsOf).length,14))],[]⟩) (fun x11=>⟨[(5,Jo (.own 100005) (x11:(List Jl)))],[],[(100005,(((x11).map cellsOf).length,14))],[]⟩) h9 (by kernel_rfl) (fun _=>by kernel_rfl) ?_ ?_
 ·rintro ⟨x7,x8⟩ oh8 h8
  unfold Ln at h8
  refine Ja (Jf (zE (Jc (Ja ?_))))
  rcases Jk h8 with ⟨hb,h8⟩|⟨hb,h8⟩
  ·refine zT hb (Jj (Jc (Ja (Jn (Ja (Jf (zE (Jc (Jf (zR 3 ?_))))))))))
   obtain ⟨r12,h10,h8⟩:=Jh h8
   refine Ju (Ga _ _ r12 h10) (by kernel_rfl) (by kernel_rfl) ?_
   obtain ⟨x13,h11,h8⟩:=Jh h8
   refine Zz (tk:=100005) h11 (by kernel_rfl) (by kernel_rfl) ?_
   refine zE (Kd (Jc (Jf (zE ?_))))
   cases h8
   exact zB
  refine zU hb (Kc (Jv ?_))
  cases h8
  exact zX
 rintro x11 s' rfl hs
 have h:=Kg h
 refine Jt (Jc (Ke hs (Ja (Ja (Jf (zR 1 ?_))))))
 refine Kf (L:=(x11:(List Jl))) (by kernel_rfl) ?_
 refine zE (Jc ?_)
 rcases Jk h with ⟨hb,h⟩|⟨hb,h⟩
 ·refine zT hb (Ja (Jf (zE (Jc (Jp (Ji ?_))))))
  cases h
  exact zQ
 refine zU hb (Jj (Jc (Ja (Jf (zE (Jc (Jp ?_)))))))
 cases h
 exact zQ
/-! signallingref09.SameSteps -/
noncomputable def Nb (a0:(List Jb)) (a1:(List Jb)):Int→Option (Int⊕(Unit⊕Bool)):=fun x3 =>
 bif decide (x3<((a0.length:Nat):Int)) then (
  (ixO a0 x3).bind fun x6 =>
  (ixO a1 x3).bind fun x7 =>
  bif (!(Lj x6 x7)) then (
   some (.inr (.inr false))
  ) else (
   some (.inl (w64 (x3+1)))
  )
 ) else (
  some (.inr (.inl ()))
 )
noncomputable def Cr (a0:(List Jb)) (a1:(List Jb)):Option Bool :=
 bif (!(decide (((a0.length:Nat):Int)=((a1.length:Nat):Int)))) then (
  some false
 ) else (
  onInl (α:=Unit) (β:=Bool) (Kl (Nb a0 a1) 0) fun _ =>
  some true
 )
theorem Xy (a0:(List Jb)) (a1:(List Jb)) (r:Bool) (h:Cr a0 a1=some r):Km Go.Proofs.Tryz.prog GlS 56 [Enc.pv a0,Enc.pv a1] (Enc.pv r):=by
 unfold Cr at h
 refine Jr Go.Proofs.Tryz.func56 (by rfl) rfl Go.Proofs.Tryz.ntmps56 (by rfl) rfl ?_
 refine Ja (Jf (zE (Jc (Ja (Ja (Jf (zR 1 ?_)))))))
 refine Kf (L:=(a0:(List Jb))) (by kernel_rfl) ?_
 refine zR 1 ?_
 refine Kf (L:=(a1:(List Jb))) (by kernel_rfl) ?_
 refine zE (Jc ?_)
 rcases Jk h with ⟨hb,h⟩|⟨hb,h⟩
 ·refine zT hb (Ja (Jf (zE (Jc (Jp (Ji ?_))))))
  cases h
  exact zQ
 refine zU hb (Jj (Jc (Ja (Ja (Jf (zE (Jc (Jn ?_))))))))
 obtain ⟨o8,h8,h⟩:=Kq h
 refine Ki 26 0 (fun x3=>⟨[(0,Jo .frozen (a0:(List Jb))),(1,Jo .frozen (a1:(List Jb))),(5,.int .i64 x3)],[],[],[]⟩) (fun (_:Unit)=>⟨[],[],[],[]⟩) h8 (by kernel_rfl) (fun _=>by kernel_rfl) ?_ ?_
 ·rintro x3 oh7 h7
  unfold Nb at h7
  refine Ja (Ja (Jf (zR 2 ?_)))
  refine Kf (L:=(a0:(List Jb))) (by kernel_rfl) ?_
  refine zE (Jc ?_)
  rcases Jk h7 with ⟨hb,h7⟩|⟨hb,h7⟩
  ·refine zT hb (Jj (Jc (Ja (Jn (Ja (Kv (by kernel_rfl) (by kernel_rfl) (zR 2 ?_)))))))
   obtain ⟨x6,h9,h7⟩:=Jh h7
   refine zI h9 (zR 3 ?_)
   obtain ⟨x7,h10,h7⟩:=Jh h7
   refine zI h10 (zE (Jc ?_))
   rcases Jk h7 with ⟨hb,h7⟩|⟨hb,h7⟩
   ·refine zT hb (Ja (Jf (zE (Jc (Jp (Jm (Ji ?_)))))))
    cases h7
    refine Kb fun he=>?_
    subst he
    have h11:=Ku h
    refine Jm (Ji ?_)
    cases h11
    exact zQ
   refine zU hb (Jj (Kd (Jc (Jf (zE ?_)))))
   cases h7
   exact zB
  refine zU hb (Kc (Jv ?_))
  cases h7
  exact zX
 rintro _ s' rfl hs
 have h:=Kg h
 refine Jt (Jc (Ke hs (Ja (Jf (zE (Jc (Jp ?_)))))))
 cases h
 exact zQ
/-! signallingref12.SameSteps -/
noncomputable def Uv (a0:(List Jb)) (a1:(List Jb)):Option Bool :=
 (Cr a0 a1).bind fun r1 =>
 some r1
theorem Ec (a0:(List Jb)) (a1:(List Jb)) (r:Bool) (h:Uv a0 a1=some r):Km Go.Proofs.Tryz.prog GlS 24 [Enc.pv a0,Enc.pv a1] (Enc.pv r):=by
 unfold Uv at h
 refine Jr Go.Proofs.Tryz.func24 (by rfl) rfl Go.Proofs.Tryz.ntmps24 (by rfl) rfl ?_
 refine Ja (Jf (zE (Jc (Ja (Jf (zR 2 ?_))))))
 obtain ⟨r1,h1,h⟩:=Jh h
 refine Ju (Xy _ _ r1 h1) (by kernel_rfl) (by kernel_rfl) (zE (Jc (Jp ?_)))
 cases h
 exact zQ
/-! signallingref09.SameSettings -/
noncomputable def Hy (a0:(List Je)) (a1:(List Je)):Int→Option (Int⊕(Unit⊕Bool)):=fun x3 =>
 bif decide (x3<((a0.length:Nat):Int)) then (
  (ixO a0 x3).bind fun x6 =>
  (ixO a1 x3).bind fun x7 =>
  bif (!(Ua x6 x7)) then (
   some (.inr (.inr false))
  ) else (
   some (.inl (w64 (x3+1)))
  )
 ) else (
  some (.inr (.inl ()))
 )
noncomputable def Zp (a0:(List Je)) (a1:(List Je)):Option Bool :=
 bif (!(decide (((a0.length:Nat):Int)=((a1.length:Nat):Int)))) then (
  some false
 ) else (
  onInl (α:=Unit) (β:=Bool) (Kl (Hy a0 a1) 0) fun _ =>
  some true
 )
theorem Sc (a0:(List Je)) (a1:(List Je)) (r:Bool) (h:Zp a0 a1=some r):Km Go.Proofs.Tryz.prog GlS 47 [Enc.pv a0,Enc.pv a1] (Enc.pv r):=by
 unfold Zp at h
 refine Jr Go.Proofs.Tryz.func47 (by rfl) rfl Go.Proofs.Tryz.ntmps47 (by rfl) rfl ?_
 refine Ja (Jf (zE (Jc (Ja (Ja (Jf (zR 1 ?_)))))))
 refine Kf (L:=(a0:(List Je))) (by kernel_rfl) ?_
 refine zR 1 ?_
 refine Kf (L:=(a1:(List Je))) (by kernel_rfl) ?_
 refine zE (Jc ?_)
 rcases Jk h with ⟨hb,h⟩|⟨hb,h⟩
 ·refine zT hb (Ja (Jf (zE (Jc (Jp (Ji ?_))))))
  cases h
  exact zQ
 refine zU hb (Jj (Jc (Ja (Ja (Jf (zE (Jc (Jn ?_))))))))
 obtain ⟨o8,h8,h⟩:=Kq h
 refine Ki 26 0 (fun x3=>⟨[(0,Jo .frozen (a0:(List Je))),(1,Jo .frozen (a1:(List Je))),(5,.int .i64 x3)],[],[],[]⟩) (fun (_:Unit)=>⟨[],[],[],[]⟩) h8 (by kernel_rfl) (fun _=>by kernel_rfl) ?_ ?_
 ·rintro x3 oh7 h7
  unfold Hy at h7
  refine Ja (Ja (Jf (zR 2 ?_)))
  refine Kf (L:=(a0:(List Je))) (by kernel_rfl) ?_
  refine zE (Jc ?_)
  rcases Jk h7 with ⟨hb,h7⟩|⟨hb,h7⟩
  ·refine zT hb (Jj (Jc (Ja (Jn (Ja (Kv (by kernel_rfl) (by kernel_rfl) (zR 2 ?_)))))))
   obtain ⟨x6,h9,h7⟩:=Jh h7
   refine zI h9 (zR 3 ?_)
   obtain ⟨x7,h10,h7⟩:=Jh h7
   refine zI h10 (zE (Jc ?_))
   rcases Jk h7 with ⟨hb,h7⟩|⟨hb,h7⟩
   ·refine zT hb (Ja (Jf (zE (Jc (Jp (Jm (Ji ?_)))))))
    cases h7
    refine Kb fun he=>?_
    subst he
    have h11:=Ku h
    refine Jm (Ji ?_)
    cases h11
    exact zQ
   refine zU hb (Jj (Kd (Jc (Jf (zE ?_)))))
   cases h7
   exact zB
  refine zU hb (Kc (Jv ?_))
  cases h7
  exact zX
 rintro _ s' rfl hs
 have h:=Kg h
 refine Jt (Jc (Ke hs (Ja (Jf (zE (Jc (Jp ?_)))))))
 cases h
 exact zQ
/-! signallingref12.SameSettings -/
noncomputable def Qo (a0:(List Je)) (a1:(List Je)):Option Bool :=
 (Zp a0 a1).bind fun r1 =>
 some r1
theorem Wk (a0:(List Je)) (a1:(List Je)) (r:Bool) (h:Qo a0 a1=some r):Km Go.Proofs.Tryz.prog GlS 18 [Enc.pv a0,Enc.pv a1] (Enc.pv r):=by
 unfold Qo at h
 refine Jr Go.Proofs.Tryz.func18 (by rfl) rfl Go.Proofs.Tryz.ntmps18 (by rfl) rfl ?_
 refine Ja (Jf (zE (Jc (Ja (Jf (zR 2 ?_))))))
 obtain ⟨r1,h1,h⟩:=Jh h
 refine Ju (Sc _ _ r1 h1) (by kernel_rfl) (by kernel_rfl) (zE (Jc (Jp ?_)))
 cases h
 exact zQ
/-! signallingref09.SameInts -/
noncomputable def Oq (a0:(List Int)) (a1:(List Int)):Int→Option (Int⊕(Unit⊕Bool)):=fun x3 =>
 bif decide (x3<((a0.length:Nat):Int)) then (
  (ixO a0 x3).bind fun x6 =>
  (ixO a1 x3).bind fun x7 =>
  bif (!(decide (x6=x7))) then (
   some (.inr (.inr false))
  ) else (
   some (.inl (w64 (x3+1)))
  )
 ) else (
  some (.inr (.inl ()))
 )
noncomputable def Ei (a0:(List Int)) (a1:(List Int)):Option Bool :=
 bif (!(decide (((a0.length:Nat):Int)=((a1.length:Nat):Int)))) then (
  some false
 ) else (
  onInl (α:=Unit) (β:=Bool) (Kl (Oq a0 a1) 0) fun _ =>
  some true
 )
theorem Jbs (a0:(List Int)) (a1:(List Int)) (r:Bool) (h:Ei a0 a1=some r):Km Go.Proofs.Tryz.prog GlS 45 [Enc.pv a0,Enc.pv a1] (Enc.pv r):=by
 unfold Ei at h
 refine Jr Go.Proofs.Tryz.func45 (by rfl) rfl Go.Proofs.Tryz.ntmps45 (by rfl) rfl ?_
 refine Ja (Jf (zE (Jc (Ja (Ja (Jf (zR 1 ?_)))))))
 refine Kf (L:=(a0:(List Int))) (by kernel_rfl) ?_
 refine zR 1 ?_
 refine Kf (L:=(a1:(List Int))) (by kernel_rfl) ?_
 refine zE (Jc ?_)
 rcases Jk h with ⟨hb,h⟩|⟨hb,h⟩
 ·refine zT hb (Ja (Jf (zE (Jc (Jp (Ji ?_))))))
  cases h
  exact zQ
 refine zU hb (Jj (Jc (Ja (Ja (Jf (zE (Jc (Jn ?_))))))))
 obtain ⟨o8,h8,h⟩:=Kq h
 refine Ki 26 0 (fun x3=>⟨[(0,Jo .frozen (a0:(List Int))),(1,Jo .frozen (a1:(List Int))),(5,.int .i64 x3)],[],[],[]⟩) (fun (_:Unit)=>⟨[],[],[],[]⟩) h8 (by kernel_rfl) (fun _=>by kernel_rfl) ?_ ?_
 ·rintro x3 oh7 h7
  unfold Oq at h7
  refine Ja (Ja (Jf (zR 2 ?_)))
  refine Kf (L:=(a0:(List Int))) (by kernel_rfl) ?_
  refine zE (Jc ?_)
  rcases Jk h7 with ⟨hb,h7⟩|⟨hb,h7⟩
  ·refine zT hb (Jj (Jc (Ja (Jn (Ja (Kv (by kernel_rfl) (by kernel_rfl) (zR 2 ?_)))))))
   obtain ⟨x6,h9,h7⟩:=Jh h7
   refine zI h9 (zR 3 ?_)
   obtain ⟨x7,h10,h7⟩:=Jh h7
   refine zI h10 (zE (Jc ?_))
   rcases Jk h7 with ⟨hb,h7⟩|⟨hb,h7⟩
   ·refine zT hb (Ja (Jf (zE (Jc (Jp (Jm (Ji ?_)))))))
    cases h7
    refine Kb fun he=>?_
    subst he
    have h11:=Ku h
    refine Jm (Ji ?_)
    cases h11
    exact zQ
   refine zU hb (Jj (Kd (Jc (Jf (zE ?_)))))
   cases h7
   exact zB
  refine zU hb (Kc (Jv ?_))
  cases h7
  exact zX
 rintro _ s' rfl hs
 have h:=Kg h
 refine Jt (Jc (Ke hs (Ja (Jf (zE (Jc (Jp ?_)))))))
 cases h
 exact zQ
/-! signallingref12.SameInts -/
noncomputable def Uk (a0:(List Int)) (a1:(List Int)):Option Bool :=
 (Ei a0 a1).bind fun r1 =>
 some r1
theorem Ba (a0:(List Int)) (a1:(List Int)) (r:Bool) (h:Uk a0 a1=some r):Km Go.Proofs.Tryz.prog GlS 16 [Enc.pv a0,Enc.pv a1] (Enc.pv r):=by
 unfold Uk at h
 refine Jr Go.Proofs.Tryz.func16 (by rfl) rfl Go.Proofs.Tryz.ntmps16 (by rfl) rfl ?_
 refine Ja (Jf (zE (Jc (Ja (Jf (zR 2 ?_))))))
 obtain ⟨r1,h1,h⟩:=Jh h
 refine Ju (Jbs _ _ r1 h1) (by kernel_rfl) (by kernel_rfl) (zE (Jc (Jp ?_)))
 cases h
 exact zQ
/-! signallingref12.sameEnds -/
noncomputable def Ow (a0:(List Jg)) (a1:(List Jg)):Int→Option (Int⊕(Unit⊕Bool)):=fun x3 =>
 bif decide (x3<((a0.length:Nat):Int)) then (
  (ixO a0 x3).bind fun x6 =>
  (ixO a1 x3).bind fun x7 =>
  bif (!(Ka x6 x7)) then (
   some (.inr (.inr false))
  ) else (
   some (.inl (w64 (x3+1)))
  )
 ) else (
  some (.inr (.inl ()))
 )
noncomputable def Ex (a0:(List Jg)) (a1:(List Jg)):Option Bool :=
 bif (!(decide (((a0.length:Nat):Int)=((a1.length:Nat):Int)))) then (
  some false
 ) else (
  onInl (α:=Unit) (β:=Bool) (Kl (Ow a0 a1) 0) fun _ =>
  some true
 )
theorem Jbp (a0:(List Jg)) (a1:(List Jg)) (r:Bool) (h:Ex a0 a1=some r):Km Go.Proofs.Tryz.prog GlS 57 [Enc.pv a0,Enc.pv a1] (Enc.pv r):=by
 unfold Ex at h
 refine Jr Go.Proofs.Tryz.func57 (by rfl) rfl Go.Proofs.Tryz.ntmps57 (by rfl) rfl ?_
 refine Ja (Jf (zE (Jc (Ja (Ja (Jf (zR 1 ?_)))))))
 refine Kf (L:=(a0:(List Jg))) (by kernel_rfl) ?_
 refine zR 1 ?_
 refine Kf (L:=(a1:(List Jg))) (by kernel_rfl) ?_
 refine zE (Jc ?_)
 rcases Jk h with ⟨hb,h⟩|⟨hb,h⟩
 ·refine zT hb (Ja (Jf (zE (Jc (Jp (Ji ?_))))))
  cases h
  exact zQ
 refine zU hb (Jj (Jc (Ja (Ja (Jf (zE (Jc (Jn ?_))))))))
 obtain ⟨o8,h8,h⟩:=Kq h
 refine Ki 26 0 (fun x3=>⟨[(0,Jo .frozen (a0:(List Jg))),(1,Jo .frozen (a1:(List Jg))),(5,.int .i64 x3)],[],[],[]⟩) (fun (_:Unit)=>⟨[],[],[],[]⟩) h8 (by kernel_rfl) (fun _=>by kernel_rfl) ?_ ?_
 ·rintro x3 oh7 h7
  unfold Ow at h7
  refine Ja (Ja (Jf (zR 2 ?_)))
  refine Kf (L:=(a0:(List Jg))) (by kernel_rfl) ?_
  refine zE (Jc ?_)
  rcases Jk h7 with ⟨hb,h7⟩|⟨hb,h7⟩
  ·refine zT hb (Jj (Jc (Ja (Jn (Ja (Kv (by kernel_rfl) (by kernel_rfl) (zR 2 ?_)))))))
   obtain ⟨x6,h9,h7⟩:=Jh h7
   refine zI h9 (zR 3 ?_)
   obtain ⟨x7,h10,h7⟩:=Jh h7
   refine zI h10 (zE (Jc ?_))
   rcases Jk h7 with ⟨hb,h7⟩|⟨hb,h7⟩
   ·refine zT hb (Ja (Jf (zE (Jc (Jp (Jm (Ji ?_)))))))
    cases h7
    refine Kb fun he=>?_
    subst he
    have h11:=Ku h
    refine Jm (Ji ?_)
    cases h11
    exact zQ
   refine zU hb (Jj (Kd (Jc (Jf (zE ?_)))))
   cases h7
   exact zB
  refine zU hb (Kc (Jv ?_))
  cases h7
  exact zX
 rintro _ s' rfl hs
 have h:=Kg h
 refine Jt (Jc (Ke hs (Ja (Jf (zE (Jc (Jp ?_)))))))
 cases h
 exact zQ
/-! signallingref12.Same -/
noncomputable def Ep (a0:Jl) (a1:Jl):Option Bool :=
 bif (((((!(decide (a0.Name=a1.Name)))||(!(decide (a0.Entry=a1.Entry))))||(!(decide (a0.Exit=a1.Exit))))||(!(decide (a0.Approach=a1.Approach))))||(!(decide (a0.Length=a1.Length)))) then (
  some false
 ) else (
  (Uv a0.Path a1.Path).bind fun r1 =>
  ((bif (!r1) then some true else (
   (Qo a0.Points a1.Points).bind fun r3 =>
   some (!r3)
  )):Option Bool).bind fun b2 =>
  ((bif b2 then some true else (
   (Uk a0.Sections a1.Sections).bind fun r5 =>
   some (!r5)
  )):Option Bool).bind fun b4 =>
  bif b4 then (
   some false
  ) else (
   (Uv a0.Over a1.Over).bind fun r6 =>
   ((bif r6 then (
    (Qo a0.OverPoints a1.OverPoints).bind fun r8 =>
    some r8
   ) else some false):Option Bool).bind fun b7 =>
   ((bif b7 then (
    (Uk a0.OverSections a1.OverSections).bind fun r10 =>
    some r10
   ) else some false):Option Bool).bind fun b9 =>
   ((bif b9 then (
    (Qo a0.Flank a1.Flank).bind fun r12 =>
    some r12
   ) else some false):Option Bool).bind fun b11 =>
   ((bif b11 then (
    (Uk a0.Guards a1.Guards).bind fun r14 =>
    some r14
   ) else some false):Option Bool).bind fun b13 =>
   ((bif b13 then (
    (Ex a0.Gaps a1.Gaps).bind fun r16 =>
    some r16
   ) else some false):Option Bool).bind fun b15 =>
   some b15
  )
 )
theorem Xk (a0:Jl) (a1:Jl) (r:Bool) (h:Ep a0 a1=some r):Km Go.Proofs.Tryz.prog GlS 26 [Enc.pv a0,Enc.pv a1] (Enc.pv r):=by
 unfold Ep at h
 refine Jr Go.Proofs.Tryz.func26 (by rfl) rfl Go.Proofs.Tryz.ntmps26 (by rfl) rfl ?_
 refine Ja (Jf (zE (Jc (Ja (Ja (Jf (zR 6 ?_)))))))
 refine Qb 6 16 ((!(decide (a0.Name=a1.Name)))||(!(decide (a0.Entry=a1.Entry)))) (fun x hx=>?_) ?_
 ·rcases Ck hx with ⟨hb,hx⟩|⟨hb,hx⟩
  ·refine zS 10 hb ?_
   subst hx
   exact zF
  refine zS 10 hb ?_
  subst hx
  exact zF
 refine zR 1 ?_
 refine Qb 6 23 (((!(decide (a0.Name=a1.Name)))||(!(decide (a0.Entry=a1.Entry))))||(!(decide (a0.Exit=a1.Exit)))) (fun x hx=>?_) ?_
 ·rcases Ck hx with ⟨hb,hx⟩|⟨hb,hx⟩
  ·refine zS 17 hb ?_
   subst hx
   exact zF
  refine zS 17 hb ?_
  subst hx
  exact zF
 refine zR 1 ?_
 refine Qb 6 30 ((((!(decide (a0.Name=a1.Name)))||(!(decide (a0.Entry=a1.Entry))))||(!(decide (a0.Exit=a1.Exit))))||(!(decide (a0.Approach=a1.Approach)))) (fun x hx=>?_) ?_
 ·rcases Ck hx with ⟨hb,hx⟩|⟨hb,hx⟩
  ·refine zS 24 hb ?_
   subst hx
   exact zF
  refine zS 24 hb ?_
  subst hx
  exact zF
 refine zR 1 ?_
 refine Qb 6 37 (((((!(decide (a0.Name=a1.Name)))||(!(decide (a0.Entry=a1.Entry))))||(!(decide (a0.Exit=a1.Exit))))||(!(decide (a0.Approach=a1.Approach))))||(!(decide (a0.Length=a1.Length)))) (fun x hx=>?_) ?_
 ·rcases Ck hx with ⟨hb,hx⟩|⟨hb,hx⟩
  ·refine zS 31 hb ?_
   subst hx
   exact zF
  refine zS 31 hb ?_
  subst hx
  exact zF
 refine zN (Jc ?_)
 rcases Jk h with ⟨hb,h⟩|⟨hb,h⟩
 ·refine zT hb (Ja (Jf (zE (Jc (Jp (Ji ?_))))))
  cases h
  exact zQ
 refine zU hb (Jj (Jc (Ja (Ja (Jf (zR 4 ?_))))))
 obtain ⟨r1,h1,h⟩:=Jh h
 refine Ju (Ec _ _ r1 h1) (by kernel_rfl) (by kernel_rfl) ?_
 obtain ⟨b2,h2,h⟩:=Jh h
 refine zR 2 ?_
 refine Kt 7 51 (.bool b2) ?_ ?_
 ·rcases Jk h2 with ⟨hb,h2⟩|⟨hb,h2⟩
  ·refine zS 44 hb ?_
   cases h2
   exact zF
  refine zS 44 hb (zR 4 ?_)
  obtain ⟨r3,h3,h2⟩:=Jh h2
  refine Ju (Wk _ _ r3 h3) (by kernel_rfl) (by kernel_rfl) ?_
  cases h2
  exact zF
 obtain ⟨b4,h4,h⟩:=Jh h
 refine zR 1 ?_
 refine Kt 7 59 (.bool b4) ?_ ?_
 ·rcases Jk h4 with ⟨hb,h4⟩|⟨hb,h4⟩
  ·refine zS 52 hb ?_
   cases h4
   exact zF
  refine zS 52 hb (zR 4 ?_)
  obtain ⟨r5,h5,h4⟩:=Jh h4
  refine Ju (Ba _ _ r5 h5) (by kernel_rfl) (by kernel_rfl) ?_
  cases h4
  exact zF
 refine zN (Jc ?_)
 rcases Jk h with ⟨hb,h⟩|⟨hb,h⟩
 ·refine zT hb (Ja (Jf (zE (Jc (Jp (Ji ?_))))))
  cases h
  exact zQ
 refine zU hb (Jj (Jc (Ja (Jf (zR 4 ?_)))))
 obtain ⟨r6,h6,h⟩:=Jh h
 refine Ju (Ec _ _ r6 h6) (by kernel_rfl) (by kernel_rfl) ?_
 obtain ⟨b7,h7,h⟩:=Jh h
 refine zR 1 ?_
 refine Kt 6 71 (.bool b7) ?_ ?_
 ·rcases Jk h7 with ⟨hb,h7⟩|⟨hb,h7⟩
  ·refine zS 65 hb (zR 4 ?_)
   obtain ⟨r8,h8,h7⟩:=Jh h7
   refine Ju (Wk _ _ r8 h8) (by kernel_rfl) (by kernel_rfl) ?_
   cases h7
   exact zF
  refine zS 65 hb ?_
  cases h7
  exact zF
 obtain ⟨b9,h9,h⟩:=Jh h
 refine zR 1 ?_
 refine Kt 6 78 (.bool b9) ?_ ?_
 ·rcases Jk h9 with ⟨hb,h9⟩|⟨hb,h9⟩
  ·refine zS 72 hb (zR 4 ?_)
   obtain ⟨r10,h10,h9⟩:=Jh h9
   refine Ju (Ba _ _ r10 h10) (by kernel_rfl) (by kernel_rfl) ?_
   cases h9
   exact zF
  refine zS 72 hb ?_
  cases h9
  exact zF
 obtain ⟨b11,h11,h⟩:=Jh h
 refine zR 1 ?_
 refine Kt 6 85 (.bool b11) ?_ ?_
 ·rcases Jk h11 with ⟨hb,h11⟩|⟨hb,h11⟩
  ·refine zS 79 hb (zR 4 ?_)
   obtain ⟨r12,h12,h11⟩:=Jh h11
   refine Ju (Wk _ _ r12 h12) (by kernel_rfl) (by kernel_rfl) ?_
   cases h11
   exact zF
  refine zS 79 hb ?_
  cases h11
  exact zF
 obtain ⟨b13,h13,h⟩:=Jh h
 refine zR 1 ?_
 refine Kt 6 92 (.bool b13) ?_ ?_
 ·rcases Jk h13 with ⟨hb,h13⟩|⟨hb,h13⟩
  ·refine zS 86 hb (zR 4 ?_)
   obtain ⟨r14,h14,h13⟩:=Jh h13
   refine Ju (Ba _ _ r14 h14) (by kernel_rfl) (by kernel_rfl) ?_
   cases h13
   exact zF
  refine zS 86 hb ?_
  cases h13
  exact zF
 obtain ⟨b15,h15,h⟩:=Jh h
 refine zR 1 ?_
 refine Kt 6 99 (.bool b15) ?_ ?_
 ·rcases Jk h15 with ⟨hb,h15⟩|⟨hb,h15⟩
  ·refine zS 93 hb (zR 4 ?_)
   obtain ⟨r16,h16,h15⟩:=Jh h15
   refine Ju (Jbp _ _ r16 h16) (by kernel_rfl) (by kernel_rfl) ?_
   cases h15
   exact zF
  refine zS 93 hb ?_
  cases h15
  exact zF
 refine zE (Jc (Jp ?_))
 cases h
 exact zQ
/-! slices.Equal[[]api.Step,api.Step] -/
noncomputable def Fe (a0:(List Jb)) (a1:(List Jb)):Int→Option (Int⊕(Unit⊕Bool)):=fun x3 =>
 bif decide (x3<((a0.length:Nat):Int)) then (
  (ixO a0 x3).bind fun x6 =>
  (ixO a1 x3).bind fun x7 =>
  bif (!(Lj x6 x7)) then (
   some (.inr (.inr false))
  ) else (
   some (.inl (w64 (x3+1)))
  )
 ) else (
  some (.inr (.inl ()))
 )
noncomputable def Wj (a0:(List Jb)) (a1:(List Jb)):Option Bool :=
 bif (!(decide (((a0.length:Nat):Int)=((a1.length:Nat):Int)))) then (
  some false
 ) else (
  onInl (α:=Unit) (β:=Bool) (Kl (Fe a0 a1) 0) fun _ =>
  some true
 )
theorem Dh (a0:(List Jb)) (a1:(List Jb)) (r:Bool) (h:Wj a0 a1=some r):Km Go.Proofs.Tryz.prog GlS 58 [Enc.pv a0,Enc.pv a1] (Enc.pv r):=by
 unfold Wj at h
 refine Jr Go.Proofs.Tryz.func58 (by rfl) rfl Go.Proofs.Tryz.ntmps58 (by rfl) rfl ?_
 refine Ja (Jf (zE (Jc (Ja (Ja (Jf (zR 1 ?_)))))))
 refine Kf (L:=(a0:(List Jb))) (by kernel_rfl) ?_
 refine zR 1 ?_
 refine Kf (L:=(a1:(List Jb))) (by kernel_rfl) ?_
 refine zE (Jc ?_)
 rcases Jk h with ⟨hb,h⟩|⟨hb,h⟩
 ·refine zT hb (Ja (Jf (zE (Jc (Jp (Ji ?_))))))
  cases h
  exact zQ
 refine zU hb (Jj (Jc (Ja (Ja (Jf (zR 1 ?_))))))
 refine Kf (L:=(a0:(List Jb))) (by kernel_rfl) ?_
 refine zE (Jc (Jn ?_))
 obtain ⟨o8,h8,h⟩:=Kq h
 refine Ki 26 0 (fun x3=>⟨[(0,Jo .frozen (a0:(List Jb))),(1,Jo .frozen (a1:(List Jb))),(12,.int .i64 ((a0.length:Nat):Int)),(13,.int .i64 x3)],[],[],[]⟩) (fun (_:Unit)=>⟨[],[],[],[]⟩) h8 (by kernel_rfl) (fun _=>by kernel_rfl) ?_ ?_
 ·rintro x3 oh7 h7
  unfold Fe at h7
  refine Ja (Jf (zE (Jc (Ja ?_))))
  rcases Jk h7 with ⟨hb,h7⟩|⟨hb,h7⟩
  ·refine zT hb (Jj (Jc (Ja (Jn (Ja (Jf (zE (Jc (Ja (Kv (by kernel_rfl) (by kernel_rfl) (zR 2 ?_)))))))))))
   obtain ⟨x6,h9,h7⟩:=Jh h7
   refine zI h9 (zR 3 ?_)
   obtain ⟨x7,h10,h7⟩:=Jh h7
   refine zI h10 (zE (Jc ?_))
   rcases Jk h7 with ⟨hb,h7⟩|⟨hb,h7⟩
   ·refine zT hb (Ja (Jf (zE (Jc (Jp (Jm (Ji ?_)))))))
    cases h7
    refine Kb fun he=>?_
    subst he
    have h11:=Ku h
    refine Jm (Ji ?_)
    cases h11
    exact zQ
   refine zU hb (Jj (Kd (Jc (Jf (zE ?_)))))
   cases h7
   exact zB
  refine zU hb (Kc (Jv ?_))
  cases h7
  exact zX
 rintro _ s' rfl hs
 have h:=Kg h
 refine Jt (Jc (Ke hs (Ja (Jf (zE (Jc (Jp ?_)))))))
 cases h
 exact zQ
/-! slices.Equal[[]api.Setting,api.Setting] -/
noncomputable def Cj (a0:(List Je)) (a1:(List Je)):Int→Option (Int⊕(Unit⊕Bool)):=fun x3 =>
 bif decide (x3<((a0.length:Nat):Int)) then (
  (ixO a0 x3).bind fun x6 =>
  (ixO a1 x3).bind fun x7 =>
  bif (!(Ua x6 x7)) then (
   some (.inr (.inr false))
  ) else (
   some (.inl (w64 (x3+1)))
  )
 ) else (
  some (.inr (.inl ()))
 )
noncomputable def Uh (a0:(List Je)) (a1:(List Je)):Option Bool :=
 bif (!(decide (((a0.length:Nat):Int)=((a1.length:Nat):Int)))) then (
  some false
 ) else (
  onInl (α:=Unit) (β:=Bool) (Kl (Cj a0 a1) 0) fun _ =>
  some true
 )
theorem Wd (a0:(List Je)) (a1:(List Je)) (r:Bool) (h:Uh a0 a1=some r):Km Go.Proofs.Tryz.prog GlS 59 [Enc.pv a0,Enc.pv a1] (Enc.pv r):=by
 unfold Uh at h
 refine Jr Go.Proofs.Tryz.func59 (by rfl) rfl Go.Proofs.Tryz.ntmps59 (by rfl) rfl ?_
 refine Ja (Jf (zE (Jc (Ja (Ja (Jf (zR 1 ?_)))))))
 refine Kf (L:=(a0:(List Je))) (by kernel_rfl) ?_
 refine zR 1 ?_
 refine Kf (L:=(a1:(List Je))) (by kernel_rfl) ?_
 refine zE (Jc ?_)
 rcases Jk h with ⟨hb,h⟩|⟨hb,h⟩
 ·refine zT hb (Ja (Jf (zE (Jc (Jp (Ji ?_))))))
  cases h
  exact zQ
 refine zU hb (Jj (Jc (Ja (Ja (Jf (zR 1 ?_))))))
 refine Kf (L:=(a0:(List Je))) (by kernel_rfl) ?_
 refine zE (Jc (Jn ?_))
 obtain ⟨o8,h8,h⟩:=Kq h
 refine Ki 26 0 (fun x3=>⟨[(0,Jo .frozen (a0:(List Je))),(1,Jo .frozen (a1:(List Je))),(12,.int .i64 ((a0.length:Nat):Int)),(13,.int .i64 x3)],[],[],[]⟩) (fun (_:Unit)=>⟨[],[],[],[]⟩) h8 (by kernel_rfl) (fun _=>by kernel_rfl) ?_ ?_
 ·rintro x3 oh7 h7
  unfold Cj at h7
  refine Ja (Jf (zE (Jc (Ja ?_))))
  rcases Jk h7 with ⟨hb,h7⟩|⟨hb,h7⟩
  ·refine zT hb (Jj (Jc (Ja (Jn (Ja (Jf (zE (Jc (Ja (Kv (by kernel_rfl) (by kernel_rfl) (zR 2 ?_)))))))))))
   obtain ⟨x6,h9,h7⟩:=Jh h7
   refine zI h9 (zR 3 ?_)
   obtain ⟨x7,h10,h7⟩:=Jh h7
   refine zI h10 (zE (Jc ?_))
   rcases Jk h7 with ⟨hb,h7⟩|⟨hb,h7⟩
   ·refine zT hb (Ja (Jf (zE (Jc (Jp (Jm (Ji ?_)))))))
    cases h7
    refine Kb fun he=>?_
    subst he
    have h11:=Ku h
    refine Jm (Ji ?_)
    cases h11
    exact zQ
   refine zU hb (Jj (Kd (Jc (Jf (zE ?_)))))
   cases h7
   exact zB
  refine zU hb (Kc (Jv ?_))
  cases h7
  exact zX
 rintro _ s' rfl hs
 have h:=Kg h
 refine Jt (Jc (Ke hs (Ja (Jf (zE (Jc (Jp ?_)))))))
 cases h
 exact zQ
/-! slices.Equal[[]int,int] -/
noncomputable def Lv (a0:(List Int)) (a1:(List Int)):Int→Option (Int⊕(Unit⊕Bool)):=fun x3 =>
 bif decide (x3<((a0.length:Nat):Int)) then (
  (ixO a0 x3).bind fun x6 =>
  (ixO a1 x3).bind fun x7 =>
  bif (!(decide (x6=x7))) then (
   some (.inr (.inr false))
  ) else (
   some (.inl (w64 (x3+1)))
  )
 ) else (
  some (.inr (.inl ()))
 )
noncomputable def Yq (a0:(List Int)) (a1:(List Int)):Option Bool :=
 bif (!(decide (((a0.length:Nat):Int)=((a1.length:Nat):Int)))) then (
  some false
 ) else (
  onInl (α:=Unit) (β:=Bool) (Kl (Lv a0 a1) 0) fun _ =>
  some true
 )
theorem Cq (a0:(List Int)) (a1:(List Int)) (r:Bool) (h:Yq a0 a1=some r):Km Go.Proofs.Tryz.prog GlS 60 [Enc.pv a0,Enc.pv a1] (Enc.pv r):=by
 unfold Yq at h
 refine Jr Go.Proofs.Tryz.func60 (by rfl) rfl Go.Proofs.Tryz.ntmps60 (by rfl) rfl ?_
 refine Ja (Jf (zE (Jc (Ja (Ja (Jf (zR 1 ?_)))))))
 refine Kf (L:=(a0:(List Int))) (by kernel_rfl) ?_
 refine zR 1 ?_
 refine Kf (L:=(a1:(List Int))) (by kernel_rfl) ?_
 refine zE (Jc ?_)
 rcases Jk h with ⟨hb,h⟩|⟨hb,h⟩
 ·refine zT hb (Ja (Jf (zE (Jc (Jp (Ji ?_))))))
  cases h
  exact zQ
 refine zU hb (Jj (Jc (Ja (Ja (Jf (zR 1 ?_))))))
 refine Kf (L:=(a0:(List Int))) (by kernel_rfl) ?_
 refine zE (Jc (Jn ?_))
 obtain ⟨o8,h8,h⟩:=Kq h
 refine Ki 26 0 (fun x3=>⟨[(0,Jo .frozen (a0:(List Int))),(1,Jo .frozen (a1:(List Int))),(12,.int .i64 ((a0.length:Nat):Int)),(13,.int .i64 x3)],[],[],[]⟩) (fun (_:Unit)=>⟨[],[],[],[]⟩) h8 (by kernel_rfl) (fun _=>by kernel_rfl) ?_ ?_
 ·rintro x3 oh7 h7
  unfold Lv at h7
  refine Ja (Jf (zE (Jc (Ja ?_))))
  rcases Jk h7 with ⟨hb,h7⟩|⟨hb,h7⟩
  ·refine zT hb (Jj (Jc (Ja (Jn (Ja (Jf (zE (Jc (Ja (Kv (by kernel_rfl) (by kernel_rfl) (zR 2 ?_)))))))))))
   obtain ⟨x6,h9,h7⟩:=Jh h7
   refine zI h9 (zR 3 ?_)
   obtain ⟨x7,h10,h7⟩:=Jh h7
   refine zI h10 (zE (Jc ?_))
   rcases Jk h7 with ⟨hb,h7⟩|⟨hb,h7⟩
   ·refine zT hb (Ja (Jf (zE (Jc (Jp (Jm (Ji ?_)))))))
    cases h7
    refine Kb fun he=>?_
    subst he
    have h11:=Ku h
    refine Jm (Ji ?_)
    cases h11
    exact zQ
   refine zU hb (Jj (Kd (Jc (Jf (zE ?_)))))
   cases h7
   exact zB
  refine zU hb (Kc (Jv ?_))
  cases h7
  exact zX
 rintro _ s' rfl hs
 have h:=Kg h
 refine Jt (Jc (Ke hs (Ja (Jf (zE (Jc (Jp ?_)))))))
 cases h
 exact zQ
/-! slices.Equal[[]api.End,api.End] -/
noncomputable def Fp (a0:(List Jg)) (a1:(List Jg)):Int→Option (Int⊕(Unit⊕Bool)):=fun x3 =>
 bif decide (x3<((a0.length:Nat):Int)) then (
  (ixO a0 x3).bind fun x6 =>
  (ixO a1 x3).bind fun x7 =>
  bif (!(Ka x6 x7)) then (
   some (.inr (.inr false))
  ) else (
   some (.inl (w64 (x3+1)))
  )
 ) else (
  some (.inr (.inl ()))
 )
noncomputable def Ce (a0:(List Jg)) (a1:(List Jg)):Option Bool :=
 bif (!(decide (((a0.length:Nat):Int)=((a1.length:Nat):Int)))) then (
  some false
 ) else (
  onInl (α:=Unit) (β:=Bool) (Kl (Fp a0 a1) 0) fun _ =>
  some true
 )
theorem Pd (a0:(List Jg)) (a1:(List Jg)) (r:Bool) (h:Ce a0 a1=some r):Km Go.Proofs.Tryz.prog GlS 61 [Enc.pv a0,Enc.pv a1] (Enc.pv r):=by
 unfold Ce at h
 refine Jr Go.Proofs.Tryz.func61 (by rfl) rfl Go.Proofs.Tryz.ntmps61 (by rfl) rfl ?_
 refine Ja (Jf (zE (Jc (Ja (Ja (Jf (zR 1 ?_)))))))
 refine Kf (L:=(a0:(List Jg))) (by kernel_rfl) ?_
 refine zR 1 ?_
 refine Kf (L:=(a1:(List Jg))) (by kernel_rfl) ?_
 refine zE (Jc ?_)
 rcases Jk h with ⟨hb,h⟩|⟨hb,h⟩
 ·refine zT hb (Ja (Jf (zE (Jc (Jp (Ji ?_))))))
  cases h
  exact zQ
 refine zU hb (Jj (Jc (Ja (Ja (Jf (zR 1 ?_))))))
 refine Kf (L:=(a0:(List Jg))) (by kernel_rfl) ?_
 refine zE (Jc (Jn ?_))
 obtain ⟨o8,h8,h⟩:=Kq h
 refine Ki 26 0 (fun x3=>⟨[(0,Jo .frozen (a0:(List Jg))),(1,Jo .frozen (a1:(List Jg))),(12,.int .i64 ((a0.length:Nat):Int)),(13,.int .i64 x3)],[],[],[]⟩) (fun (_:Unit)=>⟨[],[],[],[]⟩) h8 (by kernel_rfl) (fun _=>by kernel_rfl) ?_ ?_
 ·rintro x3 oh7 h7
  unfold Fp at h7
  refine Ja (Jf (zE (Jc (Ja ?_))))
  rcases Jk h7 with ⟨hb,h7⟩|⟨hb,h7⟩
  ·refine zT hb (Jj (Jc (Ja (Jn (Ja (Jf (zE (Jc (Ja (Kv (by kernel_rfl) (by kernel_rfl) (zR 2 ?_)))))))))))
   obtain ⟨x6,h9,h7⟩:=Jh h7
   refine zI h9 (zR 3 ?_)
   obtain ⟨x7,h10,h7⟩:=Jh h7
   refine zI h10 (zE (Jc ?_))
   rcases Jk h7 with ⟨hb,h7⟩|⟨hb,h7⟩
   ·refine zT hb (Ja (Jf (zE (Jc (Jp (Jm (Ji ?_)))))))
    cases h7
    refine Kb fun he=>?_
    subst he
    have h11:=Ku h
    refine Jm (Ji ?_)
    cases h11
    exact zQ
   refine zU hb (Jj (Kd (Jc (Jf (zE ?_)))))
   cases h7
   exact zB
  refine zU hb (Kc (Jv ?_))
  cases h7
  exact zX
 rintro _ s' rfl hs
 have h:=Kg h
 refine Jt (Jc (Ke hs (Ja (Jf (zE (Jc (Jp ?_)))))))
 cases h
 exact zQ
/-! route.Same -/
noncomputable def Nk (a0:Jl) (a1:Jl):Option Bool :=
 ((bif (((((decide (a0.Name=a1.Name))&&(decide (a0.Entry=a1.Entry)))&&(decide (a0.Exit=a1.Exit)))&&(decide (a0.Approach=a1.Approach)))&&(decide (a0.Length=a1.Length))) then (
  (Wj a0.Path a1.Path).bind fun r2 =>
  some r2
 ) else some false):Option Bool).bind fun b1 =>
 ((bif b1 then (
  (Uh a0.Points a1.Points).bind fun r4 =>
  some r4
 ) else some false):Option Bool).bind fun b3 =>
 ((bif b3 then (
  (Yq a0.Sections a1.Sections).bind fun r6 =>
  some r6
 ) else some false):Option Bool).bind fun b5 =>
 ((bif b5 then (
  (Wj a0.Over a1.Over).bind fun r8 =>
  some r8
 ) else some false):Option Bool).bind fun b7 =>
 ((bif b7 then (
  (Uh a0.OverPoints a1.OverPoints).bind fun r10 =>
  some r10
 ) else some false):Option Bool).bind fun b9 =>
 ((bif b9 then (
  (Yq a0.OverSections a1.OverSections).bind fun r12 =>
  some r12
 ) else some false):Option Bool).bind fun b11 =>
 ((bif b11 then (
  (Uh a0.Flank a1.Flank).bind fun r14 =>
  some r14
 ) else some false):Option Bool).bind fun b13 =>
 ((bif b13 then (
  (Yq a0.Guards a1.Guards).bind fun r16 =>
  some r16
 ) else some false):Option Bool).bind fun b15 =>
 ((bif b15 then (
  (Ce a0.Gaps a1.Gaps).bind fun r18 =>
  some r18
 ) else some false):Option Bool).bind fun b17 =>
 some b17
theorem Xa (a0:Jl) (a1:Jl) (r:Bool) (h:Nk a0 a1=some r):Km Go.Proofs.Tryz.prog GlS 27 [Enc.pv a0,Enc.pv a1] (Enc.pv r):=by
 unfold Nk at h
 refine Jr Go.Proofs.Tryz.func27 (by rfl) rfl Go.Proofs.Tryz.ntmps27 (by rfl) rfl ?_
 refine Ja (Jf (zE (Jc (Ja (Jf (zR 6 ?_))))))
 refine Qb 6 16 ((decide (a0.Name=a1.Name))&&(decide (a0.Entry=a1.Entry))) (fun x hx=>?_) ?_
 ·rcases Bq hx with ⟨hb,hx⟩|⟨hb,hx⟩
  ·refine zS 10 hb ?_
   subst hx
   exact zF
  refine zS 10 hb ?_
  subst hx
  exact zF
 refine zR 1 ?_
 refine Qb 6 23 (((decide (a0.Name=a1.Name))&&(decide (a0.Entry=a1.Entry)))&&(decide (a0.Exit=a1.Exit))) (fun x hx=>?_) ?_
 ·rcases Bq hx with ⟨hb,hx⟩|⟨hb,hx⟩
  ·refine zS 17 hb ?_
   subst hx
   exact zF
  refine zS 17 hb ?_
  subst hx
  exact zF
 refine zR 1 ?_
 refine Qb 6 30 ((((decide (a0.Name=a1.Name))&&(decide (a0.Entry=a1.Entry)))&&(decide (a0.Exit=a1.Exit)))&&(decide (a0.Approach=a1.Approach))) (fun x hx=>?_) ?_
 ·rcases Bq hx with ⟨hb,hx⟩|⟨hb,hx⟩
  ·refine zS 24 hb ?_
   subst hx
   exact zF
  refine zS 24 hb ?_
  subst hx
  exact zF
 refine zR 1 ?_
 refine Qb 6 37 (((((decide (a0.Name=a1.Name))&&(decide (a0.Entry=a1.Entry)))&&(decide (a0.Exit=a1.Exit)))&&(decide (a0.Approach=a1.Approach)))&&(decide (a0.Length=a1.Length))) (fun x hx=>?_) ?_
 ·rcases Bq hx with ⟨hb,hx⟩|⟨hb,hx⟩
  ·refine zS 31 hb ?_
   subst hx
   exact zF
  refine zS 31 hb ?_
  subst hx
  exact zF
 obtain ⟨b1,h1,h⟩:=Jh h
 refine zR 1 ?_
 refine Kt 6 44 (.bool b1) ?_ ?_
 ·rcases Jk h1 with ⟨hb,h1⟩|⟨hb,h1⟩
  ·refine zS 38 hb (zR 4 ?_)
   obtain ⟨r2,h2,h1⟩:=Jh h1
   refine Ju (Dh _ _ r2 h2) (by kernel_rfl) (by kernel_rfl) ?_
   cases h1
   exact zF
  refine zS 38 hb ?_
  cases h1
  exact zF
 obtain ⟨b3,h3,h⟩:=Jh h
 refine zR 1 ?_
 refine Kt 6 51 (.bool b3) ?_ ?_
 ·rcases Jk h3 with ⟨hb,h3⟩|⟨hb,h3⟩
  ·refine zS 45 hb (zR 4 ?_)
   obtain ⟨r4,h4,h3⟩:=Jh h3
   refine Ju (Wd _ _ r4 h4) (by kernel_rfl) (by kernel_rfl) ?_
   cases h3
   exact zF
  refine zS 45 hb ?_
  cases h3
  exact zF
 obtain ⟨b5,h5,h⟩:=Jh h
 refine zR 1 ?_
 refine Kt 6 58 (.bool b5) ?_ ?_
 ·rcases Jk h5 with ⟨hb,h5⟩|⟨hb,h5⟩
  ·refine zS 52 hb (zR 4 ?_)
   obtain ⟨r6,h6,h5⟩:=Jh h5
   refine Ju (Cq _ _ r6 h6) (by kernel_rfl) (by kernel_rfl) ?_
   cases h5
   exact zF
  refine zS 52 hb ?_
  cases h5
  exact zF
 obtain ⟨b7,h7,h⟩:=Jh h
 refine zR 1 ?_
 refine Kt 6 65 (.bool b7) ?_ ?_
 ·rcases Jk h7 with ⟨hb,h7⟩|⟨hb,h7⟩
  ·refine zS 59 hb (zR 4 ?_)
   obtain ⟨r8,h8,h7⟩:=Jh h7
   refine Ju (Dh _ _ r8 h8) (by kernel_rfl) (by kernel_rfl) ?_
   cases h7
   exact zF
  refine zS 59 hb ?_
  cases h7
  exact zF
 obtain ⟨b9,h9,h⟩:=Jh h
 refine zR 1 ?_
 refine Kt 6 72 (.bool b9) ?_ ?_
 ·rcases Jk h9 with ⟨hb,h9⟩|⟨hb,h9⟩
  ·refine zS 66 hb (zR 4 ?_)
   obtain ⟨r10,h10,h9⟩:=Jh h9
   refine Ju (Wd _ _ r10 h10) (by kernel_rfl) (by kernel_rfl) ?_
   cases h9
   exact zF
  refine zS 66 hb ?_
  cases h9
  exact zF
 obtain ⟨b11,h11,h⟩:=Jh h
 refine zR 1 ?_
 refine Kt 6 79 (.bool b11) ?_ ?_
 ·rcases Jk h11 with ⟨hb,h11⟩|⟨hb,h11⟩
  ·refine zS 73 hb (zR 4 ?_)
   obtain ⟨r12,h12,h11⟩:=Jh h11
   refine Ju (Cq _ _ r12 h12) (by kernel_rfl) (by kernel_rfl) ?_
   cases h11
   exact zF
  refine zS 73 hb ?_
  cases h11
  exact zF
 obtain ⟨b13,h13,h⟩:=Jh h
 refine zR 1 ?_
 refine Kt 6 86 (.bool b13) ?_ ?_
 ·rcases Jk h13 with ⟨hb,h13⟩|⟨hb,h13⟩
  ·refine zS 80 hb (zR 4 ?_)
   obtain ⟨r14,h14,h13⟩:=Jh h13
   refine Ju (Wd _ _ r14 h14) (by kernel_rfl) (by kernel_rfl) ?_
   cases h13
   exact zF
  refine zS 80 hb ?_
  cases h13
  exact zF
 obtain ⟨b15,h15,h⟩:=Jh h
 refine zR 1 ?_
 refine Kt 6 93 (.bool b15) ?_ ?_
 ·rcases Jk h15 with ⟨hb,h15⟩|⟨hb,h15⟩
  ·refine zS 87 hb (zR 4 ?_)
   obtain ⟨r16,h16,h15⟩:=Jh h15
   refine Ju (Cq _ _ r16 h16) (by kernel_rfl) (by kernel_rfl) ?_
   cases h15
   exact zF
  refine zS 87 hb ?_
  cases h15
  exact zF
 obtain ⟨b17,h17,h⟩:=Jh h
 refine zR 1 ?_
 refine Kt 6 100 (.bool b17) ?_ ?_
 ·rcases Jk h17 with ⟨hb,h17⟩|⟨hb,h17⟩
  ·refine zS 94 hb (zR 4 ?_)
   obtain ⟨r18,h18,h17⟩:=Jh h17
   refine Ju (Pd _ _ r18 h18) (by kernel_rfl) (by kernel_rfl) ?_
   cases h17
   exact zF
  refine zS 94 hb ?_
  cases h17
  exact zF
 refine zE (Jc (Jp ?_))
 cases h
 exact zQ
/-! signallinglaw12.alive -/
noncomputable def Qx : Option Bool :=
 (Tn ).bind fun r1 =>
 (Um r1 0).bind fun r2 =>
 (Um r1 1).bind fun r3 =>
 (Br r1).bind fun r4 =>
 ((bif (!(decide (((r2.length:Nat):Int)=1))) then some true else (
  some (!(decide (((r3.length:Nat):Int)=1)))
 )):Option Bool).bind fun b5 =>
 ((bif b5 then some true else (
  some (!(decide (((r4.1.length:Nat):Int)=2)))
 )):Option Bool).bind fun b6 =>
 ((bif (b6||(!(decide (r4.2=0)))) then some true else (
  (Um r1 2).bind fun r8 =>
  some (!(decide (((r8.length:Nat):Int)=0)))
 )):Option Bool).bind fun b7 =>
 bif b7 then (
  some false
 ) else (
  (ixO r2 0).bind fun x9 =>
  (Ep x9 (Jl.mk (ByteArray.mk #[115,49,45,115,50]) 0 1 [(Jb.mk 1 0 1)] [] [1] 0 20000 [] [] [] [] [] [])).bind fun r10 =>
  ((bif r10 then (
   (ixO r3 0).bind fun x12 =>
   some (decide (x12.Name=(ByteArray.mk #[115,50,45,101,110,100])))
  ) else some false):Option Bool).bind fun b11 =>
  ((bif b11 then (
   (ixO r3 0).bind fun x14 =>
   some (decide (x14.Exit=(-1)))
  ) else some false):Option Bool).bind fun b13 =>
  ((bif b13 then (
   (ixO r4.1 0).bind fun x16 =>
   (Nk x16 (Jl.mk (ByteArray.mk #[115,49,45,115,50]) 0 1 [(Jb.mk 1 0 1)] [] [1] 0 20000 [] [] [] [] [] [])).bind fun r17 =>
   some r17
  ) else some false):Option Bool).bind fun b15 =>
  ((bif b15 then (
   (ixO r4.1 1).bind fun x19 =>
   (Nk x19 (Jl.mk (ByteArray.mk #[115,49,45,115,50]) 0 1 [(Jb.mk 1 0 1)] [] [1] 0 20000 [] [] [] [] [] [])).bind fun r20 =>
   some (!r20)
  ) else some false):Option Bool).bind fun b18 =>
  some b18
 )
theorem Qv (r:Bool) (h:Qx=some r):Km Go.Proofs.Tryz.prog GlS 9 [] (Enc.pv r):=by
 unfold Qx at h
 refine Jr Go.Proofs.Tryz.func9 (by rfl) rfl Go.Proofs.Tryz.ntmps9 (by rfl) rfl ?_
 refine Ja (Jf (zE (Jc (Ja (Jf ?_)))))
 obtain ⟨r1,h1,h⟩:=Jh h
 refine Ju (Jgh  r1 h1) (by kernel_rfl) (by kernel_rfl) (zE (Jc (Ja (Kv (by kernel_rfl) (by kernel_rfl) (zR 1 ?_)))))
 obtain ⟨r2,h2,h⟩:=Jh h
 refine Ju (Gf _ _ r2 h2) (by kernel_rfl) (by kernel_rfl) (zR 1 ?_)
 obtain ⟨r3,h3,h⟩:=Jh h
 refine Ju (Gf _ _ r3 h3) (by kernel_rfl) (by kernel_rfl) (zE (Jc (Ja (Jf (zR 1 ?_)))))
 obtain ⟨r4,h4,h⟩:=Jh h
 refine Ju (Nz _ r4 h4) (by kernel_rfl) (by kernel_rfl) (zE (Jc (Ja (Ja (Jf (zR 1 ?_))))))
 refine Kf (L:=(r2:(List Jl))) (by kernel_rfl) ?_
 obtain ⟨b5,h5,h⟩:=Jh h
 refine zR 2 ?_
 refine Kt 4 24 (.bool b5) ?_ ?_
 ·rcases Jk h5 with ⟨hb,h5⟩|⟨hb,h5⟩
  ·refine zS 20 hb ?_
   cases h5
   exact zF
  refine zS 20 hb (zR 1 ?_)
  refine Kf (L:=(r3:(List Jl))) (by kernel_rfl) ?_
  cases h5
  exact zF
 obtain ⟨b6,h6,h⟩:=Jh h
 refine zR 1 ?_
 refine Kt 4 29 (.bool b6) ?_ ?_
 ·rcases Jk h6 with ⟨hb,h6⟩|⟨hb,h6⟩
  ·refine zS 25 hb ?_
   cases h6
   exact zF
  refine zS 25 hb (zR 1 ?_)
  refine Kf (L:=(r4.1:(List Jl))) (by kernel_rfl) ?_
  cases h6
  exact zF
 refine zR 1 ?_
 refine Qb 3 33 (b6||(!(decide (r4.2=0)))) (fun x hx=>?_) ?_
 ·rcases Ck hx with ⟨hb,hx⟩|⟨hb,hx⟩
  ·refine zS 30 hb ?_
   subst hx
   exact zF
  refine zS 30 hb ?_
  subst hx
  exact zF
 obtain ⟨b7,h7,h⟩:=Jh h
 refine zR 1 ?_
 refine Kt 5 39 (.bool b7) ?_ ?_
 ·rcases Jk h7 with ⟨hb,h7⟩|⟨hb,h7⟩
  ·refine zS 34 hb ?_
   cases h7
   exact zF
  refine zS 34 hb (zR 1 ?_)
  obtain ⟨r8,h8,h7⟩:=Jh h7
  refine Ju (Gf _ _ r8 h8) (by kernel_rfl) (by kernel_rfl) ?_
  refine Kf (L:=(r8:(List Jl))) (by kernel_rfl) ?_
  cases h7
  exact zF
 refine zN (Jc ?_)
 rcases Jk h with ⟨hb,h⟩|⟨hb,h⟩
 ·refine zT hb (Ja (Jf (zE (Jc (Jp (Ji ?_))))))
  cases h
  exact zQ
 refine zU hb (Jj (Jc (Ja (Jf (zE (Jc (Ja (Kv (by kernel_rfl) (by kernel_rfl) (zR 1 ?_)))))))))
 obtain ⟨x9,h9,h⟩:=Jh h
 refine zI h9 (zR 2 ?_)
 obtain ⟨r10,h10,h⟩:=Jh h
 refine Ju (Xk _ _ r10 h10) (by kernel_rfl) (by kernel_rfl) ?_
 obtain ⟨b11,h11,h⟩:=Jh h
 refine zR 1 ?_
 refine Kt 6 55 (.bool b11) ?_ ?_
 ·rcases Jk h11 with ⟨hb,h11⟩|⟨hb,h11⟩
  ·refine zS 49 hb (zR 1 ?_)
   obtain ⟨x12,h12,h11⟩:=Jh h11
   refine zI h12 ?_
   cases h11
   exact zF
  refine zS 49 hb ?_
  cases h11
  exact zF
 obtain ⟨b13,h13,h⟩:=Jh h
 refine zR 1 ?_
 refine Kt 6 62 (.bool b13) ?_ ?_
 ·rcases Jk h13 with ⟨hb,h13⟩|⟨hb,h13⟩
  ·refine zS 56 hb (zR 1 ?_)
   obtain ⟨x14,h14,h13⟩:=Jh h13
   refine zI h14 ?_
   cases h13
   exact zF
  refine zS 56 hb ?_
  cases h13
  exact zF
 obtain ⟨b15,h15,h⟩:=Jh h
 refine zR 1 ?_
 refine Kt 6 69 (.bool b15) ?_ ?_
 ·rcases Jk h15 with ⟨hb,h15⟩|⟨hb,h15⟩
  ·refine zS 63 hb (zR 1 ?_)
   obtain ⟨x16,h16,h15⟩:=Jh h15
   refine zI h16 (zR 2 ?_)
   obtain ⟨r17,h17,h15⟩:=Jh h15
   refine Ju (Xa _ _ r17 h17) (by kernel_rfl) (by kernel_rfl) ?_
   cases h15
   exact zF
  refine zS 63 hb ?_
  cases h15
  exact zF
 obtain ⟨b18,h18,h⟩:=Jh h
 refine zR 1 ?_
 refine Kt 7 77 (.bool b18) ?_ ?_
 ·rcases Jk h18 with ⟨hb,h18⟩|⟨hb,h18⟩
  ·refine zS 70 hb (zR 1 ?_)
   obtain ⟨x19,h19,h18⟩:=Jh h18
   refine zI h19 (zR 2 ?_)
   obtain ⟨r20,h20,h18⟩:=Jh h18
   refine Ju (Xa _ _ r20 h20) (by kernel_rfl) (by kernel_rfl) ?_
   cases h18
   exact zF
  refine zS 70 hb ?_
  cases h18
  exact zF
 refine zE (Jc (Jp ?_))
 cases h
 exact zQ
/-! signallingref09.exists -/
noncomputable def Wc (a0:Jd) (a1:Int):Option Bool :=
 ((bif decide (0≤a1) then (
  some (decide (a1<((a0.Elements.length:Nat):Int)))
 ) else some false):Option Bool).bind fun b1 =>
 some b1
theorem Db (a0:Jd) (a1:Int) (r:Bool) (h:Wc a0 a1=some r):Km Go.Proofs.Tryz.prog GlS 75 [Enc.pv a0,Enc.pv a1] (Enc.pv r):=by
 unfold Wc at h
 refine Jr Go.Proofs.Tryz.func75 (by rfl) rfl Go.Proofs.Tryz.ntmps75 (by rfl) rfl ?_
 refine Ja (Jf (zE (Jc (Ja (Jf ?_)))))
 obtain ⟨b1,h1,h⟩:=Jh h
 refine zR 3 ?_
 refine Kt 6 13 (.bool b1) ?_ ?_
 ·rcases Jk h1 with ⟨hb,h1⟩|⟨hb,h1⟩
  ·refine zS 7 hb (zR 3 ?_)
   refine Kf (L:=(a0.Elements:(List Jq))) (by kernel_rfl) ?_
   cases h1
   exact zF
  refine zS 7 hb ?_
  cases h1
  exact zF
 refine zE (Jc (Jp ?_))
 cases h
 exact zQ
/-! signallingref06.Need -/
noncomputable def Ej (a0:Int) (a1:Int) (a2:Int):Option (Int×Bool) :=
 bif ((decide (a0=1))||(decide (a0=3))) then (
  some (0,(((decide ((min a1 a2)=0))&&(decide ((max a1 a2)=1)))||(((decide (a0=3))&&(decide ((min a1 a2)=2)))&&(decide ((max a1 a2)=3)))))
 ) else (
  bif (((decide (a0=2))&&(decide ((min a1 a2)=0)))&&(decide ((max a1 a2)=1))) then (
   some (1,true)
  ) else (
   bif (((decide (a0=2))&&(decide ((min a1 a2)=0)))&&(decide ((max a1 a2)=2))) then (
    some (2,true)
   ) else (
    some (0,false)
   )
  )
 )
theorem Xg (a0:Int) (a1:Int) (a2:Int) (r:(Int×Bool)) (h:Ej a0 a1 a2=some r):Km Go.Proofs.Tryz.prog GlS 102 [Enc.pv a0,Enc.pv a1,Enc.pv a2] (.tup [Enc.pv r.1,Enc.pv r.2]):=by
 unfold Ej at h
 refine Jr Go.Proofs.Tryz.func102 (by rfl) rfl Go.Proofs.Tryz.ntmps102 (by rfl) rfl ?_
 refine Ja (Jf (zE (Jc (Ja (Jf (zE (Jc (Ja (Jf (zE (Jc (Ja (Ja (Jf (zR 3 ?_)))))))))))))))
 refine Qb 3 21 ((decide (a0=1))||(decide (a0=3))) (fun x hx=>?_) ?_
 ·rcases Ck hx with ⟨hb,hx⟩|⟨hb,hx⟩
  ·refine zS 18 hb ?_
   subst hx
   exact zF
  refine zS 18 hb ?_
  subst hx
  exact zF
 refine zN (Jc ?_)
 rcases Jk h with ⟨hb,h⟩|⟨hb,h⟩
 ·refine zT hb (Ja (Jf (zR 3 ?_)))
  refine Qb 3 27 ((decide ((min a1 a2)=0))&&(decide ((max a1 a2)=1))) (fun x hx=>?_) ?_
  ·rcases Bq hx with ⟨hb,hx⟩|⟨hb,hx⟩
   ·refine zS 24 hb ?_
    subst hx
    exact zF
   refine zS 24 hb ?_
   subst hx
   exact zF
  refine zR 1 ?_
  refine Qb 11 39 (((decide ((min a1 a2)=0))&&(decide ((max a1 a2)=1)))||(((decide (a0=3))&&(decide ((min a1 a2)=2)))&&(decide ((max a1 a2)=3)))) (fun x hx=>?_) ?_
  ·rcases Ck hx with ⟨hb,hx⟩|⟨hb,hx⟩
   ·refine zS 28 hb ?_
    subst hx
    exact zF
   refine zS 28 hb (zR 3 ?_)
   refine Jh5 3 34 ((decide (a0=3))&&(decide ((min a1 a2)=2))) (fun x hx=>?_) ?_
   ·rcases Bq hx with ⟨hb,hx⟩|⟨hb,hx⟩
    ·refine zS 31 hb ?_
     subst hx
     exact zF
    refine zS 31 hb ?_
    subst hx
    exact zF
   refine zR 1 ?_
   refine Jh5 3 38 (((decide (a0=3))&&(decide ((min a1 a2)=2)))&&(decide ((max a1 a2)=3))) (fun x hx=>?_) ?_
   ·rcases Bq hx with ⟨hb,hx⟩|⟨hb,hx⟩
    ·refine zS 35 hb ?_
     subst hx
     exact zF
    refine zS 35 hb ?_
    subst hx
    exact zF
   subst hx
   exact zF
  refine zE (Jc (Jp (Ji ?_)))
  cases h
  exact zQ
 refine zU hb (Jj (Jc (Ja (Ja (Jf (zR 3 ?_))))))
 refine Qb 3 45 ((decide (a0=2))&&(decide ((min a1 a2)=0))) (fun x hx=>?_) ?_
 ·rcases Bq hx with ⟨hb,hx⟩|⟨hb,hx⟩
  ·refine zS 42 hb ?_
   subst hx
   exact zF
  refine zS 42 hb ?_
  subst hx
  exact zF
 refine zR 1 ?_
 refine Qb 3 49 (((decide (a0=2))&&(decide ((min a1 a2)=0)))&&(decide ((max a1 a2)=1))) (fun x hx=>?_) ?_
 ·rcases Bq hx with ⟨hb,hx⟩|⟨hb,hx⟩
  ·refine zS 46 hb ?_
   subst hx
   exact zF
  refine zS 46 hb ?_
  subst hx
  exact zF
 refine zN (Jc ?_)
 rcases Jk h with ⟨hb,h⟩|⟨hb,h⟩
 ·refine zT hb (Ja (Jf (zE (Jc (Jp (Ji ?_))))))
  cases h
  exact zQ
 refine zU hb (Jj (Jc (Ja (Ja (Jf (zR 3 ?_))))))
 refine Qb 3 55 ((decide (a0=2))&&(decide ((min a1 a2)=0))) (fun x hx=>?_) ?_
 ·rcases Bq hx with ⟨hb,hx⟩|⟨hb,hx⟩
  ·refine zS 52 hb ?_
   subst hx
   exact zF
  refine zS 52 hb ?_
  subst hx
  exact zF
 refine zR 1 ?_
 refine Qb 3 59 (((decide (a0=2))&&(decide ((min a1 a2)=0)))&&(decide ((max a1 a2)=2))) (fun x hx=>?_) ?_
 ·rcases Bq hx with ⟨hb,hx⟩|⟨hb,hx⟩
  ·refine zS 56 hb ?_
   subst hx
   exact zF
  refine zS 56 hb ?_
  subst hx
  exact zF
 refine zN (Jc ?_)
 rcases Jk h with ⟨hb,h⟩|⟨hb,h⟩
 ·refine zT hb (Ja (Jf (zE (Jc (Jp (Ji ?_))))))
  cases h
  exact zQ
 refine zU hb (Jj (Jc (Ja (Jf (zE (Jc (Jp ?_)))))))
 cases h
 exact zQ
/-! signallingref06.Legs -/
noncomputable def Eb (a0:Int) (a1:Int):(Int×(List Int))→Option ((Int×(List Int))⊕((List Int)⊕(List Int))):=fun (x12,x13) =>
 bif decide (x12<4) then (
  onInl (α:=(List Int)) (β:=((Int×(List Int))⊕((List Int)⊕(List Int)))) (
   (Ej a0 a1 x12).bind fun r23 =>
   bif r23.2 then (
    (Vv x13 [x12]).bind fun x24 =>
    some (.inl x24)
   ) else (
    some (.inl x13)
   )
  ) fun x22 =>
  some (.inl (w64 (x12+1),x22))
 ) else (
  some (.inr (.inl x13))
 )
noncomputable def Cc (a0:Int) (a1:Int):Option (List Int) :=
 onInl (α:=(List Int)) (β:=(List Int)) (Kl (Eb a0 a1) (0,([]:(List Int)))) fun x19 =>
 some x19
theorem Jgm (a0:Int) (a1:Int) (r:(List Int)) (h:Cc a0 a1=some r):Km Go.Proofs.Tryz.prog GlS 100 [Enc.pv a0,Enc.pv a1] (Jo (.own 100005) r):=by
 unfold Cc at h
 refine Jr Go.Proofs.Tryz.func100 (by rfl) rfl Go.Proofs.Tryz.ntmps100 (by rfl) rfl ?_
 refine Ja (Jf (zE (Jc (Ja (Jf (zE (Jc (Ja (Ja (Jf (zE (Jc (Jn ?_)))))))))))))
 refine Df 5 100005 1 8 (by kernel_rfl) (by kernel_rfl) ?_
 obtain ⟨o17,h17,h⟩:=Kq h
 refine Ki 26 0 (fun (x12,x13)=>⟨[(0,.int .i64 a0),(1,.int .i64 a1),(5,Jo (.own 100005) (x13:(List Int))),(6,.int .i64 x12)],[],[(100005,(((x13).map cellsOf).length,1))],[]⟩) (fun x19=>⟨[(5,Jo (.own 100005) (x19:(List Int)))],[],[(100005,(((x19).map cellsOf).length,1))],[]⟩) h17 (by kernel_rfl) (fun _=>by kernel_rfl) ?_ ?_
 ·rintro ⟨x12,x13⟩ oh16 h16
  unfold Eb at h16
  refine Ja (Ja (Jf (zE (Jc ?_))))
  rcases Jk h16 with ⟨hb,h16⟩|⟨hb,h16⟩
  ·refine zT hb (Jj (Jc ?_))
   obtain ⟨o20,h20,h16⟩:=Kq h16
   refine Vx (o:=o20) 26 (fun x22=>⟨[(0,.int .i64 a0),(1,.int .i64 a1),(5,Jo (.own 100005) (x22:(List Int))),(6,.int .i64 x12)],[],[(100005,(((x22).map cellsOf).length,1))],[]⟩) ?_ ?_
   ·refine Jn (Ja (Jf (zR 3 ?_)))
    obtain ⟨r23,h21,h20⟩:=Jh h20
    refine Ju (Xg _ _ _ r23 h21) (by kernel_rfl) (by kernel_rfl) (zE (Jc (Ja (Jf (zE (Jc ?_))))))
    rcases Jk h20 with ⟨hb,h20⟩|⟨hb,h20⟩
    ·refine zT hb (Jf (zR 3 ?_))
     obtain ⟨x24,h22,h20⟩:=Jh h20
     refine Zz (tk:=100005) h22 (by kernel_rfl) (by kernel_rfl) ?_
     refine zE (Kd ?_)
     cases h20
     exact zJ
    refine zU hb (Jj (Kd ?_))
    cases h20
    exact zJ
   rintro x22 rfl
   have h16:=Kg h16
   refine Jf (zE ?_)
   cases h16
   exact zB
  refine zU hb (Kc (Jv ?_))
  cases h16
  exact zX
 rintro x19 s' rfl hs
 have h:=Kg h
 refine Jt (Jc (Ke hs (Ja (Jf (zE (Jc (Jp ?_)))))))
 cases h
 exact zQ
theorem Jg0 (a0:Int) (a1:Int) (r:(List Int)) (h:Cc a0 a1=some r):Km Go.Proofs.Tryz.prog GlS 100 [Enc.pv a0,Enc.pv a1] (Enc.pv r) :=
 (Jgm a0 a1 r h).freeze (by kernel_rfl) (by kernel_rfl) (by kernel_rfl)
end PM
