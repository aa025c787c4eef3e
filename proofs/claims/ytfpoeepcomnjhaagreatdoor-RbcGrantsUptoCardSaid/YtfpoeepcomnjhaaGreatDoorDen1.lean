/-
 Plain functions for the program's functions, and the proofs that the program does them. Printed by den.py.
-/
import Derived.Test.YtfpoeepcomnjhaaGreatDoorDen0
namespace PM
noncomputable section
open Go Go.RowKit Go.Proofs Go.Proofs.Tryz
attribute [local irreducible] Jy pwp
def Ca(a0:Ja)(a1:(List Jb)):(Int×(List Int))->Option ((Int×(List Int))⊕((List Int)⊕(List Int))):=fun (x40,x41)=>
 bif decide (x40<((a1.length:Nat):Int)) then (
  onInl (α:=(List Int)) (β:=((Int×(List Int))⊕((List Int)⊕(List Int)))) (
   (ixO a1 x40).bind fun x72=>
   (Zd a0 x72.El).bind fun r73=>
   ((bif r73 then (
    (ixO a1 x40).bind fun x75=>
    (ixO a0.Elements x75.El).bind fun x76=>
    (Xn x41 x76.Section).bind fun r77=>
    some (!r77)
   ) else some false)).bind fun b74=>
   bif b74 then (
    (ixO a1 x40).bind fun x78=>
    (ixO a0.Elements x78.El).bind fun x79=>
    (Qi x41 [x79.Section]).bind fun x80=>
    some (.inl x80)
   ) else (
    some (.inl x41)
   )
  ) fun x71=>
  some (.inl (w64 (x40+1),x71))
 ) else (
  some (.inr (.inl x41))
 )
def Wv(a0:Ja)(a1:(List Jb)):Option (List Int) :=
 onInl (Jp (Ca a0 a1) (0,[])) fun x61=>
 some x61
instance Jhs(a0:Ja)(a1:(List Jb)):Cp (Wv a0 a1) 136 [Enc.pv a0,Enc.pv a1] (fun r=>Ji (.own 100005) r):=⟨fun r h=>by
 unfold Wv at h;refine zG f136 ?_;refine w1 n0 (ee S1) ?_;intro h;refine Jo (Ko (Wz 5 100005 1 8 kr kr ?_));refine uM 49 0 [6] (fun s (x40,x41)=>⟨(5,Ji (.own 100005) x41)::(6,I6 x40)::gt s [1,2],gh s [2],[(100005,(((x41).map cellsOf).length,1))],[]⟩) h ?_ ?_
 ·rintro ⟨x40,x41⟩ _ h;unfold Ca at h;refine w1 a1 (.l 2 (ec .s .z)) ?_;intro h;refine uJ 49 (fun s x71=>⟨(5,Ji (.own 100005) x71)::gt s [1,2,6],gh s [2],[(100005,(((x71).map cellsOf).length,1))],[]⟩) h ?_ ?_
  ·intro _ h;exact w1 n0 (.i 3 (.p 2 (.b 1 14 34 (.g 0 (.i 5 (.i 2 (.p 2 .z))) .z) (ec (.i 5 (.i 2 (.w 3 z1))) .z)))) t0
  intro x71 h;exact w1 n0 z1 t0
 intro x61 s' h hs;exact w1 n0 z1 t0⟩
theorem Jhw(a0:Ja)(a1:(List Jb))(r:(List Int))(h:Wv a0 a1=some r):Yx prog GlS 136 [Enc.pv a0,Enc.pv a1] (Enc.pv r) :=
 ((Jhs a0 a1).ok r h).freeze kr kr kr
def Ie(a0:Ja)(a2:(List Jb)):(Int×Int)->Option ((Int×Int)⊕(Int⊕Bool)):=fun (x17,x18)=>
 bif decide (x18<((a2.length:Nat):Int)) then (
  onInl (α:=Int) (β:=((Int×Int)⊕(Int⊕Bool))) (
   (ixO a2 x18).bind fun x34=>
   (Vt a0 x34.El).bind fun r35=>
   (ixO a2 (w64 (x18 - 1))).bind fun x36=>
   (Vt a0 x36.El).bind fun r37=>
   bif (!(decide (r35=r37))) then (
    some (.inl (w64 (x17+1)))
   ) else (
    some (.inl x17)
   )
  ) fun x33=>
  some (.inl (x33,w64 (x18+1)))
 ) else (
  some (.inr (.inl x17))
 )
def Lj(a0:Ja)(a1:Jf)(a2:(List Jb)):Option Bool :=
 ((bif decide (((a2.length:Nat):Int)=0) then some true else (
  some (decide (12<((a2.length:Nat):Int)))
 ))).bind fun b1=>
 ((bif b1 then some true else (
  (ixO a2 0).bind fun x3=>
  some (!(decide (x3.El=a1.El)))
 ))).bind fun b2=>
 ((bif b2 then some true else (
  (ixO a2 0).bind fun x5=>
  some (!(decide (x5.In=a1.Side)))
 ))).bind fun b4=>
 ((bif b4 then some true else (
  (Yz a0 a2).bind fun r7=>
  some (!r7)
 ))).bind fun b6=>
 bif b6 then (
  some false
 ) else (
  onInl (Jp (Ie a0 a2) (1,1)) fun x28=>
  (Wv a0 a2).bind fun r38=>
  some (decide (x28=((r38.length:Nat):Int)))
 )
instance (a0:Ja)(a1:Jf)(a2:(List Jb)):Cp (Lj a0 a1 a2) 259 [Enc.pv a0,Enc.pv a1,Enc.pv a2] Enc.pv:=⟨fun r h=>by
 unfold Lj at h;refine zG f259 ?_;refine w1 a2 (el 1 (.b 2 4 16 (.g 0 .z (.l 1 .z)) (.b 1 8 25 (.g 0 .z (.i 1 .z)) (.b 1 8 34 (.g 0 .z (.i 1 .z)) (.b 1 5 40 (.g 0 .z (.p 2 .z)) (ec z1 s2)))))) ?_;intro _ _ _ _ h;refine uL 71 0 (fun s (x17,x18)=>⟨(7,I6 x17)::(8,I6 x18)::gt s [2,3],gh s [3],[],[]⟩) (fun s x28=>⟨(7,I6 x28)::gt s [2,3],gh s [3],[],[]⟩) h ?_ ?_
 ·rintro ⟨x17,x18⟩ _ h;unfold Ie at h;refine w1 a2 (.l 2 (ec .s .z)) ?_;intro h;refine uJ 71 (fun s x33=>⟨(7,I6 x33)::gt s [2,3,8],gh s [3],[],[]⟩) h ?_ ?_
  ·intro _ h;exact w1 n0 (.i 3 (.p 2 (.i 4 (.p 2 (ec z1 .z))))) t0
  intro x33 h;exact w1 n0 z1 t0
 intro x28 s' h hs;refine w1 n0 (.p 3 .s) ?_;intro r38 h;refine yl 0 r38 ?_;exact w1 n0 z1 t0⟩
def Bo(a0:Ja)(a1:Jf):Int->Option (Int⊕(Unit⊕Int)):=fun x2=>
 bif decide (x2<((a0.Signals.length:Nat):Int)) then (
  (ixO a0.Signals x2).bind fun x4=>
  bif Kd x4.At a1 then (
   some (.inr (.inr x2))
  ) else (
   some (.inl (w64 (x2+1)))
  )
 ) else (
  some (.inr (.inl ()))
 )
def Wn(a0:Ja)(a1:Jf):Option Int :=
 onInl (Jp (Bo a0 a1) 0) fun _=>
 some (-1)
instance (a0:Ja)(a1:Jf):Cp (Wn a0 a1) 81 [Enc.pv a0,Enc.pv a1] Enc.pv:=⟨fun r h=>by
 unfold Wn at h;refine zG f81 ?_;refine w1 a0.Signals (el 2 s1) ?_;intro h;refine uN 21 0 [10] (fun s x2=>⟨(10,I6 x2)::gt s [3,8,9],gh s [3],[],[]⟩) h ?_ ?_
 ·intro x2 _ h;unfold Bo at h;exact w1 n0 (ec (.i 1 (ee (.c z1 z1))) .z) t0
 intro _ s' h hs;exact w1 n0 z1 t0⟩
def Ds(a0:Ja)(a1:Jb):Option (Int×Bool) :=
 (Wn a0 (Jf.mk a1.El a1.Out)).bind fun r1=>
 (Dk a0 a1).bind fun r2=>
 some (r1,((decide (0<=r1))||(!r2.2)))
instance (a0:Ja)(a1:Jb):Cp (Ds a0 a1) 193 [Enc.pv a0,Enc.pv a1] (fun r=>.tup [Enc.pv r.1,Enc.pv r.2]):=⟨fun r h=>by
 unfold Ds at h;refine zG f193 ?_;exact w1 n0 (ep 6 (ep 2 (.e (.o 4 3 28 0 z1)))) t0⟩
def Bg(rc_d_ref12_Paths_search:Jr->Ja->Jf->Jf->(List Jb)->Option Jr)(a1:Ja)(a2:Jf)(a4:(List Jb))(r1:(List Jb)):(Int×(List (List Jb)))->Option ((Int×(List (List Jb)))⊕((List (List Jb))⊕Jr)):=fun (x23,x24)=>
 bif decide (x23<((r1.length:Nat):Int)) then (
  onInl (α:=(List (List Jb))) (β:=((Int×(List (List Jb)))⊕((List (List Jb))⊕Jr))) (
   (Qi ([]:(List Jb)) a4).bind fun x58=>
   (ixO r1 x23).bind fun x59=>
   (Qi x58 [x59]).bind fun x60=>
   (Lj a1 a2 x60).bind fun r61=>
   bif (!r61) then (
    some (.inl x24)
   ) else (
    (ixO r1 x23).bind fun x62=>
    (Ds a1 x62).bind fun r63=>
    bif r63.2 then (
     (Qi x24 [x60]).bind fun x64=>
     some (.inl x64)
    ) else (
     (ixO r1 x23).bind fun x65=>
     (Dk a1 x65).bind fun r66=>
     (rc_d_ref12_Paths_search (Jr.mk x24) a1 a2 r66.1 x60).bind fun r67=>
     some (.inl r67.L)
    )
   )
  ) fun x57=>
  some (.inl (w64 (x23+1),x57))
 ) else (
  some (.inr (.inl x24))
 )
def Vy(rc_d_ref12_Paths_search:Jr->Ja->Jf->Jf->(List Jb)->Option Jr)(a0:Jr)(a1:Ja)(a2:Jf)(a3:Jf)(a4:(List Jb)):Option Jr :=
 (Br a1 a3).bind fun r1=>
 onInl (Jp (Bg rc_d_ref12_Paths_search a1 a2 a4 r1) (0,a0.L)) fun x46=>
 some (Jr.mk x46)
theorem Me(rc_d_ref12_Paths_search:Jr->Ja->Jf->Jf->(List Jb)->Option Jr)(hrc_d_ref12_Paths_search:∀ (a0:Jr) (a1:Ja) (a2:Jf) (a3:Jf) (a4:(List Jb)) (r:Jr),rc_d_ref12_Paths_search a0 a1 a2 a3 a4=some r->Jta prog GlS 192 (some (.cells [.ex 1000000000 1 24 (((a0.L:(List (List Jb))).map cellsOf).length) 0 (((a0.L:(List (List Jb))).map cellsOf).length)])) [(1,24,(a0.L:(List (List Jb))).map cellsOf)] [.ref 1000000 0,Enc.pv a1,Enc.pv a2,Enc.pv a3,Enc.pv a4] (.tup []) (some (.cells [.ex 1000000000 1 24 (((r.L:(List (List Jb))).map cellsOf).length) 0 (((r.L:(List (List Jb))).map cellsOf).length)])) [(1,24,(r.L:(List (List Jb))).map cellsOf)])(a0:Jr)(a1:Ja)(a2:Jf)(a3:Jf)(a4:(List Jb))(r:Jr)(h:Vy rc_d_ref12_Paths_search a0 a1 a2 a3 a4=some r):Jta prog GlS 192 (some (.cells [.ex 1000000000 1 24 (((a0.L:(List (List Jb))).map cellsOf).length) 0 (((a0.L:(List (List Jb))).map cellsOf).length)])) [(1,24,(a0.L:(List (List Jb))).map cellsOf)] [.ref 1000000 0,Enc.pv a1,Enc.pv a2,Enc.pv a3,Enc.pv a4] (.tup []) (some (.cells [.ex 1000000000 1 24 (((r.L:(List (List Jb))).map cellsOf).length) 0 (((r.L:(List (List Jb))).map cellsOf).length)])) [(1,24,(r.L:(List (List Jb))).map cellsOf)]:=by
 unfold Vy at h;refine Jth func192 (by rfl) rfl ntmps192 (by rfl) rfl rfl (of_decide_eq_true rfl) kr ?_;refine w1 n0 (ep 2 s2) ?_;intro r1 h;refine uM 76 0 [11] (fun s (x23,x24)=>⟨(11,I6 x23)::gt s [0,4,6,7,10],(1000000,.cells ([.ex 1000000000 1 24 ((x24.map cellsOf).length) 0 ((x24.map cellsOf).length)]))::gh s [6,7],(1000000000,((x24.map cellsOf).length,0))::gT s [119006],[(1000000000,(1,(24,x24.map cellsOf)))]⟩) h ?_ ?_
 ·rintro ⟨x23,x24⟩ _ h;unfold Bg at h;refine w1 r1 (.l 2 (ec .s .z)) ?_;intro h;refine uJ 76 (fun s x57=>⟨gt s [0,4,6,7,10,11],(1000000,.cells ([.ex 1000000000 1 24 ((x57.map cellsOf).length) 0 ((x57.map cellsOf).length)]))::gh s [6,7],(1000000000,((x57.map cellsOf).length,0))::gT s [119006],[(1000000000,(1,(24,x57.map cellsOf)))]⟩) h ?_ ?_
  ·intro _ h;refine w1 n0 X1 ?_;intro _ h57 h;refine zR 2 (Cr (tk:=28) h57 kr ?_);refine w6 n0 (ei 3 (.w 2 (ep 3 (ec .z (.i 3 (.p 1 (ee (.c .x (.i 3 (.p 1 X1)))))))))) ?_ ?_ t0 t0 t0 t0
   ·intro _ _ _ _ _ _ h63 h;exact zR 7 (Juu (tk:=1000000000) (N:=(x24.map cellsOf).length) h63 kr kr kr (w1 n0 z1 t0))
   intro _ _ _ _ _ _ _ r67 h66 h;exact zR 5 (Kbc (some 1000000) [1000000000] [] none (hrc_d_ref12_Paths_search _ _ _ _ _ r67 h66) kr kr kr kr kr (w1 n0 z1 t0))
  intro x57 h;exact w1 n0 z1 t0
 intro x46 s' h hs;refine Ui ?_;cases h;exact Kee hs kr kr kr
def Vz(n:Nat):Jr->Ja->Jf->Jf->(List Jb)->Option Jr:=Nat.rec (fun _ _ _ _ _=>none) (fun _ ih=>Vy ih) n
theorem Md : ∀ (n:Nat) (a0:Jr) (a1:Ja) (a2:Jf) (a3:Jf) (a4:(List Jb)) (r:Jr),Vz n a0 a1 a2 a3 a4=some r->Jta prog GlS 192 (some (.cells [.ex 1000000000 1 24 (((a0.L:(List (List Jb))).map cellsOf).length) 0 (((a0.L:(List (List Jb))).map cellsOf).length)])) [(1,24,(a0.L:(List (List Jb))).map cellsOf)] [.ref 1000000 0,Enc.pv a1,Enc.pv a2,Enc.pv a3,Enc.pv a4] (.tup []) (some (.cells [.ex 1000000000 1 24 (((r.L:(List (List Jb))).map cellsOf).length) 0 (((r.L:(List (List Jb))).map cellsOf).length)])) [(1,24,(r.L:(List (List Jb))).map cellsOf)]
 | 0,_,_,_,_,_,_,h=>by cases h
 | n+1,a0,a1,a2,a3,a4,r,h=>Me (Vz n) (Md n) a0 a1 a2 a3 a4 r h
def Iu(a0:Jr)(a1:Ja)(a2:Jf)(a3:Jf)(a4:(List Jb)):Option Jr:=Vy (Vz Tm) a0 a1 a2 a3 a4
theorem Jdy(a0:Jr)(a1:Ja)(a2:Jf)(a3:Jf)(a4:(List Jb))(r:Jr)(h:Iu a0 a1 a2 a3 a4=some r):Jta prog GlS 192 (some (.cells [.ex 1000000000 1 24 (((a0.L:(List (List Jb))).map cellsOf).length) 0 (((a0.L:(List (List Jb))).map cellsOf).length)])) [(1,24,(a0.L:(List (List Jb))).map cellsOf)] [.ref 1000000 0,Enc.pv a1,Enc.pv a2,Enc.pv a3,Enc.pv a4] (.tup []) (some (.cells [.ex 1000000000 1 24 (((r.L:(List (List Jb))).map cellsOf).length) 0 (((r.L:(List (List Jb))).map cellsOf).length)])) [(1,24,(r.L:(List (List Jb))).map cellsOf)]:=Me (Vz Tm) (Md Tm) a0 a1 a2 a3 a4 r h
def Ya(a0:Ja)(a1:Int)(a2:Int):Option ByteArray :=
 bif decide (a2<0) then (
  (ixO a0.Signals a1).bind fun x1=>
  (Jh8 x1.Name (ByteArray.mk #[45,101,110,100])).bind fun x2=>
  some x2
 ) else (
  (ixO a0.Signals a1).bind fun x3=>
  (Jh8 x3.Name (ByteArray.mk #[45])).bind fun x4=>
  (ixO a0.Signals a2).bind fun x5=>
  (Jh8 x4 x5.Name).bind fun x6=>
  some x6
 )
instance (a0:Ja)(a1:Int)(a2:Int):Cp (Ya a0 a1 a2) 194 [Enc.pv a0,Enc.pv a1,Enc.pv a2] Enc.pv:=⟨fun r h=>by
 unfold Ya at h;refine zG f194 ?_;refine w6 n0 (ee (.c (.i 3 .x) (.i 3 .x))) ?_ ?_ t0 t0 t0 t0
 ·intro _ _ h2 h;exact zR 2 (Jlq h2 kr (w1 n0 z1 t0))
 intro _ _ h4 h;refine zR 2 (Jlq h4 kr (w1 n0 (.i 3 .x) ?_));intro _ _ h6 h;refine zR 2 (Jlq h6 kr ?_);exact w1 n0 z1 t0⟩
def Lu(a0:(List Jg))(a1:Jg):(Int×(List Jg))->Option ((Int×(List Jg))⊕(((List Jg)×Int)⊕(List Jg))):=fun (x18,x19)=>
 ((bif decide (x18<((a0.length:Nat):Int)) then (
  (ixO a0 x18).bind fun x31=>
  ((bif decide (x31.El<a1.El) then some true else (
   (ixO a0 x18).bind fun x33=>
   ((bif decide (x33.El=a1.El) then (
    (ixO a0 x18).bind fun x35=>
    some (decide (x35.Pos<a1.Pos))
   ) else some false)).bind fun b34=>
   some b34
  ))).bind fun b32=>
  some b32
 ) else some false)).bind fun b30=>
 bif b30 then (
  (ixO a0 x18).bind fun x36=>
  (Qi x19 [x36]).bind fun x37=>
  some (.inl (w64 (x18+1),x37))
 ) else (
  some (.inr (.inl (x19,x18)))
 )
def It(a0:(List Jg))(a1:Jg):Option (List Jg) :=
 onInl (Jp (Lu a0 a1) (0,[])) fun (x28,x29)=>
 onInl (α:=(List Jg)) (β:=(List Jg)) (
  ((bif decide (x29=((a0.length:Nat):Int)) then some true else (
   (ixO a0 x29).bind fun x43=>
   some (!(Wu x43 a1))
  ))).bind fun b42=>
  bif b42 then (
   (Qi x28 [a1]).bind fun x44=>
   some (.inl x44)
  ) else (
   some (.inl x28)
  )
 ) fun x41=>
 (slO a0 (some x29) none none).bind fun x45=>
 (Qi x41 x45).bind fun x46=>
 some x46
instance (a0:(List Jg))(a1:Jg):Cp (It a0 a1) 203 [Enc.pv a0,Enc.pv a1] (fun r=>Ji (.own 100005) r):=⟨fun r h=>by
 unfold It at h;refine zG f203 ?_;refine w1 n0 (ee S1) ?_;intro h;refine Jo (Kj (Ko (Wz 5 100005 2 16 kr kr ?_)));refine uL 72 0 (fun s (x18,x19)=>⟨(5,Ji (.own 100005) x19)::(6,I6 x18)::gt s [0,3],gh s [3],[(100005,(((x19).map cellsOf).length,2))],[]⟩) (fun s (x28,x29)=>⟨(5,Ji (.own 100005) x28)::(6,I6 x29)::gt s [0,3],gh s [3],[(100005,(((x28).map cellsOf).length,2))],[]⟩) h ?_ ?_
 ·rintro ⟨x18,x19⟩ _ h;unfold Lu at h;exact w1 a0 (.l 2 (.b 2 29 40 (.g 0 (.i 2 (.b 6 19 39 (.g 0 .z (.i 2 (.b 6 9 38 (.g 0 (.i 2 .z) .z) .z))) .z)) .z) (ec (.i 3 (.w 2 z2)) .z))) t0
 rintro ⟨x28,x29⟩ s' h hs;refine Ui (Jo (Qk hs ?_));refine uJ 72 (fun s x41=>⟨(5,Ji (.own 100005) x41)::gt s [0,6],[],[(100005,(((x41).map cellsOf).length,2))],[]⟩) h ?_ ?_
 ·intro _ h;exact w1 a0 (.l 2 (.b 2 7 61 (.g 0 .z (.i 2 .z)) (ec (.w 3 z1) .z))) t0
 intro x41 h;obtain ⟨x45,h42,h⟩:=Ve h;refine Kj (Wp (zR 3 (Jxb h42 .frozen kr kr kr ?_)));exact w1 n0 (.w 0 z2) t0⟩
def Ce(a0:Ja)(a1:(List Jb)):(Int×(List Jg))->Option ((Int×(List Jg))⊕((List Jg)⊕(List Jg))):=fun (x20,x21)=>
 bif decide (x20<((a1.length:Nat):Int)) then (
  onInl (α:=(List Jg)) (β:=((Int×(List Jg))⊕((List Jg)⊕(List Jg)))) (
   (ixO a1 x20).bind fun x37=>
   (Lv a0 x37).bind fun r38=>
   bif (r38.2&&(!(decide (r38.1=0)))) then (
    (ixO a1 x20).bind fun x39=>
    (It x21 (Jg.mk x39.El r38.1)).bind fun r40=>
    some (.inl r40)
   ) else (
    some (.inl x21)
   )
  ) fun x36=>
  some (.inl (w64 (x20+1),x36))
 ) else (
  some (.inr (.inl x21))
 )
def Bq(a0:Ja)(a1:(List Jb)):Option (List Jg) :=
 onInl (Jp (Ce a0 a1) (0,[])) fun x31=>
 some x31
instance (a0:Ja)(a1:(List Jb)):Cp (Bq a0 a1) 135 [Enc.pv a0,Enc.pv a1] Enc.pv:=⟨fun r h=>by
 unfold Bq at h;refine zG f135 ?_;refine w1 n0 (ee s1) ?_;intro h;refine uM 39 0 [6] (fun s (x20,x21)=>⟨(5,Ji .frozen x21)::(6,I6 x20)::gt s [1,2],gh s [2],[],[]⟩) h ?_ ?_
 ·rintro ⟨x20,x21⟩ _ h;unfold Ce at h;refine w1 a1 (.l 2 (ec .s .z)) ?_;intro h;refine uJ 39 (fun s x36=>⟨(5,Ji .frozen x36)::gt s [1,2,6],gh s [2],[],[]⟩) h ?_ ?_
  ·intro _ h;exact w1 n0 (.i 3 (.p 1 (.e (.o 2 3 28 0 (ec (.i 3 (.p 4 z1)) .z))))) t0
  intro x36 h;exact w1 n0 z1 t0
 intro x31 s' h hs;exact w1 n0 z1 t0⟩
def Eh(a0:Ja)(a1:(List Jb)):(Int×Int)->Option ((Int×Int)⊕(Int⊕Int)):=fun (x10,x11)=>
 bif decide (x11<((a1.length:Nat):Int)) then (
  onInl (α:=Int) (β:=((Int×Int)⊕(Int⊕Int))) (
   (ixO a1 x11).bind fun x27=>
   (Zd a0 x27.El).bind fun r28=>
   bif r28 then (
    (ixO a1 x11).bind fun x29=>
    (ixO a0.Elements x29.El).bind fun x30=>
    some (.inl (w64 (x10+x30.Length)))
   ) else (
    some (.inl x10)
   )
  ) fun x26=>
  some (.inl (x26,w64 (x11+1)))
 ) else (
  some (.inr (.inl x10))
 )
def Cd(a0:Ja)(a1:(List Jb)):Option Int :=
 onInl (Jp (Eh a0 a1) (0,0)) fun x21=>
 some x21
instance (a0:Ja)(a1:(List Jb)):Cp (Cd a0 a1) 82 [Enc.pv a0,Enc.pv a1] Enc.pv:=⟨fun r h=>by
 unfold Cd at h;refine zG f82 ?_;refine w1 n0 (ee s1) ?_;intro h;refine uL 33 0 (fun s (x10,x11)=>⟨(5,I6 x10)::(6,I6 x11)::gt s [1,2],gh s [2],[],[]⟩) (fun _ x21=>⟨[(5,I6 x21)],[],[],[]⟩) h ?_ ?_
 ·rintro ⟨x10,x11⟩ _ h;unfold Eh at h;refine w1 a1 (.l 2 (ec .s .z)) ?_;intro h;refine uJ 33 (fun s x26=>⟨(5,I6 x26)::gt s [1,2,6],gh s [2],[],[]⟩) h ?_ ?_
  ·intro _ h;exact w1 n0 (.i 3 (.p 2 (ec (.i 5 (.i 2 z1)) .z))) t0
  intro x26 h;exact w1 n0 z1 t0
 intro x21 s' h hs;exact w1 n0 z1 t0⟩
def Hn : (Int×ByteArray)->Option ((Int×ByteArray)⊕(ByteArray⊕ByteArray)):=fun (x2,x3)=>
 bif decide (0<x2) then (
  (Jh8 (bytesOf [IntKind.u8.wrap (w64 (48+(x2.tmod 10)))]) x3).bind fun x6=>
  some (.inl (w64 (x2.tdiv 10),x6))
 ) else (
  some (.inr (.inl x3))
 )
def Zu(a0:Int):Option ByteArray :=
 onInl (Jp (Hn) (a0,ByteArray.empty)) fun x5=>
 some x5
instance (a0:Int):Cp (Zu a0) 195 [Enc.pv a0] Enc.pv:=⟨fun r h=>by
 unfold Zu at h;refine zG f195 ?_;refine w1 n0 s2 ?_;intro h;refine uM 17 0 [0] (fun _ (x2,x3)=>⟨[(0,I6 x2),(3,.str x3)],[],[],[]⟩) h ?_ ?_
 ·rintro ⟨x2,x3⟩ _ h;unfold Hn at h;refine w1 n0 (ec .s .z) ?_;intro h;refine zR 5 (Kjs (ns:=[IntKind.u8.wrap (w64 (48+(x2.tmod 10)))]) kr ?_);obtain ⟨x6,h5,h⟩:=Ve h;exact zR 1 (Jlq h5 kr (w1 n0 z2 t0))
 intro x5 s' h hs;exact w1 n0 z1 t0⟩
def Hw(a0:Ja)(a1:Int)(r4:Jr)(x150:Int)(r228:(Int×Bool)):(Int×Int)->Option ((Int×Int)⊕(Int⊕((Int×(List Jh))⊕((List Jh)⊕(List Jh))))):=fun (x252,x253)=>
 bif decide (x253<x150) then (
  onInl (α:=Int) (β:=((Int×Int)⊕(Int⊕((Int×(List Jh))⊕((List Jh)⊕(List Jh)))))) (
   (Wd 0 (((r4.L:(List (List Jb))).map cellsOf).length) x253).bind fun j281=>
   (Vd r4.L (((r4.L:(List (List Jb))).map cellsOf).length) j281).bind fun x282=>
   (Wd 0 (((r4.L:(List (List Jb))).map cellsOf).length) x253).bind fun j283=>
   (Vd r4.L (((r4.L:(List (List Jb))).map cellsOf).length) j283).bind fun x284=>
   (ixO x282 (w64 (((x284.length:Nat):Int) - 1))).bind fun x285=>
   (Ds a0 x285).bind fun r286=>
   (Ya a0 a1 r286.1).bind fun r287=>
   (Ya a0 a1 r228.1).bind fun r288=>
   bif decide (r287=r288) then (
    some (.inl (w64 (x252+1)))
   ) else (
    some (.inl x252)
   )
  ) fun x280=>
  some (.inl (x280,w64 (x253+1)))
 ) else (
  some (.inr (.inl x252))
 )
def Se(a0:Ja)(a1:Int)(r4:Jr):(Int×(List Jh))->Option ((Int×(List Jh))⊕((List Jh)⊕(List Jh))):=fun (x150,x151)=>
 bif decide (x150<((((r4.L:(List (List Jb))).map cellsOf).length:Nat):Int)) then (
  (Wd 0 (((r4.L:(List (List Jb))).map cellsOf).length) x150).bind fun j225=>
  (Vd r4.L (((r4.L:(List (List Jb))).map cellsOf).length) j225).bind fun x226=>
  (ixO x226 (w64 (((x226.length:Nat):Int) - 1))).bind fun x227=>
  (Ds a0 x227).bind fun r228=>
  (Ya a0 a1 r228.1).bind fun r229=>
  (Bq a0 x226).bind fun r230=>
  (Wv a0 x226).bind fun r231=>
  (Cd a0 x226).bind fun r232=>
  (ixO a0.Signals a1).bind fun x233=>
  (Vt a0 x233.At.El).bind fun r234=>
  onInl (Jp (Hw a0 a1 r4 x150 r228) (1,0)) fun x271=>
  onInl (α:=ByteArray) (β:=((Int×(List Jh))⊕((List Jh)⊕(List Jh)))) (
   bif decide (1<x271) then (
    (Jh8 r229 (ByteArray.mk #[46])).bind fun x293=>
    (Zu x271).bind fun r294=>
    (Jh8 x293 r294).bind fun x295=>
    some (.inl x295)
   ) else (
    some (.inl r229)
   )
  ) fun x292=>
  (Qi x151 [(Jh.mk x292 a1 r228.1 x226 r230 r231 r234 r232 ([]:(List Jb)) ([]:(List Jg)) ([]:(List Int)) ([]:(List Jg)) ([]:(List Int)) ([]:(List Jf)))]).bind fun x296=>
  some (.inl (w64 (x150+1),x296))
 ) else (
  some (.inr (.inl x151))
 )
def Lq(a0:Ja)(a1:Int):Option (List Jh) :=
 ((bif decide (a1<0) then some true else (
  some (decide (((a0.Signals.length:Nat):Int)<=a1))
 ))).bind fun b1=>
 bif b1 then (
  some ([]:(List Jh))
 ) else (
  (ixO a0.Signals a1).bind fun x2=>
  (Yf a0 x2.At).bind fun r3=>
  bif (!r3.2) then (
   some ([]:(List Jh))
  ) else (
   (Iu (Jr.mk []) a0 r3.1 r3.1 ([]:(List Jb))).bind fun r4=>
   onInl (Jp (Se a0 a1 r4) (0,[])) fun x224=>
   some x224
  )
 )
instance (a0:Ja)(a1:Int):Cp (Lq a0 a1) 125 [Enc.pv a0,Enc.pv a1] (fun r=>Ji (.own 100008) r):=⟨fun r h=>by
 unfold Lq at h;refine zG f125 ?_;refine w6 a0.Signals (.e (.b 3 6 26 (.g 0 .z (.l 3 .z)) (ec S1 (.i 4 (.p 2 (ee (.c S1 X1))))))) ?_ ?_ ?_ t0 t0 t0
 ·intro _ h;exact Jo (Wz 4 100008 14 264 kr kr (w1 n0 .z t0))
 ·intro _ _ _ h;exact Jo (Wz 4 100008 14 264 kr kr (w1 n0 .z t0))
 intro _ _ _ r4 h4 h;refine zR 4 (Kbc (some 41) [304600] [(41,0,304600,1,24)] none (Jdy _ _ _ _ _ r4 h4) kr kr kr kr kr (w1 n0 (ee S1) ?_));intro h;refine Jo (Ko (Wz 8 100008 14 264 kr kr ?_));refine uM 154 0 [9] (fun s (x150,x151)=>⟨(8,Ji (.own 100008) x151)::(9,I6 x150)::gt s [1,2,7],gh s [2,41],(100008,(((x151).map cellsOf).length,14))::gT s [304600],gX s [304600]⟩) h ?_ ?_
 ·rintro ⟨x150,x151⟩ _ h;unfold Se at h;refine w1 n0 (ec (.j 5 (.d 0 false 1 0 s1)) .z) ?_;intro _ x226 h;refine yl 3 x226 (w1 n0 (.i 1 (.p 1 (ep 3 (.p 5 .x)))) ?_);intro _ r228 _ r230 r231 h226 h;refine zR 2 (zP (Jhw _ _ r231 h226) (w1 n0 (.p 2 (ei 4 (.p 3 (ee s1)))) ?_));intro r232 _ r234 h;refine uL 154 2 (fun s (x252,x253)=>⟨(14,I6 x252)::(15,I6 x253)::gt s [1,2,7,8,9,11,13],gh s [2,13,41],gT s [100008,304600],gX s [304600]⟩) (fun s x271=>⟨(14,I6 x271)::gt s [1,2,7,8,9,13],gh s [2,13,41],gT s [100008,304600],gX s [304600]⟩) h ?_ ?_
  ·rintro ⟨x252,x253⟩ _ h;unfold Hw at h;refine w1 n0 (ec .s .z) ?_;intro h;refine uJ 154 (fun s x280=>⟨(14,I6 x280)::gt s [1,2,7,8,9,11,13,15],gh s [2,13,41],gT s [100008,304600],gX s [304600]⟩) h ?_ ?_
   ·intro _ h;refine w1 n0 (.j 6 (.d 0 false 1 0 (.j 5 (.d 0 false 1 0 .s)))) ?_;intro _ _ _ x284 h;exact yl 0 x284 (w1 n0 (.i 1 (.p 1 (ep 3 (.p 3 (ec z1 .z))))) t0)
   intro x280 h;exact w1 n0 z1 t0
  intro x271 s' h hs;refine Ui (Jo (Qk hs ?_));refine uJ 154 (fun s x292=>⟨gt s [1,2,7,8,9,13],(13,.cells ([.str x292,I6 a1,I6 r228.1,Ji .frozen x226,Ji .frozen r230,Ji .frozen r231,I6 r234,I6 r232,.nil,.nil,.nil,.nil,.nil,.nil]))::gh s [2,41],gT s [100008,304600],gX s [304600]⟩) h ?_ ?_
  ·intro _ h;refine w1 n0 (ec .x .z) ?_;intro _ h287 h;refine zR 2 (Jlq h287 kr (w1 n0 (.p 1 .x) ?_));intro _ _ h289 h;exact Jlq h289 kr (w1 n0 z1 t0)
  intro x292 h;exact Qk (Wkr.of (n:=154) (j:=⟨[(1,I6 a1),(2,.ref 2 0),(7,.ref 41 0),(8,Ji (.own 100008) x151),(9,I6 x150),(13,.ref 13 0)],[(2,.cells (cellsOf a0)),(13,.cells ([.str x292,I6 a1,I6 r228.1,Ji .frozen x226,Ji .frozen r230,Ji .frozen r231,I6 r234,I6 r232,Ji .frozen (([]:(List Jb)):(List Jb)),Ji .frozen (([]:(List Jg)):(List Jg)),Ji .frozen (([]:(List Int)):(List Int)),Ji .frozen (([]:(List Jg)):(List Jg)),Ji .frozen (([]:(List Int)):(List Int)),Ji .frozen (([]:(List Jf)):(List Jf))])),(41,.cells ([.ex 304600 1 24 ((r4.L.map cellsOf).length) 0 ((r4.L.map cellsOf).length)]))],[(100008,(((x151).map cellsOf).length,14)),(304600,((r4.L.map cellsOf).length,0))],[(304600,(1,(24,r4.L.map cellsOf)))]⟩) kr kr) (w1 n0 (.w 3 z2) t0)
 intro x224 s' h hs;exact w1 n0 z1 t0⟩
def Xl(a0:Ja):(Int×(List Jh))->Option ((Int×(List Jh))⊕((List Jh)⊕((List Jh)×Int))):=fun (x7,x8)=>
 bif decide (x7<((a0.Signals.length:Nat):Int)) then (
  (Lq a0 x7).bind fun r12=>
  (Qi x8 r12).bind fun x13=>
  some (.inl (w64 (x7+1),x13))
 ) else (
  some (.inr (.inl x8))
 )
def Pp(a0:Ja):Option ((List Jh)×Int) :=
 (Gr a0).bind fun r1=>
 bif (!(decide (r1=0))) then (
  some (([]:(List Jh)),r1)
 ) else (
  onInl (Jp (Xl a0) (0,[])) fun x11=>
  bif decide (48<((x11.length:Nat):Int)) then (
   some (([]:(List Jh)),2)
  ) else (
   some (x11,0)
  )
 )
instance (a0:Ja):Cp (Pp a0) 65 [Enc.pv a0] (fun r=>.tup [Enc.pv r.1,Enc.pv r.2]):=⟨fun r h=>by
 unfold Pp at h;refine zG f65 ?_;refine w1 n0 (ep 1 (ee (.c z1 S2))) ?_;intro _ h;refine Jo (Ko (Wz 5 100005 14 264 kr kr ?_));refine uM 28 0 [6] (fun s (x7,x8)=>⟨[(1,.ref 1 0),(5,Ji (.own 100005) x8),(6,I6 x7)],gh s [1],[(100005,(((x8).map cellsOf).length,14))],[]⟩) h ?_ ?_
 ·rintro ⟨x7,x8⟩ _ h;unfold Xl at h;exact w1 a0.Signals (.l 3 (ec (.p 3 (.w 0 z2)) .z)) t0
 intro x11 s' h hs;exact w1 x11 (.l 1 (ec z1 z1)) t0⟩
def Lh(a0:Ja):(Int×(List Int))->Option ((Int×(List Int))⊕((List Int)⊕(List Int))):=fun (x12,x13)=>
 bif decide (x12<((a0.Elements.length:Nat):Int)) then (
  onInl (α:=(List Int)) (β:=((Int×(List Int))⊕((List Int)⊕(List Int)))) (
   (ixO a0.Elements x12).bind fun x23=>
   bif decide (x23.Kind=2) then (
    (Qi x13 [x12]).bind fun x24=>
    some (.inl x24)
   ) else (
    some (.inl x13)
   )
  ) fun x22=>
  some (.inl (w64 (x12+1),x22))
 ) else (
  some (.inr (.inl x13))
 )
def Es(a0:Ja):Option (List Int) :=
 onInl (Jp (Lh a0) (0,[])) fun x19=>
 some x19
theorem Jjn(a0:Ja)(r:(List Int))(h:Es a0=some r):Yx prog GlS 66 [Enc.pv a0] (Ji (.own 100003) r):=by
 unfold Es at h;refine zG f66 ?_;refine w1 a0.Elements (ee (.l 2 S1)) ?_;intro h;refine Jo (Ko (Wz 3 100003 1 8 kr kr ?_));refine uM 23 0 [9] (fun s (x12,x13)=>⟨(3,Ji (.own 100003) x13)::(9,I6 x12)::gt s [7,8],[],[(100003,(((x13).map cellsOf).length,1))],[]⟩) h ?_ ?_
 ·rintro ⟨x12,x13⟩ _ h;unfold Lh at h;refine w1 n0 (ec .s .z) ?_;intro h;refine uJ 23 (fun s x22=>⟨(3,Ji (.own 100003) x22)::gt s [7,8,9],[],[(100003,(((x22).map cellsOf).length,1))],[]⟩) h ?_ ?_
  ·intro _ h;exact w1 n0 (.i 1 (ee (.c (.w 3 z1) .z))) t0
  intro x22 h;exact w1 n0 z1 t0
 intro x19 s' h hs;exact w1 n0 z1 t0
instance (a0:Ja):Cp (Es a0) 66 [Enc.pv a0] Enc.pv:=⟨fun r h=>
 (Jjn a0 r h).freeze kr kr kr⟩
def Iy(a0:Ja)(a1:Jh):Option (Kn×Bool) :=
 ((bif decide (a1.Exit<0) then some true else (
  some (decide (((a0.Signals.length:Nat):Int)<=a1.Exit))
 ))).bind fun b1=>
 bif b1 then (
  some ((Kn.mk ByteArray.empty (Jf.mk 0 0) 0),false)
 ) else (
  (ixO a0.Signals a1.Exit).bind fun x2=>
  some (x2,true)
 )
instance (a0:Ja)(a1:Jh):Cp (Iy a0 a1) 130 [Enc.pv a0,Enc.pv a1] (fun r=>.tup [Enc.pv r.1,Enc.pv r.2]):=⟨fun r h=>by
 unfold Iy at h;refine zG f130 ?_;exact w1 a0.Signals (.e (.b 4 7 16 (.g 0 .z (.l 4 .z)) (ec z1 (.i 4 z1)))) t0⟩
def Hf(a2:(List Jb))(a3:Int):Int->Option (Int⊕(Unit⊕Bool)):=fun x2=>
 bif decide (x2<((a2.length:Nat):Int)) then (
  (ixO a2 x2).bind fun x4=>
  bif decide (x4.El=a3) then (
   some (.inr (.inr true))
  ) else (
   some (.inl (w64 (x2+1)))
  )
 ) else (
  some (.inr (.inl ()))
 )
def He(a0:Ja)(a1:Jh)(a3:Int):Int->Option (Int⊕(Unit⊕Bool)):=fun x7=>
 bif decide (x7<((a1.Sections.length:Nat):Int)) then (
  (ixO a1.Sections x7).bind fun x10=>
  (Vt a0 a3).bind fun r11=>
  bif decide (x10=r11) then (
   some (.inr (.inr true))
  ) else (
   some (.inl (w64 (x7+1)))
  )
 ) else (
  some (.inr (.inl ()))
 )
def Cz(a0:Ja)(a1:Jh)(a2:(List Jb))(a3:Int):Option Bool :=
 onInl (Jp (Hf a2 a3) 0) fun _=>
 onInl (Jp (He a0 a1 a3) 0) fun _=>
 some false
instance (a0:Ja)(a1:Jh)(a2:(List Jb))(a3:Int):Cp (Cz a0 a1 a2 a3) 132 [Enc.pv a0,Enc.pv a1,Enc.pv a2,Enc.pv a3] Enc.pv:=⟨fun r h=>by
 unfold Cz at h;refine zG f132 ?_;refine w1 a2 (el 1 s1) ?_;intro h;refine uN 37 0 [15] (fun s x2=>⟨(15,I6 x2)::gt s [3,4,5,13,14],gh s [4,5],[],[]⟩) h ?_ ?_
 ·intro x2 _ h;unfold Hf at h;exact w1 n0 (ec (.i 0 (ee (.c z1 z1))) .z) t0
 intro _ s' h hs;refine w1 a1.Sections (.l 2 s1) ?_;intro h;refine uN 37 2 [27] (fun s x7=>⟨(27,I6 x7)::gt s [3,4,25,26],gh s [4],[],[]⟩) h ?_ ?_
 ·intro x7 _ h;unfold He at h;exact w1 n0 (ec (.i 0 (ep 3 (ec z1 z1))) .z) t0
 intro _ s' h hs;exact w1 n0 z1 t0⟩
def Ps(a0:Ja)(a1:Jh)(r1:(Kn×Bool)):(Bool×Jf×(List Jb))->Option ((Bool×Jf×(List Jb))⊕((List Jb)⊕Jh)):=fun (x24,x25,x26)=>
 ((bif x24 then (
  (Cd a0 x26).bind fun r39=>
  some (decide (r39<r1.1.Overlap))
 ) else some false)).bind fun b38=>
 ((bif b38 then (
  some (decide (((x26.length:Nat):Int)<12))
 ) else some false)).bind fun b40=>
 ((bif b40 then (
  (Cz a0 (Jh.mk a1.Name a1.Entry a1.Exit a1.Path a1.Points a1.Sections a1.Approach a1.Length x26 [] [] a1.Flank a1.Guards a1.Gaps) x26 x25.El).bind fun r42=>
  some (!r42)
 ) else some false)).bind fun b41=>
 bif b41 then (
  (Br a0 x25).bind fun r43=>
  bif decide (((r43.length:Nat):Int)=0) then (
   some (.inr (.inl x26))
  ) else (
   (ixO r43 0).bind fun x44=>
   (Qi x26 [x44]).bind fun x45=>
   (ixO r43 0).bind fun x46=>
   (Dk a0 x46).bind fun r47=>
   some (.inl (r47.2,r47.1,x45))
  )
 ) else (
  some (.inr (.inl x26))
 )
def Lc(a0:Ja)(a1:Jh):Option Jh :=
 (Iy a0 (Jh.mk a1.Name a1.Entry a1.Exit a1.Path a1.Points a1.Sections a1.Approach a1.Length [] [] [] a1.Flank a1.Guards a1.Gaps)).bind fun r1=>
 bif (!r1.2) then (
  some (Jh.mk a1.Name a1.Entry a1.Exit a1.Path a1.Points a1.Sections a1.Approach a1.Length [] [] [] a1.Flank a1.Guards a1.Gaps)
 ) else (
  (Yf a0 r1.1.At).bind fun r2=>
  onInl (Jp (Ps a0 a1 r1) (r2.2,r2.1,[])) fun x37=>
  (Bq a0 x37).bind fun r48=>
  (Wv a0 x37).bind fun r49=>
  some (Jh.mk a1.Name a1.Entry a1.Exit a1.Path a1.Points a1.Sections a1.Approach a1.Length x37 r48 r49 a1.Flank a1.Guards a1.Gaps)
 )
instance (a0:Ja)(a1:Jh):Cp (Lc a0 a1) 68 [Enc.pv a0,Enc.pv a1] Enc.pv:=⟨fun r h=>by
 unfold Lc at h;refine zG f68 ?_;refine w1 n0 (ee (ee (.p 2 (ee (.c z1 (.p 3 S1)))))) ?_;intro _ _ h;refine Jo (Kj (Ko (Qk (Rt 3 8 200308 3 24 (cs:=[.str a1.Name,I6 a1.Entry,I6 a1.Exit,Ji .frozen a1.Path,Ji .frozen a1.Points,Ji .frozen a1.Sections,I6 a1.Approach,I6 a1.Length,.nil,.nil,.nil,Ji .frozen a1.Flank,Ji .frozen a1.Guards,Ji .frozen a1.Gaps]) kr kr kr) ?_)));refine uL 88 0 (fun s (x24,x25,x26)=>⟨(8,.bool x24)::gt s [2,3,4,5,7],(3,.cells ([.str a1.Name,I6 a1.Entry,I6 a1.Exit,Ji .frozen a1.Path,Ji .frozen a1.Points,Ji .frozen a1.Sections,I6 a1.Approach,I6 a1.Length,Ji (.own 200308) x26,.nil,.nil,Ji .frozen a1.Flank,Ji .frozen a1.Guards,Ji .frozen a1.Gaps]))::(7,.cells (cellsOf x25))::gh s [2,4,5],[(200308,(((x26).map cellsOf).length,3))],[]⟩) (fun s x37=>⟨gt s [2,3,4],(3,.cells ([.str a1.Name,I6 a1.Entry,I6 a1.Exit,Ji .frozen a1.Path,Ji .frozen a1.Points,Ji .frozen a1.Sections,I6 a1.Approach,I6 a1.Length,Ji (.own 200308) x37,.nil,.nil,Ji .frozen a1.Flank,Ji .frozen a1.Guards,Ji .frozen a1.Gaps]))::gh s [2,4],[(200308,(((x37).map cellsOf).length,3))],[]⟩) h ?_ ?_
 ·rintro ⟨x24,x25,x26⟩ _ h;unfold Ps at h;refine w1 x26 (.b 2 8 38 (.g 0 (.p 3 .z) .z) (.b 1 5 44 (.g 0 (.l 2 .z) .z) (.b 1 9 54 (.g 0 (.p 6 .z) .z) (ec (.p 2 s1) .z)))) ?_;intro _ _ _ r43 h;refine yl 1 r43 (w1 n0 (ec .S (.i 3 (.w 2 (ei 2 (.p 1 z1))))) ?_);intro h;exact Jjd (Jef (Jus rfl (w1 n0 .z t0)))
 intro x37 s' h hs;exact w1 n0 (.p 3 (ep 3 z2)) t0⟩
def Eg(a1:Jb)(x2:Jt)(r3:(Int×Bool)):(Int×(List Jf))->Option ((Int×(List Jf))⊕((List Jf)⊕(List Jf))):=fun (x13,x14)=>
 (Gn x2.Kind).bind fun r20=>
 bif decide (x13<r20) then (
  onInl (α:=(List Jf)) (β:=((Int×(List Jf))⊕((List Jf)⊕(List Jf)))) (
   bif ((r3.2&&(!(decide (x13=a1.In))))&&(!(decide (x13=a1.Out)))) then (
    (Qi x14 [(Jf.mk a1.El x13)]).bind fun x23=>
    some (.inl x23)
   ) else (
    some (.inl x14)
   )
  ) fun x22=>
  some (.inl (w64 (x13+1),x22))
 ) else (
  some (.inr (.inl x14))
 )
def Cb(a0:Ja)(a1:Jb):Option (List Jf) :=
 ((bif decide (a1.El<0) then some true else (
  some (decide (((a0.Elements.length:Nat):Int)<=a1.El))
 ))).bind fun b1=>
 bif b1 then (
  some ([]:(List Jf))
 ) else (
  (ixO a0.Elements a1.El).bind fun x2=>
  (Bc x2.Kind a1.In a1.Out).bind fun r3=>
  onInl (Jp (Eg a1 x2 r3) (0,[])) fun x19=>
  some x19
 )
theorem Jjl(a0:Ja)(a1:Jb)(r:(List Jf))(h:Cb a0 a1=some r):Yx prog GlS 196 [Enc.pv a0,Enc.pv a1] (Ji (.own 100008) r):=by
 unfold Cb at h;refine zG f196 ?_;refine w6 a0.Elements (.e (.b 4 7 20 (.g 0 .z (.l 4 .z)) (ec S1 (.i 4 (ep 5 (ee S1)))))) ?_ ?_ t0 t0 t0 t0
 ·intro _ h;exact Jo (Wz 4 100008 2 16 kr kr (w1 n0 .z t0))
 intro _ _ _ h;refine Jo (Ko (Wz 8 100008 2 16 kr kr ?_));refine uM 64 0 [9] (fun s (x13,x14)=>⟨(8,Ji (.own 100008) x14)::(9,I6 x13)::gt s [3,5,7],gh s [3],[(100008,(((x14).map cellsOf).length,2))],[]⟩) h ?_ ?_
 ·rintro ⟨x13,x14⟩ _ h;unfold Eg at h;refine w1 n0 (.p 2 (ec .s .z)) ?_;intro _ h;refine uJ 64 (fun s x22=>⟨(8,Ji (.own 100008) x22)::gt s [3,5,7,9],gh s [3],[(100008,(((x22).map cellsOf).length,2))],[]⟩) h ?_ ?_
  ·intro _ h;exact w1 n0 (.o 2 5 49 1 (.o 1 5 55 0 (ec (.w 6 z1) .z))) t0
  intro x22 h;exact w1 n0 z1 t0
 intro x19 s' h hs;exact w1 n0 z1 t0
instance (a0:Ja)(a1:Jb):Cp (Cb a0 a1) 196 [Enc.pv a0,Enc.pv a1] Enc.pv:=⟨fun r h=>
 (Jjl a0 a1 r h).freeze kr kr kr⟩
def Gb(a0:Ja)(a1:Jh):(Int×(List Jf))->Option ((Int×(List Jf))⊕((List Jf)⊕(List Jf))):=fun (x8,x9)=>
 bif decide (x8<((a1.Path.length:Nat):Int)) then (
  (ixO a1.Path x8).bind fun x14=>
  (Cb a0 x14).bind fun r15=>
  (Qi x9 r15).bind fun x16=>
  some (.inl (w64 (x8+1),x16))
 ) else (
  some (.inr (.inl x9))
 )
def Fs(a0:Ja)(a1:Jh):((List Jf)×Int)->Option (((List Jf)×Int)⊕((List Jf)⊕(List Jf))):=fun (x20,x21)=>
 bif decide (x21<((a1.Over.length:Nat):Int)) then (
  (ixO a1.Over x21).bind fun x26=>
  (Cb a0 x26).bind fun r27=>
  (Qi x20 r27).bind fun x28=>
  some (.inl (x28,w64 (x21+1)))
 ) else (
  some (.inr (.inl x20))
 )
def Na(a0:Ja)(a1:Jh):Option (List Jf) :=
 onInl (Jp (Gb a0 a1) (0,[])) fun x13=>
 onInl (Jp (Fs a0 a1) (x13,0)) fun x25=>
 some x25
instance (a0:Ja)(a1:Jh):Cp (Na a0 a1) 126 [Enc.pv a0,Enc.pv a1] (fun r=>Ji (.own 100005) r):=⟨fun r h=>by
 unfold Na at h;refine zG f126 ?_;refine w1 n0 (ee S1) ?_;intro h;refine Jo (Ko (Wz 5 100005 2 16 kr kr ?_));refine uM 41 0 [6] (fun s (x8,x9)=>⟨(5,Ji (.own 100005) x9)::(6,I6 x8)::gt s [2,3],gh s [2,3],[(100005,(((x9).map cellsOf).length,2))],[]⟩) h ?_ ?_
 ·rintro ⟨x8,x9⟩ _ h;unfold Gb at h;exact w1 a1.Path (.l 3 (ec (.i 5 (.p 1 (.w 0 z2))) .z)) t0
 intro x13 s' h hs;refine w1 n0 s1 ?_;intro h;refine uL 41 2 (fun s (x20,x21)=>⟨(5,Ji (.own 100005) x20)::(7,I6 x21)::gt s [2,3],gh s [2,3],[(100005,(((x20).map cellsOf).length,2))],[]⟩) (fun _ x25=>⟨[(5,Ji (.own 100005) x25)],[],[(100005,(((x25).map cellsOf).length,2))],[]⟩) h ?_ ?_
 ·rintro ⟨x20,x21⟩ _ h;unfold Fs at h;exact w1 a1.Over (.l 3 (ec (.i 5 (.p 1 (.w 0 z2))) .z)) t0
 intro x25 s' h hs;exact w1 n0 z1 t0⟩
def Rz(a0:(List Jb))(a1:Int):Int->Option (Int⊕(Unit⊕Bool)):=fun x2=>
 bif decide (x2<((a0.length:Nat):Int)) then (
  (ixO a0 x2).bind fun x4=>
  bif decide (x4.El=a1) then (
   some (.inr (.inr true))
  ) else (
   some (.inl (w64 (x2+1)))
  )
 ) else (
  some (.inr (.inl ()))
 )
def Zy(a0:(List Jb))(a1:Int):Option Bool :=
 onInl (Jp (Rz a0 a1) 0) fun _=>
 some false
instance (a0:(List Jb))(a1:Int):Cp (Zy a0 a1) 197 [Enc.pv a0,Enc.pv a1] Enc.pv:=⟨fun r h=>by
 unfold Zy at h;refine zG f197 ?_;refine w1 n0 s2 ?_;intro h;refine uN 19 0 [5] (fun s x2=>⟨(5,I6 x2)::gt s [0,1],[],[],[]⟩) h ?_ ?_
 ·intro x2 _ h;unfold Rz at h;exact w1 a0 (.l 2 (ec (.i 2 (ec z1 z1)) .z)) t0
 intro _ s' h hs;exact w1 n0 z1 t0⟩
def Xj(a0:(List Jg))(a1:Jg):Int->Option (Int⊕(Unit⊕Bool)):=fun x2=>
 bif decide (x2<((a0.length:Nat):Int)) then (
  (ixO a0 x2).bind fun x4=>
  bif Wu x4 a1 then (
   some (.inr (.inr true))
  ) else (
   some (.inl (w64 (x2+1)))
  )
 ) else (
  some (.inr (.inl ()))
 )
def Dl(a0:(List Jg))(a1:Jg):Option Bool :=
 onInl (Jp (Xj a0 a1) 0) fun _=>
 some false
instance (a0:(List Jg))(a1:Jg):Cp (Dl a0 a1) 200 [Enc.pv a0,Enc.pv a1] Enc.pv:=⟨fun r h=>by
 unfold Dl at h;refine zG f200 ?_;refine w1 n0 s2 ?_;intro h;refine uN 18 0 [5] (fun s x2=>⟨(5,I6 x2)::gt s [0,3],gh s [3],[],[]⟩) h ?_ ?_
 ·intro x2 _ h;unfold Xj at h;exact w1 a0 (.l 2 (ec (.i 2 (ec z1 z1)) .z)) t0
 intro _ s' h hs;exact w1 n0 z1 t0⟩
def Mo(a0:Jh)(a1:Jg):Option Bool :=
 (Dl a0.Points a1).bind fun r1=>
 ((bif r1 then some true else (
  (Dl a0.OverPoints a1).bind fun r3=>
  some r3
 ))).bind fun b2=>
 ((bif b2 then some true else (
  (Dl a0.Flank a1).bind fun r5=>
  some r5
 ))).bind fun b4=>
 some b4
instance (a0:Jh)(a1:Jg):Cp (Mo a0 a1) 261 [Enc.pv a0,Enc.pv a1] Enc.pv:=⟨fun r h=>by
 unfold Mo at h;refine zG f261 ?_;exact w1 n0 (ep 3 (.b 1 5 14 (.g 0 .z (.p 3 .z)) (.b 1 5 20 (.g 0 .z (.p 3 .z)) z1))) t0⟩
def Xt(a0:Jh)(a1:Jf):Option (Jg×Int×Bool) :=
 onInl (α:=(Int×Int)) (β:=(Jg×Int×Bool)) (
  bif decide (a1.Side=2) then (
   some (.inl (2,1))
  ) else (
   some (.inl (1,2))
  )
 ) fun (x1,x2)=>
 (Mo a0 (Jg.mk a1.El x1)).bind fun r3=>
 bif r3 then (
  some ((Jg.mk 0 0),(-1),false)
 ) else (
  some ((Jg.mk a1.El x2),(-1),true)
 )
instance (a0:Jh)(a1:Jf):Cp (Xt a0 a1) 198 [Enc.pv a0,Enc.pv a1] (fun r=>.tup [Enc.pv r.1,Enc.pv r.2.1,Enc.pv r.2.2]):=⟨fun r h=>by
 unfold Xt at h;refine zG f198 ?_;refine w1 n0 (ee S1) ?_;intro h;refine Jo ?_;refine uJ 29 (fun s (x1,x2)=>⟨gt s [2,4,7,8],(7,.cells ([I6 a1.El,I6 x1]))::(8,.cells ([I6 a1.El,I6 x2]))::gh s [2,4],[],[]⟩) h ?_ ?_
 ·intro _ h;exact w1 n0 (ec z2 .z) t0
 rintro ⟨x1,x2⟩ h;exact w1 n0 (.p 2 (ec z1 z1)) t0⟩
def Jh2(a0:Int)(a1:Int)(a2:Int):Int->Option (Int⊕(Unit⊕(Int×Bool))):=fun x2=>
 bif decide (x2<4) then (
  (Bc a0 a1 x2).bind fun r4=>
  bif (r4.2&&((decide (r4.1=0))||(decide (r4.1=a2)))) then (
   some (.inr (.inr (x2,true)))
  ) else (
   some (.inl (w64 (x2+1)))
  )
 ) else (
  some (.inr (.inl ()))
 )
def Jcy(a0:Int)(a1:Int)(a2:Int):Option (Int×Bool) :=
 onInl (Jp (Jh2 a0 a1 a2) 0) fun _=>
 some (0,false)
instance (a0:Int)(a1:Int)(a2:Int):Cp (Jcy a0 a1 a2) 199 [Enc.pv a0,Enc.pv a1,Enc.pv a2] (fun r=>.tup [Enc.pv r.1,Enc.pv r.2]):=⟨fun r h=>by
 unfold Jcy at h;refine zG f199 ?_;refine w1 n0 s2 ?_;intro h;refine uN 33 0 [8] (fun s x2=>⟨(8,I6 x2)::gt s [0,1,2],[],[],[]⟩) h ?_ ?_
 ·intro x2 _ h;unfold Jh2 at h;exact w1 n0 (ec (.p 3 (.e (.o 2 8 31 0 (ec z1 z1)))) .z) t0
 intro _ s' h hs;exact w1 n0 z1 t0⟩
end
end PM
