/-
 Plain functions for the program's functions, and the proofs that the program does them. Printed by den.py.
-/
import Derived.Test.YtfpoeepcomnjhaaGreatDoorDen0
namespace PM
noncomputable section
open Go Go.RowKit Go.Proofs
attribute [local irreducible] Kl pwp
def Zz (a0:Jd) (a1:(List Jh)):(Int×(List Int))→Option ((Int×(List Int))⊕((List Int)⊕(List Int))):=fun (x40,x41) =>
 bif decide (x40<((a1.length:Nat):Int)) then (
  onInl (α:=(List Int)) (β:=((Int×(List Int))⊕((List Int)⊕(List Int)))) (
   (ixO a1 x40).bind fun x72 =>
   (Yb a0 x72.El).bind fun r73 =>
   ((bif r73 then (
    (ixO a1 x40).bind fun x75 =>
    (ixO a0.Elements x75.El).bind fun x76 =>
    (Pp x41 x76.Section).bind fun r77 =>
    some (!r77)
   ) else some false):Option Bool).bind fun b74 =>
   bif b74 then (
    (ixO a1 x40).bind fun x78 =>
    (ixO a0.Elements x78.El).bind fun x79 =>
    (Ul x41 [x79.Section]).bind fun x80 =>
    some (.inl x80)
   ) else (
    some (.inl x41)
   )
  ) fun x71 =>
  some (.inl (w64 (x40+1),x71))
 ) else (
  some (.inr (.inl x41))
 )
def Vu (a0:Jd) (a1:(List Jh)):Option (List Int) :=
 onInl (α:=(List Int)) (β:=(List Int)) (Ki (Zz a0 a1) (0,([]:(List Int)))) fun x61 =>
 some x61
theorem Hi (a0:Jd) (a1:(List Jh)) (r:(List Int)) (h:Vu a0 a1=some r):Kg Tryz.prog GlS 136 [Enc.pv a0,Enc.pv a1] (Jk (.own 100005) r):=by
 unfold Vu at h;refine zC Tryz.func136 Tryz.ntmps136 ?_;refine Ja (Jc (zE (Jb (Ja (Jc (zE (Jb (Ja (Ja (Jc (zE (Jb (Jl ?_)))))))))))));refine Yz 5 100005 1 8 (by kernel_rfl) (by kernel_rfl) ?_;obtain ⟨o59,h59,h⟩:=Kf h;refine zA 49 0 (fun (x40,x41)=>⟨[(1,Jk .frozen a1),(2,.ref 2 0),(5,Jk (.own 100005) x41),(6,I6 x40)],[(2,.cells (cellsOf a0))],[(100005,(((x41).map cellsOf).length,1))],[]⟩) (fun x61=>⟨[(5,Jk (.own 100005) x61)],[],[(100005,(((x61).map cellsOf).length,1))],[]⟩) h59 ?_ ?_
 ·rintro ⟨x40,x41⟩ oh58 h58;unfold Zz at h58;refine Ja (Ja (Jc (zR 2 ?_)));refine zL (L:=a1) ?_;refine zE (Jb ?_);rcases Ji h58 with ⟨hb,h58⟩|⟨hb,h58⟩
  ·refine zT hb (Jg (Jb ?_));obtain ⟨o69,h69,h58⟩:=Kf h58;refine Qm (o:=o69) 49 (fun x71=>⟨[(1,Jk .frozen a1),(2,.ref 2 0),(5,Jk (.own 100005) x71),(6,I6 x40)],[(2,.cells (cellsOf a0))],[(100005,(((x71).map cellsOf).length,1))],[]⟩) ?_ ?_
   ·refine Jl (Ja (zD (zR 3 ?_)));obtain ⟨x72,h70,h69⟩:=Je h69;refine zI h70 (zR 2 ?_);obtain ⟨r73,h71,h69⟩:=Je h69;refine zP (Fb _ _ r73 h71) ?_;obtain ⟨b74,h72,h69⟩:=Je h69;refine zR 1 ?_;refine Ko 14 34 (.bool b74) ?_ ?_
    ·rcases Ji h72 with ⟨hb,h72⟩|⟨hb,h72⟩
     ·refine zS 20 hb (zR 5 ?_);obtain ⟨x75,h73,h72⟩:=Je h72;refine zI h73 (zR 2 ?_);obtain ⟨x76,h74,h72⟩:=Je h72;refine zI h74 (zR 2 ?_);obtain ⟨r77,h75,h72⟩:=Je h72;refine zP (Jm0 _ _ r77 h75) ?_;cases h72;exact zF
     refine zS 20 hb ?_;cases h72;exact zF
    refine zN (Jb ?_);rcases Ji h69 with ⟨hb,h69⟩|⟨hb,h69⟩
    ·refine zT hb (zD (zR 5 ?_));obtain ⟨x78,h76,h69⟩:=Je h69;refine zI h76 (zR 2 ?_);obtain ⟨x79,h77,h69⟩:=Je h69;refine zI h77 (zR 3 ?_);obtain ⟨x80,h78,h69⟩:=Je h69;refine zW (tk:=100005) h78 ?_;refine zE (Jx ?_);cases h69;exact zJ
    refine zU hb (Jg (Jx ?_));cases h69;exact zJ
   rintro x71 rfl;have h58:=Ka h58;refine Jc (zE ?_);cases h58;exact zB
  refine zU hb (Jv (Jt ?_));cases h58;exact zX
 rintro x61 s' rfl hs;have h:=Ka h;refine Jr (Jb (Jy hs (Ja (Jc (zE (Jb (Jm ?_)))))));cases h;exact zQ
theorem Jga (a0:Jd) (a1:(List Jh)) (r:(List Int)) (h:Vu a0 a1=some r):Kg Tryz.prog GlS 136 [Enc.pv a0,Enc.pv a1] (Enc.pv r) :=
 (Hi a0 a1 r h).freeze (by kernel_rfl) (by kernel_rfl) (by kernel_rfl)
def Jev (a0:Jd) (a2:(List Jh)):(Int×Int)→Option ((Int×Int)⊕(Int⊕Bool)):=fun (x17,x18) =>
 bif decide (x18<((a2.length:Nat):Int)) then (
  onInl (α:=Int) (β:=((Int×Int)⊕(Int⊕Bool))) (
   (ixO a2 x18).bind fun x34 =>
   (Vf a0 x34.El).bind fun r35 =>
   (ixO a2 (w64 (x18 - 1))).bind fun x36 =>
   (Vf a0 x36.El).bind fun r37 =>
   bif (!(decide (r35=r37))) then (
    some (.inl (w64 (x17+1)))
   ) else (
    some (.inl x17)
   )
  ) fun x33 =>
  some (.inl (x33,w64 (x18+1)))
 ) else (
  some (.inr (.inl x17))
 )
def Jb2 (a0:Jd) (a1:Jo) (a2:(List Jh)):Option Bool :=
 ((bif decide (((a2.length:Nat):Int)=0) then some true else (
  some (decide (12<((a2.length:Nat):Int)))
 )):Option Bool).bind fun b1 =>
 ((bif b1 then some true else (
  (ixO a2 0).bind fun x3 =>
  some (!(decide (x3.El=a1.El)))
 )):Option Bool).bind fun b2 =>
 ((bif b2 then some true else (
  (ixO a2 0).bind fun x5 =>
  some (!(decide (x5.In=a1.Side)))
 )):Option Bool).bind fun b4 =>
 ((bif b4 then some true else (
  (Et a0 a2).bind fun r7 =>
  some (!r7)
 )):Option Bool).bind fun b6 =>
 bif b6 then (
  some false
 ) else (
  onInl (α:=Int) (β:=Bool) (Ki (Jev a0 a2) (1,1)) fun x28 =>
  (Vu a0 a2).bind fun r38 =>
  some (decide (x28=((r38.length:Nat):Int)))
 )
theorem Jl0 (a0:Jd) (a1:Jo) (a2:(List Jh)) (r:Bool) (h:Jb2 a0 a1 a2=some r):Kg Tryz.prog GlS 259 [Enc.pv a0,Enc.pv a1,Enc.pv a2] (Enc.pv r):=by
 unfold Jb2 at h;refine zC Tryz.func259 Tryz.ntmps259 ?_;refine Ja (Jc (zE (Jb (Ja (Ja (zD (zR 1 ?_)))))));refine zL (L:=a2) ?_;obtain ⟨b1,h1,h⟩:=Je h;refine zR 2 ?_;refine Ko 4 16 (.bool b1) ?_ ?_
 ·rcases Ji h1 with ⟨hb,h1⟩|⟨hb,h1⟩
  ·refine zS 12 hb ?_;cases h1;exact zF
  refine zS 12 hb (zR 1 ?_);refine zL (L:=a2) ?_;cases h1;exact zF
 obtain ⟨b2,h2,h⟩:=Je h;refine zR 1 ?_;refine Ko 8 25 (.bool b2) ?_ ?_
 ·rcases Ji h2 with ⟨hb,h2⟩|⟨hb,h2⟩
  ·refine zS 17 hb ?_;cases h2;exact zF
  refine zS 17 hb (zR 1 ?_);obtain ⟨x3,h3,h2⟩:=Je h2;refine zI h3 ?_;cases h2;exact zF
 obtain ⟨b4,h4,h⟩:=Je h;refine zR 1 ?_;refine Ko 8 34 (.bool b4) ?_ ?_
 ·rcases Ji h4 with ⟨hb,h4⟩|⟨hb,h4⟩
  ·refine zS 26 hb ?_;cases h4;exact zF
  refine zS 26 hb (zR 1 ?_);obtain ⟨x5,h5,h4⟩:=Je h4;refine zI h5 ?_;cases h4;exact zF
 obtain ⟨b6,h6,h⟩:=Je h;refine zR 1 ?_;refine Ko 5 40 (.bool b6) ?_ ?_
 ·rcases Ji h6 with ⟨hb,h6⟩|⟨hb,h6⟩
  ·refine zS 35 hb ?_;cases h6;exact zF
  refine zS 35 hb (zR 2 ?_);obtain ⟨r7,h7,h6⟩:=Je h6;refine zP (Jbb _ _ r7 h7) ?_;cases h6;exact zF
 refine zN (Jb ?_);rcases Ji h with ⟨hb,h⟩|⟨hb,h⟩
 ·refine zT hb (Ja (Jc (zE (Jb (Jm (Jj ?_))))));cases h;exact zQ
 refine zU hb (Jg (Jb (Ja (Jc (zE (Jb (Ja (Ja (Jc (zE (Jb (Jl ?_))))))))))));obtain ⟨o27,h27,h⟩:=Kf h;refine zA 71 0 (fun (x17,x18)=>⟨[(2,Jk .frozen a2),(3,.ref 3 0),(7,I6 x17),(8,I6 x18)],[(3,.cells (cellsOf a0))],[],[]⟩) (fun x28=>⟨[(2,Jk .frozen a2),(3,.ref 3 0),(7,I6 x28)],[(3,.cells (cellsOf a0))],[],[]⟩) h27 ?_ ?_
 ·rintro ⟨x17,x18⟩ oh26 h26;unfold Jev at h26;refine Ja (Ja (Jc (zR 2 ?_)));refine zL (L:=a2) ?_;refine zE (Jb ?_);rcases Ji h26 with ⟨hb,h26⟩|⟨hb,h26⟩
  ·refine zT hb (Jg (Jb ?_));obtain ⟨o32,h32,h26⟩:=Kf h26;refine Qm (o:=o32) 71 (fun x33=>⟨[(2,Jk .frozen a2),(3,.ref 3 0),(7,I6 x33),(8,I6 x18)],[(3,.cells (cellsOf a0))],[],[]⟩) ?_ ?_
   ·refine Jl (Ja (zD (zR 3 ?_)));obtain ⟨x34,h33,h32⟩:=Je h32;refine zI h33 (zR 2 ?_);obtain ⟨r35,h34,h32⟩:=Je h32;refine zP (Wu _ _ r35 h34) (zR 4 ?_);obtain ⟨x36,h35,h32⟩:=Je h32;refine zI h35 (zR 2 ?_);obtain ⟨r37,h36,h32⟩:=Je h32;refine zP (Wu _ _ r37 h36) (zE (Jb ?_));rcases Ji h32 with ⟨hb,h32⟩|⟨hb,h32⟩
    ·refine zT hb (Jc (zE (Jx ?_)));cases h32;exact zJ
    refine zU hb (Jg (Jx ?_));cases h32;exact zJ
   rintro x33 rfl;have h26:=Ka h26;refine Jc (zE ?_);cases h26;exact zB
  refine zU hb (Jv (Jt ?_));cases h26;exact zX
 rintro x28 s' rfl hs;have h:=Ka h;refine Jr (Jb (Jy hs (Ja (Jc (zR 3 ?_)))));obtain ⟨r38,h37,h⟩:=Je h;refine zP (Hi _ _ r38 h37) ?_;refine zL (L:=r38) ?_;refine zE (Jb (Jm ?_));cases h;exact zQ
def Jbc (a0:Jd) (a1:Jo):Int→Option (Int⊕(Unit⊕Int)):=fun x2 =>
 bif decide (x2<((a0.Signals.length:Nat):Int)) then (
  (ixO a0.Signals x2).bind fun x4 =>
  bif Kj x4.At a1 then (
   some (.inr (.inr x2))
  ) else (
   some (.inl (w64 (x2+1)))
  )
 ) else (
  some (.inr (.inl ()))
 )
def Db (a0:Jd) (a1:Jo):Option Int :=
 onInl (α:=Unit) (β:=Int) (Ki (Jbc a0 a1) 0) fun _ =>
 some (-1)
theorem Mj (a0:Jd) (a1:Jo) (r:Int) (h:Db a0 a1=some r):Kg Tryz.prog GlS 81 [Enc.pv a0,Enc.pv a1] (Enc.pv r):=by
 unfold Db at h;refine zC Tryz.func81 Tryz.ntmps81 ?_;refine Ja (Jc (zE (Jb (Ja (Ja (Jc (zR 2 ?_)))))));refine zL (L:=a0.Signals) ?_;refine zE (Jb (Jl ?_));obtain ⟨o6,h6,h⟩:=Kf h;refine zA 21 0 (fun x2=>⟨[(3,.ref 3 0),(8,Jk .frozen a0.Signals),(9,I6 ((a0.Signals.length:Nat):Int)),(10,I6 x2)],[(3,.cells (cellsOf a1))],[],[]⟩) (fun (_:Unit)=>⟨[],[],[],[]⟩) h6 ?_ ?_
 ·rintro x2 oh5 h5;unfold Jbc at h5;refine Ja (Jc (zE (Jb (Ja ?_))));rcases Ji h5 with ⟨hb,h5⟩|⟨hb,h5⟩
  ·refine zT hb (Jg (Jb (Ja (Jl (Ja (Jc (zR 1 ?_)))))));obtain ⟨x4,h7,h5⟩:=Je h5;refine zI h7 (zE (Jb (Ja (Jc (zE (Jb ?_))))));rcases Ji h5 with ⟨hb,h5⟩|⟨hb,h5⟩
   ·refine zT hb (Ja (Jc (zE (Jb (Jm (Jp (Jj ?_)))))));cases h5;refine Kc fun he=>?_;subst he;have h8:=Km h;refine Jp (Jj ?_);cases h8;exact zQ
   refine zU hb (Jg (Jx (Jb (Jc (zE ?_)))));cases h5;exact zB
  refine zU hb (Jv (Jt ?_));cases h5;exact zX
 rintro _ s' rfl hs;have h:=Ka h;refine Jr (Jb (Jy hs (Ja (Jc (zE (Jb (Jm ?_)))))));cases h;exact zQ
def Nr (a0:Jd) (a1:Jh):Option (Int×Bool) :=
 (Db a0 (Jo.mk a1.El a1.Out)).bind fun r1 =>
 (Cd a0 a1).bind fun r2 =>
 some (r1,((decide (0≤r1))||(!r2.2)))
theorem Sb (a0:Jd) (a1:Jh) (r:(Int×Bool)) (h:Nr a0 a1=some r):Kg Tryz.prog GlS 193 [Enc.pv a0,Enc.pv a1] (.tup [Enc.pv r.1,Enc.pv r.2]):=by
 unfold Nr at h;refine zC Tryz.func193 Tryz.ntmps193 ?_;refine Ja (Jc (zE (Jb (Ja (Jc (zR 6 ?_))))));obtain ⟨r1,h1,h⟩:=Je h;refine zP (Mj _ _ r1 h1) (zE (Jb (Ja (Jc (zR 2 ?_)))));obtain ⟨r2,h2,h⟩:=Je h;refine zP (It _ _ r2 h2) (zE (Jb (Ja (Jc (zR 4 ?_)))));refine Ks 3 28 ((decide (0≤r1))||(!r2.2)) (fun x hx=>?_) ?_
 ·rcases Vi hx with ⟨hb,hx⟩|⟨hb,hx⟩
  ·refine zS 25 hb ?_;subst hx;exact zF
  refine zS 25 hb ?_;subst hx;exact zF
 refine zE (Jb (Jm ?_));cases h;exact zQ
def Mk (rc_d_ref12_Paths_search:Kd→Jd→Jo→Jo→(List Jh)→Option Kd) (a1:Jd) (a2:Jo) (a4:(List Jh)) (r1:(List Jh)):(Int×(List (List Jh)))→Option ((Int×(List (List Jh)))⊕((List (List Jh))⊕Kd)):=fun (x23,x24) =>
 bif decide (x23<((r1.length:Nat):Int)) then (
  onInl (α:=(List (List Jh))) (β:=((Int×(List (List Jh)))⊕((List (List Jh))⊕Kd))) (
   (Ul ([]:(List Jh)) a4).bind fun x58 =>
   (ixO r1 x23).bind fun x59 =>
   (Ul x58 [x59]).bind fun x60 =>
   (Jb2 a1 a2 x60).bind fun r61 =>
   bif (!r61) then (
    some (.inl x24)
   ) else (
    (ixO r1 x23).bind fun x62 =>
    (Nr a1 x62).bind fun r63 =>
    bif r63.2 then (
     (Ul x24 [x60]).bind fun x64 =>
     some (.inl x64)
    ) else (
     (ixO r1 x23).bind fun x65 =>
     (Cd a1 x65).bind fun r66 =>
     (rc_d_ref12_Paths_search (Kd.mk x24) a1 a2 r66.1 x60).bind fun r67 =>
     some (.inl r67.L)
    )
   )
  ) fun x57 =>
  some (.inl (w64 (x23+1),x57))
 ) else (
  some (.inr (.inl x24))
 )
def Zd (rc_d_ref12_Paths_search:Kd→Jd→Jo→Jo→(List Jh)→Option Kd) (a0:Kd) (a1:Jd) (a2:Jo) (a3:Jo) (a4:(List Jh)):Option Kd :=
 (Gi a1 a3).bind fun r1 =>
 onInl (α:=(List (List Jh))) (β:=Kd) (Ki (Mk rc_d_ref12_Paths_search a1 a2 a4 r1) (0,a0.L)) fun x46 =>
 some (Kd.mk x46)
theorem He (rc_d_ref12_Paths_search:Kd→Jd→Jo→Jo→(List Jh)→Option Kd) (hrc_d_ref12_Paths_search:∀ (a0:Kd) (a1:Jd) (a2:Jo) (a3:Jo) (a4:(List Jh)) (r:Kd),rc_d_ref12_Paths_search a0 a1 a2 a3 a4=some r→Jp5 Tryz.prog GlS 192 (some (.cells [.ex 1000000000 1 24 (((a0.L:(List (List Jh))).map cellsOf).length) 0 (((a0.L:(List (List Jh))).map cellsOf).length)])) [(1,24,(a0.L:(List (List Jh))).map cellsOf)] [.ref 1000000 0,Enc.pv a1,Enc.pv a2,Enc.pv a3,Enc.pv a4] (.tup []) (some (.cells [.ex 1000000000 1 24 (((r.L:(List (List Jh))).map cellsOf).length) 0 (((r.L:(List (List Jh))).map cellsOf).length)])) [(1,24,(r.L:(List (List Jh))).map cellsOf)]) (a0:Kd) (a1:Jd) (a2:Jo) (a3:Jo) (a4:(List Jh)) (r:Kd) (h:Zd rc_d_ref12_Paths_search a0 a1 a2 a3 a4=some r):Jp5 Tryz.prog GlS 192 (some (.cells [.ex 1000000000 1 24 (((a0.L:(List (List Jh))).map cellsOf).length) 0 (((a0.L:(List (List Jh))).map cellsOf).length)])) [(1,24,(a0.L:(List (List Jh))).map cellsOf)] [.ref 1000000 0,Enc.pv a1,Enc.pv a2,Enc.pv a3,Enc.pv a4] (.tup []) (some (.cells [.ex 1000000000 1 24 (((r.L:(List (List Jh))).map cellsOf).length) 0 (((r.L:(List (List Jh))).map cellsOf).length)])) [(1,24,(r.L:(List (List Jh))).map cellsOf)]:=by
 unfold Zd at h;refine Jr6 Tryz.func192 (by rfl) rfl Tryz.ntmps192 (by rfl) rfl rfl (of_decide_eq_true rfl) (by kernel_rfl) ?_;refine Ja (Jc (zE (Jb (Ja (Jc (zR 2 ?_))))));obtain ⟨r1,h1,h⟩:=Je h;refine zP (Si _ _ r1 h1) (zE (Jb (Ja (Jc (zE (Jb (Jl ?_)))))));obtain ⟨o45,h45,h⟩:=Kf h;refine zA 76 0 (fun (x23,x24)=>⟨[(0,.ref 1000000 0),(4,Jk .frozen a4),(6,.ref 6 0),(7,.ref 7 0),(10,Jk (.own 119006) r1),(11,I6 x23)],[(6,.cells (cellsOf a1)),(7,.cells (cellsOf a2)),(1000000,.cells ([.ex 1000000000 1 24 ((x24.map cellsOf).length) 0 ((x24.map cellsOf).length)]))],[(119006,(((r1).map cellsOf).length,3)),(1000000000,((x24.map cellsOf).length,0))],[(1000000000,(1,(24,x24.map cellsOf)))]⟩) (fun x46=>⟨[],[(1000000,.cells ([.ex 1000000000 1 24 ((x46.map cellsOf).length) 0 ((x46.map cellsOf).length)]))],[(1000000000,((x46.map cellsOf).length,0))],[(1000000000,(1,(24,x46.map cellsOf)))]⟩) h45 ?_ ?_
 ·rintro ⟨x23,x24⟩ oh44 h44;unfold Mk at h44;refine Ja (Ja (Jc (zR 2 ?_)));refine zL (L:=r1) ?_;refine zE (Jb ?_);rcases Ji h44 with ⟨hb,h44⟩|⟨hb,h44⟩
  ·refine zT hb (Jg (Jb ?_));obtain ⟨o56,h56,h44⟩:=Kf h44;refine Qm (o:=o56) 76 (fun x57=>⟨[(0,.ref 1000000 0),(4,Jk .frozen a4),(6,.ref 6 0),(7,.ref 7 0),(10,Jk (.own 119006) r1),(11,I6 x23)],[(6,.cells (cellsOf a1)),(7,.cells (cellsOf a2)),(1000000,.cells ([.ex 1000000000 1 24 ((x57.map cellsOf).length) 0 ((x57.map cellsOf).length)]))],[(119006,(((r1).map cellsOf).length,3)),(1000000000,((x57.map cellsOf).length,0))],[(1000000000,(1,(24,x57.map cellsOf)))]⟩) ?_ ?_
   ·refine Jl (Ja (Jc (zE (Jb (Ja (Jc (zR 2 ?_)))))));obtain ⟨x58,h57,h56⟩:=Je h56;refine Tj (tk:=28) h57 (by kernel_rfl) ?_;refine zE (Jb (Ja (Jc (zR 3 ?_))));obtain ⟨x59,h58,h56⟩:=Je h56;refine zI h58 (zR 2 ?_);obtain ⟨x60,h59,h56⟩:=Je h56;refine zW (tk:=28) h59 ?_;refine zE (Jb (Ja (Ja (Jc (zR 3 ?_)))));obtain ⟨r61,h60,h56⟩:=Je h56;refine zP (Jl0 _ _ _ r61 h60) (zE (Jb ?_));rcases Ji h56 with ⟨hb,h56⟩|⟨hb,h56⟩
    ·refine zT hb (Jv (Jt (Jr ?_)));cases h56;exact zJ
    refine zU hb (Jg (Jb (Ja (zD (zR 3 ?_)))));obtain ⟨x62,h61,h56⟩:=Je h56;refine zI h61 (zR 1 ?_);obtain ⟨r63,h62,h56⟩:=Je h56;refine zP (Sb _ _ r63 h62) (zE (Jb (Ja (Ja (Jc (zE (Jb ?_)))))));rcases Ji h56 with ⟨hb,h56⟩|⟨hb,h56⟩
    ·refine zT hb (Ja (Jc (zR 7 ?_)));obtain ⟨x64,h63,h56⟩:=Je h56;refine Juq (tk:=1000000000) (N:=(x24.map cellsOf).length) h63 (by kernel_rfl) (by kernel_rfl) (by kernel_rfl) ?_;refine zE (Jb (Jv (Jt (Jr ?_))));cases h56;exact zJ
    refine zU hb (Jg (Jb (Ja (zD (zR 3 ?_)))));obtain ⟨x65,h64,h56⟩:=Je h56;refine zI h64 (zR 1 ?_);obtain ⟨r66,h65,h56⟩:=Je h56;refine zP (It _ _ r66 h65) (zE (Jb (Jc (zR 5 ?_))));obtain ⟨r67,h66,h56⟩:=Je h56;refine Jwf (some 1000000) [1000000000] [] none (hrc_d_ref12_Paths_search _ _ _ _ _ r67 h66) (by kernel_rfl) (by kernel_rfl) (by kernel_rfl) (by kernel_rfl) (by kernel_rfl) ?_;refine zN (Jx ?_);cases h56;exact zJ
   rintro x57 rfl;have h44:=Ka h44;refine Jc (zE ?_);cases h44;exact zB
  refine zU hb (Jv (Jt ?_));cases h44;exact zX
 rintro x46 s' rfl hs;have h:=Ka h;refine Jr ?_;cases h;exact Jzu hs (by kernel_rfl) (by kernel_rfl) (by kernel_rfl)
def Zb (n:Nat):Kd→Jd→Jo→Jo→(List Jh)→Option Kd:=Nat.rec (fun _ _ _ _ _=>none) (fun _ ih=>Zd ih) n
theorem Hd : ∀ (n:Nat) (a0:Kd) (a1:Jd) (a2:Jo) (a3:Jo) (a4:(List Jh)) (r:Kd),Zb n a0 a1 a2 a3 a4=some r→Jp5 Tryz.prog GlS 192 (some (.cells [.ex 1000000000 1 24 (((a0.L:(List (List Jh))).map cellsOf).length) 0 (((a0.L:(List (List Jh))).map cellsOf).length)])) [(1,24,(a0.L:(List (List Jh))).map cellsOf)] [.ref 1000000 0,Enc.pv a1,Enc.pv a2,Enc.pv a3,Enc.pv a4] (.tup []) (some (.cells [.ex 1000000000 1 24 (((r.L:(List (List Jh))).map cellsOf).length) 0 (((r.L:(List (List Jh))).map cellsOf).length)])) [(1,24,(r.L:(List (List Jh))).map cellsOf)]
 | 0,_,_,_,_,_,_,h=>by cases h
 | n+1,a0,a1,a2,a3,a4,r,h=>He (Zb n) (Hd n) a0 a1 a2 a3 a4 r h
def Py (a0:Kd) (a1:Jd) (a2:Jo) (a3:Jo) (a4:(List Jh)):Option Kd:=Zd (Zb Jfz) a0 a1 a2 a3 a4
theorem Ja6 (a0:Kd) (a1:Jd) (a2:Jo) (a3:Jo) (a4:(List Jh)) (r:Kd) (h:Py a0 a1 a2 a3 a4=some r):Jp5 Tryz.prog GlS 192 (some (.cells [.ex 1000000000 1 24 (((a0.L:(List (List Jh))).map cellsOf).length) 0 (((a0.L:(List (List Jh))).map cellsOf).length)])) [(1,24,(a0.L:(List (List Jh))).map cellsOf)] [.ref 1000000 0,Enc.pv a1,Enc.pv a2,Enc.pv a3,Enc.pv a4] (.tup []) (some (.cells [.ex 1000000000 1 24 (((r.L:(List (List Jh))).map cellsOf).length) 0 (((r.L:(List (List Jh))).map cellsOf).length)])) [(1,24,(r.L:(List (List Jh))).map cellsOf)]:=He (Zb Jfz) (Hd Jfz) a0 a1 a2 a3 a4 r h
def Mm (a0:Jd) (a1:Int) (a2:Int):Option ByteArray :=
 bif decide (a2<0) then (
  (ixO a0.Signals a1).bind fun x1 =>
  (Jkt x1.Name (ByteArray.mk #[45,101,110,100])).bind fun x2 =>
  some x2
 ) else (
  (ixO a0.Signals a1).bind fun x3 =>
  (Jkt x3.Name (ByteArray.mk #[45])).bind fun x4 =>
  (ixO a0.Signals a2).bind fun x5 =>
  (Jkt x4 x5.Name).bind fun x6 =>
  some x6
 )
theorem Ri (a0:Jd) (a1:Int) (a2:Int) (r:ByteArray) (h:Mm a0 a1 a2=some r):Kg Tryz.prog GlS 194 [Enc.pv a0,Enc.pv a1,Enc.pv a2] (Enc.pv r):=by
 unfold Mm at h;refine zC Tryz.func194 Tryz.ntmps194 ?_;refine Ja (Jc (zE (Jb (Ja (Ja (Jc (zE (Jb ?_))))))));rcases Ji h with ⟨hb,h⟩|⟨hb,h⟩
 ·refine zT hb (Ja (Jc (zR 3 ?_)));obtain ⟨x1,h1,h⟩:=Je h;refine zI h1 (zR 2 ?_);obtain ⟨x2,h2,h⟩:=Je h;refine Jjc h2 (by kernel_rfl) (zE (Jb (Jm (Jj ?_))));cases h;exact zQ
 refine zU hb (Jg (Jb (Ja (zD (zR 3 ?_)))));obtain ⟨x3,h3,h⟩:=Je h;refine zI h3 (zR 2 ?_);obtain ⟨x4,h4,h⟩:=Je h;refine Jjc h4 (by kernel_rfl) (zR 3 ?_);obtain ⟨x5,h5,h⟩:=Je h;refine zI h5 (zR 2 ?_);obtain ⟨x6,h6,h⟩:=Je h;refine Jjc h6 (by kernel_rfl) (zE (Jb (Jm ?_)));cases h;exact zQ
def Jbg (a0:(List Js)) (a1:Js):(Int×(List Js))→Option ((Int×(List Js))⊕(((List Js)×Int)⊕(List Js))):=fun (x18,x19) =>
 ((bif decide (x18<((a0.length:Nat):Int)) then (
  (ixO a0 x18).bind fun x31 =>
  ((bif decide (x31.El<a1.El) then some true else (
   (ixO a0 x18).bind fun x33 =>
   ((bif decide (x33.El=a1.El) then (
    (ixO a0 x18).bind fun x35 =>
    some (decide (x35.Pos<a1.Pos))
   ) else some false):Option Bool).bind fun b34 =>
   some b34
  )):Option Bool).bind fun b32 =>
  some b32
 ) else some false):Option Bool).bind fun b30 =>
 bif b30 then (
  (ixO a0 x18).bind fun x36 =>
  (Ul x19 [x36]).bind fun x37 =>
  some (.inl (w64 (x18+1),x37))
 ) else (
  some (.inr (.inl (x19,x18)))
 )
def Xg (a0:(List Js)) (a1:Js):Option (List Js) :=
 onInl (α:=((List Js)×Int)) (β:=(List Js)) (Ki (Jbg a0 a1) (0,([]:(List Js)))) fun (x28,x29) =>
 onInl (α:=(List Js)) (β:=(List Js)) (
  ((bif decide (x29=((a0.length:Nat):Int)) then some true else (
   (ixO a0 x29).bind fun x43 =>
   some (!(Gg x43 a1))
  )):Option Bool).bind fun b42 =>
  bif b42 then (
   (Ul x28 [a1]).bind fun x44 =>
   some (.inl x44)
  ) else (
   some (.inl x28)
  )
 ) fun x41 =>
 (slO a0 (some x29) none none).bind fun x45 =>
 (Ul x41 x45).bind fun x46 =>
 some x46
theorem Jib (a0:(List Js)) (a1:Js) (r:(List Js)) (h:Xg a0 a1=some r):Kg Tryz.prog GlS 203 [Enc.pv a0,Enc.pv a1] (Jk (.own 100005) r):=by
 unfold Xg at h;refine zC Tryz.func203 Tryz.ntmps203 ?_;refine Ja (Jc (zE (Jb (Ja (Jc (zE (Jb (Ja (Jc (zE (Jb (Ja (Jl ?_)))))))))))));refine Yz 5 100005 2 16 (by kernel_rfl) (by kernel_rfl) ?_;obtain ⟨o26,h26,h⟩:=Kf h;refine zA 72 0 (fun (x18,x19)=>⟨[(0,Jk .frozen a0),(3,.ref 3 0),(5,Jk (.own 100005) x19),(6,I6 x18)],[(3,.cells (cellsOf a1))],[(100005,(((x19).map cellsOf).length,2))],[]⟩) (fun (x28,x29)=>⟨[(0,Jk .frozen a0),(3,.ref 3 0),(5,Jk (.own 100005) x28),(6,I6 x29)],[(3,.cells (cellsOf a1))],[(100005,(((x28).map cellsOf).length,2))],[]⟩) h26 ?_ ?_
 ·rintro ⟨x18,x19⟩ oh25 h25;unfold Jbg at h25;refine Ja (Ja (zD (zR 2 ?_)));refine zL (L:=a0) ?_;obtain ⟨b30,h27,h25⟩:=Je h25;refine zR 2 ?_;refine Ko 29 40 (.bool b30) ?_ ?_
  ·rcases Ji h27 with ⟨hb,h27⟩|⟨hb,h27⟩
   ·refine zS 11 hb (zR 2 ?_);obtain ⟨x31,h28,h27⟩:=Je h27;refine zI h28 ?_;obtain ⟨b32,h29,h27⟩:=Je h27;refine zR 6 ?_;refine Js8 19 39 (.bool b32) ?_ ?_
    ·rcases Ji h29 with ⟨hb,h29⟩|⟨hb,h29⟩
     ·refine zS 20 hb ?_;cases h29;exact zF
     refine zS 20 hb (zR 2 ?_);obtain ⟨x33,h30,h29⟩:=Je h29;refine zI h30 ?_;obtain ⟨b34,h31,h29⟩:=Je h29;refine zR 6 ?_;refine Js8 9 38 (.bool b34) ?_ ?_
     ·rcases Ji h31 with ⟨hb,h31⟩|⟨hb,h31⟩
      ·refine zS 29 hb (zR 2 ?_);obtain ⟨x35,h32,h31⟩:=Je h31;refine zI h32 ?_;cases h31;exact zF
      refine zS 29 hb ?_;cases h31;exact zF
     cases h29;exact zF
    cases h27;exact zF
   refine zS 11 hb ?_;cases h27;exact zF
  refine zN (Jb ?_);rcases Ji h25 with ⟨hb,h25⟩|⟨hb,h25⟩
  ·refine zT hb (Jg (Jb (Jl (Ja (Jc (zR 3 ?_))))));obtain ⟨x36,h33,h25⟩:=Je h25;refine zI h33 (zR 2 ?_);obtain ⟨x37,h34,h25⟩:=Je h25;refine zW (tk:=100005) h34 ?_;refine zE (Jb (Jc (zE (Jx ?_))));cases h25;exact zB
  refine zU hb (Jv (Jt ?_));cases h25;exact zX
 rintro ⟨x28,x29⟩ s' rfl hs;have h:=Ka h;refine Jr (Jb (Jy hs ?_));obtain ⟨o38,h38,h⟩:=Kf h;refine Qm (o:=o38) 72 (fun x41=>⟨[(0,Jk .frozen a0),(5,Jk (.own 100005) x41),(6,I6 x29)],[],[(100005,(((x41).map cellsOf).length,2))],[]⟩) ?_ ?_
 ·refine Ja (zD (zR 2 ?_));refine zL (L:=a0) ?_;obtain ⟨b42,h39,h38⟩:=Je h38;refine zR 2 ?_;refine Ko 7 61 (.bool b42) ?_ ?_
  ·rcases Ji h39 with ⟨hb,h39⟩|⟨hb,h39⟩
   ·refine zS 54 hb ?_;cases h39;exact zF
   refine zS 54 hb (zR 2 ?_);obtain ⟨x43,h40,h39⟩:=Je h39;refine zI h40 ?_;cases h39;exact zF
  refine zN (Jb ?_);rcases Ji h38 with ⟨hb,h38⟩|⟨hb,h38⟩
  ·refine zT hb (Jc (zR 3 ?_));obtain ⟨x44,h41,h38⟩:=Je h38;refine zW (tk:=100005) h41 ?_;refine zE ?_;cases h38;exact zJ
  refine zU hb (Jg ?_);cases h38;exact zJ
 rintro x41 rfl;have h:=Ka h;refine Ja (Jc (zR 3 ?_));obtain ⟨x45,h42,h⟩:=Je h;refine Jzi h42 .frozen (by kernel_rfl) (by kernel_rfl) (by kernel_rfl) ?_;obtain ⟨x46,h43,h⟩:=Je h;refine zW (tk:=100005) h43 ?_;refine zE (Jb (Ja (Jc (zE (Jb (Jm ?_))))));cases h;exact zQ
def Te (a0:Jd) (a1:(List Jh)):(Int×(List Js))→Option ((Int×(List Js))⊕((List Js)⊕(List Js))):=fun (x20,x21) =>
 bif decide (x20<((a1.length:Nat):Int)) then (
  onInl (α:=(List Js)) (β:=((Int×(List Js))⊕((List Js)⊕(List Js)))) (
   (ixO a1 x20).bind fun x37 =>
   (Gm a0 x37).bind fun r38 =>
   bif (r38.2&&(!(decide (r38.1=0)))) then (
    (ixO a1 x20).bind fun x39 =>
    (Xg x21 (Js.mk x39.El r38.1)).bind fun r40 =>
    some (.inl r40)
   ) else (
    some (.inl x21)
   )
  ) fun x36 =>
  some (.inl (w64 (x20+1),x36))
 ) else (
  some (.inr (.inl x21))
 )
def Gv (a0:Jd) (a1:(List Jh)):Option (List Js) :=
 onInl (α:=(List Js)) (β:=(List Js)) (Ki (Te a0 a1) (0,([]:(List Js)))) fun x31 =>
 some x31
theorem Sh (a0:Jd) (a1:(List Jh)) (r:(List Js)) (h:Gv a0 a1=some r):Kg Tryz.prog GlS 135 [Enc.pv a0,Enc.pv a1] (Enc.pv r):=by
 unfold Gv at h;refine zC Tryz.func135 Tryz.ntmps135 ?_;refine Ja (Jc (zE (Jb (Ja (Jc (zE (Jb (Ja (Ja (Jc (zE (Jb (Jl ?_)))))))))))));obtain ⟨o29,h29,h⟩:=Kf h;refine zA 39 0 (fun (x20,x21)=>⟨[(1,Jk .frozen a1),(2,.ref 2 0),(5,Jk .frozen x21),(6,I6 x20)],[(2,.cells (cellsOf a0))],[],[]⟩) (fun x31=>⟨[(5,Jk .frozen x31)],[],[],[]⟩) h29 ?_ ?_
 ·rintro ⟨x20,x21⟩ oh28 h28;unfold Te at h28;refine Ja (Ja (Jc (zR 2 ?_)));refine zL (L:=a1) ?_;refine zE (Jb ?_);rcases Ji h28 with ⟨hb,h28⟩|⟨hb,h28⟩
  ·refine zT hb (Jg (Jb ?_));obtain ⟨o34,h34,h28⟩:=Kf h28;refine Qm (o:=o34) 39 (fun x36=>⟨[(1,Jk .frozen a1),(2,.ref 2 0),(5,Jk .frozen x36),(6,I6 x20)],[(2,.cells (cellsOf a0))],[],[]⟩) ?_ ?_
   ·refine Jl (Ja (zD (zR 3 ?_)));obtain ⟨x37,h35,h34⟩:=Je h34;refine zI h35 (zR 1 ?_);obtain ⟨r38,h36,h34⟩:=Je h34;refine zP (Jc7 _ _ r38 h36) (zE (Jb (Ja (Jc (zR 2 ?_)))));refine Ks 3 28 (r38.2&&(!(decide (r38.1=0)))) (fun x hx=>?_) ?_
    ·rcases Vz hx with ⟨hb,hx⟩|⟨hb,hx⟩
     ·refine zS 25 hb ?_;subst hx;exact zF
     refine zS 25 hb ?_;subst hx;exact zF
    refine zN (Jb ?_);rcases Ji h34 with ⟨hb,h34⟩|⟨hb,h34⟩
    ·refine zT hb (Jc (zR 3 ?_));obtain ⟨x39,h37,h34⟩:=Je h34;refine zI h37 (zR 4 ?_);obtain ⟨r40,h38,h34⟩:=Je h34;refine zP (Jib _ _ r40 h38) (zE (Jx ?_));cases h34;exact zJ
    refine zU hb (Jg (Jx ?_));cases h34;exact zJ
   rintro x36 rfl;have h28:=Ka h28;refine Jc (zE ?_);cases h28;exact zB
  refine zU hb (Jv (Jt ?_));cases h28;exact zX
 rintro x31 s' rfl hs;have h:=Ka h;refine Jr (Jb (Jy hs (Ja (Jc (zE (Jb (Jm ?_)))))));cases h;exact zQ
def Dd (a0:Jd) (a1:(List Jh)):(Int×Int)→Option ((Int×Int)⊕(Int⊕Int)):=fun (x10,x11) =>
 bif decide (x11<((a1.length:Nat):Int)) then (
  onInl (α:=Int) (β:=((Int×Int)⊕(Int⊕Int))) (
   (ixO a1 x11).bind fun x27 =>
   (Yb a0 x27.El).bind fun r28 =>
   bif r28 then (
    (ixO a1 x11).bind fun x29 =>
    (ixO a0.Elements x29.El).bind fun x30 =>
    some (.inl (w64 (x10+x30.Length)))
   ) else (
    some (.inl x10)
   )
  ) fun x26 =>
  some (.inl (x26,w64 (x11+1)))
 ) else (
  some (.inr (.inl x10))
 )
def Zx (a0:Jd) (a1:(List Jh)):Option Int :=
 onInl (α:=Int) (β:=Int) (Ki (Dd a0 a1) (0,0)) fun x21 =>
 some x21
theorem Na (a0:Jd) (a1:(List Jh)) (r:Int) (h:Zx a0 a1=some r):Kg Tryz.prog GlS 82 [Enc.pv a0,Enc.pv a1] (Enc.pv r):=by
 unfold Zx at h;refine zC Tryz.func82 Tryz.ntmps82 ?_;refine Ja (Jc (zE (Jb (Ja (Jc (zE (Jb (Ja (Ja (Jc (zE (Jb (Jl ?_)))))))))))));obtain ⟨o20,h20,h⟩:=Kf h;refine zA 33 0 (fun (x10,x11)=>⟨[(1,Jk .frozen a1),(2,.ref 2 0),(5,I6 x10),(6,I6 x11)],[(2,.cells (cellsOf a0))],[],[]⟩) (fun x21=>⟨[(5,I6 x21)],[],[],[]⟩) h20 ?_ ?_
 ·rintro ⟨x10,x11⟩ oh19 h19;unfold Dd at h19;refine Ja (Ja (Jc (zR 2 ?_)));refine zL (L:=a1) ?_;refine zE (Jb ?_);rcases Ji h19 with ⟨hb,h19⟩|⟨hb,h19⟩
  ·refine zT hb (Jg (Jb ?_));obtain ⟨o25,h25,h19⟩:=Kf h19;refine Qm (o:=o25) 33 (fun x26=>⟨[(1,Jk .frozen a1),(2,.ref 2 0),(5,I6 x26),(6,I6 x11)],[(2,.cells (cellsOf a0))],[],[]⟩) ?_ ?_
   ·refine Jl (Ja (zD (zR 3 ?_)));obtain ⟨x27,h26,h25⟩:=Je h25;refine zI h26 (zR 2 ?_);obtain ⟨r28,h27,h25⟩:=Je h25;refine zP (Fb _ _ r28 h27) (zN (Jb ?_));rcases Ji h25 with ⟨hb,h25⟩|⟨hb,h25⟩
    ·refine zT hb (zD (zR 5 ?_));obtain ⟨x29,h28,h25⟩:=Je h25;refine zI h28 (zR 2 ?_);obtain ⟨x30,h29,h25⟩:=Je h25;refine zI h29 (zE (Jx ?_));cases h25;exact zJ
    refine zU hb (Jg (Jx ?_));cases h25;exact zJ
   rintro x26 rfl;have h19:=Ka h19;refine Jc (zE ?_);cases h19;exact zB
  refine zU hb (Jv (Jt ?_));cases h19;exact zX
 rintro x21 s' rfl hs;have h:=Ka h;refine Jr (Jb (Jy hs (Ja (Jc (zE (Jb (Jm ?_)))))));cases h;exact zQ
def Xp : (Int×ByteArray)→Option ((Int×ByteArray)⊕(ByteArray⊕ByteArray)):=fun (x2,x3) =>
 bif decide (0<x2) then (
  (Jkt (bytesOf [IntKind.u8.wrap (w64 (48+(x2.tmod 10)))]) x3).bind fun x6 =>
  some (.inl (w64 (x2.tdiv 10),x6))
 ) else (
  some (.inr (.inl x3))
 )
def Ry (a0:Int):Option ByteArray :=
 onInl (α:=ByteArray) (β:=ByteArray) (Ki (Xp) (a0,ByteArray.empty)) fun x5 =>
 some x5
theorem Jhf (a0:Int) (r:ByteArray) (h:Ry a0=some r):Kg Tryz.prog GlS 195 [Enc.pv a0] (Enc.pv r):=by
 unfold Ry at h;refine zC Tryz.func195 Tryz.ntmps195 ?_;refine Ja (Jc (zE (Jb (Ja (Jc (zE (Jb (Ja (Jl ?_)))))))));obtain ⟨o4,h4,h⟩:=Kf h;refine zA 17 0 (fun (x2,x3)=>⟨[(0,I6 x2),(3,.str x3)],[],[],[]⟩) (fun x5=>⟨[(3,.str x5)],[],[],[]⟩) h4 ?_ ?_
 ·rintro ⟨x2,x3⟩ oh3 h3;unfold Xp at h3;refine Ja (Ja (Jc (zE (Jb ?_))));rcases Ji h3 with ⟨hb,h3⟩|⟨hb,h3⟩
  ·refine zT hb (Jg (Jb (Jl (Ja (Jc (zR 5 ?_))))));refine Kc8 (ns:=[IntKind.u8.wrap (w64 (48+(x2.tmod 10)))]) (by kernel_rfl) ?_;refine zR 1 ?_;obtain ⟨x6,h5,h3⟩:=Je h3;refine Jjc h5 (by kernel_rfl) (zE (Jb (Jc (zE (Jx ?_)))));cases h3;exact zB
  refine zU hb (Jv (Jt ?_));cases h3;exact zX
 rintro x5 s' rfl hs;have h:=Ka h;refine Jr (Jb (Jy hs (Ja (Jc (zE (Jb (Jm ?_)))))));cases h;exact zQ
def Jfa (a0:Jd) (a1:Int) (r4:Kd) (x150:Int) (r228:(Int×Bool)):(Int×Int)→Option ((Int×Int)⊕(Int⊕((Int×(List Jw))⊕((List Jw)⊕(List Jw))))):=fun (x252,x253) =>
 bif decide (x253<x150) then (
  onInl (α:=Int) (β:=((Int×Int)⊕(Int⊕((Int×(List Jw))⊕((List Jw)⊕(List Jw)))))) (
   (Zp 0 (((r4.L:(List (List Jh))).map cellsOf).length) x253).bind fun j281 =>
   (Wl r4.L (((r4.L:(List (List Jh))).map cellsOf).length) j281).bind fun x282 =>
   (Zp 0 (((r4.L:(List (List Jh))).map cellsOf).length) x253).bind fun j283 =>
   (Wl r4.L (((r4.L:(List (List Jh))).map cellsOf).length) j283).bind fun x284 =>
   (ixO x282 (w64 (((x284.length:Nat):Int) - 1))).bind fun x285 =>
   (Nr a0 x285).bind fun r286 =>
   (Mm a0 a1 r286.1).bind fun r287 =>
   (Mm a0 a1 r228.1).bind fun r288 =>
   bif decide (r287=r288) then (
    some (.inl (w64 (x252+1)))
   ) else (
    some (.inl x252)
   )
  ) fun x280 =>
  some (.inl (x280,w64 (x253+1)))
 ) else (
  some (.inr (.inl x252))
 )
def Jeq (a0:Jd) (a1:Int) (r4:Kd):(Int×(List Jw))→Option ((Int×(List Jw))⊕((List Jw)⊕(List Jw))):=fun (x150,x151) =>
 bif decide (x150<((((r4.L:(List (List Jh))).map cellsOf).length:Nat):Int)) then (
  (Zp 0 (((r4.L:(List (List Jh))).map cellsOf).length) x150).bind fun j225 =>
  (Wl r4.L (((r4.L:(List (List Jh))).map cellsOf).length) j225).bind fun x226 =>
  (ixO x226 (w64 (((x226.length:Nat):Int) - 1))).bind fun x227 =>
  (Nr a0 x227).bind fun r228 =>
  (Mm a0 a1 r228.1).bind fun r229 =>
  (Gv a0 x226).bind fun r230 =>
  (Vu a0 x226).bind fun r231 =>
  (Zx a0 x226).bind fun r232 =>
  (ixO a0.Signals a1).bind fun x233 =>
  (Vf a0 x233.At.El).bind fun r234 =>
  onInl (α:=Int) (β:=((Int×(List Jw))⊕((List Jw)⊕(List Jw)))) (Ki (Jfa a0 a1 r4 x150 r228) (1,0)) fun x271 =>
  onInl (α:=ByteArray) (β:=((Int×(List Jw))⊕((List Jw)⊕(List Jw)))) (
   bif decide (1<x271) then (
    (Jkt r229 (ByteArray.mk #[46])).bind fun x293 =>
    (Ry x271).bind fun r294 =>
    (Jkt x293 r294).bind fun x295 =>
    some (.inl x295)
   ) else (
    some (.inl r229)
   )
  ) fun x292 =>
  (Ul x151 [(Jw.mk x292 a1 r228.1 x226 r230 r231 r234 r232 ([]:(List Jh)) ([]:(List Js)) ([]:(List Int)) ([]:(List Js)) ([]:(List Int)) ([]:(List Jo)))]).bind fun x296 =>
  some (.inl (w64 (x150+1),x296))
 ) else (
  some (.inr (.inl x151))
 )
def Jcw (a0:Jd) (a1:Int):Option (List Jw) :=
 ((bif decide (a1<0) then some true else (
  some (decide (((a0.Signals.length:Nat):Int)≤a1))
 )):Option Bool).bind fun b1 =>
 bif b1 then (
  some ([]:(List Jw))
 ) else (
  (ixO a0.Signals a1).bind fun x2 =>
  (Wf a0 x2.At).bind fun r3 =>
  bif (!r3.2) then (
   some ([]:(List Jw))
  ) else (
   (Py (Kd.mk []) a0 r3.1 r3.1 ([]:(List Jh))).bind fun r4 =>
   onInl (α:=(List Jw)) (β:=(List Jw)) (Ki (Jeq a0 a1 r4) (0,([]:(List Jw)))) fun x224 =>
   some x224
  )
 )
theorem Jlm (a0:Jd) (a1:Int) (r:(List Jw)) (h:Jcw a0 a1=some r):Kg Tryz.prog GlS 125 [Enc.pv a0,Enc.pv a1] (Jk (.own 100008) r):=by
 unfold Jcw at h;refine zC Tryz.func125 Tryz.ntmps125 ?_;refine Ja (Jc (zE (Jb (Ja (Ja (Jc ?_))))));obtain ⟨b1,h1,h⟩:=Je h;refine zR 3 ?_;refine Ko 6 26 (.bool b1) ?_ ?_
 ·rcases Ji h1 with ⟨hb,h1⟩|⟨hb,h1⟩
  ·refine zS 20 hb ?_;cases h1;exact zF
  refine zS 20 hb (zR 3 ?_);refine zL (L:=a0.Signals) ?_;cases h1;exact zF
 refine zN (Jb ?_);rcases Ji h with ⟨hb,h⟩|⟨hb,h⟩
 ·refine zT hb (Ja (Jc (zE (Jb (Yz 4 100008 14 264 (by kernel_rfl) (by kernel_rfl) (Jm (Jj ?_)))))));cases h;exact zQ
 refine zU hb (Jg (Jb (Ja (zD (zR 4 ?_)))));obtain ⟨x2,h2,h⟩:=Je h;refine zI h2 (zR 2 ?_);obtain ⟨r3,h3,h⟩:=Je h;refine zP (Cg _ _ r3 h3) (zE (Jb (Ja (Ja (Jc (zE (Jb ?_)))))));rcases Ji h with ⟨hb,h⟩|⟨hb,h⟩
 ·refine zT hb (Ja (Jc (zE (Jb (Yz 4 100008 14 264 (by kernel_rfl) (by kernel_rfl) (Jm (Jj ?_)))))));cases h;exact zQ
 refine zU hb (Jg (Jb (Ja (Jc (zE (Jb (Ja (Jc (zR 4 ?_)))))))));obtain ⟨r4,h4,h⟩:=Je h;refine Jwf (some 41) [304600] [(41,0,304600,1,24)] none (Ja6 _ _ _ _ _ r4 h4) (by kernel_rfl) (by kernel_rfl) (by kernel_rfl) (by kernel_rfl) (by kernel_rfl) ?_;refine zN (Jb (Ja (Jc (zE (Jb (Ja (Ja (Jc (zE (Jb (Jl (Yz 8 100008 14 264 (by kernel_rfl) (by kernel_rfl) ?_))))))))))));obtain ⟨o219,h219,h⟩:=Kf h;refine zA 154 0 (fun (x150,x151)=>⟨[(1,I6 a1),(2,.ref 2 0),(7,.ref 41 0),(8,Jk (.own 100008) x151),(9,I6 x150)],[(2,.cells (cellsOf a0)),(41,.cells ([.ex 304600 1 24 ((r4.L.map cellsOf).length) 0 ((r4.L.map cellsOf).length)]))],[(100008,(((x151).map cellsOf).length,14)),(304600,((r4.L.map cellsOf).length,0))],[(304600,(1,(24,r4.L.map cellsOf)))]⟩) (fun x224=>⟨[(8,Jk (.own 100008) x224)],[],[(100008,(((x224).map cellsOf).length,14))],[]⟩) h219 ?_ ?_
 ·rintro ⟨x150,x151⟩ oh218 h218;unfold Jeq at h218;refine Ja (Ja (Jc (zE (Jb ?_))));rcases Ji h218 with ⟨hb,h218⟩|⟨hb,h218⟩
  ·refine zT hb (Jg (Jb (Ja (Jl (Ja (Jc (zR 5 ?_)))))));obtain ⟨j225,h220,h218⟩:=Je h218;refine Uz (tk:=304600) (k:=1) (N:=(r4.L.map cellsOf).length) h220 (by kernel_rfl) ?_;obtain ⟨x226,h221,h218⟩:=Je h218;refine Vk (L:=r4.L) (N:=(r4.L.map cellsOf).length) (j:=j225) (y:=x226) (v:=Jk .frozen x226) h221 false 1 0 (by kernel_rfl) (by kernel_rfl) ?_;refine zE (Jb (Ja (zD (zR 3 ?_))));refine zL (L:=x226) ?_;refine zR 1 ?_;obtain ⟨x227,h222,h218⟩:=Je h218;refine zI h222 (zR 1 ?_);obtain ⟨r228,h223,h218⟩:=Je h218;refine zP (Sb _ _ r228 h223) (zE (Jb (Ja (zD (zR 3 ?_)))));obtain ⟨r229,h224,h218⟩:=Je h218;refine zP (Ri _ _ _ r229 h224) (zR 5 ?_);obtain ⟨r230,h225,h218⟩:=Je h218;refine zP (Sh _ _ r230 h225) (zR 2 ?_);obtain ⟨r231,h226,h218⟩:=Je h218;refine zP (Jga _ _ r231 h226) (zR 2 ?_);obtain ⟨r232,h227,h218⟩:=Je h218;refine zP (Na _ _ r232 h227) (zE (Jb (Ja (zD (zR 4 ?_)))));obtain ⟨x233,h228,h218⟩:=Je h218;refine zI h228 (zR 3 ?_);obtain ⟨r234,h229,h218⟩:=Je h218;refine zP (Wu _ _ r234 h229) (zE (Jb (Ja (Jc (zE (Jb (Ja (Ja (Jc (zE (Jb (Jl ?_))))))))))));obtain ⟨o265,h265,h218⟩:=Kf h218;refine zA 154 2 (fun (x252,x253)=>⟨[(1,I6 a1),(2,.ref 2 0),(7,.ref 41 0),(8,Jk (.own 100008) x151),(9,I6 x150),(11,I6 r228.1),(13,.ref 13 0),(14,I6 x252),(15,I6 x253)],[(2,.cells (cellsOf a0)),(13,.cells ([.str r229,I6 a1,I6 r228.1,Jk .frozen x226,Jk .frozen r230,Jk .frozen r231,I6 r234,I6 r232,.nil,.nil,.nil,.nil,.nil,.nil])),(41,.cells ([.ex 304600 1 24 ((r4.L.map cellsOf).length) 0 ((r4.L.map cellsOf).length)]))],[(100008,(((x151).map cellsOf).length,14)),(304600,((r4.L.map cellsOf).length,0))],[(304600,(1,(24,r4.L.map cellsOf)))]⟩) (fun x271=>⟨[(1,I6 a1),(2,.ref 2 0),(7,.ref 41 0),(8,Jk (.own 100008) x151),(9,I6 x150),(13,.ref 13 0),(14,I6 x271)],[(2,.cells (cellsOf a0)),(13,.cells ([.str r229,I6 a1,I6 r228.1,Jk .frozen x226,Jk .frozen r230,Jk .frozen r231,I6 r234,I6 r232,.nil,.nil,.nil,.nil,.nil,.nil])),(41,.cells ([.ex 304600 1 24 ((r4.L.map cellsOf).length) 0 ((r4.L.map cellsOf).length)]))],[(100008,(((x151).map cellsOf).length,14)),(304600,((r4.L.map cellsOf).length,0))],[(304600,(1,(24,r4.L.map cellsOf)))]⟩) h265 ?_ ?_
   ·rintro ⟨x252,x253⟩ oh264 h264;unfold Jfa at h264;refine Ja (Ja (Jc (zE (Jb ?_))));rcases Ji h264 with ⟨hb,h264⟩|⟨hb,h264⟩
    ·refine zT hb (Jg (Jb ?_));obtain ⟨o274,h274,h264⟩:=Kf h264;refine Qm (o:=o274) 154 (fun x280=>⟨[(1,I6 a1),(2,.ref 2 0),(7,.ref 41 0),(8,Jk (.own 100008) x151),(9,I6 x150),(11,I6 r228.1),(13,.ref 13 0),(14,I6 x280),(15,I6 x253)],[(2,.cells (cellsOf a0)),(13,.cells ([.str r229,I6 a1,I6 r228.1,Jk .frozen x226,Jk .frozen r230,Jk .frozen r231,I6 r234,I6 r232,.nil,.nil,.nil,.nil,.nil,.nil])),(41,.cells ([.ex 304600 1 24 ((r4.L.map cellsOf).length) 0 ((r4.L.map cellsOf).length)]))],[(100008,(((x151).map cellsOf).length,14)),(304600,((r4.L.map cellsOf).length,0))],[(304600,(1,(24,r4.L.map cellsOf)))]⟩) ?_ ?_
     ·refine Jl (Ja (zD (zR 6 ?_)));obtain ⟨j281,h275,h274⟩:=Je h274;refine Uz (tk:=304600) (k:=1) (N:=(r4.L.map cellsOf).length) h275 (by kernel_rfl) ?_;obtain ⟨x282,h276,h274⟩:=Je h274;refine Vk (L:=r4.L) (N:=(r4.L.map cellsOf).length) (j:=j281) (y:=x282) (v:=Jk .frozen x282) h276 false 1 0 (by kernel_rfl) (by kernel_rfl) ?_;refine zR 5 ?_;obtain ⟨j283,h277,h274⟩:=Je h274;refine Uz (tk:=304600) (k:=1) (N:=(r4.L.map cellsOf).length) h277 (by kernel_rfl) ?_;obtain ⟨x284,h278,h274⟩:=Je h274;refine Vk (L:=r4.L) (N:=(r4.L.map cellsOf).length) (j:=j283) (y:=x284) (v:=Jk .frozen x284) h278 false 1 0 (by kernel_rfl) (by kernel_rfl) ?_;refine zL (L:=x284) ?_;refine zR 1 ?_;obtain ⟨x285,h279,h274⟩:=Je h274;refine zI h279 (zR 1 ?_);obtain ⟨r286,h280,h274⟩:=Je h274;refine zP (Sb _ _ r286 h280) (zE (Jb (Ja (zD (zR 3 ?_)))));obtain ⟨r287,h281,h274⟩:=Je h274;refine zP (Ri _ _ _ r287 h281) (zR 3 ?_);obtain ⟨r288,h282,h274⟩:=Je h274;refine zP (Ri _ _ _ r288 h282) (zE (Jb ?_));rcases Ji h274 with ⟨hb,h274⟩|⟨hb,h274⟩
      ·refine zT hb (Jc (zE (Jx ?_)));cases h274;exact zJ
      refine zU hb (Jg (Jx ?_));cases h274;exact zJ
     rintro x280 rfl;have h264:=Ka h264;refine Jc (zE ?_);cases h264;exact zB
    refine zU hb (Jv (Jt ?_));cases h264;exact zX
   rintro x271 s' rfl hs;have h218:=Ka h218;refine Jr (Jb (Jy hs ?_));obtain ⟨o286,h286,h218⟩:=Kf h218;refine Qm (o:=o286) 154 (fun x292=>⟨[(1,I6 a1),(2,.ref 2 0),(7,.ref 41 0),(8,Jk (.own 100008) x151),(9,I6 x150),(13,.ref 13 0)],[(2,.cells (cellsOf a0)),(13,.cells ([.str x292,I6 a1,I6 r228.1,Jk .frozen x226,Jk .frozen r230,Jk .frozen r231,I6 r234,I6 r232,.nil,.nil,.nil,.nil,.nil,.nil])),(41,.cells ([.ex 304600 1 24 ((r4.L.map cellsOf).length) 0 ((r4.L.map cellsOf).length)]))],[(100008,(((x151).map cellsOf).length,14)),(304600,((r4.L.map cellsOf).length,0))],[(304600,(1,(24,r4.L.map cellsOf)))]⟩) ?_ ?_
   ·refine Ja (Jc (zE (Jb ?_)));rcases Ji h286 with ⟨hb,h286⟩|⟨hb,h286⟩
    ·refine zT hb (zD (zR 2 ?_));obtain ⟨x293,h287,h286⟩:=Je h286;refine Jjc h287 (by kernel_rfl) (zR 1 ?_);obtain ⟨r294,h288,h286⟩:=Je h286;refine zP (Jhf _ r294 h288) ?_;obtain ⟨x295,h289,h286⟩:=Je h286;refine Jjc h289 (by kernel_rfl) (zE ?_);cases h286;exact zJ
    refine zU hb (Jg ?_);cases h286;exact zJ
   rintro x292 rfl;have h218:=Ka h218;refine Jy (Wkr.of (n:=154) (j:=⟨[(1,I6 a1),(2,.ref 2 0),(7,.ref 41 0),(8,Jk (.own 100008) x151),(9,I6 x150),(13,.ref 13 0)],[(2,.cells (cellsOf a0)),(13,.cells ([.str x292,I6 a1,I6 r228.1,Jk .frozen x226,Jk .frozen r230,Jk .frozen r231,I6 r234,I6 r232,Jk .frozen (([]:(List Jh)):(List Jh)),Jk .frozen (([]:(List Js)):(List Js)),Jk .frozen (([]:(List Int)):(List Int)),Jk .frozen (([]:(List Js)):(List Js)),Jk .frozen (([]:(List Int)):(List Int)),Jk .frozen (([]:(List Jo)):(List Jo))])),(41,.cells ([.ex 304600 1 24 ((r4.L.map cellsOf).length) 0 ((r4.L.map cellsOf).length)]))],[(100008,(((x151).map cellsOf).length,14)),(304600,((r4.L.map cellsOf).length,0))],[(304600,(1,(24,r4.L.map cellsOf)))]⟩) (by kernel_rfl) (by kernel_rfl)) ?_;refine Jc (zR 3 ?_);obtain ⟨x296,h290,h218⟩:=Je h218;refine zW (tk:=100008) h290 ?_;refine zE (Jx (Jb (Jc (zE ?_))));cases h218;exact zB
  refine zU hb (Jv (Jt ?_));cases h218;exact zX
 rintro x224 s' rfl hs;have h:=Ka h;refine Jr (Jb (Jy hs (Ja (Jc (zE (Jb (Jm ?_)))))));cases h;exact zQ
def Jgg (a0:Jd):(Int×(List Jw))→Option ((Int×(List Jw))⊕((List Jw)⊕((List Jw)×Int))):=fun (x7,x8) =>
 bif decide (x7<((a0.Signals.length:Nat):Int)) then (
  (Jcw a0 x7).bind fun r12 =>
  (Ul x8 r12).bind fun x13 =>
  some (.inl (w64 (x7+1),x13))
 ) else (
  some (.inr (.inl x8))
 )
def Jex (a0:Jd):Option ((List Jw)×Int) :=
 (Ci a0).bind fun r1 =>
 bif (!(decide (r1=0))) then (
  some (([]:(List Jw)),r1)
 ) else (
  onInl (α:=(List Jw)) (β:=((List Jw)×Int)) (Ki (Jgg a0) (0,([]:(List Jw)))) fun x11 =>
  bif decide (48<((x11.length:Nat):Int)) then (
   some (([]:(List Jw)),2)
  ) else (
   some (x11,0)
  )
 )
theorem Joi (a0:Jd) (r:((List Jw)×Int)) (h:Jex a0=some r):Kg Tryz.prog GlS 65 [Enc.pv a0] (.tup [Enc.pv r.1,Enc.pv r.2]):=by
 unfold Jex at h;refine zC Tryz.func65 Tryz.ntmps65 ?_;refine Ja (Jc (zE (Jb (Ja (Jc (zR 1 ?_))))));obtain ⟨r1,h1,h⟩:=Je h;refine zP (Jbn _ r1 h1) (zE (Jb (Ja (Ja (Jc (zE (Jb ?_)))))));rcases Ji h with ⟨hb,h⟩|⟨hb,h⟩
 ·refine zT hb (Ja (Jc (zE (Jb (Jm (Jj ?_))))));cases h;exact zQ
 refine zU hb (Jg (Jb (Ja (Jc (zE (Jb (Ja (Ja (Jc (zE (Jb (Jl (Yz 5 100005 14 264 (by kernel_rfl) (by kernel_rfl) ?_)))))))))))));obtain ⟨o9,h9,h⟩:=Kf h;refine zA 28 0 (fun (x7,x8)=>⟨[(1,.ref 1 0),(5,Jk (.own 100005) x8),(6,I6 x7)],[(1,.cells (cellsOf a0))],[(100005,(((x8).map cellsOf).length,14))],[]⟩) (fun x11=>⟨[(5,Jk (.own 100005) x11)],[],[(100005,(((x11).map cellsOf).length,14))],[]⟩) h9 ?_ ?_
 ·rintro ⟨x7,x8⟩ oh8 h8;unfold Jgg at h8;refine Ja (Ja (Jc (zR 3 ?_)));refine zL (L:=a0.Signals) ?_;refine zE (Jb ?_);rcases Ji h8 with ⟨hb,h8⟩|⟨hb,h8⟩
  ·refine zT hb (Jg (Jb (Ja (Jl (Jc (zR 3 ?_))))));obtain ⟨r12,h10,h8⟩:=Je h8;refine zP (Jlm _ _ r12 h10) ?_;obtain ⟨x13,h11,h8⟩:=Je h8;refine zW (tk:=100005) h11 ?_;refine zE (Jx (Jb (Jc (zE ?_))));cases h8;exact zB
  refine zU hb (Jv (Jt ?_));cases h8;exact zX
 rintro x11 s' rfl hs;have h:=Ka h;refine Jr (Jb (Jy hs (Ja (Ja (Jc (zR 1 ?_))))));refine zL (L:=x11) ?_;refine zE (Jb ?_);rcases Ji h with ⟨hb,h⟩|⟨hb,h⟩
 ·refine zT hb (Ja (Jc (zE (Jb (Jm (Jj ?_))))));cases h;exact zQ
 refine zU hb (Jg (Jb (Ja (Jc (zE (Jb (Jm ?_)))))));cases h;exact zQ
def Jbk (a0:Jd):(Int×(List Int))→Option ((Int×(List Int))⊕((List Int)⊕(List Int))):=fun (x12,x13) =>
 bif decide (x12<((a0.Elements.length:Nat):Int)) then (
  onInl (α:=(List Int)) (β:=((Int×(List Int))⊕((List Int)⊕(List Int)))) (
   (ixO a0.Elements x12).bind fun x23 =>
   bif decide (x23.Kind=2) then (
    (Ul x13 [x12]).bind fun x24 =>
    some (.inl x24)
   ) else (
    some (.inl x13)
   )
  ) fun x22 =>
  some (.inl (w64 (x12+1),x22))
 ) else (
  some (.inr (.inl x13))
 )
def Mf (a0:Jd):Option (List Int) :=
 onInl (α:=(List Int)) (β:=(List Int)) (Ki (Jbk a0) (0,([]:(List Int)))) fun x19 =>
 some x19
theorem Jic (a0:Jd) (r:(List Int)) (h:Mf a0=some r):Kg Tryz.prog GlS 66 [Enc.pv a0] (Jk (.own 100003) r):=by
 unfold Mf at h;refine zC Tryz.func66 Tryz.ntmps66 ?_;refine Ja (Jc (zE (Jb (Ja (Jc (zE (Jb (Ja (Ja (Jc (zR 2 ?_)))))))))));refine zL (L:=a0.Elements) ?_;refine zE (Jb (Jl (Yz 3 100003 1 8 (by kernel_rfl) (by kernel_rfl) ?_)));obtain ⟨o17,h17,h⟩:=Kf h;refine zA 23 0 (fun (x12,x13)=>⟨[(3,Jk (.own 100003) x13),(7,Jk .frozen a0.Elements),(8,I6 ((a0.Elements.length:Nat):Int)),(9,I6 x12)],[],[(100003,(((x13).map cellsOf).length,1))],[]⟩) (fun x19=>⟨[(3,Jk (.own 100003) x19)],[],[(100003,(((x19).map cellsOf).length,1))],[]⟩) h17 ?_ ?_
 ·rintro ⟨x12,x13⟩ oh16 h16;unfold Jbk at h16;refine Ja (Jc (zE (Jb (Ja ?_))));rcases Ji h16 with ⟨hb,h16⟩|⟨hb,h16⟩
  ·refine zT hb (Jg (Jb ?_));obtain ⟨o20,h20,h16⟩:=Kf h16;refine Qm (o:=o20) 23 (fun x22=>⟨[(3,Jk (.own 100003) x22),(7,Jk .frozen a0.Elements),(8,I6 ((a0.Elements.length:Nat):Int)),(9,I6 x12)],[],[(100003,(((x22).map cellsOf).length,1))],[]⟩) ?_ ?_
   ·refine Jl (Ja (Jc (zR 1 ?_)));obtain ⟨x23,h21,h20⟩:=Je h20;refine zI h21 (zE (Jb (Ja (Jc (zE (Jb ?_))))));rcases Ji h20 with ⟨hb,h20⟩|⟨hb,h20⟩
    ·refine zT hb (Jc (zR 3 ?_));obtain ⟨x24,h22,h20⟩:=Je h20;refine zW (tk:=100003) h22 ?_;refine zE (Jx ?_);cases h20;exact zJ
    refine zU hb (Jg (Jx ?_));cases h20;exact zJ
   rintro x22 rfl;have h16:=Ka h16;refine Jc (zE ?_);cases h16;exact zB
  refine zU hb (Jv (Jt ?_));cases h16;exact zX
 rintro x19 s' rfl hs;have h:=Ka h;refine Jr (Jb (Jy hs (Ja (Jc (zE (Jb (Jm ?_)))))));cases h;exact zQ
theorem Jiy (a0:Jd) (r:(List Int)) (h:Mf a0=some r):Kg Tryz.prog GlS 66 [Enc.pv a0] (Enc.pv r) :=
 (Jic a0 r h).freeze (by kernel_rfl) (by kernel_rfl) (by kernel_rfl)
def Jb1 (a0:Jd) (a1:Jw):Option (Ky×Bool) :=
 ((bif decide (a1.Exit<0) then some true else (
  some (decide (((a0.Signals.length:Nat):Int)≤a1.Exit))
 )):Option Bool).bind fun b1 =>
 bif b1 then (
  some ((Ky.mk ByteArray.empty (Jo.mk 0 0) 0),false)
 ) else (
  (ixO a0.Signals a1.Exit).bind fun x2 =>
  some (x2,true)
 )
theorem Jl4 (a0:Jd) (a1:Jw) (r:(Ky×Bool)) (h:Jb1 a0 a1=some r):Kg Tryz.prog GlS 130 [Enc.pv a0,Enc.pv a1] (.tup [Enc.pv r.1,Enc.pv r.2]):=by
 unfold Jb1 at h;refine zC Tryz.func130 Tryz.ntmps130 ?_;refine Ja (Jc (zE (Jb (Ja (Ja (Jc ?_))))));obtain ⟨b1,h1,h⟩:=Je h;refine zR 4 ?_;refine Ko 7 16 (.bool b1) ?_ ?_
 ·rcases Ji h1 with ⟨hb,h1⟩|⟨hb,h1⟩
  ·refine zS 9 hb ?_;cases h1;exact zF
  refine zS 9 hb (zR 4 ?_);refine zL (L:=a0.Signals) ?_;cases h1;exact zF
 refine zN (Jb ?_);rcases Ji h with ⟨hb,h⟩|⟨hb,h⟩
 ·refine zT hb (Ja (Jc (zE (Jb (Jm (Jj ?_))))));cases h;exact zQ
 refine zU hb (Jg (Jb (Ja (Jc (zR 4 ?_)))));obtain ⟨x2,h2,h⟩:=Je h;refine zI h2 (zE (Jb (Jm ?_)));cases h;exact zQ
def Jag (a2:(List Jh)) (a3:Int):Int→Option (Int⊕(Unit⊕Bool)):=fun x2 =>
 bif decide (x2<((a2.length:Nat):Int)) then (
  (ixO a2 x2).bind fun x4 =>
  bif decide (x4.El=a3) then (
   some (.inr (.inr true))
  ) else (
   some (.inl (w64 (x2+1)))
  )
 ) else (
  some (.inr (.inl ()))
 )
def Jaj (a0:Jd) (a1:Jw) (a3:Int):Int→Option (Int⊕(Unit⊕Bool)):=fun x7 =>
 bif decide (x7<((a1.Sections.length:Nat):Int)) then (
  (ixO a1.Sections x7).bind fun x10 =>
  (Vf a0 a3).bind fun r11 =>
  bif decide (x10=r11) then (
   some (.inr (.inr true))
  ) else (
   some (.inl (w64 (x7+1)))
  )
 ) else (
  some (.inr (.inl ()))
 )
def Rh (a0:Jd) (a1:Jw) (a2:(List Jh)) (a3:Int):Option Bool :=
 onInl (α:=Unit) (β:=Bool) (Ki (Jag a2 a3) 0) fun _ =>
 onInl (α:=Unit) (β:=Bool) (Ki (Jaj a0 a1 a3) 0) fun _ =>
 some false
theorem Jho (a0:Jd) (a1:Jw) (a2:(List Jh)) (a3:Int) (r:Bool) (h:Rh a0 a1 a2 a3=some r):Kg Tryz.prog GlS 132 [Enc.pv a0,Enc.pv a1,Enc.pv a2,Enc.pv a3] (Enc.pv r):=by
 unfold Rh at h;refine zC Tryz.func132 Tryz.ntmps132 ?_;refine Ja (Jc (zE (Jb (Ja (Ja (Jc (zR 1 ?_)))))));refine zL (L:=a2) ?_;refine zE (Jb (Jl ?_));obtain ⟨o6,h6,h⟩:=Kf h;refine zA 37 0 (fun x2=>⟨[(3,I6 a3),(4,.ref 4 0),(5,.ref 5 0),(13,Jk .frozen a2),(14,I6 ((a2.length:Nat):Int)),(15,I6 x2)],[(4,.cells (cellsOf a0)),(5,.cells (cellsOf a1))],[],[]⟩) (fun (_:Unit)=>⟨[(3,I6 a3),(4,.ref 4 0),(5,.ref 5 0)],[(4,.cells (cellsOf a0)),(5,.cells (cellsOf a1))],[],[]⟩) h6 ?_ ?_
 ·rintro x2 oh5 h5;unfold Jag at h5;refine Ja (Jc (zE (Jb (Ja ?_))));rcases Ji h5 with ⟨hb,h5⟩|⟨hb,h5⟩
  ·refine zT hb (Jg (Jb (Ja (Jl (Ja (Jc ?_))))));obtain ⟨x4,h7,h5⟩:=Je h5;refine zI h7 (zE (Jb (Ja (Jc (zE (Jb ?_))))));rcases Ji h5 with ⟨hb,h5⟩|⟨hb,h5⟩
   ·refine zT hb (Ja (Jc (zE (Jb (Jm (Jp (Jj ?_)))))));cases h5;refine Kc fun he=>?_;subst he;have h8:=Km h;refine Jp (Jj ?_);cases h8;exact zQ
   refine zU hb (Jg (Jx (Jb (Jc (zE ?_)))));cases h5;exact zB
  refine zU hb (Jv (Jt ?_));cases h5;exact zX
 rintro _ s' rfl hs;have h:=Ka h;refine Jr (Jb (Jy hs (Ja (Ja (Jc (zR 2 ?_))))));refine zL (L:=a1.Sections) ?_;refine zE (Jb (Jl ?_));obtain ⟨o16,h16,h⟩:=Kf h;refine zA 37 2 (fun x7=>⟨[(3,I6 a3),(4,.ref 4 0),(25,Jk .frozen a1.Sections),(26,I6 ((a1.Sections.length:Nat):Int)),(27,I6 x7)],[(4,.cells (cellsOf a0))],[],[]⟩) (fun (_:Unit)=>⟨[],[],[],[]⟩) h16 ?_ ?_
 ·rintro x7 oh15 h15;unfold Jaj at h15;refine Ja (Jc (zE (Jb (Ja ?_))));rcases Ji h15 with ⟨hb,h15⟩|⟨hb,h15⟩
  ·refine zT hb (Jg (Jb (Ja (Jl (Ja (Jc ?_))))));obtain ⟨x10,h17,h15⟩:=Je h15;refine zI h17 (zE (Jb (Ja (Jc (zR 3 ?_)))));obtain ⟨r11,h18,h15⟩:=Je h15;refine zP (Wu _ _ r11 h18) (zE (Jb ?_));rcases Ji h15 with ⟨hb,h15⟩|⟨hb,h15⟩
   ·refine zT hb (Ja (Jc (zE (Jb (Jm (Jp (Jj ?_)))))));cases h15;refine Kc fun he=>?_;subst he;have h19:=Km h;refine Jp (Jj ?_);cases h19;exact zQ
   refine zU hb (Jg (Jx (Jb (Jc (zE ?_)))));cases h15;exact zB
  refine zU hb (Jv (Jt ?_));cases h15;exact zX
 rintro _ s' rfl hs;have h:=Ka h;refine Jr (Jb (Jy hs (Ja (Jc (zE (Jb (Jm ?_)))))));cases h;exact zQ
def Je0 (a0:Jd) (a1:Jw) (r1:(Ky×Bool)):(Bool×Jo×(List Jh))→Option ((Bool×Jo×(List Jh))⊕((List Jh)⊕Jw)):=fun (x24,x25,x26) =>
 ((bif x24 then (
  (Zx a0 x26).bind fun r39 =>
  some (decide (r39<r1.1.Overlap))
 ) else some false):Option Bool).bind fun b38 =>
 ((bif b38 then (
  some (decide (((x26.length:Nat):Int)<12))
 ) else some false):Option Bool).bind fun b40 =>
 ((bif b40 then (
  (Rh a0 (Jw.mk a1.Name a1.Entry a1.Exit a1.Path a1.Points a1.Sections a1.Approach a1.Length x26 [] [] a1.Flank a1.Guards a1.Gaps) x26 x25.El).bind fun r42 =>
  some (!r42)
 ) else some false):Option Bool).bind fun b41 =>
 bif b41 then (
  (Gi a0 x25).bind fun r43 =>
  bif decide (((r43.length:Nat):Int)=0) then (
   some (.inr (.inl x26))
  ) else (
   (ixO r43 0).bind fun x44 =>
   (Ul x26 [x44]).bind fun x45 =>
   (ixO r43 0).bind fun x46 =>
   (Cd a0 x46).bind fun r47 =>
   some (.inl (r47.2,r47.1,x45))
  )
 ) else (
  some (.inr (.inl x26))
 )
def Jbz (a0:Jd) (a1:Jw):Option Jw :=
 (Jb1 a0 (Jw.mk a1.Name a1.Entry a1.Exit a1.Path a1.Points a1.Sections a1.Approach a1.Length [] [] [] a1.Flank a1.Guards a1.Gaps)).bind fun r1 =>
 bif (!r1.2) then (
  some (Jw.mk a1.Name a1.Entry a1.Exit a1.Path a1.Points a1.Sections a1.Approach a1.Length [] [] [] a1.Flank a1.Guards a1.Gaps)
 ) else (
  (Wf a0 r1.1.At).bind fun r2 =>
  onInl (α:=(List Jh)) (β:=Jw) (Ki (Je0 a0 a1 r1) (r2.2,r2.1,([]:(List Jh)))) fun x37 =>
  (Gv a0 x37).bind fun r48 =>
  (Vu a0 x37).bind fun r49 =>
  some (Jw.mk a1.Name a1.Entry a1.Exit a1.Path a1.Points a1.Sections a1.Approach a1.Length x37 r48 r49 a1.Flank a1.Guards a1.Gaps)
 )
theorem Jl2 (a0:Jd) (a1:Jw) (r:Jw) (h:Jbz a0 a1=some r):Kg Tryz.prog GlS 68 [Enc.pv a0,Enc.pv a1] (Enc.pv r):=by
 unfold Jbz at h;refine zC Tryz.func68 Tryz.ntmps68 ?_;refine Ja (Jc (zE (Jb (Ja (Jc (zE (Jb (Ja (Jc (zE (Jb (Ja (Jc (zE ?_))))))))))))));refine Jb (Ja (Jc (zR 2 ?_)));obtain ⟨r1,h1,h⟩:=Je h;refine zP (Jl4 _ _ r1 h1) (zE (Jb (Ja (Ja (Jc (zE (Jb ?_)))))));rcases Ji h with ⟨hb,h⟩|⟨hb,h⟩
 ·refine zT hb (Ja (Jc (zE (Jb (Jm (Jj ?_))))));cases h;exact zQ
 refine zU hb (Jg (Jb (Ja (Jc (zR 3 ?_)))));obtain ⟨r2,h2,h⟩:=Je h;refine zP (Cg _ _ r2 h2) (zE (Jb (Ja (Jl ?_))));refine Jy (Fp 3 8 200308 3 24 (cs:=[.str a1.Name,I6 a1.Entry,I6 a1.Exit,Jk .frozen a1.Path,Jk .frozen a1.Points,Jk .frozen a1.Sections,I6 a1.Approach,I6 a1.Length,.nil,.nil,.nil,Jk .frozen a1.Flank,Jk .frozen a1.Guards,Jk .frozen a1.Gaps]) (by kernel_rfl) (by kernel_rfl) (by kernel_rfl)) ?_;obtain ⟨o33,h33,h⟩:=Kf h;refine zA 88 0 (fun (x24,x25,x26)=>⟨[(2,.ref 2 0),(3,.ref 3 0),(4,.ref 4 0),(5,.ref 5 0),(7,.ref 7 0),(8,.bool x24)],[(2,.cells (cellsOf a0)),(3,.cells ([.str a1.Name,I6 a1.Entry,I6 a1.Exit,Jk .frozen a1.Path,Jk .frozen a1.Points,Jk .frozen a1.Sections,I6 a1.Approach,I6 a1.Length,Jk (.own 200308) x26,.nil,.nil,Jk .frozen a1.Flank,Jk .frozen a1.Guards,Jk .frozen a1.Gaps])),(4,.cells ([.str ByteArray.empty,I6 0,I6 0,.nil,.nil,.nil,I6 0,I6 0,.nil,.nil,.nil,.nil,.nil,.nil])),(5,.cells (cellsOf r1.1)),(7,.cells (cellsOf x25))],[(200308,(((x26).map cellsOf).length,3))],[]⟩) (fun x37=>⟨[(2,.ref 2 0),(3,.ref 3 0),(4,.ref 4 0)],[(2,.cells (cellsOf a0)),(3,.cells ([.str a1.Name,I6 a1.Entry,I6 a1.Exit,Jk .frozen a1.Path,Jk .frozen a1.Points,Jk .frozen a1.Sections,I6 a1.Approach,I6 a1.Length,Jk (.own 200308) x37,.nil,.nil,Jk .frozen a1.Flank,Jk .frozen a1.Guards,Jk .frozen a1.Gaps])),(4,.cells ([.str ByteArray.empty,I6 0,I6 0,.nil,.nil,.nil,I6 0,I6 0,.nil,.nil,.nil,.nil,.nil,.nil]))],[(200308,(((x37).map cellsOf).length,3))],[]⟩) h33 ?_ ?_
 ·rintro ⟨x24,x25,x26⟩ oh32 h32;unfold Je0 at h32;refine Ja (Ja (zD ?_));obtain ⟨b38,h34,h32⟩:=Je h32;refine zR 2 ?_;refine Ko 8 38 (.bool b38) ?_ ?_
  ·rcases Ji h34 with ⟨hb,h34⟩|⟨hb,h34⟩
   ·refine zS 30 hb (zR 3 ?_);obtain ⟨r39,h35,h34⟩:=Je h34;refine zP (Na _ _ r39 h35) ?_;cases h34;exact zF
   refine zS 30 hb ?_;cases h34;exact zF
  obtain ⟨b40,h36,h32⟩:=Je h32;refine zR 1 ?_;refine Ko 5 44 (.bool b40) ?_ ?_
  ·rcases Ji h36 with ⟨hb,h36⟩|⟨hb,h36⟩
   ·refine zS 39 hb (zR 2 ?_);refine zL (L:=x26) ?_;cases h36;exact zF
   refine zS 39 hb ?_;cases h36;exact zF
  obtain ⟨b41,h37,h32⟩:=Je h32;refine zR 1 ?_;refine Ko 9 54 (.bool b41) ?_ ?_
  ·rcases Ji h37 with ⟨hb,h37⟩|⟨hb,h37⟩
   ·refine zS 45 hb (zR 6 ?_);obtain ⟨r42,h38,h37⟩:=Je h37;refine zP (Jho _ _ _ _ r42 h38) ?_;cases h37;exact zF
   refine zS 45 hb ?_;cases h37;exact zF
  refine zN (Jb ?_);rcases Ji h32 with ⟨hb,h32⟩|⟨hb,h32⟩
  ·refine zT hb (Jg (Jb (Jl (Ja (Jc (zR 2 ?_))))));obtain ⟨r43,h39,h32⟩:=Je h32;refine zP (Si _ _ r43 h39) (zE (Jb (Ja (Ja (Jc (zR 1 ?_))))));refine zL (L:=r43) ?_;refine zE (Jb ?_);rcases Ji h32 with ⟨hb,h32⟩|⟨hb,h32⟩
   ·refine zT hb (Jv (Jt (Jrx rfl ?_)));cases h32;exact zX
   refine zU hb (Jg (Jb (Ja (zD (zR 3 ?_)))));obtain ⟨x44,h40,h32⟩:=Je h32;refine zI h40 (zR 2 ?_);obtain ⟨x45,h41,h32⟩:=Je h32;refine zW (tk:=200308) h41 ?_;refine zE (Jb (zD (zR 2 ?_)));obtain ⟨x46,h42,h32⟩:=Je h32;refine zI h42 (zR 1 ?_);obtain ⟨r47,h43,h32⟩:=Je h32;refine zP (It _ _ r47 h43) (zE (Jx ?_));cases h32;exact zB
  refine zU hb (Jv (Jt ?_));cases h32;exact zX
 rintro x37 s' rfl hs;have h:=Ka h;refine Jr (Jb (Jy hs (Ja (Jc (zR 3 ?_)))));obtain ⟨r48,h44,h⟩:=Je h;refine zP (Sh _ _ r48 h44) (zE (Jb (Ja (Jc (zR 3 ?_)))));obtain ⟨r49,h45,h⟩:=Je h;refine zP (Hi _ _ r49 h45) (zE (Jb (Ja (Jc (zE (Jb (Jm ?_)))))));cases h;exact zQ
def Jbq (a1:Jh) (x2:Kv) (r3:(Int×Bool)):(Int×(List Jo))→Option ((Int×(List Jo))⊕((List Jo)⊕(List Jo))):=fun (x13,x14) =>
 (Eo x2.Kind).bind fun r20 =>
 bif decide (x13<r20) then (
  onInl (α:=(List Jo)) (β:=((Int×(List Jo))⊕((List Jo)⊕(List Jo)))) (
   bif ((r3.2&&(!(decide (x13=a1.In))))&&(!(decide (x13=a1.Out)))) then (
    (Ul x14 [(Jo.mk a1.El x13)]).bind fun x23 =>
    some (.inl x23)
   ) else (
    some (.inl x14)
   )
  ) fun x22 =>
  some (.inl (w64 (x13+1),x22))
 ) else (
  some (.inr (.inl x14))
 )
def Fu (a0:Jd) (a1:Jh):Option (List Jo) :=
 ((bif decide (a1.El<0) then some true else (
  some (decide (((a0.Elements.length:Nat):Int)≤a1.El))
 )):Option Bool).bind fun b1 =>
 bif b1 then (
  some ([]:(List Jo))
 ) else (
  (ixO a0.Elements a1.El).bind fun x2 =>
  (Cc x2.Kind a1.In a1.Out).bind fun r3 =>
  onInl (α:=(List Jo)) (β:=(List Jo)) (Ki (Jbq a1 x2 r3) (0,([]:(List Jo)))) fun x19 =>
  some x19
 )
theorem Jh3 (a0:Jd) (a1:Jh) (r:(List Jo)) (h:Fu a0 a1=some r):Kg Tryz.prog GlS 196 [Enc.pv a0,Enc.pv a1] (Jk (.own 100008) r):=by
 unfold Fu at h;refine zC Tryz.func196 Tryz.ntmps196 ?_;refine Ja (Jc (zE (Jb (Ja (Ja (Jc ?_))))));obtain ⟨b1,h1,h⟩:=Je h;refine zR 4 ?_;refine Ko 7 20 (.bool b1) ?_ ?_
 ·rcases Ji h1 with ⟨hb,h1⟩|⟨hb,h1⟩
  ·refine zS 13 hb ?_;cases h1;exact zF
  refine zS 13 hb (zR 4 ?_);refine zL (L:=a0.Elements) ?_;cases h1;exact zF
 refine zN (Jb ?_);rcases Ji h with ⟨hb,h⟩|⟨hb,h⟩
 ·refine zT hb (Ja (Jc (zE (Jb (Yz 4 100008 2 16 (by kernel_rfl) (by kernel_rfl) (Jm (Jj ?_)))))));cases h;exact zQ
 refine zU hb (Jg (Jb (Ja (Jc (zR 4 ?_)))));obtain ⟨x2,h2,h⟩:=Je h;refine zI h2 (zE (Jb (Ja (Jc (zR 5 ?_)))));obtain ⟨r3,h3,h⟩:=Je h;refine zP (Im _ _ _ r3 h3) (zE (Jb (Ja (Jc (zE (Jb (Ja (Ja (Jc (zE (Jb (Jl ?_))))))))))));refine Yz 8 100008 2 16 (by kernel_rfl) (by kernel_rfl) ?_;obtain ⟨o17,h17,h⟩:=Kf h;refine zA 64 0 (fun (x13,x14)=>⟨[(3,.ref 3 0),(5,I6 x2.Kind),(7,.bool r3.2),(8,Jk (.own 100008) x14),(9,I6 x13)],[(3,.cells (cellsOf a1))],[(100008,(((x14).map cellsOf).length,2))],[]⟩) (fun x19=>⟨[(8,Jk (.own 100008) x19)],[],[(100008,(((x19).map cellsOf).length,2))],[]⟩) h17 ?_ ?_
 ·rintro ⟨x13,x14⟩ oh16 h16;unfold Jbq at h16;refine Ja (Ja (Jc (zR 2 ?_)));obtain ⟨r20,h18,h16⟩:=Je h16;refine zP (Ja7 _ r20 h18) (zE (Jb ?_));rcases Ji h16 with ⟨hb,h16⟩|⟨hb,h16⟩
  ·refine zT hb (Jg (Jb ?_));obtain ⟨o20,h20,h16⟩:=Kf h16;refine Qm (o:=o20) 64 (fun x22=>⟨[(3,.ref 3 0),(5,I6 x2.Kind),(7,.bool r3.2),(8,Jk (.own 100008) x22),(9,I6 x13)],[(3,.cells (cellsOf a1))],[(100008,(((x22).map cellsOf).length,2))],[]⟩) ?_ ?_
   ·refine Jl (Ja (Jc (zR 2 ?_)));refine Ks 5 49 (r3.2&&(!(decide (x13=a1.In)))) (fun x hx=>?_) ?_
    ·rcases Vz hx with ⟨hb,hx⟩|⟨hb,hx⟩
     ·refine zS 44 hb ?_;subst hx;exact zF
     refine zS 44 hb ?_;subst hx;exact zF
    refine zR 1 ?_;refine Ks 5 55 ((r3.2&&(!(decide (x13=a1.In))))&&(!(decide (x13=a1.Out)))) (fun x hx=>?_) ?_
    ·rcases Vz hx with ⟨hb,hx⟩|⟨hb,hx⟩
     ·refine zS 50 hb ?_;subst hx;exact zF
     refine zS 50 hb ?_;subst hx;exact zF
    refine zN (Jb ?_);rcases Ji h20 with ⟨hb,h20⟩|⟨hb,h20⟩
    ·refine zT hb (Jc (zR 6 ?_));obtain ⟨x23,h21,h20⟩:=Je h20;refine zW (tk:=100008) h21 ?_;refine zE (Jx ?_);cases h20;exact zJ
    refine zU hb (Jg (Jx ?_));cases h20;exact zJ
   rintro x22 rfl;have h16:=Ka h16;refine Jc (zE ?_);cases h16;exact zB
  refine zU hb (Jv (Jt ?_));cases h16;exact zX
 rintro x19 s' rfl hs;have h:=Ka h;refine Jr (Jb (Jy hs (Ja (Jc (zE (Jb (Jm ?_)))))));cases h;exact zQ
theorem Xx (a0:Jd) (a1:Jh) (r:(List Jo)) (h:Fu a0 a1=some r):Kg Tryz.prog GlS 196 [Enc.pv a0,Enc.pv a1] (Enc.pv r) :=
 (Jh3 a0 a1 r h).freeze (by kernel_rfl) (by kernel_rfl) (by kernel_rfl)
def Jde (a0:Jd) (a1:Jw):(Int×(List Jo))→Option ((Int×(List Jo))⊕((List Jo)⊕(List Jo))):=fun (x8,x9) =>
 bif decide (x8<((a1.Path.length:Nat):Int)) then (
  (ixO a1.Path x8).bind fun x14 =>
  (Fu a0 x14).bind fun r15 =>
  (Ul x9 r15).bind fun x16 =>
  some (.inl (w64 (x8+1),x16))
 ) else (
  some (.inr (.inl x9))
 )
def Jdb (a0:Jd) (a1:Jw):((List Jo)×Int)→Option (((List Jo)×Int)⊕((List Jo)⊕(List Jo))):=fun (x20,x21) =>
 bif decide (x21<((a1.Over.length:Nat):Int)) then (
  (ixO a1.Over x21).bind fun x26 =>
  (Fu a0 x26).bind fun r27 =>
  (Ul x20 r27).bind fun x28 =>
  some (.inl (x28,w64 (x21+1)))
 ) else (
  some (.inr (.inl x20))
 )
def Jan (a0:Jd) (a1:Jw):Option (List Jo) :=
 onInl (α:=(List Jo)) (β:=(List Jo)) (Ki (Jde a0 a1) (0,([]:(List Jo)))) fun x13 =>
 onInl (α:=(List Jo)) (β:=(List Jo)) (Ki (Jdb a0 a1) (x13,0)) fun x25 =>
 some x25
theorem Jkl (a0:Jd) (a1:Jw) (r:(List Jo)) (h:Jan a0 a1=some r):Kg Tryz.prog GlS 126 [Enc.pv a0,Enc.pv a1] (Jk (.own 100005) r):=by
 unfold Jan at h;refine zC Tryz.func126 Tryz.ntmps126 ?_;refine Ja (Jc (zE (Jb (Ja (Jc (zE (Jb (Ja (Ja (Jc (zE (Jb (Jl ?_)))))))))))));refine Yz 5 100005 2 16 (by kernel_rfl) (by kernel_rfl) ?_;obtain ⟨o11,h11,h⟩:=Kf h;refine zA 41 0 (fun (x8,x9)=>⟨[(2,.ref 2 0),(3,.ref 3 0),(5,Jk (.own 100005) x9),(6,I6 x8)],[(2,.cells (cellsOf a0)),(3,.cells (cellsOf a1))],[(100005,(((x9).map cellsOf).length,2))],[]⟩) (fun x13=>⟨[(2,.ref 2 0),(3,.ref 3 0),(5,Jk (.own 100005) x13)],[(2,.cells (cellsOf a0)),(3,.cells (cellsOf a1))],[(100005,(((x13).map cellsOf).length,2))],[]⟩) h11 ?_ ?_
 ·rintro ⟨x8,x9⟩ oh10 h10;unfold Jde at h10;refine Ja (Ja (Jc (zR 3 ?_)));refine zL (L:=a1.Path) ?_;refine zE (Jb ?_);rcases Ji h10 with ⟨hb,h10⟩|⟨hb,h10⟩
  ·refine zT hb (Jg (Jb (Ja (Jl (zD (zR 5 ?_))))));obtain ⟨x14,h12,h10⟩:=Je h10;refine zI h12 (zR 1 ?_);obtain ⟨r15,h13,h10⟩:=Je h10;refine zP (Xx _ _ r15 h13) ?_;obtain ⟨x16,h14,h10⟩:=Je h10;refine zW (tk:=100005) h14 ?_;refine zE (Jx (Jb (Jc (zE ?_))));cases h10;exact zB
  refine zU hb (Jv (Jt ?_));cases h10;exact zX
 rintro x13 s' rfl hs;have h:=Ka h;refine Jr (Jb (Jy hs (Ja (Ja (Jc (zE (Jb (Jl ?_))))))));obtain ⟨o22,h22,h⟩:=Kf h;refine zA 41 2 (fun (x20,x21)=>⟨[(2,.ref 2 0),(3,.ref 3 0),(5,Jk (.own 100005) x20),(7,I6 x21)],[(2,.cells (cellsOf a0)),(3,.cells (cellsOf a1))],[(100005,(((x20).map cellsOf).length,2))],[]⟩) (fun x25=>⟨[(5,Jk (.own 100005) x25)],[],[(100005,(((x25).map cellsOf).length,2))],[]⟩) h22 ?_ ?_
 ·rintro ⟨x20,x21⟩ oh21 h21;unfold Jdb at h21;refine Ja (Ja (Jc (zR 3 ?_)));refine zL (L:=a1.Over) ?_;refine zE (Jb ?_);rcases Ji h21 with ⟨hb,h21⟩|⟨hb,h21⟩
  ·refine zT hb (Jg (Jb (Ja (Jl (zD (zR 5 ?_))))));obtain ⟨x26,h23,h21⟩:=Je h21;refine zI h23 (zR 1 ?_);obtain ⟨r27,h24,h21⟩:=Je h21;refine zP (Xx _ _ r27 h24) ?_;obtain ⟨x28,h25,h21⟩:=Je h21;refine zW (tk:=100005) h25 ?_;refine zE (Jx (Jb (Jc (zE ?_))));cases h21;exact zB
  refine zU hb (Jv (Jt ?_));cases h21;exact zX
 rintro x25 s' rfl hs;have h:=Ka h;refine Jr (Jb (Jy hs (Ja (Jc (zE (Jb (Jm ?_)))))));cases h;exact zQ
def Jet (a0:(List Jh)) (a1:Int):Int→Option (Int⊕(Unit⊕Bool)):=fun x2 =>
 bif decide (x2<((a0.length:Nat):Int)) then (
  (ixO a0 x2).bind fun x4 =>
  bif decide (x4.El=a1) then (
   some (.inr (.inr true))
  ) else (
   some (.inl (w64 (x2+1)))
  )
 ) else (
  some (.inr (.inl ()))
 )
def Sl (a0:(List Jh)) (a1:Int):Option Bool :=
 onInl (α:=Unit) (β:=Bool) (Ki (Jet a0 a1) 0) fun _ =>
 some false
theorem Jdm (a0:(List Jh)) (a1:Int) (r:Bool) (h:Sl a0 a1=some r):Kg Tryz.prog GlS 197 [Enc.pv a0,Enc.pv a1] (Enc.pv r):=by
 unfold Sl at h;refine zC Tryz.func197 Tryz.ntmps197 ?_;refine Ja (Jc (zE (Jb (Ja (Ja (Jc (zE (Jb (Jl ?_)))))))));obtain ⟨o6,h6,h⟩:=Kf h;refine zA 19 0 (fun x2=>⟨[(0,Jk .frozen a0),(1,I6 a1),(5,I6 x2)],[],[],[]⟩) (fun (_:Unit)=>⟨[],[],[],[]⟩) h6 ?_ ?_
 ·rintro x2 oh5 h5;unfold Jet at h5;refine Ja (Ja (Jc (zR 2 ?_)));refine zL (L:=a0) ?_;refine zE (Jb ?_);rcases Ji h5 with ⟨hb,h5⟩|⟨hb,h5⟩
  ·refine zT hb (Jg (Jb (Ja (Jl (Ja (Jc (zR 2 ?_)))))));obtain ⟨x4,h7,h5⟩:=Je h5;refine zI h7 (zE (Jb ?_));rcases Ji h5 with ⟨hb,h5⟩|⟨hb,h5⟩
   ·refine zT hb (Ja (Jc (zE (Jb (Jm (Jp (Jj ?_)))))));cases h5;refine Kc fun he=>?_;subst he;have h8:=Km h;refine Jp (Jj ?_);cases h8;exact zQ
   refine zU hb (Jg (Jx (Jb (Jc (zE ?_)))));cases h5;exact zB
  refine zU hb (Jv (Jt ?_));cases h5;exact zX
 rintro _ s' rfl hs;have h:=Ka h;refine Jr (Jb (Jy hs (Ja (Jc (zE (Jb (Jm ?_)))))));cases h;exact zQ
def Jgp (a0:(List Js)) (a1:Js):Int→Option (Int⊕(Unit⊕Bool)):=fun x2 =>
 bif decide (x2<((a0.length:Nat):Int)) then (
  (ixO a0 x2).bind fun x4 =>
  bif Gg x4 a1 then (
   some (.inr (.inr true))
  ) else (
   some (.inl (w64 (x2+1)))
  )
 ) else (
  some (.inr (.inl ()))
 )
def Lv (a0:(List Js)) (a1:Js):Option Bool :=
 onInl (α:=Unit) (β:=Bool) (Ki (Jgp a0 a1) 0) fun _ =>
 some false
theorem Ni (a0:(List Js)) (a1:Js) (r:Bool) (h:Lv a0 a1=some r):Kg Tryz.prog GlS 200 [Enc.pv a0,Enc.pv a1] (Enc.pv r):=by
 unfold Lv at h;refine zC Tryz.func200 Tryz.ntmps200 ?_;refine Ja (Jc (zE (Jb (Ja (Ja (Jc (zE (Jb (Jl ?_)))))))));obtain ⟨o6,h6,h⟩:=Kf h;refine zA 18 0 (fun x2=>⟨[(0,Jk .frozen a0),(3,.ref 3 0),(5,I6 x2)],[(3,.cells (cellsOf a1))],[],[]⟩) (fun (_:Unit)=>⟨[],[],[],[]⟩) h6 ?_ ?_
 ·rintro x2 oh5 h5;unfold Jgp at h5;refine Ja (Ja (Jc (zR 2 ?_)));refine zL (L:=a0) ?_;refine zE (Jb ?_);rcases Ji h5 with ⟨hb,h5⟩|⟨hb,h5⟩
  ·refine zT hb (Jg (Jb (Ja (Jl (Ja (zD (zR 2 ?_)))))));obtain ⟨x4,h7,h5⟩:=Je h5;refine zI h7 (zE (Jb ?_));rcases Ji h5 with ⟨hb,h5⟩|⟨hb,h5⟩
   ·refine zT hb (Ja (Jc (zE (Jb (Jm (Jp (Jj ?_)))))));cases h5;refine Kc fun he=>?_;subst he;have h8:=Km h;refine Jp (Jj ?_);cases h8;exact zQ
   refine zU hb (Jg (Jx (Jb (Jc (zE ?_)))));cases h5;exact zB
  refine zU hb (Jv (Jt ?_));cases h5;exact zX
 rintro _ s' rfl hs;have h:=Ka h;refine Jr (Jb (Jy hs (Ja (Jc (zE (Jb (Jm ?_)))))));cases h;exact zQ
def Jau (a0:Jw) (a1:Js):Option Bool :=
 (Lv a0.Points a1).bind fun r1 =>
 ((bif r1 then some true else (
  (Lv a0.OverPoints a1).bind fun r3 =>
  some r3
 )):Option Bool).bind fun b2 =>
 ((bif b2 then some true else (
  (Lv a0.Flank a1).bind fun r5 =>
  some r5
 )):Option Bool).bind fun b4 =>
 some b4
theorem Jjd (a0:Jw) (a1:Js) (r:Bool) (h:Jau a0 a1=some r):Kg Tryz.prog GlS 261 [Enc.pv a0,Enc.pv a1] (Enc.pv r):=by
 unfold Jau at h;refine zC Tryz.func261 Tryz.ntmps261 ?_;refine Ja (Jc (zE (Jb (Ja (Jc (zR 3 ?_))))));obtain ⟨r1,h1,h⟩:=Je h;refine zP (Ni _ _ r1 h1) ?_;obtain ⟨b2,h2,h⟩:=Je h;refine zR 1 ?_;refine Ko 5 14 (.bool b2) ?_ ?_
 ·rcases Ji h2 with ⟨hb,h2⟩|⟨hb,h2⟩
  ·refine zS 9 hb ?_;cases h2;exact zF
  refine zS 9 hb (zR 3 ?_);obtain ⟨r3,h3,h2⟩:=Je h2;refine zP (Ni _ _ r3 h3) ?_;cases h2;exact zF
 obtain ⟨b4,h4,h⟩:=Je h;refine zR 1 ?_;refine Ko 5 20 (.bool b4) ?_ ?_
 ·rcases Ji h4 with ⟨hb,h4⟩|⟨hb,h4⟩
  ·refine zS 15 hb ?_;cases h4;exact zF
  refine zS 15 hb (zR 3 ?_);obtain ⟨r5,h5,h4⟩:=Je h4;refine zP (Ni _ _ r5 h5) ?_;cases h4;exact zF
 refine zE (Jb (Jm ?_));cases h;exact zQ
def Jd5 (a0:Jw) (a1:Jo):Option (Js×Int×Bool) :=
 onInl (α:=(Int×Int)) (β:=(Js×Int×Bool)) (
  bif decide (a1.Side=2) then (
   some (.inl (2,1))
  ) else (
   some (.inl (1,2))
  )
 ) fun (x1,x2) =>
 (Jau a0 (Js.mk a1.El x1)).bind fun r3 =>
 bif r3 then (
  some ((Js.mk 0 0),(-1),false)
 ) else (
  some ((Js.mk a1.El x2),(-1),true)
 )
theorem Jo3 (a0:Jw) (a1:Jo) (r:(Js×Int×Bool)) (h:Jd5 a0 a1=some r):Kg Tryz.prog GlS 198 [Enc.pv a0,Enc.pv a1] (.tup [Enc.pv r.1,Enc.pv r.2.1,Enc.pv r.2.2]):=by
 unfold Jd5 at h;refine zC Tryz.func198 Tryz.ntmps198 ?_;refine Ja (Jc (zE (Jb (Ja (Jc (zE (Jb (Ja (Jc (zE (Jb ?_)))))))))));obtain ⟨o1,h1,h⟩:=Kf h;refine Qm (o:=o1) 29 (fun (x1,x2)=>⟨[(2,.ref 2 0),(4,.ref 4 0),(7,.ref 7 0),(8,.ref 8 0)],[(2,.cells (cellsOf a0)),(4,.cells ([I6 0,I6 0])),(7,.cells ([I6 a1.El,I6 x1])),(8,.cells ([I6 a1.El,I6 x2]))],[],[]⟩) ?_ ?_
 ·refine Ja (Jc (zE (Jb ?_)));rcases Ji h1 with ⟨hb,h1⟩|⟨hb,h1⟩
  ·refine zT hb (Ja (Jc (zE (Jb (Jc (zE ?_))))));cases h1;exact zJ
  refine zU hb (Jg ?_);cases h1;exact zJ
 rintro ⟨x1,x2⟩ rfl;have h:=Ka h;refine Ja (Ja (Jc (zR 2 ?_)));obtain ⟨r3,h2,h⟩:=Je h;refine zP (Jjd _ _ r3 h2) (zN (Jb ?_));rcases Ji h with ⟨hb,h⟩|⟨hb,h⟩
 ·refine zT hb (Ja (Jc (zE (Jb (Jm (Jj ?_))))));cases h;exact zQ
 refine zU hb (Jg (Jb (Ja (Jc (zE (Jb (Jm ?_)))))));cases h;exact zQ
def Jgf (a0:Int) (a1:Int) (a2:Int):Int→Option (Int⊕(Unit⊕(Int×Bool))):=fun x2 =>
 bif decide (x2<4) then (
  (Cc a0 a1 x2).bind fun r4 =>
  bif (r4.2&&((decide (r4.1=0))||(decide (r4.1=a2)))) then (
   some (.inr (.inr (x2,true)))
  ) else (
   some (.inl (w64 (x2+1)))
  )
 ) else (
  some (.inr (.inl ()))
 )
def Je6 (a0:Int) (a1:Int) (a2:Int):Option (Int×Bool) :=
 onInl (α:=Unit) (β:=(Int×Bool)) (Ki (Jgf a0 a1 a2) 0) fun _ =>
 some (0,false)
theorem Jnn (a0:Int) (a1:Int) (a2:Int) (r:(Int×Bool)) (h:Je6 a0 a1 a2=some r):Kg Tryz.prog GlS 199 [Enc.pv a0,Enc.pv a1,Enc.pv a2] (.tup [Enc.pv r.1,Enc.pv r.2]):=by
 unfold Je6 at h;refine zC Tryz.func199 Tryz.ntmps199 ?_;refine Ja (Jc (zE (Jb (Ja (Ja (Jc (zE (Jb (Jl ?_)))))))));obtain ⟨o6,h6,h⟩:=Kf h;refine zA 33 0 (fun x2=>⟨[(0,I6 a0),(1,I6 a1),(2,I6 a2),(8,I6 x2)],[],[],[]⟩) (fun (_:Unit)=>⟨[],[],[],[]⟩) h6 ?_ ?_
 ·rintro x2 oh5 h5;unfold Jgf at h5;refine Ja (Ja (Jc (zE (Jb ?_))));rcases Ji h5 with ⟨hb,h5⟩|⟨hb,h5⟩
  ·refine zT hb (Jg (Jb (Ja (Jl (Ja (Jc (zR 3 ?_)))))));obtain ⟨r4,h7,h5⟩:=Je h5;refine zP (Im _ _ _ r4 h7) (zE (Jb (Ja (Jc (zR 2 ?_)))));refine Ks 8 31 (r4.2&&((decide (r4.1=0))||(decide (r4.1=a2)))) (fun x hx=>?_) ?_
   ·rcases Vz hx with ⟨hb,hx⟩|⟨hb,hx⟩
    ·refine zS 23 hb (zR 3 ?_);refine Tb 4 30 ((decide (r4.1=0))||(decide (r4.1=a2))) (fun x hx=>?_) ?_
     ·rcases Vi hx with ⟨hb,hx⟩|⟨hb,hx⟩
      ·refine zS 26 hb ?_;subst hx;exact zF
      refine zS 26 hb ?_;subst hx;exact zF
     subst hx;exact zF
    refine zS 23 hb ?_;subst hx;exact zF
   refine zN (Jb ?_);rcases Ji h5 with ⟨hb,h5⟩|⟨hb,h5⟩
   ·refine zT hb (Ja (Jc (zE (Jb (Jm (Jp (Jj ?_)))))));cases h5;refine Kc fun he=>?_;subst he;have h8:=Km h;refine Jp (Jj ?_);cases h8;exact zQ
   refine zU hb (Jg (Jx (Jb (Jc (zE ?_)))));cases h5;exact zB
  refine zU hb (Jv (Jt ?_));cases h5;exact zX
 rintro _ s' rfl hs;have h:=Ka h;refine Jr (Jb (Jy hs (Ja (Jc (zE (Jb (Jm ?_)))))));cases h;exact zQ
end
end PM
