/-
 Plain functions for the program's functions, and the proofs that the program does them. Printed by den.py.
-/
import Derived.Test.YtfpoeepcomnjhaaGreatDoorDen0
namespace PM
noncomputable section
open Go Go.RowKit Go.Proofs
attribute [local irreducible] Jv pwp
def Bg (a0:Ja) (a1:(List Jb)):(Int×(List Int))->Option ((Int×(List Int))⊕((List Int)⊕(List Int))):=fun (x40,x41) =>
 bif decide (x40<((a1.length:Nat):Int)) then (
  onInl (α:=(List Int)) (β:=((Int×(List Int))⊕((List Int)⊕(List Int)))) (
   (ixO a1 x40).bind fun x72 =>
   (Yt a0 x72.El).bind fun r73 =>
   ((bif r73 then (
    (ixO a1 x40).bind fun x75 =>
    (ixO a0.Elements x75.El).bind fun x76 =>
    (Rr x41 x76.Section).bind fun r77 =>
    some (!r77)
   ) else some false):Option Bool).bind fun b74 =>
   bif b74 then (
    (ixO a1 x40).bind fun x78 =>
    (ixO a0.Elements x78.El).bind fun x79 =>
    (Uq x41 [x79.Section]).bind fun x80 =>
    some (.inl x80)
   ) else (
    some (.inl x41)
   )
  ) fun x71 =>
  some (.inl (w64 (x40+1),x71))
 ) else (
  some (.inr (.inl x41))
 )
def Wr (a0:Ja) (a1:(List Jb)):Option (List Int) :=
 onInl (Js (Bg a0 a1) (0,[])) fun x61 =>
 some x61
instance Jfn (a0:Ja) (a1:(List Jb)):Ct Tryz.prog GlS (Wr a0 a1) 136 [Enc.pv a0,Enc.pv a1] (fun r=>Jh (.own 100005) r):=⟨fun r h=>by
 unfold Wr at h;refine zC Tryz.func136 Tryz.ntmps136 ?_;refine w1 n0 (.e (.e (.e .S))) ?_;intro h;refine Jo (Kq (Zh 5 100005 1 8 kr kr ?_));refine yM 49 0 [6] (fun (x40,x41)=>⟨[(1,Jh .frozen a1),(2,.ref 2 0),(5,Jh (.own 100005) x41),(6,I6 x40)],[(2,.cells (cellsOf a0))],[(100005,(((x41).map cellsOf).length,1))],[]⟩) h ?_ ?_
 ·rintro ⟨x40,x41⟩ _ h;unfold Bg at h;refine w1 a1 (.l 2 (.e (.c .s .z))) ?_;intro h;refine yJ 49 (fun x71=>⟨[(1,Jh .frozen a1),(2,.ref 2 0),(5,Jh (.own 100005) x71),(6,I6 x40)],[(2,.cells (cellsOf a0))],[(100005,(((x71).map cellsOf).length,1))],[]⟩) h ?_ ?_
  ·intro _ h;exact w1 n0 (.i 3 (.p 2 (.b 1 14 34 (.g 0 (.i 5 (.i 2 (.p 2 .z))) .z) (.e (.c (.i 5 (.i 2 (.w 3 (.e .z)))) .z))))) t0
  intro x71 h;exact w1 n0 (.e .z) t0
 intro x61 s' h hs;exact w1 n0 (.e .z) t0⟩
theorem Jfl (a0:Ja) (a1:(List Jb)) (r:(List Int)) (h:Wr a0 a1=some r):Yy Tryz.prog GlS 136 [Enc.pv a0,Enc.pv a1] (Enc.pv r) :=
 ((Jfn a0 a1).ok r h).freeze kr kr kr
def Hg (a0:Ja) (a2:(List Jb)):(Int×Int)->Option ((Int×Int)⊕(Int⊕Bool)):=fun (x17,x18) =>
 bif decide (x18<((a2.length:Nat):Int)) then (
  onInl (α:=Int) (β:=((Int×Int)⊕(Int⊕Bool))) (
   (ixO a2 x18).bind fun x34 =>
   (Wh a0 x34.El).bind fun r35 =>
   (ixO a2 (w64 (x18 - 1))).bind fun x36 =>
   (Wh a0 x36.El).bind fun r37 =>
   bif (!(decide (r35=r37))) then (
    some (.inl (w64 (x17+1)))
   ) else (
    some (.inl x17)
   )
  ) fun x33 =>
  some (.inl (x33,w64 (x18+1)))
 ) else (
  some (.inr (.inl x17))
 )
def Ib (a0:Ja) (a1:Je) (a2:(List Jb)):Option Bool :=
 ((bif decide (((a2.length:Nat):Int)=0) then some true else (
  some (decide (12<((a2.length:Nat):Int)))
 )):Option Bool).bind fun b1 =>
 ((bif b1 then some true else (
  (ixO a2 0).bind fun x3 =>
  some (!(decide (x3.El=a1.El)))
 )):Option Bool).bind fun b2 =>
 ((bif b2 then some true else (
  (ixO a2 0).bind fun x5 =>
  some (!(decide (x5.In=a1.Side)))
 )):Option Bool).bind fun b4 =>
 ((bif b4 then some true else (
  (Ff a0 a2).bind fun r7 =>
  some (!r7)
 )):Option Bool).bind fun b6 =>
 bif b6 then (
  some false
 ) else (
  onInl (Js (Hg a0 a2) (1,1)) fun x28 =>
  (Wr a0 a2).bind fun r38 =>
  some (decide (x28=((r38.length:Nat):Int)))
 )
instance Kcp (a0:Ja) (a1:Je) (a2:(List Jb)):Ct Tryz.prog GlS (Ib a0 a1 a2) 259 [Enc.pv a0,Enc.pv a1,Enc.pv a2] Enc.pv:=⟨fun r h=>by
 unfold Ib at h;refine zC Tryz.func259 Tryz.ntmps259 ?_;refine w1 a2 (.e (.l 1 (.b 2 4 16 (.g 0 .z (.l 1 .z)) (.b 1 8 25 (.g 0 .z (.i 1 .z)) (.b 1 8 34 (.g 0 .z (.i 1 .z)) (.b 1 5 40 (.g 0 .z (.p 2 .z)) (.e (.c (.e .z) (.e (.e .s)))))))))) ?_;intro _ _ _ _ h;refine yL 71 0 (fun (x17,x18)=>⟨[(2,Jh .frozen a2),(3,.ref 3 0),(7,I6 x17),(8,I6 x18)],[(3,.cells (cellsOf a0))],[],[]⟩) (fun x28=>⟨[(2,Jh .frozen a2),(3,.ref 3 0),(7,I6 x28)],[(3,.cells (cellsOf a0))],[],[]⟩) h ?_ ?_
 ·rintro ⟨x17,x18⟩ _ h;unfold Hg at h;refine w1 a2 (.l 2 (.e (.c .s .z))) ?_;intro h;refine yJ 71 (fun x33=>⟨[(2,Jh .frozen a2),(3,.ref 3 0),(7,I6 x33),(8,I6 x18)],[(3,.cells (cellsOf a0))],[],[]⟩) h ?_ ?_
  ·intro _ h;exact w1 n0 (.i 3 (.p 2 (.i 4 (.p 2 (.e (.c (.e .z) .z)))))) t0
  intro x33 h;exact w1 n0 (.e .z) t0
 intro x28 s' h hs;refine w1 n0 (.p 3 .s) ?_;intro r38 h;refine yl 0 r38 ?_;exact w1 n0 (.e .z) t0⟩
def Zy (a0:Ja) (a1:Je):Int->Option (Int⊕(Unit⊕Int)):=fun x2 =>
 bif decide (x2<((a0.Signals.length:Nat):Int)) then (
  (ixO a0.Signals x2).bind fun x4 =>
  bif Kb x4.At a1 then (
   some (.inr (.inr x2))
  ) else (
   some (.inl (w64 (x2+1)))
  )
 ) else (
  some (.inr (.inl ()))
 )
def Wc (a0:Ja) (a1:Je):Option Int :=
 onInl (Js (Zy a0 a1) 0) fun _ =>
 some (-1)
instance Jzl (a0:Ja) (a1:Je):Ct Tryz.prog GlS (Wc a0 a1) 81 [Enc.pv a0,Enc.pv a1] Enc.pv:=⟨fun r h=>by
 unfold Wc at h;refine zC Tryz.func81 Tryz.ntmps81 ?_;refine w1 a0.Signals (.e (.l 2 (.e .s))) ?_;intro h;refine yN 21 0 [10] (fun x2=>⟨[(3,.ref 3 0),(8,Jh .frozen a0.Signals),(9,I6 ((a0.Signals.length:Nat):Int)),(10,I6 x2)],[(3,.cells (cellsOf a1))],[],[]⟩) h ?_ ?_
 ·intro x2 _ h;unfold Zy at h;exact w1 n0 (.e (.c (.i 1 (.e (.e (.c (.e .z) (.e .z))))) .z)) t0
 intro _ s' h hs;exact w1 n0 (.e .z) t0⟩
def Cf (a0:Ja) (a1:Jb):Option (Int×Bool) :=
 (Wc a0 (Je.mk a1.El a1.Out)).bind fun r1 =>
 (Cn a0 a1).bind fun r2 =>
 some (r1,((decide (0<=r1))||(!r2.2)))
instance Kc3 (a0:Ja) (a1:Jb):Ct Tryz.prog GlS (Cf a0 a1) 193 [Enc.pv a0,Enc.pv a1] (fun r=>.tup [Enc.pv r.1,Enc.pv r.2]):=⟨fun r h=>by
 unfold Cf at h;refine zC Tryz.func193 Tryz.ntmps193 ?_;exact w1 n0 (.e (.p 6 (.e (.p 2 (.e (.o 4 3 28 0 (.e .z))))))) t0⟩
def Zq (rc_d_ref12_Paths_search:Jm->Ja->Je->Je->(List Jb)->Option Jm) (a1:Ja) (a2:Je) (a4:(List Jb)) (r1:(List Jb)):(Int×(List (List Jb)))->Option ((Int×(List (List Jb)))⊕((List (List Jb))⊕Jm)):=fun (x23,x24) =>
 bif decide (x23<((r1.length:Nat):Int)) then (
  onInl (α:=(List (List Jb))) (β:=((Int×(List (List Jb)))⊕((List (List Jb))⊕Jm))) (
   (Uq ([]:(List Jb)) a4).bind fun x58 =>
   (ixO r1 x23).bind fun x59 =>
   (Uq x58 [x59]).bind fun x60 =>
   (Ib a1 a2 x60).bind fun r61 =>
   bif (!r61) then (
    some (.inl x24)
   ) else (
    (ixO r1 x23).bind fun x62 =>
    (Cf a1 x62).bind fun r63 =>
    bif r63.2 then (
     (Uq x24 [x60]).bind fun x64 =>
     some (.inl x64)
    ) else (
     (ixO r1 x23).bind fun x65 =>
     (Cn a1 x65).bind fun r66 =>
     (rc_d_ref12_Paths_search (Jm.mk x24) a1 a2 r66.1 x60).bind fun r67 =>
     some (.inl r67.L)
    )
   )
  ) fun x57 =>
  some (.inl (w64 (x23+1),x57))
 ) else (
  some (.inr (.inl x24))
 )
def Vq (rc_d_ref12_Paths_search:Jm->Ja->Je->Je->(List Jb)->Option Jm) (a0:Jm) (a1:Ja) (a2:Je) (a3:Je) (a4:(List Jb)):Option Jm :=
 (Zw a1 a3).bind fun r1 =>
 onInl (Js (Zq rc_d_ref12_Paths_search a1 a2 a4 r1) (0,a0.L)) fun x46 =>
 some (Jm.mk x46)
theorem Ik (rc_d_ref12_Paths_search:Jm->Ja->Je->Je->(List Jb)->Option Jm) (hrc_d_ref12_Paths_search:∀ (a0:Jm) (a1:Ja) (a2:Je) (a3:Je) (a4:(List Jb)) (r:Jm),rc_d_ref12_Paths_search a0 a1 a2 a3 a4=some r->Jo5 Tryz.prog GlS 192 (some (.cells [.ex 1000000000 1 24 (((a0.L:(List (List Jb))).map cellsOf).length) 0 (((a0.L:(List (List Jb))).map cellsOf).length)])) [(1,24,(a0.L:(List (List Jb))).map cellsOf)] [.ref 1000000 0,Enc.pv a1,Enc.pv a2,Enc.pv a3,Enc.pv a4] (.tup []) (some (.cells [.ex 1000000000 1 24 (((r.L:(List (List Jb))).map cellsOf).length) 0 (((r.L:(List (List Jb))).map cellsOf).length)])) [(1,24,(r.L:(List (List Jb))).map cellsOf)]) (a0:Jm) (a1:Ja) (a2:Je) (a3:Je) (a4:(List Jb)) (r:Jm) (h:Vq rc_d_ref12_Paths_search a0 a1 a2 a3 a4=some r):Jo5 Tryz.prog GlS 192 (some (.cells [.ex 1000000000 1 24 (((a0.L:(List (List Jb))).map cellsOf).length) 0 (((a0.L:(List (List Jb))).map cellsOf).length)])) [(1,24,(a0.L:(List (List Jb))).map cellsOf)] [.ref 1000000 0,Enc.pv a1,Enc.pv a2,Enc.pv a3,Enc.pv a4] (.tup []) (some (.cells [.ex 1000000000 1 24 (((r.L:(List (List Jb))).map cellsOf).length) 0 (((r.L:(List (List Jb))).map cellsOf).length)])) [(1,24,(r.L:(List (List Jb))).map cellsOf)]:=by
 unfold Vq at h;refine Jq4 Tryz.func192 (by rfl) rfl Tryz.ntmps192 (by rfl) rfl rfl (of_decide_eq_true rfl) kr ?_;refine w1 n0 (.e (.p 2 (.e (.e .s)))) ?_;intro r1 h;refine yM 76 0 [11] (fun (x23,x24)=>⟨[(0,.ref 1000000 0),(4,Jh .frozen a4),(6,.ref 6 0),(7,.ref 7 0),(10,Jh (.own 119006) r1),(11,I6 x23)],[(6,.cells (cellsOf a1)),(7,.cells (cellsOf a2)),(1000000,.cells ([.ex 1000000000 1 24 ((x24.map cellsOf).length) 0 ((x24.map cellsOf).length)]))],[(119006,(((r1).map cellsOf).length,3)),(1000000000,((x24.map cellsOf).length,0))],[(1000000000,(1,(24,x24.map cellsOf)))]⟩) h ?_ ?_
 ·rintro ⟨x23,x24⟩ _ h;unfold Zq at h;refine w1 r1 (.l 2 (.e (.c .s .z))) ?_;intro h;refine yJ 76 (fun x57=>⟨[(0,.ref 1000000 0),(4,Jh .frozen a4),(6,.ref 6 0),(7,.ref 7 0),(10,Jh (.own 119006) r1),(11,I6 x23)],[(6,.cells (cellsOf a1)),(7,.cells (cellsOf a2)),(1000000,.cells ([.ex 1000000000 1 24 ((x57.map cellsOf).length) 0 ((x57.map cellsOf).length)]))],[(119006,(((r1).map cellsOf).length,3)),(1000000000,((x57.map cellsOf).length,0))],[(1000000000,(1,(24,x57.map cellsOf)))]⟩) h ?_ ?_
  ·intro _ h;refine w1 n0 (.e .x) ?_;intro _ h57 h;refine zR 2 (Jbe (tk:=28) h57 kr ?_);refine w6 n0 (.e (.i 3 (.w 2 (.e (.p 3 (.e (.c .z (.i 3 (.p 1 (.e (.e (.c .x (.i 3 (.p 1 (.e .x))))))))))))))) ?_ ?_ t0 t0 t0 t0
   ·intro _ _ _ _ _ _ h63 h;exact zR 7 (Jww (tk:=1000000000) (N:=(x24.map cellsOf).length) h63 kr kr kr (w1 n0 (.e .z) t0))
   intro _ _ _ _ _ _ _ r67 h66 h;exact zR 5 (Jyw (some 1000000) [1000000000] [] none (hrc_d_ref12_Paths_search _ _ _ _ _ r67 h66) kr kr kr kr kr (w1 n0 (.e .z) t0))
  intro x57 h;exact w1 n0 (.e .z) t0
 intro x46 s' h hs;refine Ui ?_;cases h;exact Khh hs kr kr kr
def Vo (n:Nat):Jm->Ja->Je->Je->(List Jb)->Option Jm:=Nat.rec (fun _ _ _ _ _=>none) (fun _ ih=>Vq ih) n
theorem Ij : ∀ (n:Nat) (a0:Jm) (a1:Ja) (a2:Je) (a3:Je) (a4:(List Jb)) (r:Jm),Vo n a0 a1 a2 a3 a4=some r->Jo5 Tryz.prog GlS 192 (some (.cells [.ex 1000000000 1 24 (((a0.L:(List (List Jb))).map cellsOf).length) 0 (((a0.L:(List (List Jb))).map cellsOf).length)])) [(1,24,(a0.L:(List (List Jb))).map cellsOf)] [.ref 1000000 0,Enc.pv a1,Enc.pv a2,Enc.pv a3,Enc.pv a4] (.tup []) (some (.cells [.ex 1000000000 1 24 (((r.L:(List (List Jb))).map cellsOf).length) 0 (((r.L:(List (List Jb))).map cellsOf).length)])) [(1,24,(r.L:(List (List Jb))).map cellsOf)]
 | 0,_,_,_,_,_,_,h=>by cases h
 | n+1,a0,a1,a2,a3,a4,r,h=>Ik (Vo n) (Ij n) a0 a1 a2 a3 a4 r h
def Gp (a0:Jm) (a1:Ja) (a2:Je) (a3:Je) (a4:(List Jb)):Option Jm:=Vq (Vo Ri) a0 a1 a2 a3 a4
theorem Jbw (a0:Jm) (a1:Ja) (a2:Je) (a3:Je) (a4:(List Jb)) (r:Jm) (h:Gp a0 a1 a2 a3 a4=some r):Jo5 Tryz.prog GlS 192 (some (.cells [.ex 1000000000 1 24 (((a0.L:(List (List Jb))).map cellsOf).length) 0 (((a0.L:(List (List Jb))).map cellsOf).length)])) [(1,24,(a0.L:(List (List Jb))).map cellsOf)] [.ref 1000000 0,Enc.pv a1,Enc.pv a2,Enc.pv a3,Enc.pv a4] (.tup []) (some (.cells [.ex 1000000000 1 24 (((r.L:(List (List Jb))).map cellsOf).length) 0 (((r.L:(List (List Jb))).map cellsOf).length)])) [(1,24,(r.L:(List (List Jb))).map cellsOf)]:=Ik (Vo Ri) (Ij Ri) a0 a1 a2 a3 a4 r h
def Wy (a0:Ja) (a1:Int) (a2:Int):Option ByteArray :=
 bif decide (a2<0) then (
  (ixO a0.Signals a1).bind fun x1 =>
  (Jfz x1.Name (ByteArray.mk #[45,101,110,100])).bind fun x2 =>
  some x2
 ) else (
  (ixO a0.Signals a1).bind fun x3 =>
  (Jfz x3.Name (ByteArray.mk #[45])).bind fun x4 =>
  (ixO a0.Signals a2).bind fun x5 =>
  (Jfz x4 x5.Name).bind fun x6 =>
  some x6
 )
instance Kcq (a0:Ja) (a1:Int) (a2:Int):Ct Tryz.prog GlS (Wy a0 a1 a2) 194 [Enc.pv a0,Enc.pv a1,Enc.pv a2] Enc.pv:=⟨fun r h=>by
 unfold Wy at h;refine zC Tryz.func194 Tryz.ntmps194 ?_;refine w6 n0 (.e (.e (.c (.i 3 .x) (.i 3 .x)))) ?_ ?_ t0 t0 t0 t0
 ·intro _ _ h2 h;exact zR 2 (Ji3 h2 kr (w1 n0 (.e .z) t0))
 intro _ _ h4 h;refine zR 2 (Ji3 h4 kr (w1 n0 (.i 3 .x) ?_));intro _ _ h6 h;refine zR 2 (Ji3 h6 kr ?_);exact w1 n0 (.e .z) t0⟩
def Hm (a0:(List Jf)) (a1:Jf):(Int×(List Jf))->Option ((Int×(List Jf))⊕(((List Jf)×Int)⊕(List Jf))):=fun (x18,x19) =>
 ((bif decide (x18<((a0.length:Nat):Int)) then (
  (ixO a0 x18).bind fun x31 =>
  ((bif decide (x31.El<a1.El) then some true else (
   (ixO a0 x18).bind fun x33 =>
   ((bif decide (x33.El=a1.El) then (
    (ixO a0 x18).bind fun x35 =>
    some (decide (x35.Pos<a1.Pos))
   ) else some false):Option Bool).bind fun b34 =>
   some b34
  )):Option Bool).bind fun b32 =>
  some b32
 ) else some false):Option Bool).bind fun b30 =>
 bif b30 then (
  (ixO a0 x18).bind fun x36 =>
  (Uq x19 [x36]).bind fun x37 =>
  some (.inl (w64 (x18+1),x37))
 ) else (
  some (.inr (.inl (x19,x18)))
 )
def Gy (a0:(List Jf)) (a1:Jf):Option (List Jf) :=
 onInl (Js (Hm a0 a1) (0,[])) fun (x28,x29) =>
 onInl (α:=(List Jf)) (β:=(List Jf)) (
  ((bif decide (x29=((a0.length:Nat):Int)) then some true else (
   (ixO a0 x29).bind fun x43 =>
   some (!(Wo x43 a1))
  )):Option Bool).bind fun b42 =>
  bif b42 then (
   (Uq x28 [a1]).bind fun x44 =>
   some (.inl x44)
  ) else (
   some (.inl x28)
  )
 ) fun x41 =>
 (slO a0 (some x29) none none).bind fun x45 =>
 (Uq x41 x45).bind fun x46 =>
 some x46
instance Jza (a0:(List Jf)) (a1:Jf):Ct Tryz.prog GlS (Gy a0 a1) 203 [Enc.pv a0,Enc.pv a1] (fun r=>Jh (.own 100005) r):=⟨fun r h=>by
 unfold Gy at h;refine zC Tryz.func203 Tryz.ntmps203 ?_;refine w1 n0 (.e (.e (.e .S))) ?_;intro h;refine Jo (Kj (Kq (Zh 5 100005 2 16 kr kr ?_)));refine yL 72 0 (fun (x18,x19)=>⟨[(0,Jh .frozen a0),(3,.ref 3 0),(5,Jh (.own 100005) x19),(6,I6 x18)],[(3,.cells (cellsOf a1))],[(100005,(((x19).map cellsOf).length,2))],[]⟩) (fun (x28,x29)=>⟨[(0,Jh .frozen a0),(3,.ref 3 0),(5,Jh (.own 100005) x28),(6,I6 x29)],[(3,.cells (cellsOf a1))],[(100005,(((x28).map cellsOf).length,2))],[]⟩) h ?_ ?_
 ·rintro ⟨x18,x19⟩ _ h;unfold Hm at h;exact w1 a0 (.l 2 (.b 2 29 40 (.g 0 (.i 2 (.b 6 19 39 (.g 0 .z (.i 2 (.b 6 9 38 (.g 0 (.i 2 .z) .z) .z))) .z)) .z) (.e (.c (.i 3 (.w 2 (.e (.e .z)))) .z)))) t0
 rintro ⟨x28,x29⟩ s' h hs;refine Ui (Jo (Qx hs ?_));refine yJ 72 (fun x41=>⟨[(0,Jh .frozen a0),(5,Jh (.own 100005) x41),(6,I6 x29)],[],[(100005,(((x41).map cellsOf).length,2))],[]⟩) h ?_ ?_
 ·intro _ h;exact w1 a0 (.l 2 (.b 2 7 61 (.g 0 .z (.i 2 .z)) (.e (.c (.w 3 (.e .z)) .z)))) t0
 intro x41 h;obtain ⟨x45,h42,h⟩:=Ka h;refine Kj (Wj (zR 3 (Ke8 h42 .frozen kr kr kr ?_)));exact w1 n0 (.w 0 (.e (.e .z))) t0⟩
def Bn (a0:Ja) (a1:(List Jb)):(Int×(List Jf))->Option ((Int×(List Jf))⊕((List Jf)⊕(List Jf))):=fun (x20,x21) =>
 bif decide (x20<((a1.length:Nat):Int)) then (
  onInl (α:=(List Jf)) (β:=((Int×(List Jf))⊕((List Jf)⊕(List Jf)))) (
   (ixO a1 x20).bind fun x37 =>
   (Ic a0 x37).bind fun r38 =>
   bif (r38.2&&(!(decide (r38.1=0)))) then (
    (ixO a1 x20).bind fun x39 =>
    (Gy x21 (Jf.mk x39.El r38.1)).bind fun r40 =>
    some (.inl r40)
   ) else (
    some (.inl x21)
   )
  ) fun x36 =>
  some (.inl (w64 (x20+1),x36))
 ) else (
  some (.inr (.inl x21))
 )
def Zu (a0:Ja) (a1:(List Jb)):Option (List Jf) :=
 onInl (Js (Bn a0 a1) (0,[])) fun x31 =>
 some x31
instance Jv6 (a0:Ja) (a1:(List Jb)):Ct Tryz.prog GlS (Zu a0 a1) 135 [Enc.pv a0,Enc.pv a1] Enc.pv:=⟨fun r h=>by
 unfold Zu at h;refine zC Tryz.func135 Tryz.ntmps135 ?_;refine w1 n0 (.e (.e (.e .s))) ?_;intro h;refine yM 39 0 [6] (fun (x20,x21)=>⟨[(1,Jh .frozen a1),(2,.ref 2 0),(5,Jh .frozen x21),(6,I6 x20)],[(2,.cells (cellsOf a0))],[],[]⟩) h ?_ ?_
 ·rintro ⟨x20,x21⟩ _ h;unfold Bn at h;refine w1 a1 (.l 2 (.e (.c .s .z))) ?_;intro h;refine yJ 39 (fun x36=>⟨[(1,Jh .frozen a1),(2,.ref 2 0),(5,Jh .frozen x36),(6,I6 x20)],[(2,.cells (cellsOf a0))],[],[]⟩) h ?_ ?_
  ·intro _ h;exact w1 n0 (.i 3 (.p 1 (.e (.o 2 3 28 0 (.e (.c (.i 3 (.p 4 (.e .z))) .z)))))) t0
  intro x36 h;exact w1 n0 (.e .z) t0
 intro x31 s' h hs;exact w1 n0 (.e .z) t0⟩
def Di (a0:Ja) (a1:(List Jb)):(Int×Int)->Option ((Int×Int)⊕(Int⊕Int)):=fun (x10,x11) =>
 bif decide (x11<((a1.length:Nat):Int)) then (
  onInl (α:=Int) (β:=((Int×Int)⊕(Int⊕Int))) (
   (ixO a1 x11).bind fun x27 =>
   (Yt a0 x27.El).bind fun r28 =>
   bif r28 then (
    (ixO a1 x11).bind fun x29 =>
    (ixO a0.Elements x29.El).bind fun x30 =>
    some (.inl (w64 (x10+x30.Length)))
   ) else (
    some (.inl x10)
   )
  ) fun x26 =>
  some (.inl (x26,w64 (x11+1)))
 ) else (
  some (.inr (.inl x10))
 )
def Dl (a0:Ja) (a1:(List Jb)):Option Int :=
 onInl (Js (Di a0 a1) (0,0)) fun x21 =>
 some x21
instance Kaj (a0:Ja) (a1:(List Jb)):Ct Tryz.prog GlS (Dl a0 a1) 82 [Enc.pv a0,Enc.pv a1] Enc.pv:=⟨fun r h=>by
 unfold Dl at h;refine zC Tryz.func82 Tryz.ntmps82 ?_;refine w1 n0 (.e (.e (.e .s))) ?_;intro h;refine yL 33 0 (fun (x10,x11)=>⟨[(1,Jh .frozen a1),(2,.ref 2 0),(5,I6 x10),(6,I6 x11)],[(2,.cells (cellsOf a0))],[],[]⟩) (fun x21=>⟨[(5,I6 x21)],[],[],[]⟩) h ?_ ?_
 ·rintro ⟨x10,x11⟩ _ h;unfold Di at h;refine w1 a1 (.l 2 (.e (.c .s .z))) ?_;intro h;refine yJ 33 (fun x26=>⟨[(1,Jh .frozen a1),(2,.ref 2 0),(5,I6 x26),(6,I6 x11)],[(2,.cells (cellsOf a0))],[],[]⟩) h ?_ ?_
  ·intro _ h;exact w1 n0 (.i 3 (.p 2 (.e (.c (.i 5 (.i 2 (.e .z))) .z)))) t0
  intro x26 h;exact w1 n0 (.e .z) t0
 intro x21 s' h hs;exact w1 n0 (.e .z) t0⟩
def Fs : (Int×ByteArray)->Option ((Int×ByteArray)⊕(ByteArray⊕ByteArray)):=fun (x2,x3) =>
 bif decide (0<x2) then (
  (Jfz (bytesOf [IntKind.u8.wrap (w64 (48+(x2.tmod 10)))]) x3).bind fun x6 =>
  some (.inl (w64 (x2.tdiv 10),x6))
 ) else (
  some (.inr (.inl x3))
 )
def Ze (a0:Int):Option ByteArray :=
 onInl (Js (Fs) (a0,ByteArray.empty)) fun x5 =>
 some x5
instance Jwi (a0:Int):Ct Tryz.prog GlS (Ze a0) 195 [Enc.pv a0] Enc.pv:=⟨fun r h=>by
 unfold Ze at h;refine zC Tryz.func195 Tryz.ntmps195 ?_;refine w1 n0 (.e (.e .s)) ?_;intro h;refine yM 17 0 [0] (fun (x2,x3)=>⟨[(0,I6 x2),(3,.str x3)],[],[],[]⟩) h ?_ ?_
 ·rintro ⟨x2,x3⟩ _ h;unfold Fs at h;refine w1 n0 (.e (.c .s .z)) ?_;intro h;refine zR 5 (Kk7 (ns:=[IntKind.u8.wrap (w64 (48+(x2.tmod 10)))]) kr ?_);obtain ⟨x6,h5,h⟩:=Ka h;exact zR 1 (Ji3 h5 kr (w1 n0 (.e (.e .z)) t0))
 intro x5 s' h hs;exact w1 n0 (.e .z) t0⟩
def Gv (a0:Ja) (a1:Int) (r4:Jm) (x150:Int) (r228:(Int×Bool)):(Int×Int)->Option ((Int×Int)⊕(Int⊕((Int×(List Ji))⊕((List Ji)⊕(List Ji))))):=fun (x252,x253) =>
 bif decide (x253<x150) then (
  onInl (α:=Int) (β:=((Int×Int)⊕(Int⊕((Int×(List Ji))⊕((List Ji)⊕(List Ji)))))) (
   (Wt 0 (((r4.L:(List (List Jb))).map cellsOf).length) x253).bind fun j281 =>
   (Vi r4.L (((r4.L:(List (List Jb))).map cellsOf).length) j281).bind fun x282 =>
   (Wt 0 (((r4.L:(List (List Jb))).map cellsOf).length) x253).bind fun j283 =>
   (Vi r4.L (((r4.L:(List (List Jb))).map cellsOf).length) j283).bind fun x284 =>
   (ixO x282 (w64 (((x284.length:Nat):Int) - 1))).bind fun x285 =>
   (Cf a0 x285).bind fun r286 =>
   (Wy a0 a1 r286.1).bind fun r287 =>
   (Wy a0 a1 r228.1).bind fun r288 =>
   bif decide (r287=r288) then (
    some (.inl (w64 (x252+1)))
   ) else (
    some (.inl x252)
   )
  ) fun x280 =>
  some (.inl (x280,w64 (x253+1)))
 ) else (
  some (.inr (.inl x252))
 )
def Oj (a0:Ja) (a1:Int) (r4:Jm):(Int×(List Ji))->Option ((Int×(List Ji))⊕((List Ji)⊕(List Ji))):=fun (x150,x151) =>
 bif decide (x150<((((r4.L:(List (List Jb))).map cellsOf).length:Nat):Int)) then (
  (Wt 0 (((r4.L:(List (List Jb))).map cellsOf).length) x150).bind fun j225 =>
  (Vi r4.L (((r4.L:(List (List Jb))).map cellsOf).length) j225).bind fun x226 =>
  (ixO x226 (w64 (((x226.length:Nat):Int) - 1))).bind fun x227 =>
  (Cf a0 x227).bind fun r228 =>
  (Wy a0 a1 r228.1).bind fun r229 =>
  (Zu a0 x226).bind fun r230 =>
  (Wr a0 x226).bind fun r231 =>
  (Dl a0 x226).bind fun r232 =>
  (ixO a0.Signals a1).bind fun x233 =>
  (Wh a0 x233.At.El).bind fun r234 =>
  onInl (Js (Gv a0 a1 r4 x150 r228) (1,0)) fun x271 =>
  onInl (α:=ByteArray) (β:=((Int×(List Ji))⊕((List Ji)⊕(List Ji)))) (
   bif decide (1<x271) then (
    (Jfz r229 (ByteArray.mk #[46])).bind fun x293 =>
    (Ze x271).bind fun r294 =>
    (Jfz x293 r294).bind fun x295 =>
    some (.inl x295)
   ) else (
    some (.inl r229)
   )
  ) fun x292 =>
  (Uq x151 [(Ji.mk x292 a1 r228.1 x226 r230 r231 r234 r232 ([]:(List Jb)) ([]:(List Jf)) ([]:(List Int)) ([]:(List Jf)) ([]:(List Int)) ([]:(List Je)))]).bind fun x296 =>
  some (.inl (w64 (x150+1),x296))
 ) else (
  some (.inr (.inl x151))
 )
def Hy (a0:Ja) (a1:Int):Option (List Ji) :=
 ((bif decide (a1<0) then some true else (
  some (decide (((a0.Signals.length:Nat):Int)<=a1))
 )):Option Bool).bind fun b1 =>
 bif b1 then (
  some ([]:(List Ji))
 ) else (
  (ixO a0.Signals a1).bind fun x2 =>
  (Wx a0 x2.At).bind fun r3 =>
  bif (!r3.2) then (
   some ([]:(List Ji))
  ) else (
   (Gp (Jm.mk []) a0 r3.1 r3.1 ([]:(List Jb))).bind fun r4 =>
   onInl (Js (Oj a0 a1 r4) (0,[])) fun x224 =>
   some x224
  )
 )
instance Kc2 (a0:Ja) (a1:Int):Ct Tryz.prog GlS (Hy a0 a1) 125 [Enc.pv a0,Enc.pv a1] (fun r=>Jh (.own 100008) r):=⟨fun r h=>by
 unfold Hy at h;refine zC Tryz.func125 Tryz.ntmps125 ?_;refine w6 a0.Signals (.e (.b 3 6 26 (.g 0 .z (.l 3 .z)) (.e (.c (.e .S) (.i 4 (.p 2 (.e (.e (.c (.e .S) (.e .x)))))))))) ?_ ?_ ?_ t0 t0 t0
 ·intro _ h;exact Jo (Zh 4 100008 14 264 kr kr (w1 n0 .z t0))
 ·intro _ _ _ h;exact Jo (Zh 4 100008 14 264 kr kr (w1 n0 .z t0))
 intro _ _ _ r4 h4 h;refine zR 4 (Jyw (some 41) [304600] [(41,0,304600,1,24)] none (Jbw _ _ _ _ _ r4 h4) kr kr kr kr kr (w1 n0 (.e (.e (.e .S))) ?_));intro h;refine Jo (Kq (Zh 8 100008 14 264 kr kr ?_));refine yM 154 0 [9] (fun (x150,x151)=>⟨[(1,I6 a1),(2,.ref 2 0),(7,.ref 41 0),(8,Jh (.own 100008) x151),(9,I6 x150)],[(2,.cells (cellsOf a0)),(41,.cells ([.ex 304600 1 24 ((r4.L.map cellsOf).length) 0 ((r4.L.map cellsOf).length)]))],[(100008,(((x151).map cellsOf).length,14)),(304600,((r4.L.map cellsOf).length,0))],[(304600,(1,(24,r4.L.map cellsOf)))]⟩) h ?_ ?_
 ·rintro ⟨x150,x151⟩ _ h;unfold Oj at h;refine w1 n0 (.e (.c .x .z)) ?_;intro j225 h220 h;refine zR 5 (Uz (tk:=304600) (k:=1) (N:=(r4.L.map cellsOf).length) h220 kr ?_);obtain ⟨x226,h221,h⟩:=Ka h;refine Vw (L:=r4.L) (N:=(r4.L.map cellsOf).length) (j:=j225) (y:=x226) (v:=Jh .frozen x226) h221 false 1 0 kr kr (w1 x226 (.e (.l 3 (.i 1 (.p 1 (.e (.p 3 (.p 5 .x))))))) ?_);intro _ r228 r229 r230 r231 h226 h;refine zR 2 (zP (Jfl _ _ r231 h226) (w1 n0 (.p 2 (.e (.i 4 (.p 3 (.e (.e (.e .s))))))) ?_));intro r232 _ r234 h;refine yL 154 2 (fun (x252,x253)=>⟨[(1,I6 a1),(2,.ref 2 0),(7,.ref 41 0),(8,Jh (.own 100008) x151),(9,I6 x150),(11,I6 r228.1),(13,.ref 13 0),(14,I6 x252),(15,I6 x253)],[(2,.cells (cellsOf a0)),(13,.cells ([.str r229,I6 a1,I6 r228.1,Jh .frozen x226,Jh .frozen r230,Jh .frozen r231,I6 r234,I6 r232,.nil,.nil,.nil,.nil,.nil,.nil])),(41,.cells ([.ex 304600 1 24 ((r4.L.map cellsOf).length) 0 ((r4.L.map cellsOf).length)]))],[(100008,(((x151).map cellsOf).length,14)),(304600,((r4.L.map cellsOf).length,0))],[(304600,(1,(24,r4.L.map cellsOf)))]⟩) (fun x271=>⟨[(1,I6 a1),(2,.ref 2 0),(7,.ref 41 0),(8,Jh (.own 100008) x151),(9,I6 x150),(13,.ref 13 0),(14,I6 x271)],[(2,.cells (cellsOf a0)),(13,.cells ([.str r229,I6 a1,I6 r228.1,Jh .frozen x226,Jh .frozen r230,Jh .frozen r231,I6 r234,I6 r232,.nil,.nil,.nil,.nil,.nil,.nil])),(41,.cells ([.ex 304600 1 24 ((r4.L.map cellsOf).length) 0 ((r4.L.map cellsOf).length)]))],[(100008,(((x151).map cellsOf).length,14)),(304600,((r4.L.map cellsOf).length,0))],[(304600,(1,(24,r4.L.map cellsOf)))]⟩) h ?_ ?_
  ·rintro ⟨x252,x253⟩ _ h;unfold Gv at h;refine w1 n0 (.e (.c .s .z)) ?_;intro h;refine yJ 154 (fun x280=>⟨[(1,I6 a1),(2,.ref 2 0),(7,.ref 41 0),(8,Jh (.own 100008) x151),(9,I6 x150),(11,I6 r228.1),(13,.ref 13 0),(14,I6 x280),(15,I6 x253)],[(2,.cells (cellsOf a0)),(13,.cells ([.str r229,I6 a1,I6 r228.1,Jh .frozen x226,Jh .frozen r230,Jh .frozen r231,I6 r234,I6 r232,.nil,.nil,.nil,.nil,.nil,.nil])),(41,.cells ([.ex 304600 1 24 ((r4.L.map cellsOf).length) 0 ((r4.L.map cellsOf).length)]))],[(100008,(((x151).map cellsOf).length,14)),(304600,((r4.L.map cellsOf).length,0))],[(304600,(1,(24,r4.L.map cellsOf)))]⟩) h ?_ ?_
   ·intro _ h;obtain ⟨j281,h275,h⟩:=Ka h;refine Kq (Kj (zD (zR 6 (Uz (tk:=304600) (k:=1) (N:=(r4.L.map cellsOf).length) h275 kr ?_))));obtain ⟨x282,h276,h⟩:=Ka h;refine Vw (L:=r4.L) (N:=(r4.L.map cellsOf).length) (j:=j281) (y:=x282) (v:=Jh .frozen x282) h276 false 1 0 kr kr ?_;obtain ⟨j283,h277,h⟩:=Ka h;refine zR 5 (Uz (tk:=304600) (k:=1) (N:=(r4.L.map cellsOf).length) h277 kr ?_);obtain ⟨x284,h278,h⟩:=Ka h;exact Vw (L:=r4.L) (N:=(r4.L.map cellsOf).length) (j:=j283) (y:=x284) (v:=Jh .frozen x284) h278 false 1 0 kr kr (w1 x284 (.l 0 (.i 1 (.p 1 (.e (.p 3 (.p 3 (.e (.c (.e .z) .z)))))))) t0)
   intro x280 h;exact w1 n0 (.e .z) t0
  intro x271 s' h hs;refine Ui (Jo (Qx hs ?_));refine yJ 154 (fun x292=>⟨[(1,I6 a1),(2,.ref 2 0),(7,.ref 41 0),(8,Jh (.own 100008) x151),(9,I6 x150),(13,.ref 13 0)],[(2,.cells (cellsOf a0)),(13,.cells ([.str x292,I6 a1,I6 r228.1,Jh .frozen x226,Jh .frozen r230,Jh .frozen r231,I6 r234,I6 r232,.nil,.nil,.nil,.nil,.nil,.nil])),(41,.cells ([.ex 304600 1 24 ((r4.L.map cellsOf).length) 0 ((r4.L.map cellsOf).length)]))],[(100008,(((x151).map cellsOf).length,14)),(304600,((r4.L.map cellsOf).length,0))],[(304600,(1,(24,r4.L.map cellsOf)))]⟩) h ?_ ?_
  ·intro _ h;refine w1 n0 (.e (.c .x .z)) ?_;intro _ h287 h;refine zR 2 (Ji3 h287 kr (w1 n0 (.p 1 .x) ?_));intro _ _ h289 h;exact Ji3 h289 kr (w1 n0 (.e .z) t0)
  intro x292 h;exact Qx (Wkr.of (n:=154) (j:=⟨[(1,I6 a1),(2,.ref 2 0),(7,.ref 41 0),(8,Jh (.own 100008) x151),(9,I6 x150),(13,.ref 13 0)],[(2,.cells (cellsOf a0)),(13,.cells ([.str x292,I6 a1,I6 r228.1,Jh .frozen x226,Jh .frozen r230,Jh .frozen r231,I6 r234,I6 r232,Jh .frozen (([]:(List Jb)):(List Jb)),Jh .frozen (([]:(List Jf)):(List Jf)),Jh .frozen (([]:(List Int)):(List Int)),Jh .frozen (([]:(List Jf)):(List Jf)),Jh .frozen (([]:(List Int)):(List Int)),Jh .frozen (([]:(List Je)):(List Je))])),(41,.cells ([.ex 304600 1 24 ((r4.L.map cellsOf).length) 0 ((r4.L.map cellsOf).length)]))],[(100008,(((x151).map cellsOf).length,14)),(304600,((r4.L.map cellsOf).length,0))],[(304600,(1,(24,r4.L.map cellsOf)))]⟩) kr kr) (w1 n0 (.w 3 (.e (.e .z))) t0)
 intro x224 s' h hs;exact w1 n0 (.e .z) t0⟩
def Rh (a0:Ja):(Int×(List Ji))->Option ((Int×(List Ji))⊕((List Ji)⊕((List Ji)×Int))):=fun (x7,x8) =>
 bif decide (x7<((a0.Signals.length:Nat):Int)) then (
  (Hy a0 x7).bind fun r12 =>
  (Uq x8 r12).bind fun x13 =>
  some (.inl (w64 (x7+1),x13))
 ) else (
  some (.inr (.inl x8))
 )
def Mv (a0:Ja):Option ((List Ji)×Int) :=
 (Fg a0).bind fun r1 =>
 bif (!(decide (r1=0))) then (
  some (([]:(List Ji)),r1)
 ) else (
  onInl (Js (Rh a0) (0,[])) fun x11 =>
  bif decide (48<((x11.length:Nat):Int)) then (
   some (([]:(List Ji)),2)
  ) else (
   some (x11,0)
  )
 )
instance Kfc (a0:Ja):Ct Tryz.prog GlS (Mv a0) 65 [Enc.pv a0] (fun r=>.tup [Enc.pv r.1,Enc.pv r.2]):=⟨fun r h=>by
 unfold Mv at h;refine zC Tryz.func65 Tryz.ntmps65 ?_;refine w1 n0 (.e (.p 1 (.e (.e (.c (.e .z) (.e (.e .S))))))) ?_;intro _ h;refine Jo (Kq (Zh 5 100005 14 264 kr kr ?_));refine yM 28 0 [6] (fun (x7,x8)=>⟨[(1,.ref 1 0),(5,Jh (.own 100005) x8),(6,I6 x7)],[(1,.cells (cellsOf a0))],[(100005,(((x8).map cellsOf).length,14))],[]⟩) h ?_ ?_
 ·rintro ⟨x7,x8⟩ _ h;unfold Rh at h;exact w1 a0.Signals (.l 3 (.e (.c (.p 3 (.w 0 (.e (.e .z)))) .z))) t0
 intro x11 s' h hs;exact w1 x11 (.l 1 (.e (.c (.e .z) (.e .z)))) t0⟩
def Hz (a0:Ja):(Int×(List Int))->Option ((Int×(List Int))⊕((List Int)⊕(List Int))):=fun (x12,x13) =>
 bif decide (x12<((a0.Elements.length:Nat):Int)) then (
  onInl (α:=(List Int)) (β:=((Int×(List Int))⊕((List Int)⊕(List Int)))) (
   (ixO a0.Elements x12).bind fun x23 =>
   bif decide (x23.Kind=2) then (
    (Uq x13 [x12]).bind fun x24 =>
    some (.inl x24)
   ) else (
    some (.inl x13)
   )
  ) fun x22 =>
  some (.inl (w64 (x12+1),x22))
 ) else (
  some (.inr (.inl x13))
 )
def Dq (a0:Ja):Option (List Int) :=
 onInl (Js (Hz a0) (0,[])) fun x19 =>
 some x19
theorem Jhn (a0:Ja) (r:(List Int)) (h:Dq a0=some r):Yy Tryz.prog GlS 66 [Enc.pv a0] (Jh (.own 100003) r):=by
 unfold Dq at h;refine zC Tryz.func66 Tryz.ntmps66 ?_;refine w1 a0.Elements (.e (.e (.l 2 (.e .S)))) ?_;intro h;refine Jo (Kq (Zh 3 100003 1 8 kr kr ?_));refine yM 23 0 [9] (fun (x12,x13)=>⟨[(3,Jh (.own 100003) x13),(7,Jh .frozen a0.Elements),(8,I6 ((a0.Elements.length:Nat):Int)),(9,I6 x12)],[],[(100003,(((x13).map cellsOf).length,1))],[]⟩) h ?_ ?_
 ·rintro ⟨x12,x13⟩ _ h;unfold Hz at h;refine w1 n0 (.e (.c .s .z)) ?_;intro h;refine yJ 23 (fun x22=>⟨[(3,Jh (.own 100003) x22),(7,Jh .frozen a0.Elements),(8,I6 ((a0.Elements.length:Nat):Int)),(9,I6 x12)],[],[(100003,(((x22).map cellsOf).length,1))],[]⟩) h ?_ ?_
  ·intro _ h;exact w1 n0 (.i 1 (.e (.e (.c (.w 3 (.e .z)) .z)))) t0
  intro x22 h;exact w1 n0 (.e .z) t0
 intro x19 s' h hs;exact w1 n0 (.e .z) t0
instance Jzr (a0:Ja):Ct Tryz.prog GlS (Dq a0) 66 [Enc.pv a0] Enc.pv:=⟨fun r h =>
 (Jhn a0 r h).freeze kr kr kr⟩
def Ig (a0:Ja) (a1:Ji):Option (Kl×Bool) :=
 ((bif decide (a1.Exit<0) then some true else (
  some (decide (((a0.Signals.length:Nat):Int)<=a1.Exit))
 )):Option Bool).bind fun b1 =>
 bif b1 then (
  some ((Kl.mk ByteArray.empty (Je.mk 0 0) 0),false)
 ) else (
  (ixO a0.Signals a1.Exit).bind fun x2 =>
  some (x2,true)
 )
instance Kc0 (a0:Ja) (a1:Ji):Ct Tryz.prog GlS (Ig a0 a1) 130 [Enc.pv a0,Enc.pv a1] (fun r=>.tup [Enc.pv r.1,Enc.pv r.2]):=⟨fun r h=>by
 unfold Ig at h;refine zC Tryz.func130 Tryz.ntmps130 ?_;exact w1 a0.Signals (.e (.b 4 7 16 (.g 0 .z (.l 4 .z)) (.e (.c (.e .z) (.i 4 (.e .z)))))) t0⟩
def Fu (a2:(List Jb)) (a3:Int):Int->Option (Int⊕(Unit⊕Bool)):=fun x2 =>
 bif decide (x2<((a2.length:Nat):Int)) then (
  (ixO a2 x2).bind fun x4 =>
  bif decide (x4.El=a3) then (
   some (.inr (.inr true))
  ) else (
   some (.inl (w64 (x2+1)))
  )
 ) else (
  some (.inr (.inl ()))
 )
def Gi (a0:Ja) (a1:Ji) (a3:Int):Int->Option (Int⊕(Unit⊕Bool)):=fun x7 =>
 bif decide (x7<((a1.Sections.length:Nat):Int)) then (
  (ixO a1.Sections x7).bind fun x10 =>
  (Wh a0 a3).bind fun r11 =>
  bif decide (x10=r11) then (
   some (.inr (.inr true))
  ) else (
   some (.inl (w64 (x7+1)))
  )
 ) else (
  some (.inr (.inl ()))
 )
def Bw (a0:Ja) (a1:Ji) (a2:(List Jb)) (a3:Int):Option Bool :=
 onInl (Js (Fu a2 a3) 0) fun _ =>
 onInl (Js (Gi a0 a1 a3) 0) fun _ =>
 some false
instance Jx9 (a0:Ja) (a1:Ji) (a2:(List Jb)) (a3:Int):Ct Tryz.prog GlS (Bw a0 a1 a2 a3) 132 [Enc.pv a0,Enc.pv a1,Enc.pv a2,Enc.pv a3] Enc.pv:=⟨fun r h=>by
 unfold Bw at h;refine zC Tryz.func132 Tryz.ntmps132 ?_;refine w1 a2 (.e (.l 1 (.e .s))) ?_;intro h;refine yN 37 0 [15] (fun x2=>⟨[(3,I6 a3),(4,.ref 4 0),(5,.ref 5 0),(13,Jh .frozen a2),(14,I6 ((a2.length:Nat):Int)),(15,I6 x2)],[(4,.cells (cellsOf a0)),(5,.cells (cellsOf a1))],[],[]⟩) h ?_ ?_
 ·intro x2 _ h;unfold Fu at h;exact w1 n0 (.e (.c (.i 0 (.e (.e (.c (.e .z) (.e .z))))) .z)) t0
 intro _ s' h hs;refine w1 a1.Sections (.l 2 (.e .s)) ?_;intro h;refine yN 37 2 [27] (fun x7=>⟨[(3,I6 a3),(4,.ref 4 0),(25,Jh .frozen a1.Sections),(26,I6 ((a1.Sections.length:Nat):Int)),(27,I6 x7)],[(4,.cells (cellsOf a0))],[],[]⟩) h ?_ ?_
 ·intro x7 _ h;unfold Gi at h;exact w1 n0 (.e (.c (.i 0 (.e (.p 3 (.e (.c (.e .z) (.e .z)))))) .z)) t0
 intro _ s' h hs;exact w1 n0 (.e .z) t0⟩
def Nm (a0:Ja) (a1:Ji) (r1:(Kl×Bool)):(Bool×Je×(List Jb))->Option ((Bool×Je×(List Jb))⊕((List Jb)⊕Ji)):=fun (x24,x25,x26) =>
 ((bif x24 then (
  (Dl a0 x26).bind fun r39 =>
  some (decide (r39<r1.1.Overlap))
 ) else some false):Option Bool).bind fun b38 =>
 ((bif b38 then (
  some (decide (((x26.length:Nat):Int)<12))
 ) else some false):Option Bool).bind fun b40 =>
 ((bif b40 then (
  (Bw a0 (Ji.mk a1.Name a1.Entry a1.Exit a1.Path a1.Points a1.Sections a1.Approach a1.Length x26 [] [] a1.Flank a1.Guards a1.Gaps) x26 x25.El).bind fun r42 =>
  some (!r42)
 ) else some false):Option Bool).bind fun b41 =>
 bif b41 then (
  (Zw a0 x25).bind fun r43 =>
  bif decide (((r43.length:Nat):Int)=0) then (
   some (.inr (.inl x26))
  ) else (
   (ixO r43 0).bind fun x44 =>
   (Uq x26 [x44]).bind fun x45 =>
   (ixO r43 0).bind fun x46 =>
   (Cn a0 x46).bind fun r47 =>
   some (.inl (r47.2,r47.1,x45))
  )
 ) else (
  some (.inr (.inl x26))
 )
def Ii (a0:Ja) (a1:Ji):Option Ji :=
 (Ig a0 (Ji.mk a1.Name a1.Entry a1.Exit a1.Path a1.Points a1.Sections a1.Approach a1.Length [] [] [] a1.Flank a1.Guards a1.Gaps)).bind fun r1 =>
 bif (!r1.2) then (
  some (Ji.mk a1.Name a1.Entry a1.Exit a1.Path a1.Points a1.Sections a1.Approach a1.Length [] [] [] a1.Flank a1.Guards a1.Gaps)
 ) else (
  (Wx a0 r1.1.At).bind fun r2 =>
  onInl (Js (Nm a0 a1 r1) (r2.2,r2.1,[])) fun x37 =>
  (Zu a0 x37).bind fun r48 =>
  (Wr a0 x37).bind fun r49 =>
  some (Ji.mk a1.Name a1.Entry a1.Exit a1.Path a1.Points a1.Sections a1.Approach a1.Length x37 r48 r49 a1.Flank a1.Guards a1.Gaps)
 )
instance Kc8 (a0:Ja) (a1:Ji):Ct Tryz.prog GlS (Ii a0 a1) 68 [Enc.pv a0,Enc.pv a1] Enc.pv:=⟨fun r h=>by
 unfold Ii at h;refine zC Tryz.func68 Tryz.ntmps68 ?_;refine w1 n0 (.e (.e (.e (.e (.p 2 (.e (.e (.c (.e .z) (.p 3 (.e .S)))))))))) ?_;intro r1 _ h;refine Jo (Kj (Kq (Qx (Pa 3 8 200308 3 24 (cs:=[.str a1.Name,I6 a1.Entry,I6 a1.Exit,Jh .frozen a1.Path,Jh .frozen a1.Points,Jh .frozen a1.Sections,I6 a1.Approach,I6 a1.Length,.nil,.nil,.nil,Jh .frozen a1.Flank,Jh .frozen a1.Guards,Jh .frozen a1.Gaps]) kr kr kr) ?_)));refine yL 88 0 (fun (x24,x25,x26)=>⟨[(2,.ref 2 0),(3,.ref 3 0),(4,.ref 4 0),(5,.ref 5 0),(7,.ref 7 0),(8,.bool x24)],[(2,.cells (cellsOf a0)),(3,.cells ([.str a1.Name,I6 a1.Entry,I6 a1.Exit,Jh .frozen a1.Path,Jh .frozen a1.Points,Jh .frozen a1.Sections,I6 a1.Approach,I6 a1.Length,Jh (.own 200308) x26,.nil,.nil,Jh .frozen a1.Flank,Jh .frozen a1.Guards,Jh .frozen a1.Gaps])),(4,.cells ([.str ByteArray.empty,I6 0,I6 0,.nil,.nil,.nil,I6 0,I6 0,.nil,.nil,.nil,.nil,.nil,.nil])),(5,.cells (cellsOf r1.1)),(7,.cells (cellsOf x25))],[(200308,(((x26).map cellsOf).length,3))],[]⟩) (fun x37=>⟨[(2,.ref 2 0),(3,.ref 3 0),(4,.ref 4 0)],[(2,.cells (cellsOf a0)),(3,.cells ([.str a1.Name,I6 a1.Entry,I6 a1.Exit,Jh .frozen a1.Path,Jh .frozen a1.Points,Jh .frozen a1.Sections,I6 a1.Approach,I6 a1.Length,Jh (.own 200308) x37,.nil,.nil,Jh .frozen a1.Flank,Jh .frozen a1.Guards,Jh .frozen a1.Gaps])),(4,.cells ([.str ByteArray.empty,I6 0,I6 0,.nil,.nil,.nil,I6 0,I6 0,.nil,.nil,.nil,.nil,.nil,.nil]))],[(200308,(((x37).map cellsOf).length,3))],[]⟩) h ?_ ?_
 ·rintro ⟨x24,x25,x26⟩ _ h;unfold Nm at h;refine w1 x26 (.b 2 8 38 (.g 0 (.p 3 .z) .z) (.b 1 5 44 (.g 0 (.l 2 .z) .z) (.b 1 9 54 (.g 0 (.p 6 .z) .z) (.e (.c (.p 2 (.e .s)) .z))))) ?_;intro _ _ _ r43 h;refine yl 1 r43 (w1 n0 (.e (.c .S (.i 3 (.w 2 (.e (.i 2 (.p 1 (.e .z)))))))) ?_);intro h;exact Jg1 (Jcb (Jq0 rfl (w1 n0 .z t0)))
 intro x37 s' h hs;exact w1 n0 (.p 3 (.e (.p 3 (.e (.e .z))))) t0⟩
def Dj (a1:Jb) (x2:Ju) (r3:(Int×Bool)):(Int×(List Je))->Option ((Int×(List Je))⊕((List Je)⊕(List Je))):=fun (x13,x14) =>
 (Fh x2.Kind).bind fun r20 =>
 bif decide (x13<r20) then (
  onInl (α:=(List Je)) (β:=((Int×(List Je))⊕((List Je)⊕(List Je)))) (
   bif ((r3.2&&(!(decide (x13=a1.In))))&&(!(decide (x13=a1.Out)))) then (
    (Uq x14 [(Je.mk a1.El x13)]).bind fun x23 =>
    some (.inl x23)
   ) else (
    some (.inl x14)
   )
  ) fun x22 =>
  some (.inl (w64 (x13+1),x22))
 ) else (
  some (.inr (.inl x14))
 )
def Bh (a0:Ja) (a1:Jb):Option (List Je) :=
 ((bif decide (a1.El<0) then some true else (
  some (decide (((a0.Elements.length:Nat):Int)<=a1.El))
 )):Option Bool).bind fun b1 =>
 bif b1 then (
  some ([]:(List Je))
 ) else (
  (ixO a0.Elements a1.El).bind fun x2 =>
  (Co x2.Kind a1.In a1.Out).bind fun r3 =>
  onInl (Js (Dj a1 x2 r3) (0,[])) fun x19 =>
  some x19
 )
theorem Jhr (a0:Ja) (a1:Jb) (r:(List Je)) (h:Bh a0 a1=some r):Yy Tryz.prog GlS 196 [Enc.pv a0,Enc.pv a1] (Jh (.own 100008) r):=by
 unfold Bh at h;refine zC Tryz.func196 Tryz.ntmps196 ?_;refine w6 a0.Elements (.e (.b 4 7 20 (.g 0 .z (.l 4 .z)) (.e (.c (.e .S) (.i 4 (.e (.p 5 (.e (.e (.e .S)))))))))) ?_ ?_ t0 t0 t0 t0
 ·intro _ h;exact Jo (Zh 4 100008 2 16 kr kr (w1 n0 .z t0))
 intro _ x2 r3 h;refine Jo (Kq (Zh 8 100008 2 16 kr kr ?_));refine yM 64 0 [9] (fun (x13,x14)=>⟨[(3,.ref 3 0),(5,I6 x2.Kind),(7,.bool r3.2),(8,Jh (.own 100008) x14),(9,I6 x13)],[(3,.cells (cellsOf a1))],[(100008,(((x14).map cellsOf).length,2))],[]⟩) h ?_ ?_
 ·rintro ⟨x13,x14⟩ _ h;unfold Dj at h;refine w1 n0 (.p 2 (.e (.c .s .z))) ?_;intro _ h;refine yJ 64 (fun x22=>⟨[(3,.ref 3 0),(5,I6 x2.Kind),(7,.bool r3.2),(8,Jh (.own 100008) x22),(9,I6 x13)],[(3,.cells (cellsOf a1))],[(100008,(((x22).map cellsOf).length,2))],[]⟩) h ?_ ?_
  ·intro _ h;exact w1 n0 (.o 2 5 49 1 (.o 1 5 55 0 (.e (.c (.w 6 (.e .z)) .z)))) t0
  intro x22 h;exact w1 n0 (.e .z) t0
 intro x19 s' h hs;exact w1 n0 (.e .z) t0
instance Jyo (a0:Ja) (a1:Jb):Ct Tryz.prog GlS (Bh a0 a1) 196 [Enc.pv a0,Enc.pv a1] Enc.pv:=⟨fun r h =>
 (Jhr a0 a1 r h).freeze kr kr kr⟩
def Ep (a0:Ja) (a1:Ji):(Int×(List Je))->Option ((Int×(List Je))⊕((List Je)⊕(List Je))):=fun (x8,x9) =>
 bif decide (x8<((a1.Path.length:Nat):Int)) then (
  (ixO a1.Path x8).bind fun x14 =>
  (Bh a0 x14).bind fun r15 =>
  (Uq x9 r15).bind fun x16 =>
  some (.inl (w64 (x8+1),x16))
 ) else (
  some (.inr (.inl x9))
 )
def Ek (a0:Ja) (a1:Ji):((List Je)×Int)->Option (((List Je)×Int)⊕((List Je)⊕(List Je))):=fun (x20,x21) =>
 bif decide (x21<((a1.Over.length:Nat):Int)) then (
  (ixO a1.Over x21).bind fun x26 =>
  (Bh a0 x26).bind fun r27 =>
  (Uq x20 r27).bind fun x28 =>
  some (.inl (x28,w64 (x21+1)))
 ) else (
  some (.inr (.inl x20))
 )
def Lg (a0:Ja) (a1:Ji):Option (List Je) :=
 onInl (Js (Ep a0 a1) (0,[])) fun x13 =>
 onInl (Js (Ek a0 a1) (x13,0)) fun x25 =>
 some x25
instance Ka1 (a0:Ja) (a1:Ji):Ct Tryz.prog GlS (Lg a0 a1) 126 [Enc.pv a0,Enc.pv a1] (fun r=>Jh (.own 100005) r):=⟨fun r h=>by
 unfold Lg at h;refine zC Tryz.func126 Tryz.ntmps126 ?_;refine w1 n0 (.e (.e (.e .S))) ?_;intro h;refine Jo (Kq (Zh 5 100005 2 16 kr kr ?_));refine yM 41 0 [6] (fun (x8,x9)=>⟨[(2,.ref 2 0),(3,.ref 3 0),(5,Jh (.own 100005) x9),(6,I6 x8)],[(2,.cells (cellsOf a0)),(3,.cells (cellsOf a1))],[(100005,(((x9).map cellsOf).length,2))],[]⟩) h ?_ ?_
 ·rintro ⟨x8,x9⟩ _ h;unfold Ep at h;exact w1 a1.Path (.l 3 (.e (.c (.i 5 (.p 1 (.w 0 (.e (.e .z))))) .z))) t0
 intro x13 s' h hs;refine w1 n0 (.e .s) ?_;intro h;refine yL 41 2 (fun (x20,x21)=>⟨[(2,.ref 2 0),(3,.ref 3 0),(5,Jh (.own 100005) x20),(7,I6 x21)],[(2,.cells (cellsOf a0)),(3,.cells (cellsOf a1))],[(100005,(((x20).map cellsOf).length,2))],[]⟩) (fun x25=>⟨[(5,Jh (.own 100005) x25)],[],[(100005,(((x25).map cellsOf).length,2))],[]⟩) h ?_ ?_
 ·rintro ⟨x20,x21⟩ _ h;unfold Ek at h;exact w1 a1.Over (.l 3 (.e (.c (.i 5 (.p 1 (.w 0 (.e (.e .z))))) .z))) t0
 intro x25 s' h hs;exact w1 n0 (.e .z) t0⟩
def Om (a0:(List Jb)) (a1:Int):Int->Option (Int⊕(Unit⊕Bool)):=fun x2 =>
 bif decide (x2<((a0.length:Nat):Int)) then (
  (ixO a0 x2).bind fun x4 =>
  bif decide (x4.El=a1) then (
   some (.inr (.inr true))
  ) else (
   some (.inl (w64 (x2+1)))
  )
 ) else (
  some (.inr (.inl ()))
 )
def Zl (a0:(List Jb)) (a1:Int):Option Bool :=
 onInl (Js (Om a0 a1) 0) fun _ =>
 some false
instance Kc9 (a0:(List Jb)) (a1:Int):Ct Tryz.prog GlS (Zl a0 a1) 197 [Enc.pv a0,Enc.pv a1] Enc.pv:=⟨fun r h=>by
 unfold Zl at h;refine zC Tryz.func197 Tryz.ntmps197 ?_;refine w1 n0 (.e (.e .s)) ?_;intro h;refine yN 19 0 [5] (fun x2=>⟨[(0,Jh .frozen a0),(1,I6 a1),(5,I6 x2)],[],[],[]⟩) h ?_ ?_
 ·intro x2 _ h;unfold Om at h;exact w1 a0 (.l 2 (.e (.c (.i 2 (.e (.c (.e .z) (.e .z)))) .z))) t0
 intro _ s' h hs;exact w1 n0 (.e .z) t0⟩
def Pu (a0:(List Jf)) (a1:Jf):Int->Option (Int⊕(Unit⊕Bool)):=fun x2 =>
 bif decide (x2<((a0.length:Nat):Int)) then (
  (ixO a0 x2).bind fun x4 =>
  bif Wo x4 a1 then (
   some (.inr (.inr true))
  ) else (
   some (.inl (w64 (x2+1)))
  )
 ) else (
  some (.inr (.inl ()))
 )
def Ci (a0:(List Jf)) (a1:Jf):Option Bool :=
 onInl (Js (Pu a0 a1) 0) fun _ =>
 some false
instance Kge (a0:(List Jf)) (a1:Jf):Ct Tryz.prog GlS (Ci a0 a1) 200 [Enc.pv a0,Enc.pv a1] Enc.pv:=⟨fun r h=>by
 unfold Ci at h;refine zC Tryz.func200 Tryz.ntmps200 ?_;refine w1 n0 (.e (.e .s)) ?_;intro h;refine yN 18 0 [5] (fun x2=>⟨[(0,Jh .frozen a0),(3,.ref 3 0),(5,I6 x2)],[(3,.cells (cellsOf a1))],[],[]⟩) h ?_ ?_
 ·intro x2 _ h;unfold Pu at h;exact w1 a0 (.l 2 (.e (.c (.i 2 (.e (.c (.e .z) (.e .z)))) .z))) t0
 intro _ s' h hs;exact w1 n0 (.e .z) t0⟩
def Ix (a0:Ji) (a1:Jf):Option Bool :=
 (Ci a0.Points a1).bind fun r1 =>
 ((bif r1 then some true else (
  (Ci a0.OverPoints a1).bind fun r3 =>
  some r3
 )):Option Bool).bind fun b2 =>
 ((bif b2 then some true else (
  (Ci a0.Flank a1).bind fun r5 =>
  some r5
 )):Option Bool).bind fun b4 =>
 some b4
instance Kb0 (a0:Ji) (a1:Jf):Ct Tryz.prog GlS (Ix a0 a1) 261 [Enc.pv a0,Enc.pv a1] Enc.pv:=⟨fun r h=>by
 unfold Ix at h;refine zC Tryz.func261 Tryz.ntmps261 ?_;exact w1 n0 (.e (.p 3 (.b 1 5 14 (.g 0 .z (.p 3 .z)) (.b 1 5 20 (.g 0 .z (.p 3 .z)) (.e .z))))) t0⟩
def Sb (a0:Ji) (a1:Je):Option (Jf×Int×Bool) :=
 onInl (α:=(Int×Int)) (β:=(Jf×Int×Bool)) (
  bif decide (a1.Side=2) then (
   some (.inl (2,1))
  ) else (
   some (.inl (1,2))
  )
 ) fun (x1,x2) =>
 (Ix a0 (Jf.mk a1.El x1)).bind fun r3 =>
 bif r3 then (
  some ((Jf.mk 0 0),(-1),false)
 ) else (
  some ((Jf.mk a1.El x2),(-1),true)
 )
instance Kdq (a0:Ji) (a1:Je):Ct Tryz.prog GlS (Sb a0 a1) 198 [Enc.pv a0,Enc.pv a1] (fun r=>.tup [Enc.pv r.1,Enc.pv r.2.1,Enc.pv r.2.2]):=⟨fun r h=>by
 unfold Sb at h;refine zC Tryz.func198 Tryz.ntmps198 ?_;refine w1 n0 (.e (.e (.e .S))) ?_;intro h;refine Jo ?_;refine yJ 29 (fun (x1,x2)=>⟨[(2,.ref 2 0),(4,.ref 4 0),(7,.ref 7 0),(8,.ref 8 0)],[(2,.cells (cellsOf a0)),(4,.cells ([I6 0,I6 0])),(7,.cells ([I6 a1.El,I6 x1])),(8,.cells ([I6 a1.El,I6 x2]))],[],[]⟩) h ?_ ?_
 ·intro _ h;exact w1 n0 (.e (.c (.e (.e .z)) .z)) t0
 rintro ⟨x1,x2⟩ h;exact w1 n0 (.p 2 (.e (.c (.e .z) (.e .z)))) t0⟩
def Jfw (a0:Int) (a1:Int) (a2:Int):Int->Option (Int⊕(Unit⊕(Int×Bool))):=fun x2 =>
 bif decide (x2<4) then (
  (Co a0 a1 x2).bind fun r4 =>
  bif (r4.2&&((decide (r4.1=0))||(decide (r4.1=a2)))) then (
   some (.inr (.inr (x2,true)))
  ) else (
   some (.inl (w64 (x2+1)))
  )
 ) else (
  some (.inr (.inl ()))
 )
def Jan (a0:Int) (a1:Int) (a2:Int):Option (Int×Bool) :=
 onInl (Js (Jfw a0 a1 a2) 0) fun _ =>
 some (0,false)
instance Kf6 (a0:Int) (a1:Int) (a2:Int):Ct Tryz.prog GlS (Jan a0 a1 a2) 199 [Enc.pv a0,Enc.pv a1,Enc.pv a2] (fun r=>.tup [Enc.pv r.1,Enc.pv r.2]):=⟨fun r h=>by
 unfold Jan at h;refine zC Tryz.func199 Tryz.ntmps199 ?_;refine w1 n0 (.e (.e .s)) ?_;intro h;refine yN 33 0 [8] (fun x2=>⟨[(0,I6 a0),(1,I6 a1),(2,I6 a2),(8,I6 x2)],[],[],[]⟩) h ?_ ?_
 ·intro x2 _ h;unfold Jfw at h;exact w1 n0 (.e (.c (.p 3 (.e (.o 2 8 31 0 (.e (.c (.e .z) (.e .z)))))) .z)) t0
 intro _ s' h hs;exact w1 n0 (.e .z) t0⟩
end
end PM
