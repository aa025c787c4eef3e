/-
 Plain functions for the program's functions, and the proofs that the program does them. Printed by den.py.
-/
import Derived.Test.YtfpoeepcomnjhaaGreatDoorDen4
namespace PM
noncomputable section
open Go Go.RowKit Go.Proofs
attribute [local irreducible] Jv pwp
def Ll (a0:(List Jd)) (a1:Int) (a2:Int):(Int×(List Jd))->Option ((Int×(List Jd))⊕((List Jd)⊕(List Jd))):=fun (x17,x18) =>
 bif decide (x17<((a0.length:Nat):Int)) then (
  onInl (α:=(List Jd)) (β:=((Int×(List Jd))⊕((List Jd)⊕(List Jd)))) (
   (ixO a0 x17).bind fun x31 =>
   (Ya (Dc.mk a1 a2) x31).bind fun r32 =>
   bif r32.2 then (
    (Uq x18 [r32.1]).bind fun x33 =>
    some (.inl x33)
   ) else (
    some (.inl x18)
   )
  ) fun x30 =>
  some (.inl (w64 (x17+1),x30))
 ) else (
  some (.inr (.inl x18))
 )
def Zr (a0:(List Jd)) (a1:Int) (a2:Int):Option (List Jd) :=
 (Vj a0).bind fun r1 =>
 bif (!r1) then (
  some ([]:(List Jd))
 ) else (
  onInl (Js (Ll a0 a1 a2) (0,[])) fun x26 =>
  some x26
 )
theorem Jja (a0:(List Jd)) (a1:Int) (a2:Int) (r:(List Jd)) (h:Zr a0 a1 a2=some r):Yy Tryz.prog GlS 178 [Enc.pv a0,Enc.pv a1,Enc.pv a2] (Jh (.own 100007) r):=by
 unfold Zr at h;refine zC Tryz.func178 Tryz.ntmps178 ?_;refine w6 a0 (.e (.p 1 (.e (.c (.e .S) (.e (.l 1 (.e .S))))))) ?_ ?_ t0 t0 t0 t0
 ·intro _ h;exact Jo (Zh 6 100007 4 32 kr kr (w1 n0 .z t0))
 intro _ h;refine Jo (Kq (Zh 7 100007 4 32 kr kr ?_));refine yM 36 0 [17] (fun (x17,x18)=>⟨[(1,I6 a1),(2,I6 a2),(7,Jh (.own 100007) x18),(15,Jh .frozen a0),(16,I6 ((a0.length:Nat):Int)),(17,I6 x17)],[],[(100007,(((x18).map cellsOf).length,4))],[]⟩) h ?_ ?_
 ·rintro ⟨x17,x18⟩ _ h;unfold Ll at h;refine w1 n0 (.e (.c .s .z)) ?_;intro h;refine yJ 36 (fun x30=>⟨[(1,I6 a1),(2,I6 a2),(7,Jh (.own 100007) x30),(15,Jh .frozen a0),(16,I6 ((a0.length:Nat):Int)),(17,I6 x17)],[],[(100007,(((x30).map cellsOf).length,4))],[]⟩) h ?_ ?_
  ·intro _ h;exact w1 n0 (.i 0 (.e (.p 4 (.e (.e (.c (.w 3 (.e .z)) .z)))))) t0
  intro x30 h;exact w1 n0 (.e .z) t0
 intro x26 s' h hs;exact w1 n0 (.e .z) t0
instance Kb9 (a0:(List Jd)) (a1:Int) (a2:Int):Ct Tryz.prog GlS (Zr a0 a1 a2) 178 [Enc.pv a0,Enc.pv a1,Enc.pv a2] Enc.pv:=⟨fun r h =>
 (Jja a0 a1 a2 r h).freeze kr kr kr⟩
def Dn (a0:Int) (a1:Jb):Option Bool :=
 bif decide (a0=1) then (
  some true
 ) else (
  onInl (α:=Bool) (β:=Bool) (
   bif decide (a0=2) then (
    some (.inl (decide (a0=2)))
   ) else (
    some (.inl (decide (a0=3)))
   )
  ) fun x1 =>
  bif x1 then (
   some (((decide (a1.In=0))&&(decide (a1.Out=1)))||((decide (a1.In=1))&&(decide (a1.Out=0))))
  ) else (
   some false
  )
 )
instance Jvy (a0:Int) (a1:Jb):Ct Tryz.prog GlS (Dn a0 a1) 246 [Enc.pv a0,Enc.pv a1] Enc.pv:=⟨fun r h=>by
 unfold Dn at h;refine zC Tryz.func246 Tryz.ntmps246 ?_;refine w1 n0 (.e (.e (.e (.c (.e .z) .S)))) ?_;intro h;refine yJ 29 (fun x1=>⟨[(3,.ref 3 0),(8,.bool x1)],[(3,.cells (cellsOf a1))],[],[]⟩) h ?_ ?_
 ·intro _ h;exact w1 n0 (.e (.c .z (.e .z))) t0
 intro x1 h;exact w1 n0 (.c (.o 4 4 18 1 (.o 1 9 28 0 (.e .z))) (.e .z)) t0⟩
def Ey (a0:Int):Option Bool :=
 some (!(decide (a0=a0)))
instance Jxs (a0:Int):Ct Tryz.prog GlS (Ey a0) 270 [Enc.pv a0] Enc.pv:=⟨fun r h=>by
 unfold Ey at h;refine zC Tryz.func270 Tryz.ntmps270 ?_;exact w1 n0 (.e (.e .z)) t0⟩
def Yw (a0:Int) (a1:Int):Option Int :=
 (Ey a0).bind fun r1 =>
 (Ey a1).bind fun r2 =>
 bif r1 then (
  bif r2 then (
   some 0
  ) else (
   some (-1)
  )
 ) else (
  bif r2 then (
   some 1
  ) else (
   bif decide (a0<a1) then (
    some (-1)
   ) else (
    bif decide (a1<a0) then (
     some 1
    ) else (
     some 0
    )
   )
  )
 )
instance Jta (a0:Int) (a1:Int):Ct Tryz.prog GlS (Yw a0 a1) 250 [Enc.pv a0,Enc.pv a1] Enc.pv:=⟨fun r h=>by
 unfold Yw at h;refine zC Tryz.func250 Tryz.ntmps250 ?_;exact w1 n0 (.e (.p 1 (.e (.p 1 (.e (.e (.c (.e (.c (.e .z) (.e .z))) (.e (.c (.e .z) (.e (.c (.e .z) (.e (.c (.e .z) (.e .z)))))))))))))) t0⟩
def Dp (a0:(List Int)):Int->Option (Int⊕(Unit⊕Int)):=fun x2 =>
 bif decide (x2<((a0.length:Nat):Int)) then (
  (ixO a0 x2).bind fun x4 =>
  bif (!(decide (x4=0))) then (
   some (.inr (.inr x4))
  ) else (
   some (.inl (w64 (x2+1)))
  )
 ) else (
  some (.inr (.inl ()))
 )
def Oo (a0:(List Int)):Option Int :=
 onInl (Js (Dp a0) 0) fun _ =>
 some 0
instance Kcw (a0:(List Int)):Ct Tryz.prog GlS (Oo a0) 249 [Enc.pv a0] Enc.pv:=⟨fun r h=>by
 unfold Oo at h;refine zC Tryz.func249 Tryz.ntmps249 ?_;refine w1 a0 (.e (.e (.l 1 (.e .s)))) ?_;intro h;refine yN 18 0 [8] (fun x2=>⟨[(3,I6 0),(6,Jh .frozen a0),(7,I6 ((a0.length:Nat):Int)),(8,I6 x2)],[],[],[]⟩) h ?_ ?_
 ·intro x2 _ h;unfold Dp at h;exact w1 n0 (.e (.c (.i 0 (.e (.e (.c (.e .z) (.e .z))))) .z)) t0
 intro _ s' h hs;exact w1 n0 (.e .z) t0⟩
def Ye (a0:Jc) (a1:Jc):Option Int :=
 (Yw a0.At a1.At).bind fun r1 =>
 (Yw a0.Id a1.Id).bind fun r2 =>
 (Oo [r1,r2]).bind fun r3 =>
 some r3
instance Jw6 (a0:Jc) (a1:Jc):Ct Tryz.prog GlS (Ye a0 a1) 248 [Enc.pv a0,Enc.pv a1] Enc.pv:=⟨fun r h=>by
 unfold Ye at h;refine zC Tryz.func248 Tryz.ntmps248 ?_;exact w1 n0 (.e (.p 4 (.p 4 (.p 1 (.e .z))))) t0⟩
def Kt (a0:(List Jc)) (a1:Int):(Int×(List Jc))->Option ((Int×(List Jc))⊕((List Jc)⊕((Int×(List Jc))⊕((List Jc)⊕(List Jc))))):=fun (x108,x109) =>
 ((bif decide (a1<x108) then (
  (Wt 0 (((a0:(List Jc)).map cellsOf).length) x108).bind fun j126 =>
  (Vi x109 (((a0:(List Jc)).map cellsOf).length) j126).bind fun x127 =>
  (Wt 0 (((a0:(List Jc)).map cellsOf).length) (w64 (x108 - 1))).bind fun j128 =>
  (Vi x109 (((a0:(List Jc)).map cellsOf).length) j128).bind fun x129 =>
  (Ye x127 x129).bind fun r130 =>
  some (decide (r130<0))
 ) else some false):Option Bool).bind fun b125 =>
 bif b125 then (
  (Wt 0 (((a0:(List Jc)).map cellsOf).length) (w64 (x108 - 1))).bind fun j131 =>
  (Vi x109 (((a0:(List Jc)).map cellsOf).length) j131).bind fun x132 =>
  (Wt 0 (((a0:(List Jc)).map cellsOf).length) x108).bind fun j133 =>
  (Vi x109 (((a0:(List Jc)).map cellsOf).length) j133).bind fun x134 =>
  (Wt 0 (((a0:(List Jc)).map cellsOf).length) x108).bind fun j135 =>
  (Vi x109 (((a0:(List Jc)).map cellsOf).length) j135).bind fun x136 =>
  (Wt 0 (((a0:(List Jc)).map cellsOf).length) (w64 (x108 - 1))).bind fun j137 =>
  (Vi (x109.set j135 x132) (((a0:(List Jc)).map cellsOf).length) j137).bind fun x138 =>
  some (.inl (w64 (x108 - 1),((x109.set j135 x132).set j137 x134)))
 ) else (
  some (.inr (.inl x109))
 )
def Kv (a0:(List Jc)) (a1:Int) (a2:Int):(Int×(List Jc))->Option ((Int×(List Jc))⊕((List Jc)⊕(List Jc))):=fun (x46,x47) =>
 bif decide (x46<a2) then (
  onInl (Js (Kt a0 a1) (x46,x47)) fun x124 =>
  some (.inl (w64 (x46+1),x124))
 ) else (
  some (.inr (.inl x47))
 )
def Kk (a0:(List Jc)) (a1:Int) (a2:Int):Option (List Jc) :=
 onInl (Js (Kv a0 a1 a2) (w64 (a1+1),a0)) fun x93 =>
 some x93
theorem Ur (a0:(List Jc)) (a1:Int) (a2:Int) (r:(List Jc)) (h:Kk a0 a1 a2=some r):Ry Tryz.prog GlS 277 2 16 (a0.map cellsOf) [Enc.pv a1,Enc.pv a2,.fn 248 []] none (r.map cellsOf):=by
 unfold Kk at h;refine Cu Tryz.func277 (by rfl) rfl Tryz.ntmps277 (by rfl) rfl ?_;refine w1 n0 (.e .s) ?_;intro h;refine yM 53 0 [8] (fun (x46,x47)=>⟨[(0,.ex 1000000000 2 16 ((a0.map cellsOf).length) 0 ((a0.map cellsOf).length)),(1,I6 a1),(2,I6 a2),(3,.fn 248 []),(8,I6 x46)],[],[(1000000000,((a0.map cellsOf).length,0))],[(1000000000,(2,(16,x47.map cellsOf)))]⟩) h ?_ ?_
 ·rintro ⟨x46,x47⟩ _ h;unfold Kv at h;refine w1 n0 (.e (.c (.e .s) .z)) ?_;intro h;refine yM 53 2 [9] (fun (x108,x109)=>⟨[(0,.ex 1000000000 2 16 ((a0.map cellsOf).length) 0 ((a0.map cellsOf).length)),(1,I6 a1),(2,I6 a2),(3,.fn 248 []),(8,I6 x46),(9,I6 x108)],[],[(1000000000,((a0.map cellsOf).length,0))],[(1000000000,(2,(16,x109.map cellsOf)))]⟩) h ?_ ?_
  ·rintro ⟨x108,x109⟩ _ h;unfold Kt at h;refine w6 n0 (.b 4 13 34 (.g 0 .x .z) (.e (.c .x .z))) ?_ ?_ t0 t0 t0 t0
   ·intro _ j126 h122 h;refine zR 3 (Uz (tk:=1000000000) (k:=2) (N:=(a0.map cellsOf).length) h122 kr ?_);obtain ⟨x127,h123,h⟩:=Ka h;refine Vw (L:=x109) (N:=(a0.map cellsOf).length) (j:=j126) (y:=x127) (v:=Enc.pv x127) h123 true 2 0 kr kr ?_;obtain ⟨j128,h124,h⟩:=Ka h;refine zR 3 (Uz (tk:=1000000000) (k:=2) (N:=(a0.map cellsOf).length) h124 kr ?_);obtain ⟨x129,h125,h⟩:=Ka h;exact Vw (L:=x109) (N:=(a0.map cellsOf).length) (j:=j128) (y:=x129) (v:=Enc.pv x129) h125 true 2 0 kr kr (w1 n0 (.p 0 .z) t0)
   intro _ j131 h127 h;refine zR 8 (Uz (tk:=1000000000) (k:=2) (N:=(a0.map cellsOf).length) h127 kr ?_);obtain ⟨x132,h128,h⟩:=Ka h;refine Vw (L:=x109) (N:=(a0.map cellsOf).length) (j:=j131) (y:=x132) (v:=Enc.pv x132) h128 true 2 0 kr kr ?_;obtain ⟨j133,h129,h⟩:=Ka h;refine zR 2 (Uz (tk:=1000000000) (k:=2) (N:=(a0.map cellsOf).length) h129 kr ?_);obtain ⟨x134,h130,h⟩:=Ka h;refine Vw (L:=x109) (N:=(a0.map cellsOf).length) (j:=j133) (y:=x134) (v:=Enc.pv x134) h130 true 2 0 kr kr ?_;obtain ⟨j135,h131,h⟩:=Ka h;refine Uz (tk:=1000000000) (k:=2) (N:=(a0.map cellsOf).length) h131 kr ?_;obtain ⟨x136,h132,h⟩:=Ka h;refine Ox (L:=x109) (tk:=1000000000) (N:=(a0.map cellsOf).length) (j:=j135) (y:=x136) (y':=x132) h132 0 2 [I6 x132.Id,I6 x132.At] kr kr ?_;obtain ⟨j137,h133,h⟩:=Ka h;refine Uz (tk:=1000000000) (k:=2) (N:=(a0.map cellsOf).length) h133 kr ?_;obtain ⟨x138,h134,h⟩:=Ka h;exact Ox (L:=((x109.set j135 x132):(List Jc))) (tk:=1000000000) (N:=(a0.map cellsOf).length) (j:=j137) (y:=x138) (y':=x134) h134 0 2 [I6 x134.Id,I6 x134.At] kr kr (w1 n0 (.e (.e .z)) t0)
  intro x124 s' h hs;exact w1 n0 (.e .z) t0
 intro x93 s' h hs;refine Ui ?_;cases h;exact Ji4 hs kr
def Qc (a0:(List Jc)) (a1:Int) (a2:Int) (a3:Int):(Int×(List Jc))->Option ((Int×(List Jc))⊕((List Jc)⊕(List Jc))):=fun (x9,x10) =>
 bif decide (x9<a3) then (
  (Wt 0 (((a0:(List Jc)).map cellsOf).length) (w64 (a2+x9))).bind fun j20 =>
  (Vi x10 (((a0:(List Jc)).map cellsOf).length) j20).bind fun x21 =>
  (Wt 0 (((a0:(List Jc)).map cellsOf).length) (w64 (a1+x9))).bind fun j22 =>
  (Vi x10 (((a0:(List Jc)).map cellsOf).length) j22).bind fun x23 =>
  (Wt 0 (((a0:(List Jc)).map cellsOf).length) (w64 (a1+x9))).bind fun j24 =>
  (Vi x10 (((a0:(List Jc)).map cellsOf).length) j24).bind fun x25 =>
  (Wt 0 (((a0:(List Jc)).map cellsOf).length) (w64 (a2+x9))).bind fun j26 =>
  (Vi (x10.set j24 x21) (((a0:(List Jc)).map cellsOf).length) j26).bind fun x27 =>
  some (.inl (w64 (x9+1),((x10.set j24 x21).set j26 x23)))
 ) else (
  some (.inr (.inl x10))
 )
def Kh (a0:(List Jc)) (a1:Int) (a2:Int) (a3:Int):Option (List Jc) :=
 onInl (Js (Qc a0 a1 a2 a3) (0,a0)) fun x19 =>
 some x19
theorem Qy (a0:(List Jc)) (a1:Int) (a2:Int) (a3:Int) (r:(List Jc)) (h:Kh a0 a1 a2 a3=some r):Ry Tryz.prog GlS 280 2 16 (a0.map cellsOf) [Enc.pv a1,Enc.pv a2,Enc.pv a3,.fn 248 []] none (r.map cellsOf):=by
 unfold Kh at h;refine Cu Tryz.func280 (by rfl) rfl Tryz.ntmps280 (by rfl) rfl ?_;refine w1 n0 (.e .s) ?_;intro h;refine yM 38 0 [10] (fun (x9,x10)=>⟨[(0,.ex 1000000000 2 16 ((a0.map cellsOf).length) 0 ((a0.map cellsOf).length)),(1,I6 a1),(2,I6 a2),(3,I6 a3),(10,I6 x9)],[],[(1000000000,((a0.map cellsOf).length,0))],[(1000000000,(2,(16,x10.map cellsOf)))]⟩) h ?_ ?_
 ·rintro ⟨x9,x10⟩ _ h;unfold Qc at h;refine w1 n0 (.e (.c .x .z)) ?_;intro j20 h19 h;refine zR 12 (Uz (tk:=1000000000) (k:=2) (N:=(a0.map cellsOf).length) h19 kr ?_);obtain ⟨x21,h20,h⟩:=Ka h;refine Vw (L:=x10) (N:=(a0.map cellsOf).length) (j:=j20) (y:=x21) (v:=Enc.pv x21) h20 true 2 0 kr kr ?_;obtain ⟨j22,h21,h⟩:=Ka h;refine zR 4 (Uz (tk:=1000000000) (k:=2) (N:=(a0.map cellsOf).length) h21 kr ?_);obtain ⟨x23,h22,h⟩:=Ka h;refine Vw (L:=x10) (N:=(a0.map cellsOf).length) (j:=j22) (y:=x23) (v:=Enc.pv x23) h22 true 2 0 kr kr ?_;obtain ⟨j24,h23,h⟩:=Ka h;refine Uz (tk:=1000000000) (k:=2) (N:=(a0.map cellsOf).length) h23 kr ?_;obtain ⟨x25,h24,h⟩:=Ka h;refine Ox (L:=x10) (tk:=1000000000) (N:=(a0.map cellsOf).length) (j:=j24) (y:=x25) (y':=x21) h24 0 2 [I6 x21.Id,I6 x21.At] kr kr ?_;obtain ⟨j26,h25,h⟩:=Ka h;refine Uz (tk:=1000000000) (k:=2) (N:=(a0.map cellsOf).length) h25 kr ?_;obtain ⟨x27,h26,h⟩:=Ka h;exact Ox (L:=((x10.set j24 x21):(List Jc))) (tk:=1000000000) (N:=(a0.map cellsOf).length) (j:=j26) (y:=x27) (y':=x23) h26 0 2 [I6 x23.Id,I6 x23.At] kr kr (w1 n0 (.e (.e .z)) t0)
 intro x19 s' h hs;refine Ui ?_;cases h;exact Ji4 hs kr
def Qn (a2:Int):(Int×(List Jc)×Int)->Option ((Int×(List Jc)×Int)⊕(((List Jc)×Int)⊕(List Jc))):=fun (x3,x4,x5) =>
 bif (!(decide (x3=x5))) then (
  bif decide (x5<x3) then (
   (Kh x4 (w64 (a2 - x3)) a2 x5).bind fun r10 =>
   some (.inl (w64 (x3 - x5),r10,x5))
  ) else (
   (Kh x4 (w64 (a2 - x3)) (w64 ((w64 (a2+x5)) - x3)) x3).bind fun r11 =>
   some (.inl (x3,r11,w64 (x5 - x3)))
  )
 ) else (
  some (.inr (.inl (x4,x3)))
 )
def Km (a0:(List Jc)) (a1:Int) (a2:Int) (a3:Int):Option (List Jc) :=
 onInl (Js (Qn a2) (w64 (a2 - a1),a0,w64 (a3 - a2))) fun (x8,x9) =>
 (Kh x8 (w64 (a2 - x9)) a2 x9).bind fun r12 =>
 some r12
theorem Zz (a0:(List Jc)) (a1:Int) (a2:Int) (a3:Int) (r:(List Jc)) (h:Km a0 a1 a2 a3=some r):Ry Tryz.prog GlS 279 2 16 (a0.map cellsOf) [Enc.pv a1,Enc.pv a2,Enc.pv a3,.fn 248 []] none (r.map cellsOf):=by
 unfold Km at h;refine Cu Tryz.func279 (by rfl) rfl Tryz.ntmps279 (by rfl) rfl ?_;refine w1 n0 (.e (.e .s)) ?_;intro h;refine yL 58 0 (fun (x3,x4,x5)=>⟨[(0,.ex 1000000000 2 16 ((a0.map cellsOf).length) 0 ((a0.map cellsOf).length)),(2,I6 a2),(4,.fn 248 []),(10,I6 x3),(11,I6 x5)],[],[(1000000000,((a0.map cellsOf).length,0))],[(1000000000,(2,(16,x4.map cellsOf)))]⟩) (fun (x8,x9)=>⟨[(0,.ex 1000000000 2 16 ((a0.map cellsOf).length) 0 ((a0.map cellsOf).length)),(2,I6 a2),(4,.fn 248 []),(10,I6 x9)],[],[(1000000000,((a0.map cellsOf).length,0))],[(1000000000,(2,(16,x8.map cellsOf)))]⟩) h ?_ ?_
 ·rintro ⟨x3,x4,x5⟩ _ h;unfold Qn at h;refine w6 n0 (.e (.c (.e (.c .x .x)) .z)) ?_ ?_ t0 t0 t0 t0
  ·intro r10 h7 h;exact zR 7 (Hp (t:=1000000000) (L:=x4) (L':=r10) (N:=(a0.map cellsOf).length) kr kr kr (Qy _ _ _ _ r10 h7) (w1 n0 (.e (.e .z)) t0))
  intro r11 h8 h;exact zR 11 (Hp (t:=1000000000) (L:=x4) (L':=r11) (N:=(a0.map cellsOf).length) kr kr kr (Qy _ _ _ _ r11 h8) (w1 n0 (.e (.e .z)) t0))
 rintro ⟨x8,x9⟩ s' h hs;obtain ⟨r12,h9,h⟩:=Ka h;refine Ui (Jo (Qx hs (Wj (zR 7 (Hp (t:=1000000000) (L:=x8) (L':=r12) (N:=(a0.map cellsOf).length) kr kr kr (Qy _ _ _ _ r12 h9) (w1 n0 (.e .s) ?_))))));intro h;cases h;exact Jat kr
def Qt (a0:(List Jc)) (a1:Int):(Int×Int)->Option ((Int×Int)⊕(Int⊕(List Jc))):=fun (x6,x7) =>
 bif decide (x6<x7) then (
  (Wt 0 (((a0:(List Jc)).map cellsOf).length) (w64 ((IntKind.u64.wrap (w64 (x6+x7))).fdiv 2))).bind fun j14 =>
  (Vi a0 (((a0:(List Jc)).map cellsOf).length) j14).bind fun x15 =>
  (Wt 0 (((a0:(List Jc)).map cellsOf).length) a1).bind fun j16 =>
  (Vi a0 (((a0:(List Jc)).map cellsOf).length) j16).bind fun x17 =>
  (Ye x15 x17).bind fun r18 =>
  bif decide (r18<0) then (
   some (.inl (w64 ((w64 ((IntKind.u64.wrap (w64 (x6+x7))).fdiv 2))+1),x7))
  ) else (
   some (.inl (x6,w64 ((IntKind.u64.wrap (w64 (x6+x7))).fdiv 2)))
  )
 ) else (
  some (.inr (.inl x6))
 )
def Qu (a0:(List Jc)) (x13:Int):(Int×(List Jc))->Option ((Int×(List Jc))⊕((List Jc)⊕(List Jc))):=fun (x27,x28) =>
 bif decide (x27<(w64 (x13 - 1))) then (
  (Wt 0 (((a0:(List Jc)).map cellsOf).length) (w64 (x27+1))).bind fun j38 =>
  (Vi x28 (((a0:(List Jc)).map cellsOf).length) j38).bind fun x39 =>
  (Wt 0 (((a0:(List Jc)).map cellsOf).length) x27).bind fun j40 =>
  (Vi x28 (((a0:(List Jc)).map cellsOf).length) j40).bind fun x41 =>
  (Wt 0 (((a0:(List Jc)).map cellsOf).length) x27).bind fun j42 =>
  (Vi x28 (((a0:(List Jc)).map cellsOf).length) j42).bind fun x43 =>
  (Wt 0 (((a0:(List Jc)).map cellsOf).length) (w64 (x27+1))).bind fun j44 =>
  (Vi (x28.set j42 x39) (((a0:(List Jc)).map cellsOf).length) j44).bind fun x45 =>
  some (.inl (w64 (x27+1),((x28.set j42 x39).set j44 x41)))
 ) else (
  some (.inr (.inl x28))
 )
def Qv (a0:(List Jc)) (a2:Int):(Int×Int)->Option ((Int×Int)⊕(Int⊕(List Jc))):=fun (x51,x52) =>
 bif decide (x51<x52) then (
  (Wt 0 (((a0:(List Jc)).map cellsOf).length) a2).bind fun j59 =>
  (Vi a0 (((a0:(List Jc)).map cellsOf).length) j59).bind fun x60 =>
  (Wt 0 (((a0:(List Jc)).map cellsOf).length) (w64 ((IntKind.u64.wrap (w64 (x51+x52))).fdiv 2))).bind fun j61 =>
  (Vi a0 (((a0:(List Jc)).map cellsOf).length) j61).bind fun x62 =>
  (Ye x60 x62).bind fun r63 =>
  bif (!(decide (r63<0))) then (
   some (.inl (w64 ((w64 ((IntKind.u64.wrap (w64 (x51+x52))).fdiv 2))+1),x52))
  ) else (
   some (.inl (x51,w64 ((IntKind.u64.wrap (w64 (x51+x52))).fdiv 2)))
  )
 ) else (
  some (.inr (.inl x51))
 )
def Qw (a0:(List Jc)) (x58:Int):(Int×(List Jc))->Option ((Int×(List Jc))⊕((List Jc)⊕(List Jc))):=fun (x72,x73) =>
 bif decide (x58<x72) then (
  (Wt 0 (((a0:(List Jc)).map cellsOf).length) (w64 (x72 - 1))).bind fun j83 =>
  (Vi x73 (((a0:(List Jc)).map cellsOf).length) j83).bind fun x84 =>
  (Wt 0 (((a0:(List Jc)).map cellsOf).length) x72).bind fun j85 =>
  (Vi x73 (((a0:(List Jc)).map cellsOf).length) j85).bind fun x86 =>
  (Wt 0 (((a0:(List Jc)).map cellsOf).length) x72).bind fun j87 =>
  (Vi x73 (((a0:(List Jc)).map cellsOf).length) j87).bind fun x88 =>
  (Wt 0 (((a0:(List Jc)).map cellsOf).length) (w64 (x72 - 1))).bind fun j89 =>
  (Vi (x73.set j87 x84) (((a0:(List Jc)).map cellsOf).length) j89).bind fun x90 =>
  some (.inl (w64 (x72 - 1),((x73.set j87 x84).set j89 x86)))
 ) else (
  some (.inr (.inl x73))
 )
def Ku (a0:(List Jc)) (a1:Int) (a2:Int) (a3:Int):(Int×Int)->Option ((Int×Int)⊕(Int⊕(List Jc))):=fun (x98,x99) =>
 bif decide (x98<x99) then (
  (Wt 0 (((a0:(List Jc)).map cellsOf).length) (w64 ((w64 ((w64 ((w64 ((IntKind.u64.wrap (w64 (a1+a3))).fdiv 2))+a2)) - 1)) - (w64 ((IntKind.u64.wrap (w64 (x98+x99))).fdiv 2))))).bind fun j106 =>
  (Vi a0 (((a0:(List Jc)).map cellsOf).length) j106).bind fun x107 =>
  (Wt 0 (((a0:(List Jc)).map cellsOf).length) (w64 ((IntKind.u64.wrap (w64 (x98+x99))).fdiv 2))).bind fun j108 =>
  (Vi a0 (((a0:(List Jc)).map cellsOf).length) j108).bind fun x109 =>
  (Ye x107 x109).bind fun r110 =>
  bif (!(decide (r110<0))) then (
   some (.inl (w64 ((w64 ((IntKind.u64.wrap (w64 (x98+x99))).fdiv 2))+1),x99))
  ) else (
   some (.inl (x98,w64 ((IntKind.u64.wrap (w64 (x98+x99))).fdiv 2)))
  )
 ) else (
  some (.inr (.inl x98))
 )
def Jq (rc_d_slices_symMergeCmpFunc_api_Linked__linking_Of_c1:(List Jc)->Int->Int->Int->Option (List Jc)) (a0:(List Jc)) (a1:Int) (a2:Int) (a3:Int):Option (List Jc) :=
 bif decide ((w64 (a2 - a1))=1) then (
  onInl (Js (Qt a0 a1) (a2,a3)) fun x13 =>
  onInl (Js (Qu a0 x13) (a1,a0)) fun x37 =>
  some x37
 ) else (
  bif decide ((w64 (a3 - a2))=1) then (
   onInl (Js (Qv a0 a2) (a1,a2)) fun x58 =>
   onInl (Js (Qw a0 x58) (a2,a0)) fun x82 =>
   some x82
  ) else (
   onInl (α:=(Int×Int)) (β:=(List Jc)) (
    bif decide ((w64 ((IntKind.u64.wrap (w64 (a1+a3))).fdiv 2))<a2) then (
     some (.inl (w64 ((w64 ((w64 ((IntKind.u64.wrap (w64 (a1+a3))).fdiv 2))+a2)) - a3),w64 ((IntKind.u64.wrap (w64 (a1+a3))).fdiv 2)))
    ) else (
     some (.inl (a1,a2))
    )
   ) fun (x91,x92) =>
   onInl (Js (Ku a0 a1 a2 a3) (x91,x92)) fun x105 =>
   onInl (α:=(List Jc)) (β:=(List Jc)) (
    bif ((decide (x105<a2))&&(decide (a2<(w64 ((w64 ((w64 ((IntKind.u64.wrap (w64 (a1+a3))).fdiv 2))+a2)) - x105))))) then (
     (Km a0 x105 a2 (w64 ((w64 ((w64 ((IntKind.u64.wrap (w64 (a1+a3))).fdiv 2))+a2)) - x105))).bind fun r113 =>
     some (.inl r113)
    ) else (
     some (.inl a0)
    )
   ) fun x112 =>
   onInl (α:=(List Jc)) (β:=(List Jc)) (
    bif ((decide (a1<x105))&&(decide (x105<(w64 ((IntKind.u64.wrap (w64 (a1+a3))).fdiv 2))))) then (
     (rc_d_slices_symMergeCmpFunc_api_Linked__linking_Of_c1 x112 a1 x105 (w64 ((IntKind.u64.wrap (w64 (a1+a3))).fdiv 2))).bind fun r116 =>
     some (.inl r116)
    ) else (
     some (.inl x112)
    )
   ) fun x115 =>
   bif ((decide ((w64 ((IntKind.u64.wrap (w64 (a1+a3))).fdiv 2))<(w64 ((w64 ((w64 ((IntKind.u64.wrap (w64 (a1+a3))).fdiv 2))+a2)) - x105))))&&(decide ((w64 ((w64 ((w64 ((IntKind.u64.wrap (w64 (a1+a3))).fdiv 2))+a2)) - x105))<a3))) then (
    (rc_d_slices_symMergeCmpFunc_api_Linked__linking_Of_c1 x115 (w64 ((IntKind.u64.wrap (w64 (a1+a3))).fdiv 2)) (w64 ((w64 ((w64 ((IntKind.u64.wrap (w64 (a1+a3))).fdiv 2))+a2)) - x105)) a3).bind fun r117 =>
    some r117
   ) else (
    some x115
   )
  )
 )
theorem Uv (rc_d_slices_symMergeCmpFunc_api_Linked__linking_Of_c1:(List Jc)->Int->Int->Int->Option (List Jc)) (hrc_d_slices_symMergeCmpFunc_api_Linked__linking_Of_c1:∀ (a0:(List Jc)) (a1:Int) (a2:Int) (a3:Int) (r:(List Jc)),rc_d_slices_symMergeCmpFunc_api_Linked__linking_Of_c1 a0 a1 a2 a3=some r->Ry Tryz.prog GlS 278 2 16 (a0.map cellsOf) [Enc.pv a1,Enc.pv a2,Enc.pv a3,.fn 248 []] none (r.map cellsOf)) (a0:(List Jc)) (a1:Int) (a2:Int) (a3:Int) (r:(List Jc)) (h:Jq rc_d_slices_symMergeCmpFunc_api_Linked__linking_Of_c1 a0 a1 a2 a3=some r):Ry Tryz.prog GlS 278 2 16 (a0.map cellsOf) [Enc.pv a1,Enc.pv a2,Enc.pv a3,.fn 248 []] none (r.map cellsOf):=by
 unfold Jq at h;refine Cu Tryz.func278 (by rfl) rfl Tryz.ntmps278 (by rfl) rfl ?_;refine w6 n0 (.e (.c (.e (.e .s)) (.e (.c (.e (.e .s)) (.e (.e (.e .S))))))) ?_ ?_ ?_ t0 t0 t0
 ·intro h;refine yL 220 0 (fun (x6,x7)=>⟨[(0,.ex 1000000000 2 16 ((a0.map cellsOf).length) 0 ((a0.map cellsOf).length)),(1,I6 a1),(4,.fn 248 []),(10,I6 x6),(11,I6 x7)],[],[(1000000000,((a0.map cellsOf).length,0))],[(1000000000,(2,(16,a0.map cellsOf)))]⟩) (fun x13=>⟨[(0,.ex 1000000000 2 16 ((a0.map cellsOf).length) 0 ((a0.map cellsOf).length)),(1,I6 a1),(10,I6 x13)],[],[(1000000000,((a0.map cellsOf).length,0))],[(1000000000,(2,(16,a0.map cellsOf)))]⟩) h ?_ ?_
  ·rintro ⟨x6,x7⟩ _ h;unfold Qt at h;refine w1 n0 (.e (.c (.e .x) .z)) ?_;intro j14 h13 h;refine zR 3 (Uz (tk:=1000000000) (k:=2) (N:=(a0.map cellsOf).length) h13 kr ?_);obtain ⟨x15,h14,h⟩:=Ka h;refine Vw (L:=a0) (N:=(a0.map cellsOf).length) (j:=j14) (y:=x15) (v:=Enc.pv x15) h14 true 2 0 kr kr ?_;obtain ⟨j16,h15,h⟩:=Ka h;refine zR 2 (Uz (tk:=1000000000) (k:=2) (N:=(a0.map cellsOf).length) h15 kr ?_);obtain ⟨x17,h16,h⟩:=Ka h;exact Vw (L:=a0) (N:=(a0.map cellsOf).length) (j:=j16) (y:=x17) (v:=Enc.pv x17) h16 true 2 0 kr kr (w1 n0 (.p 0 (.e (.c (.e .z) (.e .z)))) t0)
  intro x13 s' h hs;refine w1 n0 (.e .s) ?_;intro h;refine yM 220 2 [13] (fun (x27,x28)=>⟨[(0,.ex 1000000000 2 16 ((a0.map cellsOf).length) 0 ((a0.map cellsOf).length)),(10,I6 x13),(13,I6 x27)],[],[(1000000000,((a0.map cellsOf).length,0))],[(1000000000,(2,(16,x28.map cellsOf)))]⟩) h ?_ ?_
  ·rintro ⟨x27,x28⟩ _ h;unfold Qu at h;refine w1 n0 (.e (.c .x .z)) ?_;intro j38 h36 h;refine zR 8 (Uz (tk:=1000000000) (k:=2) (N:=(a0.map cellsOf).length) h36 kr ?_);obtain ⟨x39,h37,h⟩:=Ka h;refine Vw (L:=x28) (N:=(a0.map cellsOf).length) (j:=j38) (y:=x39) (v:=Enc.pv x39) h37 true 2 0 kr kr ?_;obtain ⟨j40,h38,h⟩:=Ka h;refine zR 2 (Uz (tk:=1000000000) (k:=2) (N:=(a0.map cellsOf).length) h38 kr ?_);obtain ⟨x41,h39,h⟩:=Ka h;refine Vw (L:=x28) (N:=(a0.map cellsOf).length) (j:=j40) (y:=x41) (v:=Enc.pv x41) h39 true 2 0 kr kr ?_;obtain ⟨j42,h40,h⟩:=Ka h;refine Uz (tk:=1000000000) (k:=2) (N:=(a0.map cellsOf).length) h40 kr ?_;obtain ⟨x43,h41,h⟩:=Ka h;refine Ox (L:=x28) (tk:=1000000000) (N:=(a0.map cellsOf).length) (j:=j42) (y:=x43) (y':=x39) h41 0 2 [I6 x39.Id,I6 x39.At] kr kr ?_;obtain ⟨j44,h42,h⟩:=Ka h;refine Uz (tk:=1000000000) (k:=2) (N:=(a0.map cellsOf).length) h42 kr ?_;obtain ⟨x45,h43,h⟩:=Ka h;exact Ox (L:=((x28.set j42 x39):(List Jc))) (tk:=1000000000) (N:=(a0.map cellsOf).length) (j:=j44) (y:=x45) (y':=x41) h43 0 2 [I6 x41.Id,I6 x41.At] kr kr (w1 n0 (.e (.e .z)) t0)
  intro x37 s' h hs;refine Ui (Jo (Qx hs (Wf (Za ?_))));cases h;exact Jat kr
 ·intro h;refine yL 220 4 (fun (x51,x52)=>⟨[(0,.ex 1000000000 2 16 ((a0.map cellsOf).length) 0 ((a0.map cellsOf).length)),(2,I6 a2),(4,.fn 248 []),(14,I6 x51),(15,I6 x52)],[],[(1000000000,((a0.map cellsOf).length,0))],[(1000000000,(2,(16,a0.map cellsOf)))]⟩) (fun x58=>⟨[(0,.ex 1000000000 2 16 ((a0.map cellsOf).length) 0 ((a0.map cellsOf).length)),(2,I6 a2),(14,I6 x58)],[],[(1000000000,((a0.map cellsOf).length,0))],[(1000000000,(2,(16,a0.map cellsOf)))]⟩) h ?_ ?_
  ·rintro ⟨x51,x52⟩ _ h;unfold Qv at h;refine w1 n0 (.e (.c (.e .x) .z)) ?_;intro j59 h56 h;refine zR 3 (Uz (tk:=1000000000) (k:=2) (N:=(a0.map cellsOf).length) h56 kr ?_);obtain ⟨x60,h57,h⟩:=Ka h;refine Vw (L:=a0) (N:=(a0.map cellsOf).length) (j:=j59) (y:=x60) (v:=Enc.pv x60) h57 true 2 0 kr kr ?_;obtain ⟨j61,h58,h⟩:=Ka h;refine zR 2 (Uz (tk:=1000000000) (k:=2) (N:=(a0.map cellsOf).length) h58 kr ?_);obtain ⟨x62,h59,h⟩:=Ka h;exact Vw (L:=a0) (N:=(a0.map cellsOf).length) (j:=j61) (y:=x62) (v:=Enc.pv x62) h59 true 2 0 kr kr (w1 n0 (.p 0 (.e (.c (.e .z) (.e .z)))) t0)
  intro x58 s' h hs;refine w1 n0 (.e .s) ?_;intro h;refine yM 220 6 [17] (fun (x72,x73)=>⟨[(0,.ex 1000000000 2 16 ((a0.map cellsOf).length) 0 ((a0.map cellsOf).length)),(14,I6 x58),(17,I6 x72)],[],[(1000000000,((a0.map cellsOf).length,0))],[(1000000000,(2,(16,x73.map cellsOf)))]⟩) h ?_ ?_
  ·rintro ⟨x72,x73⟩ _ h;unfold Qw at h;refine w1 n0 (.e (.c .x .z)) ?_;intro j83 h79 h;refine zR 8 (Uz (tk:=1000000000) (k:=2) (N:=(a0.map cellsOf).length) h79 kr ?_);obtain ⟨x84,h80,h⟩:=Ka h;refine Vw (L:=x73) (N:=(a0.map cellsOf).length) (j:=j83) (y:=x84) (v:=Enc.pv x84) h80 true 2 0 kr kr ?_;obtain ⟨j85,h81,h⟩:=Ka h;refine zR 2 (Uz (tk:=1000000000) (k:=2) (N:=(a0.map cellsOf).length) h81 kr ?_);obtain ⟨x86,h82,h⟩:=Ka h;refine Vw (L:=x73) (N:=(a0.map cellsOf).length) (j:=j85) (y:=x86) (v:=Enc.pv x86) h82 true 2 0 kr kr ?_;obtain ⟨j87,h83,h⟩:=Ka h;refine Uz (tk:=1000000000) (k:=2) (N:=(a0.map cellsOf).length) h83 kr ?_;obtain ⟨x88,h84,h⟩:=Ka h;refine Ox (L:=x73) (tk:=1000000000) (N:=(a0.map cellsOf).length) (j:=j87) (y:=x88) (y':=x84) h84 0 2 [I6 x84.Id,I6 x84.At] kr kr ?_;obtain ⟨j89,h85,h⟩:=Ka h;refine Uz (tk:=1000000000) (k:=2) (N:=(a0.map cellsOf).length) h85 kr ?_;obtain ⟨x90,h86,h⟩:=Ka h;exact Ox (L:=((x73.set j87 x84):(List Jc))) (tk:=1000000000) (N:=(a0.map cellsOf).length) (j:=j89) (y:=x90) (y':=x86) h86 0 2 [I6 x86.Id,I6 x86.At] kr kr (w1 n0 (.e (.e .z)) t0)
  intro x82 s' h hs;refine Ui (Jo (Qx hs (Wf (Za ?_))));cases h;exact Jat kr
 intro h;refine Jo ?_;refine yJ 220 (fun (x91,x92)=>⟨[(0,.ex 1000000000 2 16 ((a0.map cellsOf).length) 0 ((a0.map cellsOf).length)),(1,I6 a1),(2,I6 a2),(3,I6 a3),(4,.fn 248 []),(18,I6 (w64 ((IntKind.u64.wrap (w64 (a1+a3))).fdiv 2))),(19,I6 (w64 ((w64 ((IntKind.u64.wrap (w64 (a1+a3))).fdiv 2))+a2))),(20,I6 x91),(21,I6 x92)],[],[(1000000000,((a0.map cellsOf).length,0))],[(1000000000,(2,(16,a0.map cellsOf)))]⟩) h ?_ ?_
 ·intro _ h;exact w1 n0 (.e (.c (.e (.e .z)) (.e (.e .z)))) t0
 rintro ⟨x91,x92⟩ h;refine w1 n0 (.e .s) ?_;intro h;refine yL 220 8 (fun (x98,x99)=>⟨[(0,.ex 1000000000 2 16 ((a0.map cellsOf).length) 0 ((a0.map cellsOf).length)),(1,I6 a1),(2,I6 a2),(3,I6 a3),(4,.fn 248 []),(18,I6 (w64 ((IntKind.u64.wrap (w64 (a1+a3))).fdiv 2))),(19,I6 (w64 ((w64 ((IntKind.u64.wrap (w64 (a1+a3))).fdiv 2))+a2))),(20,I6 x98),(21,I6 x99),(22,I6 (w64 ((w64 ((w64 ((IntKind.u64.wrap (w64 (a1+a3))).fdiv 2))+a2)) - 1)))],[],[(1000000000,((a0.map cellsOf).length,0))],[(1000000000,(2,(16,a0.map cellsOf)))]⟩) (fun x105=>⟨[(0,.ex 1000000000 2 16 ((a0.map cellsOf).length) 0 ((a0.map cellsOf).length)),(1,I6 a1),(2,I6 a2),(3,I6 a3),(4,.fn 248 []),(18,I6 (w64 ((IntKind.u64.wrap (w64 (a1+a3))).fdiv 2))),(19,I6 (w64 ((w64 ((IntKind.u64.wrap (w64 (a1+a3))).fdiv 2))+a2))),(20,I6 x105)],[],[(1000000000,((a0.map cellsOf).length,0))],[(1000000000,(2,(16,a0.map cellsOf)))]⟩) h ?_ ?_
 ·rintro ⟨x98,x99⟩ _ h;unfold Ku at h;refine w1 n0 (.e (.c (.e .x) .z)) ?_;intro j106 h100 h;refine zR 5 (Uz (tk:=1000000000) (k:=2) (N:=(a0.map cellsOf).length) h100 kr ?_);obtain ⟨x107,h101,h⟩:=Ka h;refine Vw (L:=a0) (N:=(a0.map cellsOf).length) (j:=j106) (y:=x107) (v:=Enc.pv x107) h101 true 2 0 kr kr ?_;obtain ⟨j108,h102,h⟩:=Ka h;refine zR 2 (Uz (tk:=1000000000) (k:=2) (N:=(a0.map cellsOf).length) h102 kr ?_);obtain ⟨x109,h103,h⟩:=Ka h;exact Vw (L:=a0) (N:=(a0.map cellsOf).length) (j:=j108) (y:=x109) (v:=Enc.pv x109) h103 true 2 0 kr kr (w1 n0 (.p 0 (.e (.c (.e .z) (.e .z)))) t0)
 intro x105 s' h hs;refine w1 n0 (.e .S) ?_;intro h;refine Jo ?_;refine yJ 220 (fun x112=>⟨[(0,.ex 1000000000 2 16 ((a0.map cellsOf).length) 0 ((a0.map cellsOf).length)),(1,I6 a1),(3,I6 a3),(4,.fn 248 []),(18,I6 (w64 ((IntKind.u64.wrap (w64 (a1+a3))).fdiv 2))),(20,I6 x105),(24,I6 (w64 ((w64 ((w64 ((IntKind.u64.wrap (w64 (a1+a3))).fdiv 2))+a2)) - x105)))],[],[(1000000000,((a0.map cellsOf).length,0))],[(1000000000,(2,(16,x112.map cellsOf)))]⟩) h ?_ ?_
 ·intro _ h;refine w1 n0 (.o 4 4 185 0 (.e (.c .x .z))) ?_;intro r113 h107 h;exact zR 5 (Hp (t:=1000000000) (L:=a0) (L':=r113) (N:=(a0.map cellsOf).length) kr kr kr (Zz _ _ _ _ r113 h107) (w1 n0 (.e .z) t0))
 intro x112 h;refine yJ 220 (fun x115=>⟨[(0,.ex 1000000000 2 16 ((a0.map cellsOf).length) 0 ((a0.map cellsOf).length)),(3,I6 a3),(4,.fn 248 []),(18,I6 (w64 ((IntKind.u64.wrap (w64 (a1+a3))).fdiv 2))),(24,I6 (w64 ((w64 ((w64 ((IntKind.u64.wrap (w64 (a1+a3))).fdiv 2))+a2)) - x105)))],[],[(1000000000,((a0.map cellsOf).length,0))],[(1000000000,(2,(16,x115.map cellsOf)))]⟩) h ?_ ?_
 ·intro _ h;refine w1 n0 (.o 4 4 199 0 (.e (.c .x .z))) ?_;intro r116 h110 h;exact zR 5 (Hp (t:=1000000000) (L:=x112) (L':=r116) (N:=(a0.map cellsOf).length) kr kr kr (hrc_d_slices_symMergeCmpFunc_api_Linked__linking_Of_c1 _ _ _ _ r116 h110) (w1 n0 (.e .z) t0))
 intro x115 h;refine w6 n0 (.o 4 4 213 0 (.e (.c .x .s))) ?_ ?_ t0 t0 t0 t0
 ·intro r117 h111 h;refine zR 5 (Hp (t:=1000000000) (L:=x115) (L':=r117) (N:=(a0.map cellsOf).length) kr kr kr (hrc_d_slices_symMergeCmpFunc_api_Linked__linking_Of_c1 _ _ _ _ r117 h111) (w1 n0 (.e .s) ?_));intro h;cases h;exact Jat kr
 intro h;cases h;exact Jat kr
def Kc (n:Nat):(List Jc)->Int->Int->Int->Option (List Jc):=Nat.rec (fun _ _ _ _=>none) (fun _ ih=>Jq ih) n
theorem Uu : ∀ (n:Nat) (a0:(List Jc)) (a1:Int) (a2:Int) (a3:Int) (r:(List Jc)),Kc n a0 a1 a2 a3=some r->Ry Tryz.prog GlS 278 2 16 (a0.map cellsOf) [Enc.pv a1,Enc.pv a2,Enc.pv a3,.fn 248 []] none (r.map cellsOf)
 | 0,_,_,_,_,_,h=>by cases h
 | n+1,a0,a1,a2,a3,r,h=>Uv (Kc n) (Uu n) a0 a1 a2 a3 r h
def Qg (a0:(List Jc)) (a1:Int) (a2:Int) (a3:Int):Option (List Jc):=Jq (Kc Ri) a0 a1 a2 a3
theorem Va (a0:(List Jc)) (a1:Int) (a2:Int) (a3:Int) (r:(List Jc)) (h:Qg a0 a1 a2 a3=some r):Ry Tryz.prog GlS 278 2 16 (a0.map cellsOf) [Enc.pv a1,Enc.pv a2,Enc.pv a3,.fn 248 []] none (r.map cellsOf):=Uv (Kc Ri) (Uu Ri) a0 a1 a2 a3 r h
def Qm (a1:Int):(Int×Int×(List Jc))->Option ((Int×Int×(List Jc))⊕(((List Jc)×Int)⊕(List Jc))):=fun (x2,x3,x4) =>
 bif decide (x3<=a1) then (
  (Kk x4 x2 x3).bind fun r8 =>
  some (.inl (x3,w64 (x3+20),r8))
 ) else (
  some (.inr (.inl (x4,x2)))
 )
def Wd (a1:Int) (x21:Int):(Int×Int×(List Jc))->Option ((Int×Int×(List Jc))⊕(((List Jc)×Int)⊕((Int×(List Jc))⊕((List Jc)⊕(List Jc))))):=fun (x36,x37,x38) =>
 bif decide (x37<=a1) then (
  (Qg x38 x36 (w64 (x36+x21)) x37).bind fun r42 =>
  some (.inl (x37,w64 (x37+(w64 (2 * x21))),r42))
 ) else (
  some (.inr (.inl (x38,x36)))
 )
def Ql (a1:Int):(Int×(List Jc))->Option ((Int×(List Jc))⊕((List Jc)⊕(List Jc))):=fun (x21,x22) =>
 bif decide (x21<a1) then (
  onInl (Js (Wd a1 x21) (0,w64 (2 * x21),x22)) fun (x40,x41) =>
  onInl (α:=(List Jc)) (β:=((Int×(List Jc))⊕((List Jc)⊕(List Jc)))) (
   bif decide ((w64 (x41+x21))<a1) then (
    (Qg x40 x41 (w64 (x41+x21)) a1).bind fun r45 =>
    some (.inl r45)
   ) else (
    some (.inl x40)
   )
  ) fun x44 =>
  some (.inl (w64 (x21 * 2),x44))
 ) else (
  some (.inr (.inl x22))
 )
def Qp (a0:(List Jc)) (a1:Int):Option (List Jc) :=
 onInl (Js (Qm a1) (0,20,a0)) fun (x6,x7) =>
 (Kk x6 x7 a1).bind fun r9 =>
 onInl (Js (Ql a1) (20,r9)) fun x34 =>
 some x34
theorem Ba (a0:(List Jc)) (a1:Int) (r:(List Jc)) (h:Qp a0 a1=some r):Ry Tryz.prog GlS 274 2 16 (a0.map cellsOf) [Enc.pv a1,.fn 248 []] none (r.map cellsOf):=by
 unfold Qp at h;refine Cu Tryz.func274 (by rfl) rfl Tryz.ntmps274 (by rfl) rfl ?_;refine w1 n0 (.e (.e .s)) ?_;intro h;refine yL 63 0 (fun (x2,x3,x4)=>⟨[(0,.ex 1000000000 2 16 ((a0.map cellsOf).length) 0 ((a0.map cellsOf).length)),(1,I6 a1),(2,.fn 248 []),(6,I6 20),(7,I6 x2),(8,I6 x3)],[],[(1000000000,((a0.map cellsOf).length,0))],[(1000000000,(2,(16,x4.map cellsOf)))]⟩) (fun (x6,x7)=>⟨[(0,.ex 1000000000 2 16 ((a0.map cellsOf).length) 0 ((a0.map cellsOf).length)),(1,I6 a1),(2,.fn 248 []),(6,I6 20),(7,I6 x7)],[],[(1000000000,((a0.map cellsOf).length,0))],[(1000000000,(2,(16,x6.map cellsOf)))]⟩) h ?_ ?_
 ·rintro ⟨x2,x3,x4⟩ _ h;unfold Qm at h;refine w1 n0 (.e (.c .x .z)) ?_;intro r8 h5 h;exact zR 4 (Hp (t:=1000000000) (L:=x4) (L':=r8) (N:=(a0.map cellsOf).length) kr kr kr (Ur _ _ _ r8 h5) (w1 n0 (.e (.e (.e .z))) t0))
 rintro ⟨x6,x7⟩ s' h hs;obtain ⟨r9,h6,h⟩:=Ka h;refine Ui (Jo (Qx hs (Kj (Wj (zR 4 (Hp (t:=1000000000) (L:=x6) (L':=r9) (N:=(a0.map cellsOf).length) kr kr kr (Ur _ _ _ r9 h6) (w1 n0 (.e .s) ?_)))))));intro h;refine yM 63 2 [6] (fun (x21,x22)=>⟨[(0,.ex 1000000000 2 16 ((a0.map cellsOf).length) 0 ((a0.map cellsOf).length)),(1,I6 a1),(2,.fn 248 []),(6,I6 x21)],[],[(1000000000,((a0.map cellsOf).length,0))],[(1000000000,(2,(16,x22.map cellsOf)))]⟩) h ?_ ?_
 ·rintro ⟨x21,x22⟩ _ h;unfold Ql at h;refine w1 n0 (.e (.c (.e .s) .z)) ?_;intro h;refine yL 63 4 (fun (x36,x37,x38)=>⟨[(0,.ex 1000000000 2 16 ((a0.map cellsOf).length) 0 ((a0.map cellsOf).length)),(1,I6 a1),(2,.fn 248 []),(6,I6 x21),(7,I6 x36),(8,I6 x37)],[],[(1000000000,((a0.map cellsOf).length,0))],[(1000000000,(2,(16,x38.map cellsOf)))]⟩) (fun (x40,x41)=>⟨[(0,.ex 1000000000 2 16 ((a0.map cellsOf).length) 0 ((a0.map cellsOf).length)),(1,I6 a1),(2,.fn 248 []),(6,I6 x21),(7,I6 x41)],[],[(1000000000,((a0.map cellsOf).length,0))],[(1000000000,(2,(16,x40.map cellsOf)))]⟩) h ?_ ?_
  ·rintro ⟨x36,x37,x38⟩ _ h;unfold Wd at h;refine w1 n0 (.e (.c .x .z)) ?_;intro r42 h29 h;exact zR 7 (Hp (t:=1000000000) (L:=x38) (L':=r42) (N:=(a0.map cellsOf).length) kr kr kr (Va _ _ _ _ r42 h29) (w1 n0 (.e (.e (.e .z))) t0))
  rintro ⟨x40,x41⟩ s' h hs;refine Ui (Jo (Qx hs ?_));refine yJ 63 (fun x44=>⟨[(0,.ex 1000000000 2 16 ((a0.map cellsOf).length) 0 ((a0.map cellsOf).length)),(1,I6 a1),(2,.fn 248 []),(6,I6 x21)],[],[(1000000000,((a0.map cellsOf).length,0))],[(1000000000,(2,(16,x44.map cellsOf)))]⟩) h ?_ ?_
  ·intro _ h;refine w1 n0 (.e (.e (.c .x .z))) ?_;intro r45 h32 h;exact zR 5 (Hp (t:=1000000000) (L:=x40) (L':=r45) (N:=(a0.map cellsOf).length) kr kr kr (Va _ _ _ _ r45 h32) (w1 n0 (.e .z) t0))
  intro x44 h;exact w1 n0 (.e .z) t0
 intro x34 s' h hs;refine Ui ?_;cases h;exact Ji4 hs kr
def Ks (a0:(List Jc)):Option (List Jc) :=
 (Qp a0 ((((a0:(List Jc)).map cellsOf).length:Nat):Int)).bind fun r1 =>
 some r1
theorem Zk (a0:(List Jc)) (r:(List Jc)) (h:Ks a0=some r):Ry Tryz.prog GlS 247 2 16 (a0.map cellsOf) [.fn 248 []] none (r.map cellsOf):=by
 unfold Ks at h;refine Cu Tryz.func247 (by rfl) rfl Tryz.ntmps247 (by rfl) rfl ?_;obtain ⟨r1,h1,h⟩:=Ka h;refine Wj (zR 4 (Hp (t:=1000000000) (L:=a0) (L':=r1) (N:=(a0.map cellsOf).length) kr kr kr (Ba _ _ r1 h1) (w1 n0 (.e .s) ?_)));intro h;cases h;exact Jat kr
def Db (a3:Int) (x132:Int) (x134:(List (Int×(List Jj)))) (x192:Jb) (x194:Ju):(Int×(List Jc))->Option ((Int×(List Jc))⊕((List Jc)⊕(((List Jc)×(List (Int×(List Jj))))⊕((Int×Int×(List (Int×(List Jj)))×(List Jc))⊕((List Jc)⊕(List Jc)))))):=fun (x230,x231) =>
 bif decide (x230<((((Vt (x134:(List (Int×(List Jj)))) x192.El).getD ([]:(List Jj))).length:Nat):Int)) then (
  onInl (α:=(List Jc)) (β:=((Int×(List Jc))⊕((List Jc)⊕(((List Jc)×(List (Int×(List Jj))))⊕((Int×Int×(List (Int×(List Jj)))×(List Jc))⊕((List Jc)⊕(List Jc))))))) (
   (ixO ((Vt (x134:(List (Int×(List Jj)))) x192.El).getD ([]:(List Jj))) x230).bind fun x244 =>
   onInl (α:=Int) (β:=((List Jc)⊕((Int×(List Jc))⊕((List Jc)⊕(((List Jc)×(List (Int×(List Jj))))⊕((Int×Int×(List (Int×(List Jj)))×(List Jc))⊕((List Jc)⊕(List Jc)))))))) (
    bif decide (x192.In=1) then (
     some (.inl (w64 ((w64 (x132+x194.Length)) - x244.Offset)))
    ) else (
     some (.inl (w64 (x132+x244.Offset)))
    )
   ) fun x245 =>
   bif decide (x245<=a3) then (
    (Uq x231 [(Jc.mk x244.Id x245)]).bind fun x246 =>
    some (.inl x246)
   ) else (
    some (.inl x231)
   )
  ) fun x243 =>
  some (.inl (w64 (x230+1),x243))
 ) else (
  some (.inr (.inl x231))
 )
def Gs (a0:Ja) (a1:(List Jb)) (a3:Int):(Int×Int×(List (Int×(List Jj)))×(List Jc))->Option ((Int×Int×(List (Int×(List Jj)))×(List Jc))⊕((List Jc)⊕(List Jc))):=fun (x132,x133,x134,x135) =>
 bif decide (x133<((a1.length:Nat):Int)) then (
  (ixO a1 x133).bind fun x192 =>
  ((bif decide (x192.El<0) then some true else (
   some (decide (((a0.Elements.length:Nat):Int)<=x192.El))
  )):Option Bool).bind fun b193 =>
  bif b193 then (
   some (.inr (.inr ([]:(List Jc))))
  ) else (
   (ixO a0.Elements x192.El).bind fun x194 =>
   onInl (α:=((List Jc)×(List (Int×(List Jj))))) (β:=((Int×Int×(List (Int×(List Jj)))×(List Jc))⊕((List Jc)⊕(List Jc)))) (
    (Dn x194.Kind x192).bind fun r222 =>
    bif r222 then (
     onInl (α:=(List Jc)) (β:=(((List Jc)×(List (Int×(List Jj))))⊕((Int×Int×(List (Int×(List Jj)))×(List Jc))⊕((List Jc)⊕(List Jc))))) (Js (Db a3 x132 x134 x192 x194) (0,x135)) fun x239 =>
     some (.inl (x239,(Jln x192.El x134)))
    ) else (
     some (.inl (x135,x134))
    )
   ) fun (x220,x221) =>
   some (.inl (w64 (x132+x194.Length),w64 (x133+1),x221,x220))
  )
 ) else (
  some (.inr (.inl x135))
 )
def Ok (a0:Ja) (a1:(List Jb)) (a2:Int) (a3:Int):Option (List Jc) :=
 (Cg a0 a1).bind fun r1 =>
 bif (!r1) then (
  some ([]:(List Jc))
 ) else (
  (Jl7 (fun (x:Jj)=>x.El) a0.Balises).bind fun m2 =>
  onInl (Js (Gs a0 a1 a3) (a2,0,m2,[])) fun x191 =>
  (Ks x191).bind fun r247 =>
  some r247
 )
instance Kct (a0:Ja) (a1:(List Jb)) (a2:Int) (a3:Int):Ct Tryz.prog GlS (Ok a0 a1 a2 a3) 179 [Enc.pv a0,Enc.pv a1,Enc.pv a2,Enc.pv a3] Enc.pv:=⟨fun r h=>by
 unfold Ok at h;refine zC Tryz.func179 Tryz.ntmps179 ?_;refine w1 a0.Balises (.e (.p 2 (.e (.c (.e .z) (.e (.l 2 (.e .S))))))) ?_;intro _ h;obtain ⟨m2,h2,h⟩:=Ka h;refine Jo (Kq ?_);obtain ⟨em2,hz,hz2⟩:=Jtp h2;refine Kir (κ:=Int) (ν:=Jj) a0.Balises (fun (x:Jj)=>x.El) 0 (fun (i:Nat) (m:List (Int×List Jj))=>Jdf ⟨[(1,Jh .frozen a1),(2,I6 a2),(3,I6 a3),(4,.ref 4 0),(9,.mp 24),(26,Jh .frozen a0.Balises),(27,I6 ((a0.Balises.length:Nat):Int)),(28,I6 ((i:Nat):Int))],[(4,.cells (cellsOf a0))],[],[]⟩ 116 24 (.mapo (esO m) (Enc.k Jj) (Enc.b Jj) Vg) (Xi m)) (fun (m:List (Int×List Jj))=>((⟨[(1,Jh .frozen a1),(2,I6 a2),(3,I6 a3),(4,.ref 4 0),(9,.mp 24)],(24,.map (Yl m))::[(4,.cells (cellsOf a0))],[],[]⟩:JS).st 116)) ?_ ?_ ?_ ?_
 ·exact Kit 24 kr kr (by decide) kr
 ·intro i x hx;have hi:=Ue hx;refine w1 n0 (.e .S) ?_;intro h;refine Jo (Kj ?_);refine Xh (b:=decide (((i:Nat):Int)<((a0.Balises.length:Nat):Int))) (decide_eq_true (by omega)) kr ?_;refine Ve (Jo (Kj (Kq (Kj (Wj (p_ix (Zb hx) kr (w1 n0 (.e .S) ?_)))))));intro h;refine Jo (Kf8 kr kr (zR 6 (Kl8 (m:=(grp (fun (x:Jj)=>x.El) (a0.Balises.take i))) (k:=x.El) (tk:=Vg) 24 kr kr ?_)));cases hf:Br x.El (grp (fun (x:Jj)=>x.El) (a0.Balises.take i)) with
  | none =>
  refine zR 2 ?_;refine Jbe (α:=Jj) (tk:=41) (L:=([]:List Jj)) (ys:=[x]) (M:=[x]) (Kal (n:=a0.Balises.length) (by simp; omega) hz) kr ?_;refine Kg1 (m:=(grp (fun (x:Jj)=>x.El) (a0.Balises.take i))) (k:=x.El) (M:=[x]) (tk:=Vg) 41 24 kr kr (zN ?_);refine Je7 (Jo (Qx (Khz (j:=⟨[(1,Jh .frozen a1),(2,I6 a2),(3,I6 a3),(4,.ref 4 0),(9,.mp 24),(26,Jh .frozen a0.Balises),(27,I6 ((a0.Balises.length:Nat):Int)),(28,I6 ((i:Nat):Int))],[(4,.cells (cellsOf a0))],[],[]⟩) (n:=116) 24 41 (fk:=(fun (x:Jj)=>x.El)) (x:=x) (m:=(grp (fun (x:Jj)=>x.El) (a0.Balises.take i))) (by decide) hf kr kr (by have h1:=Jxk (fun (x:Jj)=>x.El) (a0.Balises.take i); simp only [List.length_take] at h1; omega) kr kr) ?_));refine Wj (zE ⟨rfl, ?_⟩);have hw:((i+1:Nat):Int)=w64 ((i:Int)+1):=(Cv (by omega)).symm;show Wkr _ (Jdf ⟨[(1,Jh .frozen (a1:(List Jb))),(2,I6 a2),(3,I6 a3),(4,.ref 4 0),(9,.mp 24),(26,Jh .frozen (a0.Balises:(List Jj))),(27,I6 ((a0.Balises.length:Nat):Int)),(28,I6 ((i+1:Nat):Int))],[(4,.cells (cellsOf a0))],[],[]⟩ 116 24 (.mapo (esO (Sr (fun (x:Jj)=>x.El) x (grp (fun (x:Jj)=>x.El) (a0.Balises.take i)))) (Enc.k Jj) (Enc.b Jj) Vg) (Xi (Sr (fun (x:Jj)=>x.El) x (grp (fun (x:Jj)=>x.El) (a0.Balises.take i)))));rw [hw];exact Jlb 24 kr kr kr kr
  | some y =>
  obtain ⟨q,M⟩:=y;refine zR 2 (Klw (α:=Jj) (tk:=Vg q) (L:=M) (ys:=[x]) (M:=M++[x]) (T:=Xi (grp (fun (x:Jj)=>x.El) (a0.Balises.take i))) (Kal (Jsn hx hf) hz) kr (Kar hf) kr (Kg1 (m:=(grp (fun (x:Jj)=>x.El) (a0.Balises.take i))) (k:=x.El) (M:=M++[x]) (tk:=Vg) (Vg q) 24 kr kr (zN (Je7 (Jo (Qx (Khy (j:=⟨[(1,Jh .frozen a1),(2,I6 a2),(3,I6 a3),(4,.ref 4 0),(9,.mp 24),(26,Jh .frozen a0.Balises),(27,I6 ((a0.Balises.length:Nat):Int)),(28,I6 ((i:Nat):Int))],[(4,.cells (cellsOf a0))],[],[]⟩) (n:=116) 24 (fk:=(fun (x:Jj)=>x.El)) (x:=x) (m:=(grp (fun (x:Jj)=>x.El) (a0.Balises.take i))) hf kr kr kr kr) (Wj (zE ⟨rfl, ?_⟩))))))));have hw:((i+1:Nat):Int)=w64 ((i:Int)+1):=(Cv (by omega)).symm;show Wkr _ (Jdf ⟨[(1,Jh .frozen (a1:(List Jb))),(2,I6 a2),(3,I6 a3),(4,.ref 4 0),(9,.mp 24),(26,Jh .frozen (a0.Balises:(List Jj))),(27,I6 ((a0.Balises.length:Nat):Int)),(28,I6 ((i+1:Nat):Int))],[(4,.cells (cellsOf a0))],[],[]⟩ 116 24 (.mapo (esO (Sr (fun (x:Jj)=>x.El) x (grp (fun (x:Jj)=>x.El) (a0.Balises.take i)))) (Enc.k Jj) (Enc.b Jj) Vg) (Xi (Sr (fun (x:Jj)=>x.El) x (grp (fun (x:Jj)=>x.El) (a0.Balises.take i)))));rw [hw];exact Jlb 24 kr kr kr kr
 ·intro m;refine w1 n0 (.e .S) ?_;intro h;refine Jo (Kj ?_);refine Xa (b:=decide (((a0.Balises.length:Nat):Int)<((a0.Balises.length:Nat):Int))) (decide_eq_false (by omega)) kr ?_;exact Jg1 (Jcb (⟨rfl,Kid (j:=⟨[(1,Jh .frozen a1),(2,I6 a2),(3,I6 a3),(4,.ref 4 0),(9,.mp 24)],[(4,.cells (cellsOf a0))],[],[]⟩) (m:=m) (tk:=Vg) 24 kr kr kr⟩))
 intro s' hs;rw [<- em2] at hs;refine w1 a1 (.e (.e (.l 1 (.e .S)))) ?_;intro h;refine Jo (Kq (Qx (Jhd 12 100012 2 16 kr kr) ?_));refine yL 116 2 (fun (x132,x133,x134,x135)=>⟨[(3,I6 a3),(4,.ref 4 0),(9,.mp 24),(12,.ex 100012 2 16 ((x135.map cellsOf).length) 0 ((x135.map cellsOf).length)),(13,I6 x132),(44,Jh .frozen a1),(45,I6 ((a1.length:Nat):Int)),(46,I6 x133)],[(4,.cells (cellsOf a0)),(24,.map (Yl (x134:(List (Int×(List Jj))))))],[(100012,((x135.map cellsOf).length,0))],[(100012,(2,(16,x135.map cellsOf)))]⟩) (fun x191=>⟨[(12,.ex 100012 2 16 ((x191.map cellsOf).length) 0 ((x191.map cellsOf).length))],[],[(100012,((x191.map cellsOf).length,0))],[(100012,(2,(16,x191.map cellsOf)))]⟩) h ?_ ?_
 ·rintro ⟨x132,x133,x134,x135⟩ _ h;unfold Gs at h;refine w1 a0.Elements (.e (.c (.i 0 (.e (.b 4 7 60 (.g 0 .z (.l 4 .z)) (.e (.c (.e .z) (.i 4 (.e .S))))))) .z)) ?_;intro x192 _ x194 h;refine Jo ?_;refine yJ 116 (fun (x220,x221)=>⟨[(3,I6 a3),(4,.ref 4 0),(9,.mp 24),(12,.ex 100012 2 16 ((x220.map cellsOf).length) 0 ((x220.map cellsOf).length)),(13,I6 x132),(16,.ref 16 0),(44,Jh .frozen a1),(45,I6 ((a1.length:Nat):Int)),(46,I6 x133)],[(4,.cells (cellsOf a0)),(16,.cells (cellsOf x194)),(24,.map (Yl (x221:(List (Int×(List Jj))))))],[(100012,((x220.map cellsOf).length,0))],[(100012,(2,(16,x220.map cellsOf)))]⟩) h ?_ ?_
  ·intro _ h;refine w1 n0 (.p 3 (.e (.c .s .z))) ?_;intro _ h;refine zR 3 (Jd3 (m:=(x134:(List (Int×(List Jj))))) (k:=x192.El) ([]:(List Jj)) 24 kr kr (w1 ((((Vt (x134:(List (Int×(List Jj)))) x192.El).getD ([]:(List Jj))):(List Jj))) (.l 0 (.e .s)) ?_));intro h;refine yM 116 4 [76] (fun (x230,x231)=>⟨[(3,I6 a3),(4,.ref 4 0),(9,.mp 24),(12,.ex 100012 2 16 ((x231.map cellsOf).length) 0 ((x231.map cellsOf).length)),(13,I6 x132),(15,.ref 15 0),(16,.ref 16 0),(44,Jh .frozen a1),(45,I6 ((a1.length:Nat):Int)),(46,I6 x133),(74,Jh .frozen (((Vt (x134:(List (Int×(List Jj)))) x192.El).getD ([]:(List Jj))):(List Jj))),(75,I6 ((((Vt (x134:(List (Int×(List Jj)))) x192.El).getD ([]:(List Jj))).length:Nat):Int)),(76,I6 x230)],[(4,.cells (cellsOf a0)),(15,.cells (cellsOf x192)),(16,.cells (cellsOf x194)),(24,.map (Yl (x134:(List (Int×(List Jj))))))],[(100012,((x231.map cellsOf).length,0))],[(100012,(2,(16,x231.map cellsOf)))]⟩) h ?_ ?_
   ·rintro ⟨x230,x231⟩ _ h;unfold Db at h;refine w1 n0 (.e (.c .s .z)) ?_;intro h;refine yJ 116 (fun x243=>⟨[(3,I6 a3),(4,.ref 4 0),(9,.mp 24),(12,.ex 100012 2 16 ((x243.map cellsOf).length) 0 ((x243.map cellsOf).length)),(13,I6 x132),(15,.ref 15 0),(16,.ref 16 0),(44,Jh .frozen a1),(45,I6 ((a1.length:Nat):Int)),(46,I6 x133),(74,Jh .frozen (((Vt (x134:(List (Int×(List Jj)))) x192.El).getD ([]:(List Jj))):(List Jj))),(75,I6 ((((Vt (x134:(List (Int×(List Jj)))) x192.El).getD ([]:(List Jj))).length:Nat):Int)),(76,I6 x230)],[(4,.cells (cellsOf a0)),(15,.cells (cellsOf x192)),(16,.cells (cellsOf x194)),(24,.map (Yl (x134:(List (Int×(List Jj))))))],[(100012,((x243.map cellsOf).length,0))],[(100012,(2,(16,x243.map cellsOf)))]⟩) h ?_ ?_
    ·intro _ h;refine w1 n0 (.i 0 (.e (.e .S))) ?_;intro x244 h;refine Jo ?_;refine yJ 116 (fun x245=>⟨[(3,I6 a3),(4,.ref 4 0),(9,.mp 24),(12,.ex 100012 2 16 ((x231.map cellsOf).length) 0 ((x231.map cellsOf).length)),(13,I6 x132),(15,.ref 15 0),(16,.ref 16 0),(18,.ref 18 0),(19,I6 x245),(44,Jh .frozen a1),(45,I6 ((a1.length:Nat):Int)),(46,I6 x133),(74,Jh .frozen (((Vt (x134:(List (Int×(List Jj)))) x192.El).getD ([]:(List Jj))):(List Jj))),(75,I6 ((((Vt (x134:(List (Int×(List Jj)))) x192.El).getD ([]:(List Jj))).length:Nat):Int)),(76,I6 x230)],[(4,.cells (cellsOf a0)),(15,.cells (cellsOf x192)),(16,.cells (cellsOf x194)),(18,.cells (cellsOf x244)),(24,.map (Yl (x134:(List (Int×(List Jj))))))],[(100012,((x231.map cellsOf).length,0))],[(100012,(2,(16,x231.map cellsOf)))]⟩) h ?_ ?_
     ·intro _ h;exact w1 n0 (.e (.c (.e .z) .z)) t0
     intro x245 h;refine w1 n0 (.e (.c .x .z)) ?_;intro _ h230 h;exact zR 6 (Jww (tk:=100012) (N:=(x231.map cellsOf).length) h230 kr kr kr (w1 n0 (.e .z) t0))
    intro x243 h;exact w1 n0 (.e .z) t0
   intro x239 s' h hs;exact Ui (Jo (Qx hs (Wj (zR 3 (Kk2 (m:=(x134:(List (Int×(List Jj))))) (k:=x192.El) 24 kr kr (w1 n0 (.e .z) t0))))))
  rintro ⟨x220,x221⟩ h;exact w1 n0 (.e (.e .z)) t0
 intro x191 s' h hs;obtain ⟨r247,h231,h⟩:=Ka h;refine Ui (Jo (Qx hs (Kj (Wj (zR 1 (Hp (t:=100012) (L:=x191) (L':=r247) (N:=(x191.map cellsOf).length) kr kr kr (Zk _ r247 h231) (w1 n0 (.e (.e .S)) ?_)))))));intro h;refine Jo (Qx (Hv (xss:=r247.map cellsOf) 100012 2 16 ((x191.map cellsOf).length) [8,12,113,115] [] kr kr kr kr) ?_);exact w1 n0 .z t0⟩
def Hl (a0:(List Jc)) (a2:Int):Int->Option (Int⊕(Unit⊕Int)):=fun x2 =>
 bif decide (x2<((a0.length:Nat):Int)) then (
  (ixO a0 x2).bind fun x4 =>
  bif decide (x4.Id=a2) then (
   some (.inr (.inr x2))
  ) else (
   some (.inl (w64 (x2+1)))
  )
 ) else (
  some (.inr (.inl ()))
 )
def Gt (a0:(List Jc)) (a1:Int) (a2:Int):Option Int :=
 onInl (Js (Hl a0 a2) a1) fun _ =>
 some (-1)
instance Jyv (a0:(List Jc)) (a1:Int) (a2:Int):Ct Tryz.prog GlS (Gt a0 a1 a2) 272 [Enc.pv a0,Enc.pv a1,Enc.pv a2] Enc.pv:=⟨fun r h=>by
 unfold Gt at h;refine zC Tryz.func272 Tryz.ntmps272 ?_;refine w1 n0 (.e (.e .s)) ?_;intro h;refine yN 23 0 [7] (fun x2=>⟨[(0,Jh .frozen a0),(2,I6 a2),(7,I6 x2)],[],[],[]⟩) h ?_ ?_
 ·intro x2 _ h;unfold Hl at h;exact w1 a0 (.l 2 (.e (.c (.i 2 (.e (.c (.e .z) (.e .z)))) .z))) t0
 intro _ s' h hs;exact w1 n0 (.e .z) t0⟩
def Gf (a0:(List Jc)):Int->Option (Int⊕(Unit⊕Bool)):=fun x7 =>
 bif decide (x7<((a0.length:Nat):Int)) then (
  (ixO a0 x7).bind fun x14 =>
  ((bif decide (0<x7) then (
   (ixO a0 (w64 (x7 - 1))).bind fun x16 =>
   some (decide (x14.At<x16.At))
  ) else some false):Option Bool).bind fun b15 =>
  ((bif b15 then some true else (
   (slO a0 none (some x7) none).bind fun x18 =>
   (Gt x18 0 x14.Id).bind fun r19 =>
   some (decide (0<=r19))
  )):Option Bool).bind fun b17 =>
  bif b17 then (
   some (.inr (.inr false))
  ) else (
   some (.inl (w64 (x7+1)))
  )
 ) else (
  some (.inr (.inl ()))
 )
def Ew (a0:(List Jc)):Option Bool :=
 bif decide (24<((a0.length:Nat):Int)) then (
  some false
 ) else (
  onInl (Js (Gf a0) 0) fun _ =>
  some true
 )
instance Jxy (a0:(List Jc)):Ct Tryz.prog GlS (Ew a0) 236 [Enc.pv a0] Enc.pv:=⟨fun r h=>by
 unfold Ew at h;refine zC Tryz.func236 Tryz.ntmps236 ?_;refine w1 a0 (.e (.l 1 (.e (.c (.e .z) (.l 1 (.e .s)))))) ?_;intro h;refine yN 38 0 [10] (fun x7=>⟨[(0,Jh .frozen a0),(8,Jh .frozen a0),(9,I6 ((a0.length:Nat):Int)),(10,I6 x7)],[],[],[]⟩) h ?_ ?_
 ·intro x7 _ h;unfold Gf at h;refine w1 n0 (.e (.c (.i 1 (.e (.b 3 10 27 (.g 0 (.i 5 .z) .z) (.b 1 8 36 (.g 0 .z .x) (.e (.c (.e .z) (.e .z))))))) .z)) ?_;intro _ _ _ _ h21 h;exact zR 2 (Ke8 h21 .frozen kr kr kr (w1 n0 (.p 2 .z) t0))
 intro _ s' h hs;exact w1 n0 (.e .z) t0⟩
def Ce (a0:Qd):Option Bool :=
 ((bif ((decide (1<=a0.Seq))&&(decide (a0.Seq<=1073741824))) then (
  (Vj a0.Profile).bind fun r2 =>
  some r2
 ) else some false):Option Bool).bind fun b1 =>
 ((bif (b1&&(decide (0<((a0.Profile.length:Nat):Int)))) then (
  (ixO a0.Profile (w64 (((a0.Profile.length:Nat):Int) - 1))).bind fun x4 =>
  some (decide (x4.To=a0.End))
 ) else some false):Option Bool).bind fun b3 =>
 ((bif b3 then (
  (Ew a0.Links).bind fun r6 =>
  some r6
 ) else some false):Option Bool).bind fun b5 =>
 some b5
instance Jtq (a0:Qd):Ct Tryz.prog GlS (Ce a0) 175 [Enc.pv a0] Enc.pv:=⟨fun r h=>by
 unfold Ce at h;refine zC Tryz.func175 Tryz.ntmps175 ?_;exact w1 a0.Profile (.e (.l 2 (.e (.o 4 4 14 0 (.b 1 4 19 (.g 0 (.p 2 .z) .z) (.o 1 3 23 0 (.b 1 11 35 (.g 0 (.i 4 .z) .z) (.b 1 4 40 (.g 0 (.p 2 .z) .z) (.e .z))))))))) t0⟩
def Cc (a0:Ja) (a1:Jg) (a2:(List Jk)) (a3:Int):Option (Qd×Int) :=
 (Cg a0 a1.Steps).bind fun r1 =>
 bif (((!r1)||(decide (a3<1)))||(decide (1073741824<a3))) then (
  some ((Qd.mk 0 0 [] []),1)
 ) else (
  (Hw a0 a1.Steps a1.Origin).bind fun r2 =>
  (Yd a2 a1.Steps a1.Origin a0 r2).bind fun r3 =>
  (Zr r3 a1.Origin a1.At).bind fun r4 =>
  (Ok a0 a1.Steps a1.Origin a1.At).bind fun r5 =>
  (Ce (Qd.mk a3 a1.At r4 r5)).bind fun r6 =>
  bif (!r6) then (
   some ((Qd.mk 0 0 [] []),2)
  ) else (
   some ((Qd.mk a3 a1.At r4 r5),0)
  )
 )
set_option maxRecDepth 100000 in
instance Jtx (a0:Ja) (a1:Jg) (a2:(List Jk)) (a3:Int):Ct Tryz.prog GlS (Cc a0 a1 a2 a3) 99 [Enc.pv a0,Enc.pv a1,Enc.pv a2,Enc.pv a3] (fun r=>.tup [Enc.pv r.1,Enc.pv r.2]):=⟨fun r h=>by
 unfold Cc at h;refine Jol Tryz.func99 (by rfl) rfl Tryz.ntmps99 (by rfl) rfl ?_;refine Jhj (Wj (w1 n0 (.e .S) ?_));intro h;refine Jlh (Jhj (Kj (Wj ?_)));refine w6 n0 (.p 3 (.o 2 3 19 1 (.o 1 3 23 0 (.e (.c (.e .S) .S))))) ?_ ?_ t0 t0 t0 t0
 ·intro _ h;exact Jo (Wf (Kk6 (w1 n0 .z t0)))
 intro _ h;refine Ve (Jlh ?_);refine Jgj 1 174 [.ref 8 0,.ref 9 0] (by rfl) ?_;refine w1 n0 (.e .S) ?_;intro h;refine ⟨by kernel_rfl,by kernel_rfl,by kernel_rfl, ?_⟩;refine w1 n0 (.p 11 (.p 0 (.e (.p 8 (.p 7 (.e .S)))))) ?_;intro _ _ r4 r5 h;refine Jo (Wf ?_);refine Kk0 (caps:=[.ref 8 0,.ref 9 0]) kr Tryz.func174 (by rfl) rfl Tryz.ntmps174 (by rfl) ?_;refine Qx ((Jcg 1 kr).trans (.of (j:=⟨[(0,.ref 1008 0),(1,.ref 1009 0),(14,.ref 1008 0),(15,.ref 1009 0),(63,.fn 174 [.ref 1008 0,.ref 1009 0])],[(1008,.cells ([I6 a3,I6 a1.At,Jh .frozen r4,Jh .frozen r5])),(1009,.cells ([I6 0]))],[],[]⟩) (n:=5800064) kr kr)) ?_;refine w6 n0 (.p 1 (.e (.c (.e .s) .s))) ?_ ?_ t0 t0 t0 t0
 ·intro _ h;cases h;exact Jgi kr kr kr
 intro _ h;cases h;exact Jgi kr kr kr⟩
def Se (a0:Ja) (a1:(List Jk)) (a2:Jg):Option (Jg×Kn) :=
 onInl (α:=(Int×Int×Int×Int×Int×(List Jb)×(List Int)×(List Int)×(List Int)×(List Int)×Int×Int×Int×Int×Int)) (β:=(Jg×Kn)) (
  bif (!(decide (a2.CutSeq=0))) then (
   (Fc a0 a2).bind fun r17 =>
   some (.inl (3,r17.Id,r17.Origin,r17.End,r17.At,r17.Steps,r17.Routes,r17.Starts,r17.Ends,r17.Done,r17.Min,r17.Sent,r17.Accepted,r17.Cut,r17.CutSeq))
  ) else (
   some (.inl (2,a2.Id,a2.Origin,a2.End,a2.At,a2.Steps,a2.Routes,a2.Starts,a2.Ends,a2.Done,a2.Min,a2.Sent,a2.Accepted,a2.Cut,a2.CutSeq))
  )
 ) fun (x2,x3,x4,x5,x6,x7,x8,x9,x10,x11,x12,x13,x14,x15,x16) =>
 (Cc a0 (Jg.mk x3 x4 x5 x6 x7 x8 x9 x10 x11 x12 x13 x14 x15 x16) a1 (w64 (a2.Sent+1))).bind fun r18 =>
 bif (!(decide (r18.2=0))) then (
  some (a2,(Kn.mk 5 0 0 0 0 (Qd.mk 0 0 [] []) (Cj.mk 0 0 0 0 false)))
 ) else (
  some ((Jg.mk a2.Id a2.Origin a2.End a2.At a2.Steps a2.Routes a2.Starts a2.Ends a2.Done a2.Min (w64 (a2.Sent+1)) a2.Accepted a2.Cut a2.CutSeq),(Kn.mk x2 0 0 0 0 r18.1 (Cj.mk 0 0 0 0 false)))
 )
instance Ke6 (a0:Ja) (a1:(List Jk)) (a2:Jg):Ct Tryz.prog GlS (Se a0 a1 a2) 44 [Enc.pv a0,Enc.pv a1,Enc.pv a2] (fun r=>.tup [Enc.pv r.1,Enc.pv r.2]):=⟨fun r h=>by
 unfold Se at h;refine zC Tryz.func44 Tryz.ntmps44 ?_;refine w1 n0 (.e (.e .S)) ?_;intro h;refine Jo ?_;refine yJ 41 (fun (x2,x3,x4,x5,x6,x7,x8,x9,x10,x11,x12,x13,x14,x15,x16)=>⟨[(1,Jh .frozen a1),(3,.ref 3 0),(5,.ref 5 0),(6,.ref 6 0),(7,.ref 7 0),(8,I6 x2),(9,.ref 9 0)],[(3,.cells (cellsOf a0)),(5,.cells (cellsOf a2)),(6,.cells ([I6 0,I6 0,I6 0,I6 0,.nil,.nil,.nil,.nil,.nil,I6 0,I6 0,I6 0,I6 0,I6 0])),(7,.cells ([I6 0,I6 0,I6 0,I6 0,I6 0,I6 0,I6 0,.nil,.nil,I6 0,I6 0,I6 0,I6 0,.bool false])),(9,.cells ([I6 x3,I6 x4,I6 x5,I6 x6,Jh .frozen x7,Jh .frozen x8,Jh .frozen x9,Jh .frozen x10,Jh .frozen x11,I6 x12,I6 x13,I6 x14,I6 x15,I6 x16]))],[],[]⟩) h ?_ ?_
 ·intro _ h;exact w1 n0 (.e (.c (.p 2 (.e .z)) .z)) t0
 rintro ⟨x2,x3,x4,x5,x6,x7,x8,x9,x10,x11,x12,x13,x14,x15,x16⟩ h;refine w1 n0 (.p 6 (.e (.e (.c (.e .z) (.e .S))))) ?_;intro r18 h;refine Jo (Kj ?_);refine Jje 41 ⟨[(6,.ref 6 0),(7,.ref 7 0)],[(6,.cells ([I6 a2.Id,I6 a2.Origin,I6 a2.End,I6 a2.At,Jh .frozen a2.Steps,Jh .frozen a2.Routes,Jh .frozen a2.Starts,Jh .frozen a2.Ends,Jh .frozen a2.Done,I6 a2.Min,I6 (w64 (a2.Sent+1)),I6 a2.Accepted,I6 a2.Cut,I6 a2.CutSeq])),(7,.cells ([I6 x2,I6 0,I6 0,I6 0,I6 0,I6 r18.1.Seq,I6 r18.1.End,Jh .frozen r18.1.Profile,Jh .frozen r18.1.Links,I6 0,I6 0,I6 0,I6 0,.bool false]))],[],[]⟩ kr ?_ ?_
 ·refine Yu [0,1] 4 kr (zR 2 (Ke kr ?_));refine Mc (n:=3) [2,4] kr ⟨?_, ?_,trivial⟩
  ·exact ⟨_,rfl,(zR 1 (Ke kr (Yu [3,4,5] 0 kr (zR 3 (Ke kr (Yx kr (.of kr kr)))))))⟩
  exact ⟨_,rfl,(zR 1 (Ke kr (Yu [2,3,5] 0 kr (zR 3 (Ke kr (Yx kr (.of kr kr)))))))⟩
 exact w1 n0 .z t0⟩
def Ux (a0:(List Jd)):Option (List Jd) :=
 (Uq ([]:(List Jd)) a0).bind fun x1 =>
 (slO x1 none (some ((a0.length:Nat):Int)) (some ((a0.length:Nat):Int))).bind fun x2 =>
 some x2
instance Jh4 (a0:(List Jd)):Ct Tryz.prog GlS (Ux a0) 100 [Enc.pv a0] Enc.pv:=⟨fun r h=>by
 unfold Ux at h;refine zC Tryz.func100 Tryz.ntmps100 ?_;refine w1 n0 (.e .x) ?_;intro _ h1 h;refine zR 1 (Jbe (tk:=5) h1 kr (w1 a0 (.e (.l 2 (.l 1 .x))) ?_));intro _ h2 h;refine Kjk h2 (.own 5) kr kr (.inl ⟨rfl,rfl⟩) ?_;exact w1 n0 (.e .z) t0⟩
def Vd (a0:(List Jc)):Option (List Jc) :=
 (Uq ([]:(List Jc)) a0).bind fun x1 =>
 (slO x1 none (some ((a0.length:Nat):Int)) (some ((a0.length:Nat):Int))).bind fun x2 =>
 some x2
instance Jiy (a0:(List Jc)):Ct Tryz.prog GlS (Vd a0) 101 [Enc.pv a0] Enc.pv:=⟨fun r h=>by
 unfold Vd at h;refine zC Tryz.func101 Tryz.ntmps101 ?_;refine w1 n0 (.e .x) ?_;intro _ h1 h;refine zR 1 (Jbe (tk:=5) h1 kr (w1 a0 (.e (.l 2 (.l 1 .x))) ?_));intro _ h2 h;refine Kjk h2 (.own 5) kr kr (.inl ⟨rfl,rfl⟩) ?_;exact w1 n0 (.e .z) t0⟩
end
end PM
