/-
 Plain functions for the program's functions, and the proofs that the program does them. Printed by den.py.
-/
import Derived.Test.YtfpoeepcomnjhaaGreatDoorDen4
namespace PM
noncomputable section
open Go Go.RowKit Go.Proofs Go.Proofs.Tryz
attribute [local irreducible] Ju pwp
def Jdk(a0:(List Jh))(a1:Int)(a2:Int):(Int×(List Jh))->Option ((Int×(List Jh))⊕((List Jh)⊕(List Jh))):=fun (x17,x18)=>
 bif decide (x17<((a0.length:Nat):Int)) then (
  onInl (α:=(List Jh)) (β:=((Int×(List Jh))⊕((List Jh)⊕(List Jh)))) (
   (ixO a0 x17).bind fun x31=>
   (Cz (Dp.mk a1 a2) x31).bind fun r32=>
   bif r32.2 then (
    (Qd x18 [r32.1]).bind fun x33=>
    some (.inl x33)
   ) else (
    some (.inl x18)
   )
  ) fun x30=>
  some (.inl (w64 (x17+1),x30))
 ) else (
  some (.inr (.inl x18))
 )
def Py(a0:(List Jh))(a1:Int)(a2:Int):Option (List Jh) :=
 (Ww a0).bind fun r1=>
 bif (!r1) then (
  some ([]:(List Jh))
 ) else (
  onInl (Jq (Jdk a0 a1 a2) (0,[])) fun x26=>
  some x26
 )
theorem Jje(a0:(List Jh))(a1:Int)(a2:Int)(r:(List Jh))(h:Py a0 a1 a2=some r):Yr prog GlS 178 [Enc.pv a0,Enc.pv a1,Enc.pv a2] (Jg (.own 100007) r):=by
 unfold Py at h;refine zG f178 ?_;refine w6 a0 (ep 1 (ec S1 (el 1 S1))) ?_ ?_ t0 t0 t0 t0
 ·intro _ h;exact Jm (Wh 6 100007 4 32 kr kr (w1 n0 .z t0))
 intro _ h;refine Jm (Kk (Wh 7 100007 4 32 kr kr ?_));refine uM 36 0 [17] (fun s (x17,x18)=>⟨(7,Jg (.own 100007) x18)::(17,I6 x17)::gt s [1,2,15,16],[],[(100007,(((x18).map cellsOf).length,4))],[]⟩) h ?_ ?_
 ·rintro ⟨x17,x18⟩ _ h;unfold Jdk at h;refine w1 n0 (ec .s .z) ?_;intro h;refine uJ 36 (fun s x30=>⟨(7,Jg (.own 100007) x30)::gt s [1,2,15,16,17],[],[(100007,(((x30).map cellsOf).length,4))],[]⟩) h ?_ ?_
  ·intro _ h;exact w1 n0 (.i 0 (ep 4 (ee (.c (.w 3 z1) .z)))) t0
  intro x30 h;exact w1 n0 z1 t0
 intro x26 s' h hs;exact w1 n0 z1 t0
instance (a0:(List Jh))(a1:Int)(a2:Int):Cp (Py a0 a1 a2) 178 [Enc.pv a0,Enc.pv a1,Enc.pv a2] Enc.pv:=⟨fun r h=>
 (Jje a0 a1 a2 r h).freeze kr kr kr⟩
def Po(a0:Int)(a1:Jb):Option Bool :=
 bif decide (a0=1) then (
  some true
 ) else (
  onInl (α:=Bool) (β:=Bool) (
   bif decide (a0=2) then (
    some (.inl (decide (a0=2)))
   ) else (
    some (.inl (decide (a0=3)))
   )
  ) fun x1=>
  bif x1 then (
   some (((decide (a1.In=0))&&(decide (a1.Out=1)))||((decide (a1.In=1))&&(decide (a1.Out=0))))
  ) else (
   some false
  )
 )
instance (a0:Int)(a1:Jb):Cp (Po a0 a1) 246 [Enc.pv a0,Enc.pv a1] Enc.pv:=⟨fun r h=>by
 unfold Po at h;refine zG f246 ?_;refine w1 n0 (ee (ec z1 .S)) ?_;intro h;refine uJ 29 (fun s x1=>⟨[(3,.ref 3 0),(8,.bool x1)],gh s [3],[],[]⟩) h ?_ ?_
 ·intro _ h;exact w1 n0 (ec .z z1) t0
 intro x1 h;exact w1 n0 (.c (.o 4 4 18 1 (.o 1 9 28 0 z1)) z1) t0⟩
def Lt(a0:Int):Option Bool :=
 some (!(decide (a0=a0)))
instance (a0:Int):Cp (Lt a0) 270 [Enc.pv a0] Enc.pv:=⟨fun r h=>by
 unfold Lt at h;refine zG f270 ?_;exact w1 n0 z2 t0⟩
def Fw(a0:Int)(a1:Int):Option Int :=
 (Lt a0).bind fun r1=>
 (Lt a1).bind fun r2=>
 bif r1 then (
  bif r2 then (
   some 0
  ) else (
   some (-1)
  )
 ) else (
  bif r2 then (
   some 1
  ) else (
   bif decide (a0<a1) then (
    some (-1)
   ) else (
    bif decide (a1<a0) then (
     some 1
    ) else (
     some 0
    )
   )
  )
 )
instance (a0:Int)(a1:Int):Cp (Fw a0 a1) 250 [Enc.pv a0,Enc.pv a1] Enc.pv:=⟨fun r h=>by
 unfold Fw at h;refine zG f250 ?_;exact w1 n0 (ep 1 (ep 1 (ee (.c (ec z1 z1) (ec z1 (ec z1 (ec z1 z1))))))) t0⟩
def Jfm(a0:(List Int)):Int->Option (Int⊕(Unit⊕Int)):=fun x2=>
 bif decide (x2<((a0.length:Nat):Int)) then (
  (ixO a0 x2).bind fun x4=>
  bif (!(decide (x4=0))) then (
   some (.inr (.inr x4))
  ) else (
   some (.inl (w64 (x2+1)))
  )
 ) else (
  some (.inr (.inl ()))
 )
def Jcp(a0:(List Int)):Option Int :=
 onInl (Jq (Jfm a0) 0) fun _=>
 some 0
instance (a0:(List Int)):Cp (Jcp a0) 249 [Enc.pv a0] Enc.pv:=⟨fun r h=>by
 unfold Jcp at h;refine zG f249 ?_;refine w1 a0 (ee (.l 1 s1)) ?_;intro h;refine uN 18 0 [8] (fun s x2=>⟨(8,I6 x2)::gt s [3,6,7],[],[],[]⟩) h ?_ ?_
 ·intro x2 _ h;unfold Jfm at h;exact w1 n0 (ec (.i 0 (ee (.c z1 z1))) .z) t0
 intro _ s' h hs;exact w1 n0 z1 t0⟩
def Cf(a0:Jc)(a1:Jc):Option Int :=
 (Fw a0.At a1.At).bind fun r1=>
 (Fw a0.Id a1.Id).bind fun r2=>
 (Jcp [r1,r2]).bind fun r3=>
 some r3
instance (a0:Jc)(a1:Jc):Cp (Cf a0 a1) 248 [Enc.pv a0,Enc.pv a1] Enc.pv:=⟨fun r h=>by
 unfold Cf at h;refine zG f248 ?_;exact w1 n0 (ep 4 (.p 4 (.p 1 z1))) t0⟩
def Wo(a0:(List Jc))(a1:Int):(Int×(List Jc))->Option ((Int×(List Jc))⊕((List Jc)⊕((Int×(List Jc))⊕((List Jc)⊕(List Jc))))):=fun (x108,x109)=>
 ((bif decide (a1<x108) then (
  (Vz 0 (((a0:(List Jc)).map cellsOf).length) x108).bind fun j126=>
  (Uy x109 (((a0:(List Jc)).map cellsOf).length) j126).bind fun x127=>
  (Vz 0 (((a0:(List Jc)).map cellsOf).length) (w64 (x108 - 1))).bind fun j128=>
  (Uy x109 (((a0:(List Jc)).map cellsOf).length) j128).bind fun x129=>
  (Cf x127 x129).bind fun r130=>
  some (decide (r130<0))
 ) else some false)).bind fun b125=>
 bif b125 then (
  (Vz 0 (((a0:(List Jc)).map cellsOf).length) (w64 (x108 - 1))).bind fun j131=>
  (Uy x109 (((a0:(List Jc)).map cellsOf).length) j131).bind fun x132=>
  (Vz 0 (((a0:(List Jc)).map cellsOf).length) x108).bind fun j133=>
  (Uy x109 (((a0:(List Jc)).map cellsOf).length) j133).bind fun x134=>
  (Vz 0 (((a0:(List Jc)).map cellsOf).length) x108).bind fun j135=>
  (Uy x109 (((a0:(List Jc)).map cellsOf).length) j135).bind fun x136=>
  (Vz 0 (((a0:(List Jc)).map cellsOf).length) (w64 (x108 - 1))).bind fun j137=>
  (Uy (x109.set j135 x132) (((a0:(List Jc)).map cellsOf).length) j137).bind fun x138=>
  some (.inl (w64 (x108 - 1),((x109.set j135 x132).set j137 x134)))
 ) else (
  some (.inr (.inl x109))
 )
def Wj(a0:(List Jc))(a1:Int)(a2:Int):(Int×(List Jc))->Option ((Int×(List Jc))⊕((List Jc)⊕(List Jc))):=fun (x46,x47)=>
 bif decide (x46<a2) then (
  onInl (Jq (Wo a0 a1) (x46,x47)) fun x124=>
  some (.inl (w64 (x46+1),x124))
 ) else (
  some (.inr (.inl x47))
 )
def Kr(a0:(List Jc))(a1:Int)(a2:Int):Option (List Jc) :=
 onInl (Jq (Wj a0 a1 a2) (w64 (a1+1),a0)) fun x93=>
 some x93
theorem Ug(a0:(List Jc))(a1:Int)(a2:Int)(r:(List Jc))(h:Kr a0 a1 a2=some r):Rw prog GlS 277 2 16 (a0.map cellsOf) [Enc.pv a1,Enc.pv a2,.fn 248 []] none (r.map cellsOf):=by
 unfold Kr at h;refine Cw func277 (by rfl) rfl ntmps277 (by rfl) rfl ?_;refine w1 n0 s1 ?_;intro h;refine uM 53 0 [8] (fun s (x46,x47)=>⟨(8,I6 x46)::gt s [0,1,2,3],[],gT s [1000000000],[(1000000000,(2,(16,x47.map cellsOf)))]⟩) h ?_ ?_
 ·rintro ⟨x46,x47⟩ _ h;unfold Wj at h;refine w1 n0 (ec s1 .z) ?_;intro h;refine uM 53 2 [9] (fun s (x108,x109)=>⟨(9,I6 x108)::gt s [0,1,2,3,8],[],gT s [1000000000],[(1000000000,(2,(16,x109.map cellsOf)))]⟩) h ?_ ?_
  ·rintro ⟨x108,x109⟩ _ h;unfold Wo at h;refine w1 n0 (.b 4 13 34 (.g 0 (.j 3 (.d 0 true 2 0 (.j 3 (.d 0 true 2 0 (.p 0 .z))))) .z) (ec (.j 8 (.d 0 true 2 0 (.j 2 (.d 0 true 2 0 (.j 0 .x))))) .z)) ?_;intro _ _ x132 _ x134 _ _ h132 h;refine yst 0 1000000000 x132 0 2 h132 (w1 n0 (.j 0 .x) ?_);intro _ _ h134 h;exact yst 0 1000000000 x134 0 2 h134 (w1 n0 z2 t0)
  intro x124 s' h hs;exact w1 n0 z1 t0
 intro x93 s' h hs;refine Qa ?_;cases h;exact Jjb hs kr
def Yk(a0:(List Jc))(a1:Int)(a2:Int)(a3:Int):(Int×(List Jc))->Option ((Int×(List Jc))⊕((List Jc)⊕(List Jc))):=fun (x9,x10)=>
 bif decide (x9<a3) then (
  (Vz 0 (((a0:(List Jc)).map cellsOf).length) (w64 (a2+x9))).bind fun j20=>
  (Uy x10 (((a0:(List Jc)).map cellsOf).length) j20).bind fun x21=>
  (Vz 0 (((a0:(List Jc)).map cellsOf).length) (w64 (a1+x9))).bind fun j22=>
  (Uy x10 (((a0:(List Jc)).map cellsOf).length) j22).bind fun x23=>
  (Vz 0 (((a0:(List Jc)).map cellsOf).length) (w64 (a1+x9))).bind fun j24=>
  (Uy x10 (((a0:(List Jc)).map cellsOf).length) j24).bind fun x25=>
  (Vz 0 (((a0:(List Jc)).map cellsOf).length) (w64 (a2+x9))).bind fun j26=>
  (Uy (x10.set j24 x21) (((a0:(List Jc)).map cellsOf).length) j26).bind fun x27=>
  some (.inl (w64 (x9+1),((x10.set j24 x21).set j26 x23)))
 ) else (
  some (.inr (.inl x10))
 )
def Kp(a0:(List Jc))(a1:Int)(a2:Int)(a3:Int):Option (List Jc) :=
 onInl (Jq (Yk a0 a1 a2 a3) (0,a0)) fun x19=>
 some x19
theorem Qe(a0:(List Jc))(a1:Int)(a2:Int)(a3:Int)(r:(List Jc))(h:Kp a0 a1 a2 a3=some r):Rw prog GlS 280 2 16 (a0.map cellsOf) [Enc.pv a1,Enc.pv a2,Enc.pv a3,.fn 248 []] none (r.map cellsOf):=by
 unfold Kp at h;refine Cw func280 (by rfl) rfl ntmps280 (by rfl) rfl ?_;refine w1 n0 s1 ?_;intro h;refine uM 38 0 [10] (fun s (x9,x10)=>⟨(10,I6 x9)::gt s [0,1,2,3],[],gT s [1000000000],[(1000000000,(2,(16,x10.map cellsOf)))]⟩) h ?_ ?_
 ·rintro ⟨x9,x10⟩ _ h;unfold Yk at h;refine w1 n0 (ec (.j 12 (.d 0 true 2 0 (.j 4 (.d 0 true 2 0 (.j 0 .x))))) .z) ?_;intro _ x21 _ x23 _ _ h24 h;refine yst 0 1000000000 x21 0 2 h24 (w1 n0 (.j 0 .x) ?_);intro _ _ h26 h;exact yst 0 1000000000 x23 0 2 h26 (w1 n0 z2 t0)
 intro x19 s' h hs;refine Qa ?_;cases h;exact Jjb hs kr
def Zr(a2:Int):(Int×(List Jc)×Int)->Option ((Int×(List Jc)×Int)⊕(((List Jc)×Int)⊕(List Jc))):=fun (x3,x4,x5)=>
 bif (!(decide (x3=x5))) then (
  bif decide (x5<x3) then (
   (Kp x4 (w64 (a2 - x3)) a2 x5).bind fun r10=>
   some (.inl (w64 (x3 - x5),r10,x5))
  ) else (
   (Kp x4 (w64 (a2 - x3)) (w64 ((w64 (a2+x5)) - x3)) x3).bind fun r11=>
   some (.inl (x3,r11,w64 (x5 - x3)))
  )
 ) else (
  some (.inr (.inl (x4,x3)))
 )
def Qu(a0:(List Jc))(a1:Int)(a2:Int)(a3:Int):Option (List Jc) :=
 onInl (Jq (Zr a2) (w64 (a2 - a1),a0,w64 (a3 - a2))) fun (x8,x9)=>
 (Kp x8 (w64 (a2 - x9)) a2 x9).bind fun r12=>
 some r12
theorem Bc(a0:(List Jc))(a1:Int)(a2:Int)(a3:Int)(r:(List Jc))(h:Qu a0 a1 a2 a3=some r):Rw prog GlS 279 2 16 (a0.map cellsOf) [Enc.pv a1,Enc.pv a2,Enc.pv a3,.fn 248 []] none (r.map cellsOf):=by
 unfold Qu at h;refine Cw func279 (by rfl) rfl ntmps279 (by rfl) rfl ?_;refine w1 n0 s2 ?_;intro h;refine uL 58 0 (fun s (x3,x4,x5)=>⟨(10,I6 x3)::(11,I6 x5)::gt s [0,2,4],[],gT s [1000000000],[(1000000000,(2,(16,x4.map cellsOf)))]⟩) (fun s (x8,x9)=>⟨(10,I6 x9)::gt s [0,2,4],[],gT s [1000000000],[(1000000000,(2,(16,x8.map cellsOf)))]⟩) h ?_ ?_
 ·rintro ⟨x3,x4,x5⟩ _ h;unfold Zr at h;refine w6 n0 (ec (ec .x .x) .z) ?_ ?_ t0 t0 t0 t0
  ·intro r10 h7 h;exact zR 7 (Hl (t:=1000000000) (L:=x4) (L':=r10) (N:=(a0.map cellsOf).length) kr kr kr (Qe _ _ _ _ r10 h7) (w1 n0 z2 t0))
  intro r11 h8 h;exact zR 11 (Hl (t:=1000000000) (L:=x4) (L':=r11) (N:=(a0.map cellsOf).length) kr kr kr (Qe _ _ _ _ r11 h8) (w1 n0 z2 t0))
 rintro ⟨x8,x9⟩ s' h hs;obtain ⟨r12,h9,h⟩:=Qp h;refine Qa (Jm (Kw hs (Vn (zR 7 (Hl (t:=1000000000) (L:=x8) (L':=r12) (N:=(a0.map cellsOf).length) kr kr kr (Qe _ _ _ _ r12 h9) (w1 n0 s1 ?_))))));intro h;cases h;exact Ja7 kr
def Yx(a0:(List Jc))(a1:Int):(Int×Int)->Option ((Int×Int)⊕(Int⊕(List Jc))):=fun (x6,x7)=>
 bif decide (x6<x7) then (
  (Vz 0 (((a0:(List Jc)).map cellsOf).length) (w64 ((IntKind.u64.wrap (w64 (x6+x7))).fdiv 2))).bind fun j14=>
  (Uy a0 (((a0:(List Jc)).map cellsOf).length) j14).bind fun x15=>
  (Vz 0 (((a0:(List Jc)).map cellsOf).length) a1).bind fun j16=>
  (Uy a0 (((a0:(List Jc)).map cellsOf).length) j16).bind fun x17=>
  (Cf x15 x17).bind fun r18=>
  bif decide (r18<0) then (
   some (.inl (w64 ((w64 ((IntKind.u64.wrap (w64 (x6+x7))).fdiv 2))+1),x7))
  ) else (
   some (.inl (x6,w64 ((IntKind.u64.wrap (w64 (x6+x7))).fdiv 2)))
  )
 ) else (
  some (.inr (.inl x6))
 )
def Yz(a0:(List Jc))(x13:Int):(Int×(List Jc))->Option ((Int×(List Jc))⊕((List Jc)⊕(List Jc))):=fun (x27,x28)=>
 bif decide (x27<(w64 (x13 - 1))) then (
  (Vz 0 (((a0:(List Jc)).map cellsOf).length) (w64 (x27+1))).bind fun j38=>
  (Uy x28 (((a0:(List Jc)).map cellsOf).length) j38).bind fun x39=>
  (Vz 0 (((a0:(List Jc)).map cellsOf).length) x27).bind fun j40=>
  (Uy x28 (((a0:(List Jc)).map cellsOf).length) j40).bind fun x41=>
  (Vz 0 (((a0:(List Jc)).map cellsOf).length) x27).bind fun j42=>
  (Uy x28 (((a0:(List Jc)).map cellsOf).length) j42).bind fun x43=>
  (Vz 0 (((a0:(List Jc)).map cellsOf).length) (w64 (x27+1))).bind fun j44=>
  (Uy (x28.set j42 x39) (((a0:(List Jc)).map cellsOf).length) j44).bind fun x45=>
  some (.inl (w64 (x27+1),((x28.set j42 x39).set j44 x41)))
 ) else (
  some (.inr (.inl x28))
 )
def Yy(a0:(List Jc))(a2:Int):(Int×Int)->Option ((Int×Int)⊕(Int⊕(List Jc))):=fun (x51,x52)=>
 bif decide (x51<x52) then (
  (Vz 0 (((a0:(List Jc)).map cellsOf).length) a2).bind fun j59=>
  (Uy a0 (((a0:(List Jc)).map cellsOf).length) j59).bind fun x60=>
  (Vz 0 (((a0:(List Jc)).map cellsOf).length) (w64 ((IntKind.u64.wrap (w64 (x51+x52))).fdiv 2))).bind fun j61=>
  (Uy a0 (((a0:(List Jc)).map cellsOf).length) j61).bind fun x62=>
  (Cf x60 x62).bind fun r63=>
  bif (!(decide (r63<0))) then (
   some (.inl (w64 ((w64 ((IntKind.u64.wrap (w64 (x51+x52))).fdiv 2))+1),x52))
  ) else (
   some (.inl (x51,w64 ((IntKind.u64.wrap (w64 (x51+x52))).fdiv 2)))
  )
 ) else (
  some (.inr (.inl x51))
 )
def Yt(a0:(List Jc))(x58:Int):(Int×(List Jc))->Option ((Int×(List Jc))⊕((List Jc)⊕(List Jc))):=fun (x72,x73)=>
 bif decide (x58<x72) then (
  (Vz 0 (((a0:(List Jc)).map cellsOf).length) (w64 (x72 - 1))).bind fun j83=>
  (Uy x73 (((a0:(List Jc)).map cellsOf).length) j83).bind fun x84=>
  (Vz 0 (((a0:(List Jc)).map cellsOf).length) x72).bind fun j85=>
  (Uy x73 (((a0:(List Jc)).map cellsOf).length) j85).bind fun x86=>
  (Vz 0 (((a0:(List Jc)).map cellsOf).length) x72).bind fun j87=>
  (Uy x73 (((a0:(List Jc)).map cellsOf).length) j87).bind fun x88=>
  (Vz 0 (((a0:(List Jc)).map cellsOf).length) (w64 (x72 - 1))).bind fun j89=>
  (Uy (x73.set j87 x84) (((a0:(List Jc)).map cellsOf).length) j89).bind fun x90=>
  some (.inl (w64 (x72 - 1),((x73.set j87 x84).set j89 x86)))
 ) else (
  some (.inr (.inl x73))
 )
def Yu(a0:(List Jc))(a1:Int)(a2:Int)(a3:Int):(Int×Int)->Option ((Int×Int)⊕(Int⊕(List Jc))):=fun (x98,x99)=>
 bif decide (x98<x99) then (
  (Vz 0 (((a0:(List Jc)).map cellsOf).length) (w64 ((w64 ((w64 ((w64 ((IntKind.u64.wrap (w64 (a1+a3))).fdiv 2))+a2)) - 1)) - (w64 ((IntKind.u64.wrap (w64 (x98+x99))).fdiv 2))))).bind fun j106=>
  (Uy a0 (((a0:(List Jc)).map cellsOf).length) j106).bind fun x107=>
  (Vz 0 (((a0:(List Jc)).map cellsOf).length) (w64 ((IntKind.u64.wrap (w64 (x98+x99))).fdiv 2))).bind fun j108=>
  (Uy a0 (((a0:(List Jc)).map cellsOf).length) j108).bind fun x109=>
  (Cf x107 x109).bind fun r110=>
  bif (!(decide (r110<0))) then (
   some (.inl (w64 ((w64 ((IntKind.u64.wrap (w64 (x98+x99))).fdiv 2))+1),x99))
  ) else (
   some (.inl (x98,w64 ((IntKind.u64.wrap (w64 (x98+x99))).fdiv 2)))
  )
 ) else (
  some (.inr (.inl x98))
 )
def Kv(rc_d_slices_symMergeCmpFunc_api_Linked__linking_Of_c1:(List Jc)->Int->Int->Int->Option (List Jc))(a0:(List Jc))(a1:Int)(a2:Int)(a3:Int):Option (List Jc) :=
 bif decide ((w64 (a2 - a1))=1) then (
  onInl (Jq (Yx a0 a1) (a2,a3)) fun x13=>
  onInl (Jq (Yz a0 x13) (a1,a0)) fun x37=>
  some x37
 ) else (
  bif decide ((w64 (a3 - a2))=1) then (
   onInl (Jq (Yy a0 a2) (a1,a2)) fun x58=>
   onInl (Jq (Yt a0 x58) (a2,a0)) fun x82=>
   some x82
  ) else (
   onInl (α:=(Int×Int)) (β:=(List Jc)) (
    bif decide ((w64 ((IntKind.u64.wrap (w64 (a1+a3))).fdiv 2))<a2) then (
     some (.inl (w64 ((w64 ((w64 ((IntKind.u64.wrap (w64 (a1+a3))).fdiv 2))+a2)) - a3),w64 ((IntKind.u64.wrap (w64 (a1+a3))).fdiv 2)))
    ) else (
     some (.inl (a1,a2))
    )
   ) fun (x91,x92)=>
   onInl (Jq (Yu a0 a1 a2 a3) (x91,x92)) fun x105=>
   onInl (α:=(List Jc)) (β:=(List Jc)) (
    bif ((decide (x105<a2))&&(decide (a2<(w64 ((w64 ((w64 ((IntKind.u64.wrap (w64 (a1+a3))).fdiv 2))+a2)) - x105))))) then (
     (Qu a0 x105 a2 (w64 ((w64 ((w64 ((IntKind.u64.wrap (w64 (a1+a3))).fdiv 2))+a2)) - x105))).bind fun r113=>
     some (.inl r113)
    ) else (
     some (.inl a0)
    )
   ) fun x112=>
   onInl (α:=(List Jc)) (β:=(List Jc)) (
    bif ((decide (a1<x105))&&(decide (x105<(w64 ((IntKind.u64.wrap (w64 (a1+a3))).fdiv 2))))) then (
     (rc_d_slices_symMergeCmpFunc_api_Linked__linking_Of_c1 x112 a1 x105 (w64 ((IntKind.u64.wrap (w64 (a1+a3))).fdiv 2))).bind fun r116=>
     some (.inl r116)
    ) else (
     some (.inl x112)
    )
   ) fun x115=>
   bif ((decide ((w64 ((IntKind.u64.wrap (w64 (a1+a3))).fdiv 2))<(w64 ((w64 ((w64 ((IntKind.u64.wrap (w64 (a1+a3))).fdiv 2))+a2)) - x105))))&&(decide ((w64 ((w64 ((w64 ((IntKind.u64.wrap (w64 (a1+a3))).fdiv 2))+a2)) - x105))<a3))) then (
    (rc_d_slices_symMergeCmpFunc_api_Linked__linking_Of_c1 x115 (w64 ((IntKind.u64.wrap (w64 (a1+a3))).fdiv 2)) (w64 ((w64 ((w64 ((IntKind.u64.wrap (w64 (a1+a3))).fdiv 2))+a2)) - x105)) a3).bind fun r117=>
    some r117
   ) else (
    some x115
   )
  )
 )
theorem Ul(rc_d_slices_symMergeCmpFunc_api_Linked__linking_Of_c1:(List Jc)->Int->Int->Int->Option (List Jc))(hrc_d_slices_symMergeCmpFunc_api_Linked__linking_Of_c1:∀ (a0:(List Jc)) (a1:Int) (a2:Int) (a3:Int) (r:(List Jc)),rc_d_slices_symMergeCmpFunc_api_Linked__linking_Of_c1 a0 a1 a2 a3=some r->Rw prog GlS 278 2 16 (a0.map cellsOf) [Enc.pv a1,Enc.pv a2,Enc.pv a3,.fn 248 []] none (r.map cellsOf))(a0:(List Jc))(a1:Int)(a2:Int)(a3:Int)(r:(List Jc))(h:Kv rc_d_slices_symMergeCmpFunc_api_Linked__linking_Of_c1 a0 a1 a2 a3=some r):Rw prog GlS 278 2 16 (a0.map cellsOf) [Enc.pv a1,Enc.pv a2,Enc.pv a3,.fn 248 []] none (r.map cellsOf):=by
 unfold Kv at h;refine Cw func278 (by rfl) rfl ntmps278 (by rfl) rfl ?_;refine w6 n0 (ec s2 (ec s2 (ee S1))) ?_ ?_ ?_ t0 t0 t0
 ·intro h;refine uL 220 0 (fun s (x6,x7)=>⟨(10,I6 x6)::(11,I6 x7)::gt s [0,1,4],[],gT s [1000000000],gX s [1000000000]⟩) (fun s x13=>⟨(10,I6 x13)::gt s [0,1],[],gT s [1000000000],gX s [1000000000]⟩) h ?_ ?_
  ·rintro ⟨x6,x7⟩ _ h;unfold Yx at h;exact w1 n0 (ec (.e (.j 3 (.d 0 true 2 0 (.j 2 (.d 0 true 2 0 (.p 0 (ec z1 z1))))))) .z) t0
  intro x13 s' h hs;refine w1 n0 s1 ?_;intro h;refine uM 220 2 [13] (fun s (x27,x28)=>⟨(13,I6 x27)::gt s [0,10],[],gT s [1000000000],[(1000000000,(2,(16,x28.map cellsOf)))]⟩) h ?_ ?_
  ·rintro ⟨x27,x28⟩ _ h;unfold Yz at h;refine w1 n0 (ec (.j 8 (.d 0 true 2 0 (.j 2 (.d 0 true 2 0 (.j 0 .x))))) .z) ?_;intro _ x39 _ x41 _ _ h41 h;refine yst 0 1000000000 x39 0 2 h41 (w1 n0 (.j 0 .x) ?_);intro _ _ h43 h;exact yst 0 1000000000 x41 0 2 h43 (w1 n0 z2 t0)
  intro x37 s' h hs;refine Qa (Jm (Kw hs (Vw (Yw ?_))));cases h;exact Ja7 kr
 ·intro h;refine uL 220 4 (fun s (x51,x52)=>⟨(14,I6 x51)::(15,I6 x52)::gt s [0,2,4],[],gT s [1000000000],gX s [1000000000]⟩) (fun s x58=>⟨(14,I6 x58)::gt s [0,2],[],gT s [1000000000],gX s [1000000000]⟩) h ?_ ?_
  ·rintro ⟨x51,x52⟩ _ h;unfold Yy at h;exact w1 n0 (ec (.e (.j 3 (.d 0 true 2 0 (.j 2 (.d 0 true 2 0 (.p 0 (ec z1 z1))))))) .z) t0
  intro x58 s' h hs;refine w1 n0 s1 ?_;intro h;refine uM 220 6 [17] (fun s (x72,x73)=>⟨(17,I6 x72)::gt s [0,14],[],gT s [1000000000],[(1000000000,(2,(16,x73.map cellsOf)))]⟩) h ?_ ?_
  ·rintro ⟨x72,x73⟩ _ h;unfold Yt at h;refine w1 n0 (ec (.j 8 (.d 0 true 2 0 (.j 2 (.d 0 true 2 0 (.j 0 .x))))) .z) ?_;intro _ x84 _ x86 _ _ h84 h;refine yst 0 1000000000 x84 0 2 h84 (w1 n0 (.j 0 .x) ?_);intro _ _ h86 h;exact yst 0 1000000000 x86 0 2 h86 (w1 n0 z2 t0)
  intro x82 s' h hs;refine Qa (Jm (Kw hs (Vw (Yw ?_))));cases h;exact Ja7 kr
 intro h;refine Jm ?_;refine uJ 220 (fun s (x91,x92)=>⟨(20,I6 x91)::(21,I6 x92)::gt s [0,1,2,3,4,18,19],[],gT s [1000000000],gX s [1000000000]⟩) h ?_ ?_
 ·intro _ h;exact w1 n0 (ec z2 z2) t0
 rintro ⟨x91,x92⟩ h;refine w1 n0 s1 ?_;intro h;refine uL 220 8 (fun s (x98,x99)=>⟨(20,I6 x98)::(21,I6 x99)::gt s [0,1,2,3,4,18,19,22],[],gT s [1000000000],gX s [1000000000]⟩) (fun s x105=>⟨(20,I6 x105)::gt s [0,1,2,3,4,18,19],[],gT s [1000000000],gX s [1000000000]⟩) h ?_ ?_
 ·rintro ⟨x98,x99⟩ _ h;unfold Yu at h;exact w1 n0 (ec (.e (.j 5 (.d 0 true 2 0 (.j 2 (.d 0 true 2 0 (.p 0 (ec z1 z1))))))) .z) t0
 intro x105 s' h hs;refine w1 n0 S1 ?_;intro h;refine Jm ?_;refine uJ 220 (fun s x112=>⟨gt s [0,1,3,4,18,20,24],[],gT s [1000000000],[(1000000000,(2,(16,x112.map cellsOf)))]⟩) h ?_ ?_
 ·intro _ h;refine w1 n0 (.o 4 4 185 0 (ec .x .z)) ?_;intro r113 h107 h;exact zR 5 (Hl (t:=1000000000) (L:=a0) (L':=r113) (N:=(a0.map cellsOf).length) kr kr kr (Bc _ _ _ _ r113 h107) (w1 n0 z1 t0))
 intro x112 h;refine uJ 220 (fun s x115=>⟨gt s [0,3,4,18,24],[],gT s [1000000000],[(1000000000,(2,(16,x115.map cellsOf)))]⟩) h ?_ ?_
 ·intro _ h;refine w1 n0 (.o 4 4 199 0 (ec .x .z)) ?_;intro r116 h110 h;exact zR 5 (Hl (t:=1000000000) (L:=x112) (L':=r116) (N:=(a0.map cellsOf).length) kr kr kr (hrc_d_slices_symMergeCmpFunc_api_Linked__linking_Of_c1 _ _ _ _ r116 h110) (w1 n0 z1 t0))
 intro x115 h;refine w6 n0 (.o 4 4 213 0 (ec .x .s)) ?_ ?_ t0 t0 t0 t0
 ·intro r117 h111 h;refine zR 5 (Hl (t:=1000000000) (L:=x115) (L':=r117) (N:=(a0.map cellsOf).length) kr kr kr (hrc_d_slices_symMergeCmpFunc_api_Linked__linking_Of_c1 _ _ _ _ r117 h111) (w1 n0 s1 ?_));intro h;cases h;exact Ja7 kr
 intro h;cases h;exact Ja7 kr
def Ku(n:Nat):(List Jc)->Int->Int->Int->Option (List Jc):=Nat.rec (fun _ _ _ _=>none) (fun _ ih=>Kv ih) n
theorem Uk : ∀ (n:Nat) (a0:(List Jc)) (a1:Int) (a2:Int) (a3:Int) (r:(List Jc)),Ku n a0 a1 a2 a3=some r->Rw prog GlS 278 2 16 (a0.map cellsOf) [Enc.pv a1,Enc.pv a2,Enc.pv a3,.fn 248 []] none (r.map cellsOf)
 | 0,_,_,_,_,_,h=>by cases h
 | n+1,a0,a1,a2,a3,r,h=>Ul (Ku n) (Uk n) a0 a1 a2 a3 r h
def Qn(a0:(List Jc))(a1:Int)(a2:Int)(a3:Int):Option (List Jc):=Kv (Ku Jaw) a0 a1 a2 a3
theorem Ut(a0:(List Jc))(a1:Int)(a2:Int)(a3:Int)(r:(List Jc))(h:Qn a0 a1 a2 a3=some r):Rw prog GlS 278 2 16 (a0.map cellsOf) [Enc.pv a1,Enc.pv a2,Enc.pv a3,.fn 248 []] none (r.map cellsOf):=Ul (Ku Jaw) (Uk Jaw) a0 a1 a2 a3 r h
def Zs(a1:Int):(Int×Int×(List Jc))->Option ((Int×Int×(List Jc))⊕(((List Jc)×Int)⊕(List Jc))):=fun (x2,x3,x4)=>
 bif decide (x3<=a1) then (
  (Kr x4 x2 x3).bind fun r8=>
  some (.inl (x3,w64 (x3+20),r8))
 ) else (
  some (.inr (.inl (x4,x2)))
 )
def Zn(a1:Int)(x21:Int):(Int×Int×(List Jc))->Option ((Int×Int×(List Jc))⊕(((List Jc)×Int)⊕((Int×(List Jc))⊕((List Jc)⊕(List Jc))))):=fun (x36,x37,x38)=>
 bif decide (x37<=a1) then (
  (Qn x38 x36 (w64 (x36+x21)) x37).bind fun r42=>
  some (.inl (x37,w64 (x37+(w64 (2 * x21))),r42))
 ) else (
  some (.inr (.inl (x38,x36)))
 )
def Zq(a1:Int):(Int×(List Jc))->Option ((Int×(List Jc))⊕((List Jc)⊕(List Jc))):=fun (x21,x22)=>
 bif decide (x21<a1) then (
  onInl (Jq (Zn a1 x21) (0,w64 (2 * x21),x22)) fun (x40,x41)=>
  onInl (α:=(List Jc)) (β:=((Int×(List Jc))⊕((List Jc)⊕(List Jc)))) (
   bif decide ((w64 (x41+x21))<a1) then (
    (Qn x40 x41 (w64 (x41+x21)) a1).bind fun r45=>
    some (.inl r45)
   ) else (
    some (.inl x40)
   )
  ) fun x44=>
  some (.inl (w64 (x21 * 2),x44))
 ) else (
  some (.inr (.inl x22))
 )
def Qs(a0:(List Jc))(a1:Int):Option (List Jc) :=
 onInl (Jq (Zs a1) (0,20,a0)) fun (x6,x7)=>
 (Kr x6 x7 a1).bind fun r9=>
 onInl (Jq (Zq a1) (20,r9)) fun x34=>
 some x34
theorem Zt(a0:(List Jc))(a1:Int)(r:(List Jc))(h:Qs a0 a1=some r):Rw prog GlS 274 2 16 (a0.map cellsOf) [Enc.pv a1,.fn 248 []] none (r.map cellsOf):=by
 unfold Qs at h;refine Cw func274 (by rfl) rfl ntmps274 (by rfl) rfl ?_;refine w1 n0 s2 ?_;intro h;refine uL 63 0 (fun s (x2,x3,x4)=>⟨(7,I6 x2)::(8,I6 x3)::gt s [0,1,2,6],[],gT s [1000000000],[(1000000000,(2,(16,x4.map cellsOf)))]⟩) (fun s (x6,x7)=>⟨(7,I6 x7)::gt s [0,1,2,6],[],gT s [1000000000],[(1000000000,(2,(16,x6.map cellsOf)))]⟩) h ?_ ?_
 ·rintro ⟨x2,x3,x4⟩ _ h;unfold Zs at h;refine w1 n0 (ec .x .z) ?_;intro r8 h5 h;exact zR 4 (Hl (t:=1000000000) (L:=x4) (L':=r8) (N:=(a0.map cellsOf).length) kr kr kr (Ug _ _ _ r8 h5) (w1 n0 (ee z1) t0))
 rintro ⟨x6,x7⟩ s' h hs;obtain ⟨r9,h6,h⟩:=Qp h;refine Qa (Jm (Kw hs (Kb (Vn (zR 4 (Hl (t:=1000000000) (L:=x6) (L':=r9) (N:=(a0.map cellsOf).length) kr kr kr (Ug _ _ _ r9 h6) (w1 n0 s1 ?_)))))));intro h;refine uM 63 2 [6] (fun s (x21,x22)=>⟨(6,I6 x21)::gt s [0,1,2],[],gT s [1000000000],[(1000000000,(2,(16,x22.map cellsOf)))]⟩) h ?_ ?_
 ·rintro ⟨x21,x22⟩ _ h;unfold Zq at h;refine w1 n0 (ec s1 .z) ?_;intro h;refine uL 63 4 (fun s (x36,x37,x38)=>⟨(7,I6 x36)::(8,I6 x37)::gt s [0,1,2,6],[],gT s [1000000000],[(1000000000,(2,(16,x38.map cellsOf)))]⟩) (fun s (x40,x41)=>⟨(7,I6 x41)::gt s [0,1,2,6],[],gT s [1000000000],[(1000000000,(2,(16,x40.map cellsOf)))]⟩) h ?_ ?_
  ·rintro ⟨x36,x37,x38⟩ _ h;unfold Zn at h;refine w1 n0 (ec .x .z) ?_;intro r42 h29 h;exact zR 7 (Hl (t:=1000000000) (L:=x38) (L':=r42) (N:=(a0.map cellsOf).length) kr kr kr (Ut _ _ _ _ r42 h29) (w1 n0 (ee z1) t0))
  rintro ⟨x40,x41⟩ s' h hs;refine Qa (Jm (Kw hs ?_));refine uJ 63 (fun s x44=>⟨gt s [0,1,2,6],[],gT s [1000000000],[(1000000000,(2,(16,x44.map cellsOf)))]⟩) h ?_ ?_
  ·intro _ h;refine w1 n0 (ee (.c .x .z)) ?_;intro r45 h32 h;exact zR 5 (Hl (t:=1000000000) (L:=x40) (L':=r45) (N:=(a0.map cellsOf).length) kr kr kr (Ut _ _ _ _ r45 h32) (w1 n0 z1 t0))
  intro x44 h;exact w1 n0 z1 t0
 intro x34 s' h hs;refine Qa ?_;cases h;exact Jjb hs kr
def Qq(a0:(List Jc)):Option (List Jc) :=
 (Qs a0 ((((a0:(List Jc)).map cellsOf).length:Nat):Int)).bind fun r1=>
 some r1
theorem Zk(a0:(List Jc))(r:(List Jc))(h:Qq a0=some r):Rw prog GlS 247 2 16 (a0.map cellsOf) [.fn 248 []] none (r.map cellsOf):=by
 unfold Qq at h;refine Cw func247 (by rfl) rfl ntmps247 (by rfl) rfl ?_;obtain ⟨r1,h1,h⟩:=Qp h;refine Vn (zR 4 (Hl (t:=1000000000) (L:=a0) (L':=r1) (N:=(a0.map cellsOf).length) kr kr kr (Zt _ _ r1 h1) (w1 n0 s1 ?_)));intro h;cases h;exact Ja7 kr
def Je9(a3:Int)(x132:Int)(x134:(List (Int×(List Jn))))(x192:Jb)(x194:Kg):(Int×(List Jc))->Option ((Int×(List Jc))⊕((List Jc)⊕(((List Jc)×(List (Int×(List Jn))))⊕((Int×Int×(List (Int×(List Jn)))×(List Jc))⊕((List Jc)⊕(List Jc)))))):=fun (x230,x231)=>
 bif decide (x230<((((Wx (x134:(List (Int×(List Jn)))) x192.El).getD ([]:(List Jn))).length:Nat):Int)) then (
  onInl (α:=(List Jc)) (β:=((Int×(List Jc))⊕((List Jc)⊕(((List Jc)×(List (Int×(List Jn))))⊕((Int×Int×(List (Int×(List Jn)))×(List Jc))⊕((List Jc)⊕(List Jc))))))) (
   (ixO ((Wx (x134:(List (Int×(List Jn)))) x192.El).getD ([]:(List Jn))) x230).bind fun x244=>
   onInl (α:=Int) (β:=((List Jc)⊕((Int×(List Jc))⊕((List Jc)⊕(((List Jc)×(List (Int×(List Jn))))⊕((Int×Int×(List (Int×(List Jn)))×(List Jc))⊕((List Jc)⊕(List Jc)))))))) (
    bif decide (x192.In=1) then (
     some (.inl (w64 ((w64 (x132+x194.Length)) - x244.Offset)))
    ) else (
     some (.inl (w64 (x132+x244.Offset)))
    )
   ) fun x245=>
   bif decide (x245<=a3) then (
    (Qd x231 [(Jc.mk x244.Id x245)]).bind fun x246=>
    some (.inl x246)
   ) else (
    some (.inl x231)
   )
  ) fun x243=>
  some (.inl (w64 (x230+1),x243))
 ) else (
  some (.inr (.inl x231))
 )
def Jfd(a0:Ja)(a1:(List Jb))(a3:Int):(Int×Int×(List (Int×(List Jn)))×(List Jc))->Option ((Int×Int×(List (Int×(List Jn)))×(List Jc))⊕((List Jc)⊕(List Jc))):=fun (x132,x133,x134,x135)=>
 bif decide (x133<((a1.length:Nat):Int)) then (
  (ixO a1 x133).bind fun x192=>
  ((bif decide (x192.El<0) then some true else (
   some (decide (((a0.Elements.length:Nat):Int)<=x192.El))
  ))).bind fun b193=>
  bif b193 then (
   some (.inr (.inr ([]:(List Jc))))
  ) else (
   (ixO a0.Elements x192.El).bind fun x194=>
   onInl (α:=((List Jc)×(List (Int×(List Jn))))) (β:=((Int×Int×(List (Int×(List Jn)))×(List Jc))⊕((List Jc)⊕(List Jc)))) (
    (Po x194.Kind x192).bind fun r222=>
    bif r222 then (
     onInl (α:=(List Jc)) (β:=(((List Jc)×(List (Int×(List Jn))))⊕((Int×Int×(List (Int×(List Jn)))×(List Jc))⊕((List Jc)⊕(List Jc))))) (Jq (Je9 a3 x132 x134 x192 x194) (0,x135)) fun x239=>
     some (.inl (x239,(Jqa x192.El x134)))
    ) else (
     some (.inl (x135,x134))
    )
   ) fun (x220,x221)=>
   some (.inl (w64 (x132+x194.Length),w64 (x133+1),x221,x220))
  )
 ) else (
  some (.inr (.inl x135))
 )
def Jcz(a0:Ja)(a1:(List Jb))(a2:Int)(a3:Int):Option (List Jc) :=
 (Hb a0 a1).bind fun r1=>
 bif (!r1) then (
  some ([]:(List Jc))
 ) else (
  (Jva (fun (x:Jn)=>x.El) a0.Balises).bind fun m2=>
  onInl (Jq (Jfd a0 a1 a3) (a2,0,m2,[])) fun x191=>
  (Qq x191).bind fun r247=>
  some r247
 )
instance (a0:Ja)(a1:(List Jb))(a2:Int)(a3:Int):Cp (Jcz a0 a1 a2 a3) 179 [Enc.pv a0,Enc.pv a1,Enc.pv a2,Enc.pv a3] Enc.pv:=⟨fun r h=>by
 unfold Jcz at h;refine zG f179 ?_;refine w1 a0.Balises (ep 2 (ec z1 (el 2 S1))) ?_;intro _ h;obtain ⟨m2,h2,h⟩:=Qp h;refine Jm (Kk ?_);obtain ⟨em2,hz,hz2⟩:=Jsw h2;refine Kcb (κ:=Int) (ν:=Jn) a0.Balises (fun (x:Jn)=>x.El) 0 (fun (i:Nat) (m:List (Int×List Jn))=>Jdx ⟨[(1,Jg .frozen a1),(2,I6 a2),(3,I6 a3),(4,.ref 4 0),(9,.mp 24),(26,Jg .frozen a0.Balises),(27,I6 ((a0.Balises.length:Nat):Int)),(28,I6 ((i:Nat):Int))],[(4,.cells (cellsOf a0))],[],[]⟩ 116 24 (.mapo (esO m) (Enc.k Jn) (Enc.b Jn) Uz) (Xt m)) (fun (m:List (Int×List Jn))=>((⟨[(1,Jg .frozen a1),(2,I6 a2),(3,I6 a3),(4,.ref 4 0),(9,.mp 24)],(24,.map (Ys m))::[(4,.cells (cellsOf a0))],[],[]⟩:JS).st 116)) ?_ ?_ ?_ ?_
 ·exact Kbm 24 kr kr (by decide) kr
 ·intro i x hx;have hi:=Qo hx;refine w1 n0 S1 ?_;intro h;refine Jm (Kb (Jad (b:=decide (((i:Nat):Int)<((a0.Balises.length:Nat):Int))) (decide_eq_true oG) kr (Qv (Jm (Kb (Kk (Kb (Vn (p_ix (Qm hx) kr (w1 n0 S1 ?_))))))))));intro h;refine Jm (Jy2 kr kr (zR 6 (Kgd (m:=(grp (fun (x:Jn)=>x.El) (a0.Balises.take i))) (k:=x.El) (tk:=Uz) 24 kr kr ?_)));cases hf:Cx x.El (grp (fun (x:Jn)=>x.El) (a0.Balises.take i)) with
  | none=>
  refine zR 2 ?_;refine Md (α:=Jn) (tk:=41) (L:=([]:List Jn)) (ys:=[x]) (M:=[x]) (Jv6 (n:=a0.Balises.length) (by simp; omega) hz) kr ?_;refine Jyg (m:=(grp (fun (x:Jn)=>x.El) (a0.Balises.take i))) (k:=x.El) (M:=[x]) (tk:=Uz) 41 24 kr kr (zN ?_);refine Jf3 (Jm (Kw (Kcl (j:=⟨[(1,Jg .frozen a1),(2,I6 a2),(3,I6 a3),(4,.ref 4 0),(9,.mp 24),(26,Jg .frozen a0.Balises),(27,I6 ((a0.Balises.length:Nat):Int)),(28,I6 ((i:Nat):Int))],[(4,.cells (cellsOf a0))],[],[]⟩) (n:=116) 24 41 (fk:=(fun (x:Jn)=>x.El)) (x:=x) (m:=(grp (fun (x:Jn)=>x.El) (a0.Balises.take i))) (by decide) hf kr kr (by have h1:=Jvn (fun (x:Jn)=>x.El) (a0.Balises.take i); simp only [aU] at h1; omega) kr kr) ?_));refine Vn (zE ⟨rfl, ?_⟩);have hw:((i+1:Nat):Int)=w64 ((i:Int)+1):=(Fz oG).symm;show Wkr _ (Jdx ⟨[(1,Jg .frozen (a1:(List Jb))),(2,I6 a2),(3,I6 a3),(4,.ref 4 0),(9,.mp 24),(26,Jg .frozen (a0.Balises:(List Jn))),(27,I6 ((a0.Balises.length:Nat):Int)),(28,I6 ((i+1:Nat):Int))],[(4,.cells (cellsOf a0))],[],[]⟩ 116 24 (.mapo (esO (Jat (fun (x:Jn)=>x.El) x (grp (fun (x:Jn)=>x.El) (a0.Balises.take i)))) (Enc.k Jn) (Enc.b Jn) Uz) (Xt (Jat (fun (x:Jn)=>x.El) x (grp (fun (x:Jn)=>x.El) (a0.Balises.take i)))));rw [hw];exact Jld 24 kr kr kr kr
  | some y=>
  obtain ⟨q,M⟩:=y;refine zR 2 (Ke2 (α:=Jn) (tk:=Uz q) (L:=M) (ys:=[x]) (M:=M++[x]) (T:=Xt (grp (fun (x:Jn)=>x.El) (a0.Balises.take i))) (Jv6 (Jqv hx hf) hz) kr (Jxp hf) kr (Jyg (m:=(grp (fun (x:Jn)=>x.El) (a0.Balises.take i))) (k:=x.El) (M:=M++[x]) (tk:=Uz) (Uz q) 24 kr kr (zN (Jf3 (Jm (Kw (Kcu (j:=⟨[(1,Jg .frozen a1),(2,I6 a2),(3,I6 a3),(4,.ref 4 0),(9,.mp 24),(26,Jg .frozen a0.Balises),(27,I6 ((a0.Balises.length:Nat):Int)),(28,I6 ((i:Nat):Int))],[(4,.cells (cellsOf a0))],[],[]⟩) (n:=116) 24 (fk:=(fun (x:Jn)=>x.El)) (x:=x) (m:=(grp (fun (x:Jn)=>x.El) (a0.Balises.take i))) hf kr kr kr kr) (Vn (zE ⟨rfl, ?_⟩))))))));have hw:((i+1:Nat):Int)=w64 ((i:Int)+1):=(Fz oG).symm;show Wkr _ (Jdx ⟨[(1,Jg .frozen (a1:(List Jb))),(2,I6 a2),(3,I6 a3),(4,.ref 4 0),(9,.mp 24),(26,Jg .frozen (a0.Balises:(List Jn))),(27,I6 ((a0.Balises.length:Nat):Int)),(28,I6 ((i+1:Nat):Int))],[(4,.cells (cellsOf a0))],[],[]⟩ 116 24 (.mapo (esO (Jat (fun (x:Jn)=>x.El) x (grp (fun (x:Jn)=>x.El) (a0.Balises.take i)))) (Enc.k Jn) (Enc.b Jn) Uz) (Xt (Jat (fun (x:Jn)=>x.El) x (grp (fun (x:Jn)=>x.El) (a0.Balises.take i)))));rw [hw];exact Jld 24 kr kr kr kr
 ·intro m;refine w1 n0 S1 ?_;intro h;exact Jm (Kb (Jap (b:=decide (((a0.Balises.length:Nat):Int)<((a0.Balises.length:Nat):Int))) (decide_eq_false oG) kr (Jd9 (Jai (⟨rfl,Kcv (j:=⟨[(1,Jg .frozen a1),(2,I6 a2),(3,I6 a3),(4,.ref 4 0),(9,.mp 24)],[(4,.cells (cellsOf a0))],[],[]⟩) (m:=m) (tk:=Uz) 24 kr kr kr⟩)))))
 intro s' hs;rw [<- em2] at hs;refine w1 a1 (ee (.l 1 S1)) ?_;intro h;refine Jm (Kk (Kw (Jio 12 100012 2 16 kr kr) ?_));refine uL 116 2 (fun s (x132,x133,x134,x135)=>⟨(12,.ex 100012 2 16 ((x135.map cellsOf).length) 0 ((x135.map cellsOf).length))::(13,I6 x132)::(46,I6 x133)::gt s [3,4,9,44,45],(24,.map (Ys (x134:(List (Int×(List Jn))))))::gh s [4],[(100012,((x135.map cellsOf).length,0))],[(100012,(2,(16,x135.map cellsOf)))]⟩) (fun _ x191=>⟨[(12,.ex 100012 2 16 ((x191.map cellsOf).length) 0 ((x191.map cellsOf).length))],[],[(100012,((x191.map cellsOf).length,0))],[(100012,(2,(16,x191.map cellsOf)))]⟩) h ?_ ?_
 ·rintro ⟨x132,x133,x134,x135⟩ _ h;unfold Jfd at h;refine w1 a0.Elements (ec (.i 0 (.e (.b 4 7 60 (.g 0 .z (.l 4 .z)) (ec z1 (.i 4 S1))))) .z) ?_;intro x192 _ _ h;refine Jm ?_;refine uJ 116 (fun s (x220,x221)=>⟨(12,.ex 100012 2 16 ((x220.map cellsOf).length) 0 ((x220.map cellsOf).length))::gt s [3,4,9,13,16,44,45,46],(24,.map (Ys (x221:(List (Int×(List Jn))))))::gh s [4,16],[(100012,((x220.map cellsOf).length,0))],[(100012,(2,(16,x220.map cellsOf)))]⟩) h ?_ ?_
  ·intro _ h;refine w1 n0 (.p 3 (ec .s .z)) ?_;intro _ h;refine zR 3 (Je0 (m:=(x134:(List (Int×(List Jn))))) (k:=x192.El) ([]:(List Jn)) 24 kr kr (w1 ((((Wx (x134:(List (Int×(List Jn)))) x192.El).getD ([]:(List Jn))):(List Jn))) (.l 0 s1) ?_));intro h;refine uM 116 4 [76] (fun s (x230,x231)=>⟨(12,.ex 100012 2 16 ((x231.map cellsOf).length) 0 ((x231.map cellsOf).length))::(76,I6 x230)::gt s [3,4,9,13,15,16,44,45,46,74,75],gh s [4,15,16,24],[(100012,((x231.map cellsOf).length,0))],[(100012,(2,(16,x231.map cellsOf)))]⟩) h ?_ ?_
   ·rintro ⟨x230,x231⟩ _ h;unfold Je9 at h;refine w1 n0 (ec .s .z) ?_;intro h;refine uJ 116 (fun s x243=>⟨(12,.ex 100012 2 16 ((x243.map cellsOf).length) 0 ((x243.map cellsOf).length))::gt s [3,4,9,13,15,16,44,45,46,74,75,76],gh s [4,15,16,24],[(100012,((x243.map cellsOf).length,0))],[(100012,(2,(16,x243.map cellsOf)))]⟩) h ?_ ?_
    ·intro _ h;refine w1 n0 (.i 0 S2) ?_;intro _ h;refine Jm ?_;refine uJ 116 (fun s x245=>⟨(19,I6 x245)::gt s [3,4,9,12,13,15,16,18,44,45,46,74,75,76],gh s [4,15,16,18,24],gT s [100012],gX s [100012]⟩) h ?_ ?_
     ·intro _ h;exact w1 n0 (ec z1 .z) t0
     intro x245 h;refine w1 n0 (ec .x .z) ?_;intro _ h230 h;exact zR 6 (Ju7 (tk:=100012) (N:=(x231.map cellsOf).length) h230 kr kr kr (w1 n0 z1 t0))
    intro x243 h;exact w1 n0 z1 t0
   intro x239 s' h hs;exact Qa (Jm (Kw hs (Vn (zR 3 (Kd6 (m:=(x134:(List (Int×(List Jn))))) (k:=x192.El) 24 kr kr (w1 n0 z1 t0))))))
  rintro ⟨x220,x221⟩ h;exact w1 n0 z2 t0
 intro x191 s' h hs;obtain ⟨r247,h231,h⟩:=Qp h;refine Qa (Jm (Kw hs (Kb (Vn (zR 1 (Hl (t:=100012) (L:=x191) (L':=r247) (N:=(x191.map cellsOf).length) kr kr kr (Zk _ r247 h231) (w1 n0 S2 ?_)))))));intro h;refine Jm (Kw (Zy (xss:=r247.map cellsOf) 100012 2 16 ((x191.map cellsOf).length) [8,12,113,115] [] kr kr kr kr) ?_);exact w1 n0 .z t0⟩
def Jcj(a0:(List Jc))(a2:Int):Int->Option (Int⊕(Unit⊕Int)):=fun x2=>
 bif decide (x2<((a0.length:Nat):Int)) then (
  (ixO a0 x2).bind fun x4=>
  bif decide (x4.Id=a2) then (
   some (.inr (.inr x2))
  ) else (
   some (.inl (w64 (x2+1)))
  )
 ) else (
  some (.inr (.inl ()))
 )
def Jam(a0:(List Jc))(a1:Int)(a2:Int):Option Int :=
 onInl (Jq (Jcj a0 a2) a1) fun _=>
 some (-1)
instance (a0:(List Jc))(a1:Int)(a2:Int):Cp (Jam a0 a1 a2) 272 [Enc.pv a0,Enc.pv a1,Enc.pv a2] Enc.pv:=⟨fun r h=>by
 unfold Jam at h;refine zG f272 ?_;refine w1 n0 s2 ?_;intro h;refine uN 23 0 [7] (fun s x2=>⟨(7,I6 x2)::gt s [0,2],[],[],[]⟩) h ?_ ?_
 ·intro x2 _ h;unfold Jcj at h;exact w1 a0 (.l 2 (ec (.i 2 (ec z1 z1)) .z)) t0
 intro _ s' h hs;exact w1 n0 z1 t0⟩
def Jbh(a0:(List Jc)):Int->Option (Int⊕(Unit⊕Bool)):=fun x7=>
 bif decide (x7<((a0.length:Nat):Int)) then (
  (ixO a0 x7).bind fun x14=>
  ((bif decide (0<x7) then (
   (ixO a0 (w64 (x7 - 1))).bind fun x16=>
   some (decide (x14.At<x16.At))
  ) else some false)).bind fun b15=>
  ((bif b15 then some true else (
   (slO a0 none (some x7) none).bind fun x18=>
   (Jam x18 0 x14.Id).bind fun r19=>
   some (decide (0<=r19))
  ))).bind fun b17=>
  bif b17 then (
   some (.inr (.inr false))
  ) else (
   some (.inl (w64 (x7+1)))
  )
 ) else (
  some (.inr (.inl ()))
 )
def Sq(a0:(List Jc)):Option Bool :=
 bif decide (24<((a0.length:Nat):Int)) then (
  some false
 ) else (
  onInl (Jq (Jbh a0) 0) fun _=>
  some true
 )
instance (a0:(List Jc)):Cp (Sq a0) 236 [Enc.pv a0] Enc.pv:=⟨fun r h=>by
 unfold Sq at h;refine zG f236 ?_;refine w1 a0 (el 1 (ec z1 (.l 1 s1))) ?_;intro h;refine uN 38 0 [10] (fun s x7=>⟨(10,I6 x7)::gt s [0,8,9],[],[],[]⟩) h ?_ ?_
 ·intro x7 _ h;unfold Jbh at h;refine w1 n0 (ec (.i 1 (.e (.b 3 10 27 (.g 0 (.i 5 .z) .z) (.b 1 8 36 (.g 0 .z .x) (ec z1 z1))))) .z) ?_;intro _ _ _ _ h21 h;exact zR 2 (Jju h21 .frozen kr kr kr (w1 n0 (.p 2 .z) t0))
 intro _ s' h hs;exact w1 n0 z1 t0⟩
def Nt(a0:Jz):Option Bool :=
 ((bif ((decide (1<=a0.Seq))&&(decide (a0.Seq<=1073741824))) then (
  (Ww a0.Profile).bind fun r2=>
  some r2
 ) else some false)).bind fun b1=>
 ((bif (b1&&(decide (0<((a0.Profile.length:Nat):Int)))) then (
  (ixO a0.Profile (w64 (((a0.Profile.length:Nat):Int) - 1))).bind fun x4=>
  some (decide (x4.To=a0.End))
 ) else some false)).bind fun b3=>
 ((bif b3 then (
  (Sq a0.Links).bind fun r6=>
  some r6
 ) else some false)).bind fun b5=>
 some b5
instance (a0:Jz):Cp (Nt a0) 175 [Enc.pv a0] Enc.pv:=⟨fun r h=>by
 unfold Nt at h;refine zG f175 ?_;exact w1 a0.Profile (el 2 (.e (.o 4 4 14 0 (.b 1 4 19 (.g 0 (.p 2 .z) .z) (.o 1 3 23 0 (.b 1 11 35 (.g 0 (.i 4 .z) .z) (.b 1 4 40 (.g 0 (.p 2 .z) .z) z1))))))) t0⟩
def Om(a0:Ja)(a1:Jd)(a2:(List Jy))(a3:Int):Option (Jz×Int) :=
 (Hb a0 a1.Steps).bind fun r1=>
 bif (((!r1)||(decide (a3<1)))||(decide (1073741824<a3))) then (
  some ((Jz.mk 0 0 [] []),1)
 ) else (
  (Jco a0 a1.Steps a1.Origin).bind fun r2=>
  (Ic a2 a1.Steps a1.Origin a0 r2).bind fun r3=>
  (Py r3 a1.Origin a1.At).bind fun r4=>
  (Jcz a0 a1.Steps a1.Origin a1.At).bind fun r5=>
  (Nt (Jz.mk a3 a1.At r4 r5)).bind fun r6=>
  bif (!r6) then (
   some ((Jz.mk 0 0 [] []),2)
  ) else (
   some ((Jz.mk a3 a1.At r4 r5),0)
  )
 )
set_option maxRecDepth 100000 in
instance (a0:Ja)(a1:Jd)(a2:(List Jy))(a3:Int):Cp (Om a0 a1 a2 a3) 99 [Enc.pv a0,Enc.pv a1,Enc.pv a2,Enc.pv a3] (fun r=>.tup [Enc.pv r.1,Enc.pv r.2]):=⟨fun r h=>by
 unfold Om at h;refine Job func99 (by rfl) rfl ntmps99 (by rfl) rfl ?_;refine Jil (Vn (w1 n0 S1 ?_));intro h;refine Jle (Jil (Kb (Vn ?_)));refine w6 n0 (.p 3 (.o 2 3 19 1 (.o 1 3 23 0 (ec S1 .S)))) ?_ ?_ t0 t0 t0 t0
 ·intro _ h;exact Jm (Vw (Kdy (w1 n0 .z t0)))
 intro _ h;refine Qv (Jle ?_);refine Jha 1 174 [.ref 8 0,.ref 9 0] (by rfl) ?_;refine w1 n0 S1 ?_;intro h;refine ⟨by kernel_rfl,by kernel_rfl,by kernel_rfl, ?_⟩;refine w1 n0 (.p 11 (.p 0 (ep 8 (.p 7 S1)))) ?_;intro _ _ r4 r5 h;refine Jm (Vw ?_);refine Kdw (caps:=[.ref 8 0,.ref 9 0]) kr func174 (by rfl) rfl ntmps174 (by rfl) ?_;refine Kw ((Jct 1 kr).trans (.of (j:=⟨[(0,.ref 1008 0),(1,.ref 1009 0),(14,.ref 1008 0),(15,.ref 1009 0),(63,.fn 174 [.ref 1008 0,.ref 1009 0])],[(1008,.cells ([I6 a3,I6 a1.At,Jg .frozen r4,Jg .frozen r5])),(1009,.cells ([I6 0]))],[],[]⟩) (n:=5800064) kr kr)) ?_;refine w6 n0 (.p 1 (ec s1 .s)) ?_ ?_ t0 t0 t0 t0
 ·intro _ h;cases h;exact Jgs kr kr kr
 intro _ h;cases h;exact Jgs kr kr kr⟩
def Jes(a0:Ja)(a1:(List Jy))(a2:Jd):Option (Jd×Jo) :=
 onInl (α:=(Int×Int×Int×Int×Int×(List Jb)×(List Int)×(List Int)×(List Int)×(List Int)×Int×Int×Int×Int×Int)) (β:=(Jd×Jo)) (
  bif (!(decide (a2.CutSeq=0))) then (
   (Sr a0 a2).bind fun r17=>
   some (.inl (3,r17.Id,r17.Origin,r17.End,r17.At,r17.Steps,r17.Routes,r17.Starts,r17.Ends,r17.Done,r17.Min,r17.Sent,r17.Accepted,r17.Cut,r17.CutSeq))
  ) else (
   some (.inl (2,a2.Id,a2.Origin,a2.End,a2.At,a2.Steps,a2.Routes,a2.Starts,a2.Ends,a2.Done,a2.Min,a2.Sent,a2.Accepted,a2.Cut,a2.CutSeq))
  )
 ) fun (x2,x3,x4,x5,x6,x7,x8,x9,x10,x11,x12,x13,x14,x15,x16)=>
 (Om a0 (Jd.mk x3 x4 x5 x6 x7 x8 x9 x10 x11 x12 x13 x14 x15 x16) a1 (w64 (a2.Sent+1))).bind fun r18=>
 bif (!(decide (r18.2=0))) then (
  some (a2,(Jo.mk 5 0 0 0 0 (Jz.mk 0 0 [] []) (Ki.mk 0 0 0 0 false)))
 ) else (
  some ((Jd.mk a2.Id a2.Origin a2.End a2.At a2.Steps a2.Routes a2.Starts a2.Ends a2.Done a2.Min (w64 (a2.Sent+1)) a2.Accepted a2.Cut a2.CutSeq),(Jo.mk x2 0 0 0 0 r18.1 (Ki.mk 0 0 0 0 false)))
 )
instance (a0:Ja)(a1:(List Jy))(a2:Jd):Cp (Jes a0 a1 a2) 44 [Enc.pv a0,Enc.pv a1,Enc.pv a2] (fun r=>.tup [Enc.pv r.1,Enc.pv r.2]):=⟨fun r h=>by
 unfold Jes at h;refine zG f44 ?_;refine w1 n0 S2 ?_;intro h;refine Jm ?_;refine uJ 41 (fun s (x2,x3,x4,x5,x6,x7,x8,x9,x10,x11,x12,x13,x14,x15,x16)=>⟨(8,I6 x2)::gt s [1,3,5,6,7,9],(9,.cells ([I6 x3,I6 x4,I6 x5,I6 x6,Jg .frozen x7,Jg .frozen x8,Jg .frozen x9,Jg .frozen x10,Jg .frozen x11,I6 x12,I6 x13,I6 x14,I6 x15,I6 x16]))::gh s [3,5,6,7],[],[]⟩) h ?_ ?_
 ·intro _ h;exact w1 n0 (ec (.p 2 z1) .z) t0
 rintro ⟨x2,x3,x4,x5,x6,x7,x8,x9,x10,x11,x12,x13,x14,x15,x16⟩ h;refine w1 n0 (.p 6 (ee (.c z1 S1))) ?_;intro r18 h;refine Jm (Kb ?_);refine Jjg 41 ⟨[(6,.ref 6 0),(7,.ref 7 0)],[(6,.cells ([I6 a2.Id,I6 a2.Origin,I6 a2.End,I6 a2.At,Jg .frozen a2.Steps,Jg .frozen a2.Routes,Jg .frozen a2.Starts,Jg .frozen a2.Ends,Jg .frozen a2.Done,I6 a2.Min,I6 (w64 (a2.Sent+1)),I6 a2.Accepted,I6 a2.Cut,I6 a2.CutSeq])),(7,.cells ([I6 x2,I6 0,I6 0,I6 0,I6 0,I6 r18.1.Seq,I6 r18.1.End,Jg .frozen r18.1.Profile,Jg .frozen r18.1.Links,I6 0,I6 0,I6 0,I6 0,.bool false]))],[],[]⟩ kr ?_ ?_
 ·refine Yp [0,1] 4 kr (zR 2 (Kf kr ?_));refine Lu (n:=3) [2,4] kr ⟨?_, ?_,trivial⟩
  ·exact ⟨_,rfl,(zR 1 (Kf kr (Yp [3,4,5] 0 kr (zR 3 (Kf kr (Za kr (.of kr kr)))))))⟩
  exact ⟨_,rfl,(zR 1 (Kf kr (Yp [2,3,5] 0 kr (zR 3 (Kf kr (Za kr (.of kr kr)))))))⟩
 exact w1 n0 .z t0⟩
def Zc(a0:(List Jh)):Option (List Jh) :=
 (Qd ([]:(List Jh)) a0).bind fun x1=>
 (slO x1 none (some ((a0.length:Nat):Int)) (some ((a0.length:Nat):Int))).bind fun x2=>
 some x2
instance (a0:(List Jh)):Cp (Zc a0) 100 [Enc.pv a0] Enc.pv:=⟨fun r h=>by
 unfold Zc at h;refine zG f100 ?_;refine w1 n0 X1 ?_;intro _ h1 h;refine zR 1 (Md (tk:=5) h1 kr (w1 a0 (el 2 (.l 1 .x)) ?_));intro _ h2 h;refine Kdq h2 (.own 5) kr kr (.inl ⟨rfl,rfl⟩) ?_;exact w1 n0 z1 t0⟩
def Zi(a0:(List Jc)):Option (List Jc) :=
 (Qd ([]:(List Jc)) a0).bind fun x1=>
 (slO x1 none (some ((a0.length:Nat):Int)) (some ((a0.length:Nat):Int))).bind fun x2=>
 some x2
instance (a0:(List Jc)):Cp (Zi a0) 101 [Enc.pv a0] Enc.pv:=⟨fun r h=>by
 unfold Zi at h;refine zG f101 ?_;refine w1 n0 X1 ?_;intro _ h1 h;refine zR 1 (Md (tk:=5) h1 kr (w1 a0 (el 2 (.l 1 .x)) ?_));intro _ h2 h;refine Kdq h2 (.own 5) kr kr (.inl ⟨rfl,rfl⟩) ?_;exact w1 n0 z1 t0⟩
end
end PM
