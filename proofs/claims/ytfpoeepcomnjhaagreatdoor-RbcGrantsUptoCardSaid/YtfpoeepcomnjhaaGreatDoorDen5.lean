/-
 Plain functions for the program's functions, and the proofs that the program does them. Printed by den.py.
-/
import Derived.Test.YtfpoeepcomnjhaaGreatDoorDen4
namespace PM
noncomputable section
open Go Go.RowKit Go.Proofs Go.Proofs.Tryz
attribute [local irreducible] Jy pwp
def Nr(a0:(List Jc))(a1:Int)(a2:Int):(Int×(List Jc))->Option ((Int×(List Jc))⊕((List Jc)⊕(List Jc))):=fun (x17,x18)=>
 bif decide (x17<((a0.length:Nat):Int)) then (
  onInl (α:=(List Jc)) (β:=((Int×(List Jc))⊕((List Jc)⊕(List Jc)))) (
   (ixO a0 x17).bind fun x31=>
   (Yh (Ew.mk a1 a2) x31).bind fun r32=>
   bif r32.2 then (
    (Qi x18 [r32.1]).bind fun x33=>
    some (.inl x33)
   ) else (
    some (.inl x18)
   )
  ) fun x30=>
  some (.inl (w64 (x17+1),x30))
 ) else (
  some (.inr (.inl x18))
 )
def Bj(a0:(List Jc))(a1:Int)(a2:Int):Option (List Jc) :=
 (Vu a0).bind fun r1=>
 bif (!r1) then (
  some ([]:(List Jc))
 ) else (
  onInl (Jp (Nr a0 a1 a2) (0,[])) fun x26=>
  some x26
 )
theorem Jko(a0:(List Jc))(a1:Int)(a2:Int)(r:(List Jc))(h:Bj a0 a1 a2=some r):Yx prog GlS 178 [Enc.pv a0,Enc.pv a1,Enc.pv a2] (Ji (.own 100007) r):=by
 unfold Bj at h;refine zG f178 ?_;refine w6 a0 (ep 1 (ec S1 (el 1 S1))) ?_ ?_ t0 t0 t0 t0
 ·intro _ h;exact Jo (Wz 6 100007 4 32 kr kr (w1 n0 .z t0))
 intro _ h;refine Jo (Ko (Wz 7 100007 4 32 kr kr ?_));refine uM 36 0 [17] (fun s (x17,x18)=>⟨(7,Ji (.own 100007) x18)::(17,I6 x17)::gt s [1,2,15,16],[],[(100007,(((x18).map cellsOf).length,4))],[]⟩) h ?_ ?_
 ·rintro ⟨x17,x18⟩ _ h;unfold Nr at h;refine w1 n0 (ec .s .z) ?_;intro h;refine uJ 36 (fun s x30=>⟨(7,Ji (.own 100007) x30)::gt s [1,2,15,16,17],[],[(100007,(((x30).map cellsOf).length,4))],[]⟩) h ?_ ?_
  ·intro _ h;exact w1 n0 (.i 0 (ep 4 (ee (.c (.w 3 z1) .z)))) t0
  intro x30 h;exact w1 n0 z1 t0
 intro x26 s' h hs;exact w1 n0 z1 t0
instance (a0:(List Jc))(a1:Int)(a2:Int):Cp (Bj a0 a1 a2) 178 [Enc.pv a0,Enc.pv a1,Enc.pv a2] Enc.pv:=⟨fun r h=>
 (Jko a0 a1 a2 r h).freeze kr kr kr⟩
def Er(a0:Int)(a1:Jb):Option Bool :=
 bif decide (a0=1) then (
  some true
 ) else (
  onInl (α:=Bool) (β:=Bool) (
   bif decide (a0=2) then (
    some (.inl (decide (a0=2)))
   ) else (
    some (.inl (decide (a0=3)))
   )
  ) fun x1=>
  bif x1 then (
   some (((decide (a1.In=0))&&(decide (a1.Out=1)))||((decide (a1.In=1))&&(decide (a1.Out=0))))
  ) else (
   some false
  )
 )
instance (a0:Int)(a1:Jb):Cp (Er a0 a1) 246 [Enc.pv a0,Enc.pv a1] Enc.pv:=⟨fun r h=>by
 unfold Er at h;refine zG f246 ?_;refine w1 n0 (ee (ec z1 .S)) ?_;intro h;refine uJ 29 (fun s x1=>⟨[(3,.ref 3 0),(8,.bool x1)],gh s [3],[],[]⟩) h ?_ ?_
 ·intro _ h;exact w1 n0 (ec .z z1) t0
 intro x1 h;exact w1 n0 (.c (.o 4 4 18 1 (.o 1 9 28 0 z1)) z1) t0⟩
def Fr(a0:Int):Option Bool :=
 some (!(decide (a0=a0)))
instance (a0:Int):Cp (Fr a0) 270 [Enc.pv a0] Enc.pv:=⟨fun r h=>by
 unfold Fr at h;refine zG f270 ?_;exact w1 n0 z2 t0⟩
def Zp(a0:Int)(a1:Int):Option Int :=
 (Fr a0).bind fun r1=>
 (Fr a1).bind fun r2=>
 bif r1 then (
  bif r2 then (
   some 0
  ) else (
   some (-1)
  )
 ) else (
  bif r2 then (
   some 1
  ) else (
   bif decide (a0<a1) then (
    some (-1)
   ) else (
    bif decide (a1<a0) then (
     some 1
    ) else (
     some 0
    )
   )
  )
 )
instance (a0:Int)(a1:Int):Cp (Zp a0 a1) 250 [Enc.pv a0,Enc.pv a1] Enc.pv:=⟨fun r h=>by
 unfold Zp at h;refine zG f250 ?_;exact w1 n0 (ep 1 (ep 1 (ee (.c (ec z1 z1) (ec z1 (ec z1 (ec z1 z1))))))) t0⟩
def Eu(a0:(List Int)):Int->Option (Int⊕(Unit⊕Int)):=fun x2=>
 bif decide (x2<((a0.length:Nat):Int)) then (
  (ixO a0 x2).bind fun x4=>
  bif (!(decide (x4=0))) then (
   some (.inr (.inr x4))
  ) else (
   some (.inl (w64 (x2+1)))
  )
 ) else (
  some (.inr (.inl ()))
 )
def Sf(a0:(List Int)):Option Int :=
 onInl (Jp (Eu a0) 0) fun _=>
 some 0
instance (a0:(List Int)):Cp (Sf a0) 249 [Enc.pv a0] Enc.pv:=⟨fun r h=>by
 unfold Sf at h;refine zG f249 ?_;refine w1 a0 (ee (.l 1 s1)) ?_;intro h;refine uN 18 0 [8] (fun s x2=>⟨(8,I6 x2)::gt s [3,6,7],[],[],[]⟩) h ?_ ?_
 ·intro x2 _ h;unfold Eu at h;exact w1 n0 (ec (.i 0 (ee (.c z1 z1))) .z) t0
 intro _ s' h hs;exact w1 n0 z1 t0⟩
def Ym(a0:Jd)(a1:Jd):Option Int :=
 (Zp a0.At a1.At).bind fun r1=>
 (Zp a0.Id a1.Id).bind fun r2=>
 (Sf [r1,r2]).bind fun r3=>
 some r3
instance (a0:Jd)(a1:Jd):Cp (Ym a0 a1) 248 [Enc.pv a0,Enc.pv a1] Enc.pv:=⟨fun r h=>by
 unfold Ym at h;refine zG f248 ?_;exact w1 n0 (ep 4 (.p 4 (.p 1 z1))) t0⟩
def Kx(a0:(List Jd))(a1:Int):(Int×(List Jd))->Option ((Int×(List Jd))⊕((List Jd)⊕((Int×(List Jd))⊕((List Jd)⊕(List Jd))))):=fun (x108,x109)=>
 ((bif decide (a1<x108) then (
  (Wd 0 (((a0:(List Jd)).map cellsOf).length) x108).bind fun j126=>
  (Vd x109 (((a0:(List Jd)).map cellsOf).length) j126).bind fun x127=>
  (Wd 0 (((a0:(List Jd)).map cellsOf).length) (w64 (x108 - 1))).bind fun j128=>
  (Vd x109 (((a0:(List Jd)).map cellsOf).length) j128).bind fun x129=>
  (Ym x127 x129).bind fun r130=>
  some (decide (r130<0))
 ) else some false)).bind fun b125=>
 bif b125 then (
  (Wd 0 (((a0:(List Jd)).map cellsOf).length) (w64 (x108 - 1))).bind fun j131=>
  (Vd x109 (((a0:(List Jd)).map cellsOf).length) j131).bind fun x132=>
  (Wd 0 (((a0:(List Jd)).map cellsOf).length) x108).bind fun j133=>
  (Vd x109 (((a0:(List Jd)).map cellsOf).length) j133).bind fun x134=>
  (Wd 0 (((a0:(List Jd)).map cellsOf).length) x108).bind fun j135=>
  (Vd x109 (((a0:(List Jd)).map cellsOf).length) j135).bind fun x136=>
  (Wd 0 (((a0:(List Jd)).map cellsOf).length) (w64 (x108 - 1))).bind fun j137=>
  (Vd (x109.set j135 x132) (((a0:(List Jd)).map cellsOf).length) j137).bind fun x138=>
  some (.inl (w64 (x108 - 1),((x109.set j135 x132).set j137 x134)))
 ) else (
  some (.inr (.inl x109))
 )
def Kv(a0:(List Jd))(a1:Int)(a2:Int):(Int×(List Jd))->Option ((Int×(List Jd))⊕((List Jd)⊕(List Jd))):=fun (x46,x47)=>
 bif decide (x46<a2) then (
  onInl (Jp (Kx a0 a1) (x46,x47)) fun x124=>
  some (.inl (w64 (x46+1),x124))
 ) else (
  some (.inr (.inl x47))
 )
def Kl(a0:(List Jd))(a1:Int)(a2:Int):Option (List Jd) :=
 onInl (Jp (Kv a0 a1 a2) (w64 (a1+1),a0)) fun x93=>
 some x93
theorem Uy(a0:(List Jd))(a1:Int)(a2:Int)(r:(List Jd))(h:Kl a0 a1 a2=some r):Jae prog GlS 277 2 16 (a0.map cellsOf) [Enc.pv a1,Enc.pv a2,.fn 248 []] none (r.map cellsOf):=by
 unfold Kl at h;refine Du func277 (by rfl) rfl ntmps277 (by rfl) rfl ?_;refine w1 n0 s1 ?_;intro h;refine uM 53 0 [8] (fun s (x46,x47)=>⟨(8,I6 x46)::gt s [0,1,2,3],[],gT s [1000000000],[(1000000000,(2,(16,x47.map cellsOf)))]⟩) h ?_ ?_
 ·rintro ⟨x46,x47⟩ _ h;unfold Kv at h;refine w1 n0 (ec s1 .z) ?_;intro h;refine uM 53 2 [9] (fun s (x108,x109)=>⟨(9,I6 x108)::gt s [0,1,2,3,8],[],gT s [1000000000],[(1000000000,(2,(16,x109.map cellsOf)))]⟩) h ?_ ?_
  ·rintro ⟨x108,x109⟩ _ h;unfold Kx at h;refine w1 n0 (.b 4 13 34 (.g 0 (.j 3 (.d 0 true 2 0 (.j 3 (.d 0 true 2 0 (.p 0 .z))))) .z) (ec (.j 8 (.d 0 true 2 0 (.j 2 (.d 0 true 2 0 (.j 0 .x))))) .z)) ?_;intro _ _ x132 _ x134 _ _ h132 h;refine yst 0 1000000000 x132 0 2 h132 (w1 n0 (.j 0 .x) ?_);intro _ _ h134 h;exact yst 0 1000000000 x134 0 2 h134 (w1 n0 z2 t0)
  intro x124 s' h hs;exact w1 n0 z1 t0
 intro x93 s' h hs;refine Ui ?_;cases h;exact Jlr hs kr
def Qc(a0:(List Jd))(a1:Int)(a2:Int)(a3:Int):(Int×(List Jd))->Option ((Int×(List Jd))⊕((List Jd)⊕(List Jd))):=fun (x9,x10)=>
 bif decide (x9<a3) then (
  (Wd 0 (((a0:(List Jd)).map cellsOf).length) (w64 (a2+x9))).bind fun j20=>
  (Vd x10 (((a0:(List Jd)).map cellsOf).length) j20).bind fun x21=>
  (Wd 0 (((a0:(List Jd)).map cellsOf).length) (w64 (a1+x9))).bind fun j22=>
  (Vd x10 (((a0:(List Jd)).map cellsOf).length) j22).bind fun x23=>
  (Wd 0 (((a0:(List Jd)).map cellsOf).length) (w64 (a1+x9))).bind fun j24=>
  (Vd x10 (((a0:(List Jd)).map cellsOf).length) j24).bind fun x25=>
  (Wd 0 (((a0:(List Jd)).map cellsOf).length) (w64 (a2+x9))).bind fun j26=>
  (Vd (x10.set j24 x21) (((a0:(List Jd)).map cellsOf).length) j26).bind fun x27=>
  some (.inl (w64 (x9+1),((x10.set j24 x21).set j26 x23)))
 ) else (
  some (.inr (.inl x10))
 )
def Ki(a0:(List Jd))(a1:Int)(a2:Int)(a3:Int):Option (List Jd) :=
 onInl (Jp (Qc a0 a1 a2 a3) (0,a0)) fun x19=>
 some x19
theorem Uc(a0:(List Jd))(a1:Int)(a2:Int)(a3:Int)(r:(List Jd))(h:Ki a0 a1 a2 a3=some r):Jae prog GlS 280 2 16 (a0.map cellsOf) [Enc.pv a1,Enc.pv a2,Enc.pv a3,.fn 248 []] none (r.map cellsOf):=by
 unfold Ki at h;refine Du func280 (by rfl) rfl ntmps280 (by rfl) rfl ?_;refine w1 n0 s1 ?_;intro h;refine uM 38 0 [10] (fun s (x9,x10)=>⟨(10,I6 x9)::gt s [0,1,2,3],[],gT s [1000000000],[(1000000000,(2,(16,x10.map cellsOf)))]⟩) h ?_ ?_
 ·rintro ⟨x9,x10⟩ _ h;unfold Qc at h;refine w1 n0 (ec (.j 12 (.d 0 true 2 0 (.j 4 (.d 0 true 2 0 (.j 0 .x))))) .z) ?_;intro _ x21 _ x23 _ _ h24 h;refine yst 0 1000000000 x21 0 2 h24 (w1 n0 (.j 0 .x) ?_);intro _ _ h26 h;exact yst 0 1000000000 x23 0 2 h26 (w1 n0 z2 t0)
 intro x19 s' h hs;refine Ui ?_;cases h;exact Jlr hs kr
def Qo(a2:Int):(Int×(List Jd)×Int)->Option ((Int×(List Jd)×Int)⊕(((List Jd)×Int)⊕(List Jd))):=fun (x3,x4,x5)=>
 bif (!(decide (x3=x5))) then (
  bif decide (x5<x3) then (
   (Ki x4 (w64 (a2 - x3)) a2 x5).bind fun r10=>
   some (.inl (w64 (x3 - x5),r10,x5))
  ) else (
   (Ki x4 (w64 (a2 - x3)) (w64 ((w64 (a2+x5)) - x3)) x3).bind fun r11=>
   some (.inl (x3,r11,w64 (x5 - x3)))
  )
 ) else (
  some (.inr (.inl (x4,x3)))
 )
def Kq(a0:(List Jd))(a1:Int)(a2:Int)(a3:Int):Option (List Jd) :=
 onInl (Jp (Qo a2) (w64 (a2 - a1),a0,w64 (a3 - a2))) fun (x8,x9)=>
 (Ki x8 (w64 (a2 - x9)) a2 x9).bind fun r12=>
 some r12
theorem Bp(a0:(List Jd))(a1:Int)(a2:Int)(a3:Int)(r:(List Jd))(h:Kq a0 a1 a2 a3=some r):Jae prog GlS 279 2 16 (a0.map cellsOf) [Enc.pv a1,Enc.pv a2,Enc.pv a3,.fn 248 []] none (r.map cellsOf):=by
 unfold Kq at h;refine Du func279 (by rfl) rfl ntmps279 (by rfl) rfl ?_;refine w1 n0 s2 ?_;intro h;refine uL 58 0 (fun s (x3,x4,x5)=>⟨(10,I6 x3)::(11,I6 x5)::gt s [0,2,4],[],gT s [1000000000],[(1000000000,(2,(16,x4.map cellsOf)))]⟩) (fun s (x8,x9)=>⟨(10,I6 x9)::gt s [0,2,4],[],gT s [1000000000],[(1000000000,(2,(16,x8.map cellsOf)))]⟩) h ?_ ?_
 ·rintro ⟨x3,x4,x5⟩ _ h;unfold Qo at h;refine w6 n0 (ec (ec .x .x) .z) ?_ ?_ t0 t0 t0 t0
  ·intro r10 h7 h;exact zR 7 (Ly (t:=1000000000) (L:=x4) (L':=r10) (N:=(a0.map cellsOf).length) kr kr kr (Uc _ _ _ _ r10 h7) (w1 n0 z2 t0))
  intro r11 h8 h;exact zR 11 (Ly (t:=1000000000) (L:=x4) (L':=r11) (N:=(a0.map cellsOf).length) kr kr kr (Uc _ _ _ _ r11 h8) (w1 n0 z2 t0))
 rintro ⟨x8,x9⟩ s' h hs;obtain ⟨r12,h9,h⟩:=Ve h;refine Ui (Jo (Qk hs (Wp (zR 7 (Ly (t:=1000000000) (L:=x8) (L':=r12) (N:=(a0.map cellsOf).length) kr kr kr (Uc _ _ _ _ r12 h9) (w1 n0 s1 ?_))))));intro h;cases h;exact Jco kr
def Qy(a0:(List Jd))(a1:Int):(Int×Int)->Option ((Int×Int)⊕(Int⊕(List Jd))):=fun (x6,x7)=>
 bif decide (x6<x7) then (
  (Wd 0 (((a0:(List Jd)).map cellsOf).length) (w64 ((IntKind.u64.wrap (w64 (x6+x7))).fdiv 2))).bind fun j14=>
  (Vd a0 (((a0:(List Jd)).map cellsOf).length) j14).bind fun x15=>
  (Wd 0 (((a0:(List Jd)).map cellsOf).length) a1).bind fun j16=>
  (Vd a0 (((a0:(List Jd)).map cellsOf).length) j16).bind fun x17=>
  (Ym x15 x17).bind fun r18=>
  bif decide (r18<0) then (
   some (.inl (w64 ((w64 ((IntKind.u64.wrap (w64 (x6+x7))).fdiv 2))+1),x7))
  ) else (
   some (.inl (x6,w64 ((IntKind.u64.wrap (w64 (x6+x7))).fdiv 2)))
  )
 ) else (
  some (.inr (.inl x6))
 )
def Ub(a0:(List Jd))(x13:Int):(Int×(List Jd))->Option ((Int×(List Jd))⊕((List Jd)⊕(List Jd))):=fun (x27,x28)=>
 bif decide (x27<(w64 (x13 - 1))) then (
  (Wd 0 (((a0:(List Jd)).map cellsOf).length) (w64 (x27+1))).bind fun j38=>
  (Vd x28 (((a0:(List Jd)).map cellsOf).length) j38).bind fun x39=>
  (Wd 0 (((a0:(List Jd)).map cellsOf).length) x27).bind fun j40=>
  (Vd x28 (((a0:(List Jd)).map cellsOf).length) j40).bind fun x41=>
  (Wd 0 (((a0:(List Jd)).map cellsOf).length) x27).bind fun j42=>
  (Vd x28 (((a0:(List Jd)).map cellsOf).length) j42).bind fun x43=>
  (Wd 0 (((a0:(List Jd)).map cellsOf).length) (w64 (x27+1))).bind fun j44=>
  (Vd (x28.set j42 x39) (((a0:(List Jd)).map cellsOf).length) j44).bind fun x45=>
  some (.inl (w64 (x27+1),((x28.set j42 x39).set j44 x41)))
 ) else (
  some (.inr (.inl x28))
 )
def Ua(a0:(List Jd))(a2:Int):(Int×Int)->Option ((Int×Int)⊕(Int⊕(List Jd))):=fun (x51,x52)=>
 bif decide (x51<x52) then (
  (Wd 0 (((a0:(List Jd)).map cellsOf).length) a2).bind fun j59=>
  (Vd a0 (((a0:(List Jd)).map cellsOf).length) j59).bind fun x60=>
  (Wd 0 (((a0:(List Jd)).map cellsOf).length) (w64 ((IntKind.u64.wrap (w64 (x51+x52))).fdiv 2))).bind fun j61=>
  (Vd a0 (((a0:(List Jd)).map cellsOf).length) j61).bind fun x62=>
  (Ym x60 x62).bind fun r63=>
  bif (!(decide (r63<0))) then (
   some (.inl (w64 ((w64 ((IntKind.u64.wrap (w64 (x51+x52))).fdiv 2))+1),x52))
  ) else (
   some (.inl (x51,w64 ((IntKind.u64.wrap (w64 (x51+x52))).fdiv 2)))
  )
 ) else (
  some (.inr (.inl x51))
 )
def Qz(a0:(List Jd))(x58:Int):(Int×(List Jd))->Option ((Int×(List Jd))⊕((List Jd)⊕(List Jd))):=fun (x72,x73)=>
 bif decide (x58<x72) then (
  (Wd 0 (((a0:(List Jd)).map cellsOf).length) (w64 (x72 - 1))).bind fun j83=>
  (Vd x73 (((a0:(List Jd)).map cellsOf).length) j83).bind fun x84=>
  (Wd 0 (((a0:(List Jd)).map cellsOf).length) x72).bind fun j85=>
  (Vd x73 (((a0:(List Jd)).map cellsOf).length) j85).bind fun x86=>
  (Wd 0 (((a0:(List Jd)).map cellsOf).length) x72).bind fun j87=>
  (Vd x73 (((a0:(List Jd)).map cellsOf).length) j87).bind fun x88=>
  (Wd 0 (((a0:(List Jd)).map cellsOf).length) (w64 (x72 - 1))).bind fun j89=>
  (Vd (x73.set j87 x84) (((a0:(List Jd)).map cellsOf).length) j89).bind fun x90=>
  some (.inl (w64 (x72 - 1),((x73.set j87 x84).set j89 x86)))
 ) else (
  some (.inr (.inl x73))
 )
def Kw(a0:(List Jd))(a1:Int)(a2:Int)(a3:Int):(Int×Int)->Option ((Int×Int)⊕(Int⊕(List Jd))):=fun (x98,x99)=>
 bif decide (x98<x99) then (
  (Wd 0 (((a0:(List Jd)).map cellsOf).length) (w64 ((w64 ((w64 ((w64 ((IntKind.u64.wrap (w64 (a1+a3))).fdiv 2))+a2)) - 1)) - (w64 ((IntKind.u64.wrap (w64 (x98+x99))).fdiv 2))))).bind fun j106=>
  (Vd a0 (((a0:(List Jd)).map cellsOf).length) j106).bind fun x107=>
  (Wd 0 (((a0:(List Jd)).map cellsOf).length) (w64 ((IntKind.u64.wrap (w64 (x98+x99))).fdiv 2))).bind fun j108=>
  (Vd a0 (((a0:(List Jd)).map cellsOf).length) j108).bind fun x109=>
  (Ym x107 x109).bind fun r110=>
  bif (!(decide (r110<0))) then (
   some (.inl (w64 ((w64 ((IntKind.u64.wrap (w64 (x98+x99))).fdiv 2))+1),x99))
  ) else (
   some (.inl (x98,w64 ((IntKind.u64.wrap (w64 (x98+x99))).fdiv 2)))
  )
 ) else (
  some (.inr (.inl x98))
 )
def Ju(rc_d_slices_symMergeCmpFunc_api_Linked__linking_Of_c1:(List Jd)->Int->Int->Int->Option (List Jd))(a0:(List Jd))(a1:Int)(a2:Int)(a3:Int):Option (List Jd) :=
 bif decide ((w64 (a2 - a1))=1) then (
  onInl (Jp (Qy a0 a1) (a2,a3)) fun x13=>
  onInl (Jp (Ub a0 x13) (a1,a0)) fun x37=>
  some x37
 ) else (
  bif decide ((w64 (a3 - a2))=1) then (
   onInl (Jp (Ua a0 a2) (a1,a2)) fun x58=>
   onInl (Jp (Qz a0 x58) (a2,a0)) fun x82=>
   some x82
  ) else (
   onInl (α:=(Int×Int)) (β:=(List Jd)) (
    bif decide ((w64 ((IntKind.u64.wrap (w64 (a1+a3))).fdiv 2))<a2) then (
     some (.inl (w64 ((w64 ((w64 ((IntKind.u64.wrap (w64 (a1+a3))).fdiv 2))+a2)) - a3),w64 ((IntKind.u64.wrap (w64 (a1+a3))).fdiv 2)))
    ) else (
     some (.inl (a1,a2))
    )
   ) fun (x91,x92)=>
   onInl (Jp (Kw a0 a1 a2 a3) (x91,x92)) fun x105=>
   onInl (α:=(List Jd)) (β:=(List Jd)) (
    bif ((decide (x105<a2))&&(decide (a2<(w64 ((w64 ((w64 ((IntKind.u64.wrap (w64 (a1+a3))).fdiv 2))+a2)) - x105))))) then (
     (Kq a0 x105 a2 (w64 ((w64 ((w64 ((IntKind.u64.wrap (w64 (a1+a3))).fdiv 2))+a2)) - x105))).bind fun r113=>
     some (.inl r113)
    ) else (
     some (.inl a0)
    )
   ) fun x112=>
   onInl (α:=(List Jd)) (β:=(List Jd)) (
    bif ((decide (a1<x105))&&(decide (x105<(w64 ((IntKind.u64.wrap (w64 (a1+a3))).fdiv 2))))) then (
     (rc_d_slices_symMergeCmpFunc_api_Linked__linking_Of_c1 x112 a1 x105 (w64 ((IntKind.u64.wrap (w64 (a1+a3))).fdiv 2))).bind fun r116=>
     some (.inl r116)
    ) else (
     some (.inl x112)
    )
   ) fun x115=>
   bif ((decide ((w64 ((IntKind.u64.wrap (w64 (a1+a3))).fdiv 2))<(w64 ((w64 ((w64 ((IntKind.u64.wrap (w64 (a1+a3))).fdiv 2))+a2)) - x105))))&&(decide ((w64 ((w64 ((w64 ((IntKind.u64.wrap (w64 (a1+a3))).fdiv 2))+a2)) - x105))<a3))) then (
    (rc_d_slices_symMergeCmpFunc_api_Linked__linking_Of_c1 x115 (w64 ((IntKind.u64.wrap (w64 (a1+a3))).fdiv 2)) (w64 ((w64 ((w64 ((IntKind.u64.wrap (w64 (a1+a3))).fdiv 2))+a2)) - x105)) a3).bind fun r117=>
    some r117
   ) else (
    some x115
   )
  )
 )
theorem Vg(rc_d_slices_symMergeCmpFunc_api_Linked__linking_Of_c1:(List Jd)->Int->Int->Int->Option (List Jd))(hrc_d_slices_symMergeCmpFunc_api_Linked__linking_Of_c1:∀ (a0:(List Jd)) (a1:Int) (a2:Int) (a3:Int) (r:(List Jd)),rc_d_slices_symMergeCmpFunc_api_Linked__linking_Of_c1 a0 a1 a2 a3=some r->Jae prog GlS 278 2 16 (a0.map cellsOf) [Enc.pv a1,Enc.pv a2,Enc.pv a3,.fn 248 []] none (r.map cellsOf))(a0:(List Jd))(a1:Int)(a2:Int)(a3:Int)(r:(List Jd))(h:Ju rc_d_slices_symMergeCmpFunc_api_Linked__linking_Of_c1 a0 a1 a2 a3=some r):Jae prog GlS 278 2 16 (a0.map cellsOf) [Enc.pv a1,Enc.pv a2,Enc.pv a3,.fn 248 []] none (r.map cellsOf):=by
 unfold Ju at h;refine Du func278 (by rfl) rfl ntmps278 (by rfl) rfl ?_;refine w6 n0 (ec s2 (ec s2 (ee S1))) ?_ ?_ ?_ t0 t0 t0
 ·intro h;refine uL 220 0 (fun s (x6,x7)=>⟨(10,I6 x6)::(11,I6 x7)::gt s [0,1,4],[],gT s [1000000000],gX s [1000000000]⟩) (fun s x13=>⟨(10,I6 x13)::gt s [0,1],[],gT s [1000000000],gX s [1000000000]⟩) h ?_ ?_
  ·rintro ⟨x6,x7⟩ _ h;unfold Qy at h;exact w1 n0 (ec (.e (.j 3 (.d 0 true 2 0 (.j 2 (.d 0 true 2 0 (.p 0 (ec z1 z1))))))) .z) t0
  intro x13 s' h hs;refine w1 n0 s1 ?_;intro h;refine uM 220 2 [13] (fun s (x27,x28)=>⟨(13,I6 x27)::gt s [0,10],[],gT s [1000000000],[(1000000000,(2,(16,x28.map cellsOf)))]⟩) h ?_ ?_
  ·rintro ⟨x27,x28⟩ _ h;unfold Ub at h;refine w1 n0 (ec (.j 8 (.d 0 true 2 0 (.j 2 (.d 0 true 2 0 (.j 0 .x))))) .z) ?_;intro _ x39 _ x41 _ _ h41 h;refine yst 0 1000000000 x39 0 2 h41 (w1 n0 (.j 0 .x) ?_);intro _ _ h43 h;exact yst 0 1000000000 x41 0 2 h43 (w1 n0 z2 t0)
  intro x37 s' h hs;refine Ui (Jo (Qk hs (Wg (Zk ?_))));cases h;exact Jco kr
 ·intro h;refine uL 220 4 (fun s (x51,x52)=>⟨(14,I6 x51)::(15,I6 x52)::gt s [0,2,4],[],gT s [1000000000],gX s [1000000000]⟩) (fun s x58=>⟨(14,I6 x58)::gt s [0,2],[],gT s [1000000000],gX s [1000000000]⟩) h ?_ ?_
  ·rintro ⟨x51,x52⟩ _ h;unfold Ua at h;exact w1 n0 (ec (.e (.j 3 (.d 0 true 2 0 (.j 2 (.d 0 true 2 0 (.p 0 (ec z1 z1))))))) .z) t0
  intro x58 s' h hs;refine w1 n0 s1 ?_;intro h;refine uM 220 6 [17] (fun s (x72,x73)=>⟨(17,I6 x72)::gt s [0,14],[],gT s [1000000000],[(1000000000,(2,(16,x73.map cellsOf)))]⟩) h ?_ ?_
  ·rintro ⟨x72,x73⟩ _ h;unfold Qz at h;refine w1 n0 (ec (.j 8 (.d 0 true 2 0 (.j 2 (.d 0 true 2 0 (.j 0 .x))))) .z) ?_;intro _ x84 _ x86 _ _ h84 h;refine yst 0 1000000000 x84 0 2 h84 (w1 n0 (.j 0 .x) ?_);intro _ _ h86 h;exact yst 0 1000000000 x86 0 2 h86 (w1 n0 z2 t0)
  intro x82 s' h hs;refine Ui (Jo (Qk hs (Wg (Zk ?_))));cases h;exact Jco kr
 intro h;refine Jo ?_;refine uJ 220 (fun s (x91,x92)=>⟨(20,I6 x91)::(21,I6 x92)::gt s [0,1,2,3,4,18,19],[],gT s [1000000000],gX s [1000000000]⟩) h ?_ ?_
 ·intro _ h;exact w1 n0 (ec z2 z2) t0
 rintro ⟨x91,x92⟩ h;refine w1 n0 s1 ?_;intro h;refine uL 220 8 (fun s (x98,x99)=>⟨(20,I6 x98)::(21,I6 x99)::gt s [0,1,2,3,4,18,19,22],[],gT s [1000000000],gX s [1000000000]⟩) (fun s x105=>⟨(20,I6 x105)::gt s [0,1,2,3,4,18,19],[],gT s [1000000000],gX s [1000000000]⟩) h ?_ ?_
 ·rintro ⟨x98,x99⟩ _ h;unfold Kw at h;exact w1 n0 (ec (.e (.j 5 (.d 0 true 2 0 (.j 2 (.d 0 true 2 0 (.p 0 (ec z1 z1))))))) .z) t0
 intro x105 s' h hs;refine w1 n0 S1 ?_;intro h;refine Jo ?_;refine uJ 220 (fun s x112=>⟨gt s [0,1,3,4,18,20,24],[],gT s [1000000000],[(1000000000,(2,(16,x112.map cellsOf)))]⟩) h ?_ ?_
 ·intro _ h;refine w1 n0 (.o 4 4 185 0 (ec .x .z)) ?_;intro r113 h107 h;exact zR 5 (Ly (t:=1000000000) (L:=a0) (L':=r113) (N:=(a0.map cellsOf).length) kr kr kr (Bp _ _ _ _ r113 h107) (w1 n0 z1 t0))
 intro x112 h;refine uJ 220 (fun s x115=>⟨gt s [0,3,4,18,24],[],gT s [1000000000],[(1000000000,(2,(16,x115.map cellsOf)))]⟩) h ?_ ?_
 ·intro _ h;refine w1 n0 (.o 4 4 199 0 (ec .x .z)) ?_;intro r116 h110 h;exact zR 5 (Ly (t:=1000000000) (L:=x112) (L':=r116) (N:=(a0.map cellsOf).length) kr kr kr (hrc_d_slices_symMergeCmpFunc_api_Linked__linking_Of_c1 _ _ _ _ r116 h110) (w1 n0 z1 t0))
 intro x115 h;refine w6 n0 (.o 4 4 213 0 (ec .x .s)) ?_ ?_ t0 t0 t0 t0
 ·intro r117 h111 h;refine zR 5 (Ly (t:=1000000000) (L:=x115) (L':=r117) (N:=(a0.map cellsOf).length) kr kr kr (hrc_d_slices_symMergeCmpFunc_api_Linked__linking_Of_c1 _ _ _ _ r117 h111) (w1 n0 s1 ?_));intro h;cases h;exact Jco kr
 intro h;cases h;exact Jco kr
def Ke(n:Nat):(List Jd)->Int->Int->Int->Option (List Jd):=Nat.rec (fun _ _ _ _=>none) (fun _ ih=>Ju ih) n
theorem Vf : ∀ (n:Nat) (a0:(List Jd)) (a1:Int) (a2:Int) (a3:Int) (r:(List Jd)),Ke n a0 a1 a2 a3=some r->Jae prog GlS 278 2 16 (a0.map cellsOf) [Enc.pv a1,Enc.pv a2,Enc.pv a3,.fn 248 []] none (r.map cellsOf)
 | 0,_,_,_,_,_,h=>by cases h
 | n+1,a0,a1,a2,a3,r,h=>Vg (Ke n) (Vf n) a0 a1 a2 a3 r h
def Qg(a0:(List Jd))(a1:Int)(a2:Int)(a3:Int):Option (List Jd):=Ju (Ke Tm) a0 a1 a2 a3
theorem Vl(a0:(List Jd))(a1:Int)(a2:Int)(a3:Int)(r:(List Jd))(h:Qg a0 a1 a2 a3=some r):Jae prog GlS 278 2 16 (a0.map cellsOf) [Enc.pv a1,Enc.pv a2,Enc.pv a3,.fn 248 []] none (r.map cellsOf):=Vg (Ke Tm) (Vf Tm) a0 a1 a2 a3 r h
def Qm(a1:Int):(Int×Int×(List Jd))->Option ((Int×Int×(List Jd))⊕(((List Jd)×Int)⊕(List Jd))):=fun (x2,x3,x4)=>
 bif decide (x3<=a1) then (
  (Kl x4 x2 x3).bind fun r8=>
  some (.inl (x3,w64 (x3+20),r8))
 ) else (
  some (.inr (.inl (x4,x2)))
 )
def Wm(a1:Int)(x21:Int):(Int×Int×(List Jd))->Option ((Int×Int×(List Jd))⊕(((List Jd)×Int)⊕((Int×(List Jd))⊕((List Jd)⊕(List Jd))))):=fun (x36,x37,x38)=>
 bif decide (x37<=a1) then (
  (Qg x38 x36 (w64 (x36+x21)) x37).bind fun r42=>
  some (.inl (x37,w64 (x37+(w64 (2 * x21))),r42))
 ) else (
  some (.inr (.inl (x38,x36)))
 )
def Qn(a1:Int):(Int×(List Jd))->Option ((Int×(List Jd))⊕((List Jd)⊕(List Jd))):=fun (x21,x22)=>
 bif decide (x21<a1) then (
  onInl (Jp (Wm a1 x21) (0,w64 (2 * x21),x22)) fun (x40,x41)=>
  onInl (α:=(List Jd)) (β:=((Int×(List Jd))⊕((List Jd)⊕(List Jd)))) (
   bif decide ((w64 (x41+x21))<a1) then (
    (Qg x40 x41 (w64 (x41+x21)) a1).bind fun r45=>
    some (.inl r45)
   ) else (
    some (.inl x40)
   )
  ) fun x44=>
  some (.inl (w64 (x21 * 2),x44))
 ) else (
  some (.inr (.inl x22))
 )
def Qq(a0:(List Jd))(a1:Int):Option (List Jd) :=
 onInl (Jp (Qm a1) (0,20,a0)) fun (x6,x7)=>
 (Kl x6 x7 a1).bind fun r9=>
 onInl (Jp (Qn a1) (20,r9)) fun x34=>
 some x34
theorem Bn(a0:(List Jd))(a1:Int)(r:(List Jd))(h:Qq a0 a1=some r):Jae prog GlS 274 2 16 (a0.map cellsOf) [Enc.pv a1,.fn 248 []] none (r.map cellsOf):=by
 unfold Qq at h;refine Du func274 (by rfl) rfl ntmps274 (by rfl) rfl ?_;refine w1 n0 s2 ?_;intro h;refine uL 63 0 (fun s (x2,x3,x4)=>⟨(7,I6 x2)::(8,I6 x3)::gt s [0,1,2,6],[],gT s [1000000000],[(1000000000,(2,(16,x4.map cellsOf)))]⟩) (fun s (x6,x7)=>⟨(7,I6 x7)::gt s [0,1,2,6],[],gT s [1000000000],[(1000000000,(2,(16,x6.map cellsOf)))]⟩) h ?_ ?_
 ·rintro ⟨x2,x3,x4⟩ _ h;unfold Qm at h;refine w1 n0 (ec .x .z) ?_;intro r8 h5 h;exact zR 4 (Ly (t:=1000000000) (L:=x4) (L':=r8) (N:=(a0.map cellsOf).length) kr kr kr (Uy _ _ _ r8 h5) (w1 n0 (ee z1) t0))
 rintro ⟨x6,x7⟩ s' h hs;obtain ⟨r9,h6,h⟩:=Ve h;refine Ui (Jo (Qk hs (Kj (Wp (zR 4 (Ly (t:=1000000000) (L:=x6) (L':=r9) (N:=(a0.map cellsOf).length) kr kr kr (Uy _ _ _ r9 h6) (w1 n0 s1 ?_)))))));intro h;refine uM 63 2 [6] (fun s (x21,x22)=>⟨(6,I6 x21)::gt s [0,1,2],[],gT s [1000000000],[(1000000000,(2,(16,x22.map cellsOf)))]⟩) h ?_ ?_
 ·rintro ⟨x21,x22⟩ _ h;unfold Qn at h;refine w1 n0 (ec s1 .z) ?_;intro h;refine uL 63 4 (fun s (x36,x37,x38)=>⟨(7,I6 x36)::(8,I6 x37)::gt s [0,1,2,6],[],gT s [1000000000],[(1000000000,(2,(16,x38.map cellsOf)))]⟩) (fun s (x40,x41)=>⟨(7,I6 x41)::gt s [0,1,2,6],[],gT s [1000000000],[(1000000000,(2,(16,x40.map cellsOf)))]⟩) h ?_ ?_
  ·rintro ⟨x36,x37,x38⟩ _ h;unfold Wm at h;refine w1 n0 (ec .x .z) ?_;intro r42 h29 h;exact zR 7 (Ly (t:=1000000000) (L:=x38) (L':=r42) (N:=(a0.map cellsOf).length) kr kr kr (Vl _ _ _ _ r42 h29) (w1 n0 (ee z1) t0))
  rintro ⟨x40,x41⟩ s' h hs;refine Ui (Jo (Qk hs ?_));refine uJ 63 (fun s x44=>⟨gt s [0,1,2,6],[],gT s [1000000000],[(1000000000,(2,(16,x44.map cellsOf)))]⟩) h ?_ ?_
  ·intro _ h;refine w1 n0 (ee (.c .x .z)) ?_;intro r45 h32 h;exact zR 5 (Ly (t:=1000000000) (L:=x40) (L':=r45) (N:=(a0.map cellsOf).length) kr kr kr (Vl _ _ _ _ r45 h32) (w1 n0 z1 t0))
  intro x44 h;exact w1 n0 z1 t0
 intro x34 s' h hs;refine Ui ?_;cases h;exact Jlr hs kr
def Ku(a0:(List Jd)):Option (List Jd) :=
 (Qq a0 ((((a0:(List Jd)).map cellsOf).length:Nat):Int)).bind fun r1=>
 some r1
theorem Ba(a0:(List Jd))(r:(List Jd))(h:Ku a0=some r):Jae prog GlS 247 2 16 (a0.map cellsOf) [.fn 248 []] none (r.map cellsOf):=by
 unfold Ku at h;refine Du func247 (by rfl) rfl ntmps247 (by rfl) rfl ?_;obtain ⟨r1,h1,h⟩:=Ve h;refine Wp (zR 4 (Ly (t:=1000000000) (L:=a0) (L':=r1) (N:=(a0.map cellsOf).length) kr kr kr (Bn _ _ r1 h1) (w1 n0 s1 ?_)));intro h;cases h;exact Jco kr
def Ek(a3:Int)(x132:Int)(x134:(List (Int×(List Jk))))(x192:Jb)(x194:Jt):(Int×(List Jd))->Option ((Int×(List Jd))⊕((List Jd)⊕(((List Jd)×(List (Int×(List Jk))))⊕((Int×Int×(List (Int×(List Jk)))×(List Jd))⊕((List Jd)⊕(List Jd)))))):=fun (x230,x231)=>
 bif decide (x230<((((Ye (x134:(List (Int×(List Jk)))) x192.El).getD ([]:(List Jk))).length:Nat):Int)) then (
  onInl (α:=(List Jd)) (β:=((Int×(List Jd))⊕((List Jd)⊕(((List Jd)×(List (Int×(List Jk))))⊕((Int×Int×(List (Int×(List Jk)))×(List Jd))⊕((List Jd)⊕(List Jd))))))) (
   (ixO ((Ye (x134:(List (Int×(List Jk)))) x192.El).getD ([]:(List Jk))) x230).bind fun x244=>
   onInl (α:=Int) (β:=((List Jd)⊕((Int×(List Jd))⊕((List Jd)⊕(((List Jd)×(List (Int×(List Jk))))⊕((Int×Int×(List (Int×(List Jk)))×(List Jd))⊕((List Jd)⊕(List Jd)))))))) (
    bif decide (x192.In=1) then (
     some (.inl (w64 ((w64 (x132+x194.Length)) - x244.Offset)))
    ) else (
     some (.inl (w64 (x132+x244.Offset)))
    )
   ) fun x245=>
   bif decide (x245<=a3) then (
    (Qi x231 [(Jd.mk x244.Id x245)]).bind fun x246=>
    some (.inl x246)
   ) else (
    some (.inl x231)
   )
  ) fun x243=>
  some (.inl (w64 (x230+1),x243))
 ) else (
  some (.inr (.inl x231))
 )
def Il(a0:Ja)(a1:(List Jb))(a3:Int):(Int×Int×(List (Int×(List Jk)))×(List Jd))->Option ((Int×Int×(List (Int×(List Jk)))×(List Jd))⊕((List Jd)⊕(List Jd))):=fun (x132,x133,x134,x135)=>
 bif decide (x133<((a1.length:Nat):Int)) then (
  (ixO a1 x133).bind fun x192=>
  ((bif decide (x192.El<0) then some true else (
   some (decide (((a0.Elements.length:Nat):Int)<=x192.El))
  ))).bind fun b193=>
  bif b193 then (
   some (.inr (.inr ([]:(List Jd))))
  ) else (
   (ixO a0.Elements x192.El).bind fun x194=>
   onInl (α:=((List Jd)×(List (Int×(List Jk))))) (β:=((Int×Int×(List (Int×(List Jk)))×(List Jd))⊕((List Jd)⊕(List Jd)))) (
    (Er x194.Kind x192).bind fun r222=>
    bif r222 then (
     onInl (α:=(List Jd)) (β:=(((List Jd)×(List (Int×(List Jk))))⊕((Int×Int×(List (Int×(List Jk)))×(List Jd))⊕((List Jd)⊕(List Jd))))) (Jp (Ek a3 x132 x134 x192 x194) (0,x135)) fun x239=>
     some (.inl (x239,(Jpz x192.El x134)))
    ) else (
     some (.inl (x135,x134))
    )
   ) fun (x220,x221)=>
   some (.inl (w64 (x132+x194.Length),w64 (x133+1),x221,x220))
  )
 ) else (
  some (.inr (.inl x135))
 )
def Bb(a0:Ja)(a1:(List Jb))(a2:Int)(a3:Int):Option (List Jd) :=
 (Dq a0 a1).bind fun r1=>
 bif (!r1) then (
  some ([]:(List Jd))
 ) else (
  (Jpn (fun (x:Jk)=>x.El) a0.Balises).bind fun m2=>
  onInl (Jp (Il a0 a1 a3) (a2,0,m2,[])) fun x191=>
  (Ku x191).bind fun r247=>
  some r247
 )
instance (a0:Ja)(a1:(List Jb))(a2:Int)(a3:Int):Cp (Bb a0 a1 a2 a3) 179 [Enc.pv a0,Enc.pv a1,Enc.pv a2,Enc.pv a3] Enc.pv:=⟨fun r h=>by
 unfold Bb at h;refine zG f179 ?_;refine w1 a0.Balises (ep 2 (ec z1 (el 2 S1))) ?_;intro _ h;obtain ⟨m2,h2,h⟩:=Ve h;refine Jo (Ko ?_);obtain ⟨em2,hz,hz2⟩:=Jw0 h2;refine Kih (κ:=Int) (ν:=Jk) a0.Balises (fun (x:Jk)=>x.El) 0 (fun (i:Nat) (m:List (Int×List Jk))=>Jfn ⟨[(1,Ji .frozen a1),(2,I6 a2),(3,I6 a3),(4,.ref 4 0),(9,.mp 24),(26,Ji .frozen a0.Balises),(27,I6 ((a0.Balises.length:Nat):Int)),(28,I6 ((i:Nat):Int))],[(4,.cells (cellsOf a0))],[],[]⟩ 116 24 (.mapo (esO m) (Enc.k Jk) (Enc.b Jk) Vr) (Jby m)) (fun (m:List (Int×List Jk))=>((⟨[(1,Ji .frozen a1),(2,I6 a2),(3,I6 a3),(4,.ref 4 0),(9,.mp 24)],(24,.map (Zj m))::[(4,.cells (cellsOf a0))],[],[]⟩:JS).st 116)) ?_ ?_ ?_ ?_
 ·exact Kic 24 kr kr (by decide) kr
 ·intro i x hx;have hi:=Qs hx;refine w1 n0 S1 ?_;intro h;refine Jo (Kj (Jb3 (b:=decide (((i:Nat):Int)<((a0.Balises.length:Nat):Int))) (decide_eq_true oG) kr (Vb (Jo (Kj (Ko (Kj (Wp (p_ix (Vc hx) kr (w1 n0 S1 ?_))))))))));intro h;refine Jo (Kex kr kr (zR 6 (Kma (m:=(grp (fun (x:Jk)=>x.El) (a0.Balises.take i))) (k:=x.El) (tk:=Vr) 24 kr kr ?_)));cases hf:Cq x.El (grp (fun (x:Jk)=>x.El) (a0.Balises.take i)) with
  | none=>
  refine zR 2 ?_;refine Cr (α:=Jk) (tk:=41) (L:=([]:List Jk)) (ys:=[x]) (M:=[x]) (Ka6 (n:=a0.Balises.length) (by simp; omega) hz) kr ?_;refine Kg2 (m:=(grp (fun (x:Jk)=>x.El) (a0.Balises.take i))) (k:=x.El) (M:=[x]) (tk:=Vr) 41 24 kr kr (zN ?_);refine Jhg (Jo (Qk (Kh3 (j:=⟨[(1,Ji .frozen a1),(2,I6 a2),(3,I6 a3),(4,.ref 4 0),(9,.mp 24),(26,Ji .frozen a0.Balises),(27,I6 ((a0.Balises.length:Nat):Int)),(28,I6 ((i:Nat):Int))],[(4,.cells (cellsOf a0))],[],[]⟩) (n:=116) 24 41 (fk:=(fun (x:Jk)=>x.El)) (x:=x) (m:=(grp (fun (x:Jk)=>x.El) (a0.Balises.take i))) (by decide) hf kr kr (by have h1:=Kab (fun (x:Jk)=>x.El) (a0.Balises.take i); simp only [aT] at h1; omega) kr kr) ?_));refine Wp (zE ⟨rfl, ?_⟩);have hw:((i+1:Nat):Int)=w64 ((i:Int)+1):=(Zi oG).symm;show Wkr _ (Jfn ⟨[(1,Ji .frozen (a1:(List Jb))),(2,I6 a2),(3,I6 a3),(4,.ref 4 0),(9,.mp 24),(26,Ji .frozen (a0.Balises:(List Jk))),(27,I6 ((a0.Balises.length:Nat):Int)),(28,I6 ((i+1:Nat):Int))],[(4,.cells (cellsOf a0))],[],[]⟩ 116 24 (.mapo (esO (Jaq (fun (x:Jk)=>x.El) x (grp (fun (x:Jk)=>x.El) (a0.Balises.take i)))) (Enc.k Jk) (Enc.b Jk) Vr) (Jby (Jaq (fun (x:Jk)=>x.El) x (grp (fun (x:Jk)=>x.El) (a0.Balises.take i)))));rw [hw];exact Jnq 24 kr kr kr kr
  | some y=>
  obtain ⟨q,M⟩:=y;refine zR 2 (Kks (α:=Jk) (tk:=Vr q) (L:=M) (ys:=[x]) (M:=M++[x]) (T:=Jby (grp (fun (x:Jk)=>x.El) (a0.Balises.take i))) (Ka6 (Jug hx hf) hz) kr (Kcj hf) kr (Kg2 (m:=(grp (fun (x:Jk)=>x.El) (a0.Balises.take i))) (k:=x.El) (M:=M++[x]) (tk:=Vr) (Vr q) 24 kr kr (zN (Jhg (Jo (Qk (Kh8 (j:=⟨[(1,Ji .frozen a1),(2,I6 a2),(3,I6 a3),(4,.ref 4 0),(9,.mp 24),(26,Ji .frozen a0.Balises),(27,I6 ((a0.Balises.length:Nat):Int)),(28,I6 ((i:Nat):Int))],[(4,.cells (cellsOf a0))],[],[]⟩) (n:=116) 24 (fk:=(fun (x:Jk)=>x.El)) (x:=x) (m:=(grp (fun (x:Jk)=>x.El) (a0.Balises.take i))) hf kr kr kr kr) (Wp (zE ⟨rfl, ?_⟩))))))));have hw:((i+1:Nat):Int)=w64 ((i:Int)+1):=(Zi oG).symm;show Wkr _ (Jfn ⟨[(1,Ji .frozen (a1:(List Jb))),(2,I6 a2),(3,I6 a3),(4,.ref 4 0),(9,.mp 24),(26,Ji .frozen (a0.Balises:(List Jk))),(27,I6 ((a0.Balises.length:Nat):Int)),(28,I6 ((i+1:Nat):Int))],[(4,.cells (cellsOf a0))],[],[]⟩ 116 24 (.mapo (esO (Jaq (fun (x:Jk)=>x.El) x (grp (fun (x:Jk)=>x.El) (a0.Balises.take i)))) (Enc.k Jk) (Enc.b Jk) Vr) (Jby (Jaq (fun (x:Jk)=>x.El) x (grp (fun (x:Jk)=>x.El) (a0.Balises.take i)))));rw [hw];exact Jnq 24 kr kr kr kr
 ·intro m;refine w1 n0 S1 ?_;intro h;exact Jo (Kj (Jbv (b:=decide (((a0.Balises.length:Nat):Int)<((a0.Balises.length:Nat):Int))) (decide_eq_false oG) kr (Jjd (Jef (⟨rfl,Kib (j:=⟨[(1,Ji .frozen a1),(2,I6 a2),(3,I6 a3),(4,.ref 4 0),(9,.mp 24)],[(4,.cells (cellsOf a0))],[],[]⟩) (m:=m) (tk:=Vr) 24 kr kr kr⟩)))))
 intro s' hs;rw [<- em2] at hs;refine w1 a1 (ee (.l 1 S1)) ?_;intro h;refine Jo (Ko (Qk (Jf1 12 100012 2 16 kr kr) ?_));refine uL 116 2 (fun s (x132,x133,x134,x135)=>⟨(12,.ex 100012 2 16 ((x135.map cellsOf).length) 0 ((x135.map cellsOf).length))::(13,I6 x132)::(46,I6 x133)::gt s [3,4,9,44,45],(24,.map (Zj (x134:(List (Int×(List Jk))))))::gh s [4],[(100012,((x135.map cellsOf).length,0))],[(100012,(2,(16,x135.map cellsOf)))]⟩) (fun _ x191=>⟨[(12,.ex 100012 2 16 ((x191.map cellsOf).length) 0 ((x191.map cellsOf).length))],[],[(100012,((x191.map cellsOf).length,0))],[(100012,(2,(16,x191.map cellsOf)))]⟩) h ?_ ?_
 ·rintro ⟨x132,x133,x134,x135⟩ _ h;unfold Il at h;refine w1 a0.Elements (ec (.i 0 (.e (.b 4 7 60 (.g 0 .z (.l 4 .z)) (ec z1 (.i 4 S1))))) .z) ?_;intro x192 _ _ h;refine Jo ?_;refine uJ 116 (fun s (x220,x221)=>⟨(12,.ex 100012 2 16 ((x220.map cellsOf).length) 0 ((x220.map cellsOf).length))::gt s [3,4,9,13,16,44,45,46],(24,.map (Zj (x221:(List (Int×(List Jk))))))::gh s [4,16],[(100012,((x220.map cellsOf).length,0))],[(100012,(2,(16,x220.map cellsOf)))]⟩) h ?_ ?_
  ·intro _ h;refine w1 n0 (.p 3 (ec .s .z)) ?_;intro _ h;refine zR 3 (Jf5 (m:=(x134:(List (Int×(List Jk))))) (k:=x192.El) ([]:(List Jk)) 24 kr kr (w1 ((((Ye (x134:(List (Int×(List Jk)))) x192.El).getD ([]:(List Jk))):(List Jk))) (.l 0 s1) ?_));intro h;refine uM 116 4 [76] (fun s (x230,x231)=>⟨(12,.ex 100012 2 16 ((x231.map cellsOf).length) 0 ((x231.map cellsOf).length))::(76,I6 x230)::gt s [3,4,9,13,15,16,44,45,46,74,75],gh s [4,15,16,24],[(100012,((x231.map cellsOf).length,0))],[(100012,(2,(16,x231.map cellsOf)))]⟩) h ?_ ?_
   ·rintro ⟨x230,x231⟩ _ h;unfold Ek at h;refine w1 n0 (ec .s .z) ?_;intro h;refine uJ 116 (fun s x243=>⟨(12,.ex 100012 2 16 ((x243.map cellsOf).length) 0 ((x243.map cellsOf).length))::gt s [3,4,9,13,15,16,44,45,46,74,75,76],gh s [4,15,16,24],[(100012,((x243.map cellsOf).length,0))],[(100012,(2,(16,x243.map cellsOf)))]⟩) h ?_ ?_
    ·intro _ h;refine w1 n0 (.i 0 S2) ?_;intro _ h;refine Jo ?_;refine uJ 116 (fun s x245=>⟨(19,I6 x245)::gt s [3,4,9,12,13,15,16,18,44,45,46,74,75,76],gh s [4,15,16,18,24],gT s [100012],gX s [100012]⟩) h ?_ ?_
     ·intro _ h;exact w1 n0 (ec z1 .z) t0
     intro x245 h;refine w1 n0 (ec .x .z) ?_;intro _ h230 h;exact zR 6 (Juu (tk:=100012) (N:=(x231.map cellsOf).length) h230 kr kr kr (w1 n0 z1 t0))
    intro x243 h;exact w1 n0 z1 t0
   intro x239 s' h hs;exact Ui (Jo (Qk hs (Wp (zR 3 (Kjr (m:=(x134:(List (Int×(List Jk))))) (k:=x192.El) 24 kr kr (w1 n0 z1 t0))))))
  rintro ⟨x220,x221⟩ h;exact w1 n0 z2 t0
 intro x191 s' h hs;obtain ⟨r247,h231,h⟩:=Ve h;refine Ui (Jo (Qk hs (Kj (Wp (zR 1 (Ly (t:=100012) (L:=x191) (L':=r247) (N:=(x191.map cellsOf).length) kr kr kr (Ba _ r247 h231) (w1 n0 S2 ?_)))))));intro h;refine Jo (Qk (Dc (xss:=r247.map cellsOf) 100012 2 16 ((x191.map cellsOf).length) [8,12,113,115] [] kr kr kr kr) ?_);exact w1 n0 .z t0⟩
def Lp(a0:(List Jd))(a2:Int):Int->Option (Int⊕(Unit⊕Int)):=fun x2=>
 bif decide (x2<((a0.length:Nat):Int)) then (
  (ixO a0 x2).bind fun x4=>
  bif decide (x4.Id=a2) then (
   some (.inr (.inr x2))
  ) else (
   some (.inl (w64 (x2+1)))
  )
 ) else (
  some (.inr (.inl ()))
 )
def Ik(a0:(List Jd))(a1:Int)(a2:Int):Option Int :=
 onInl (Jp (Lp a0 a2) a1) fun _=>
 some (-1)
instance (a0:(List Jd))(a1:Int)(a2:Int):Cp (Ik a0 a1 a2) 272 [Enc.pv a0,Enc.pv a1,Enc.pv a2] Enc.pv:=⟨fun r h=>by
 unfold Ik at h;refine zG f272 ?_;refine w1 n0 s2 ?_;intro h;refine uN 23 0 [7] (fun s x2=>⟨(7,I6 x2)::gt s [0,2],[],[],[]⟩) h ?_ ?_
 ·intro x2 _ h;unfold Lp at h;exact w1 a0 (.l 2 (ec (.i 2 (ec z1 z1)) .z)) t0
 intro _ s' h hs;exact w1 n0 z1 t0⟩
def Hd(a0:(List Jd)):Int->Option (Int⊕(Unit⊕Bool)):=fun x7=>
 bif decide (x7<((a0.length:Nat):Int)) then (
  (ixO a0 x7).bind fun x14=>
  ((bif decide (0<x7) then (
   (ixO a0 (w64 (x7 - 1))).bind fun x16=>
   some (decide (x14.At<x16.At))
  ) else some false)).bind fun b15=>
  ((bif b15 then some true else (
   (slO a0 none (some x7) none).bind fun x18=>
   (Ik x18 0 x14.Id).bind fun r19=>
   some (decide (0<=r19))
  ))).bind fun b17=>
  bif b17 then (
   some (.inr (.inr false))
  ) else (
   some (.inl (w64 (x7+1)))
  )
 ) else (
  some (.inr (.inl ()))
 )
def Fv(a0:(List Jd)):Option Bool :=
 bif decide (24<((a0.length:Nat):Int)) then (
  some false
 ) else (
  onInl (Jp (Hd a0) 0) fun _=>
  some true
 )
instance (a0:(List Jd)):Cp (Fv a0) 236 [Enc.pv a0] Enc.pv:=⟨fun r h=>by
 unfold Fv at h;refine zG f236 ?_;refine w1 a0 (el 1 (ec z1 (.l 1 s1))) ?_;intro h;refine uN 38 0 [10] (fun s x7=>⟨(10,I6 x7)::gt s [0,8,9],[],[],[]⟩) h ?_ ?_
 ·intro x7 _ h;unfold Hd at h;refine w1 n0 (ec (.i 1 (.e (.b 3 10 27 (.g 0 (.i 5 .z) .z) (.b 1 8 36 (.g 0 .z .x) (ec z1 z1))))) .z) ?_;intro _ _ _ _ h21 h;exact zR 2 (Jxb h21 .frozen kr kr kr (w1 n0 (.p 2 .z) t0))
 intro _ s' h hs;exact w1 n0 z1 t0⟩
def Di(a0:Ka):Option Bool :=
 ((bif ((decide (1<=a0.Seq))&&(decide (a0.Seq<=1073741824))) then (
  (Vu a0.Profile).bind fun r2=>
  some r2
 ) else some false)).bind fun b1=>
 ((bif (b1&&(decide (0<((a0.Profile.length:Nat):Int)))) then (
  (ixO a0.Profile (w64 (((a0.Profile.length:Nat):Int) - 1))).bind fun x4=>
  some (decide (x4.To=a0.End))
 ) else some false)).bind fun b3=>
 ((bif b3 then (
  (Fv a0.Links).bind fun r6=>
  some r6
 ) else some false)).bind fun b5=>
 some b5
instance (a0:Ka):Cp (Di a0) 175 [Enc.pv a0] Enc.pv:=⟨fun r h=>by
 unfold Di at h;refine zG f175 ?_;exact w1 a0.Profile (el 2 (.e (.o 4 4 14 0 (.b 1 4 19 (.g 0 (.p 2 .z) .z) (.o 1 3 23 0 (.b 1 11 35 (.g 0 (.i 4 .z) .z) (.b 1 4 40 (.g 0 (.p 2 .z) .z) z1))))))) t0⟩
def Zr(a0:Ja)(a1:Je)(a2:(List Jj))(a3:Int):Option (Ka×Int) :=
 (Dq a0 a1.Steps).bind fun r1=>
 bif (((!r1)||(decide (a3<1)))||(decide (1073741824<a3))) then (
  some ((Ka.mk 0 0 [] []),1)
 ) else (
  (Iw a0 a1.Steps a1.Origin).bind fun r2=>
  (Yj a2 a1.Steps a1.Origin a0 r2).bind fun r3=>
  (Bj r3 a1.Origin a1.At).bind fun r4=>
  (Bb a0 a1.Steps a1.Origin a1.At).bind fun r5=>
  (Di (Ka.mk a3 a1.At r4 r5)).bind fun r6=>
  bif (!r6) then (
   some ((Ka.mk 0 0 [] []),2)
  ) else (
   some ((Ka.mk a3 a1.At r4 r5),0)
  )
 )
set_option maxRecDepth 100000 in
instance (a0:Ja)(a1:Je)(a2:(List Jj))(a3:Int):Cp (Zr a0 a1 a2 a3) 99 [Enc.pv a0,Enc.pv a1,Enc.pv a2,Enc.pv a3] (fun r=>.tup [Enc.pv r.1,Enc.pv r.2]):=⟨fun r h=>by
 unfold Zr at h;refine Jq8 func99 (by rfl) rfl ntmps99 (by rfl) rfl ?_;refine Jjr (Wp (w1 n0 S1 ?_));intro h;refine Jnn (Jjr (Kj (Wp ?_)));refine w6 n0 (.p 3 (.o 2 3 19 1 (.o 1 3 23 0 (ec S1 .S)))) ?_ ?_ t0 t0 t0 t0
 ·intro _ h;exact Jo (Wg (Kk6 (w1 n0 .z t0)))
 intro _ h;refine Vb (Jnn ?_);refine Jij 1 174 [.ref 8 0,.ref 9 0] (by rfl) ?_;refine w1 n0 S1 ?_;intro h;refine ⟨by kernel_rfl,by kernel_rfl,by kernel_rfl, ?_⟩;refine w1 n0 (.p 11 (.p 0 (ep 8 (.p 7 S1)))) ?_;intro _ _ r4 r5 h;refine Jo (Wg ?_);refine Kkv (caps:=[.ref 8 0,.ref 9 0]) kr func174 (by rfl) rfl ntmps174 (by rfl) ?_;refine Qk ((Je0 1 kr).trans (.of (j:=⟨[(0,.ref 1008 0),(1,.ref 1009 0),(14,.ref 1008 0),(15,.ref 1009 0),(63,.fn 174 [.ref 1008 0,.ref 1009 0])],[(1008,.cells ([I6 a3,I6 a1.At,Ji .frozen r4,Ji .frozen r5])),(1009,.cells ([I6 0]))],[],[]⟩) (n:=5800064) kr kr)) ?_;refine w6 n0 (.p 1 (ec s1 .s)) ?_ ?_ t0 t0 t0 t0
 ·intro _ h;cases h;exact Ji0 kr kr kr
 intro _ h;cases h;exact Ji0 kr kr kr⟩
def Jaf(a0:Ja)(a1:(List Jj))(a2:Je):Option (Je×Jn) :=
 onInl (α:=(Int×Int×Int×Int×Int×(List Jb)×(List Int)×(List Int)×(List Int)×(List Int)×Int×Int×Int×Int×Int)) (β:=(Je×Jn)) (
  bif (!(decide (a2.CutSeq=0))) then (
   (Fu a0 a2).bind fun r17=>
   some (.inl (3,r17.Id,r17.Origin,r17.End,r17.At,r17.Steps,r17.Routes,r17.Starts,r17.Ends,r17.Done,r17.Min,r17.Sent,r17.Accepted,r17.Cut,r17.CutSeq))
  ) else (
   some (.inl (2,a2.Id,a2.Origin,a2.End,a2.At,a2.Steps,a2.Routes,a2.Starts,a2.Ends,a2.Done,a2.Min,a2.Sent,a2.Accepted,a2.Cut,a2.CutSeq))
  )
 ) fun (x2,x3,x4,x5,x6,x7,x8,x9,x10,x11,x12,x13,x14,x15,x16)=>
 (Zr a0 (Je.mk x3 x4 x5 x6 x7 x8 x9 x10 x11 x12 x13 x14 x15 x16) a1 (w64 (a2.Sent+1))).bind fun r18=>
 bif (!(decide (r18.2=0))) then (
  some (a2,(Jn.mk 5 0 0 0 0 (Ka.mk 0 0 [] []) (Uw.mk 0 0 0 0 false)))
 ) else (
  some ((Je.mk a2.Id a2.Origin a2.End a2.At a2.Steps a2.Routes a2.Starts a2.Ends a2.Done a2.Min (w64 (a2.Sent+1)) a2.Accepted a2.Cut a2.CutSeq),(Jn.mk x2 0 0 0 0 r18.1 (Uw.mk 0 0 0 0 false)))
 )
instance (a0:Ja)(a1:(List Jj))(a2:Je):Cp (Jaf a0 a1 a2) 44 [Enc.pv a0,Enc.pv a1,Enc.pv a2] (fun r=>.tup [Enc.pv r.1,Enc.pv r.2]):=⟨fun r h=>by
 unfold Jaf at h;refine zG f44 ?_;refine w1 n0 S2 ?_;intro h;refine Jo ?_;refine uJ 41 (fun s (x2,x3,x4,x5,x6,x7,x8,x9,x10,x11,x12,x13,x14,x15,x16)=>⟨(8,I6 x2)::gt s [1,3,5,6,7,9],(9,.cells ([I6 x3,I6 x4,I6 x5,I6 x6,Ji .frozen x7,Ji .frozen x8,Ji .frozen x9,Ji .frozen x10,Ji .frozen x11,I6 x12,I6 x13,I6 x14,I6 x15,I6 x16]))::gh s [3,5,6,7],[],[]⟩) h ?_ ?_
 ·intro _ h;exact w1 n0 (ec (.p 2 z1) .z) t0
 rintro ⟨x2,x3,x4,x5,x6,x7,x8,x9,x10,x11,x12,x13,x14,x15,x16⟩ h;refine w1 n0 (.p 6 (ee (.c z1 S1))) ?_;intro r18 h;refine Jo (Kj ?_);refine Jkr 41 ⟨[(6,.ref 6 0),(7,.ref 7 0)],[(6,.cells ([I6 a2.Id,I6 a2.Origin,I6 a2.End,I6 a2.At,Ji .frozen a2.Steps,Ji .frozen a2.Routes,Ji .frozen a2.Starts,Ji .frozen a2.Ends,Ji .frozen a2.Done,I6 a2.Min,I6 (w64 (a2.Sent+1)),I6 a2.Accepted,I6 a2.Cut,I6 a2.CutSeq])),(7,.cells ([I6 x2,I6 0,I6 0,I6 0,I6 0,I6 r18.1.Seq,I6 r18.1.End,Ji .frozen r18.1.Profile,Ji .frozen r18.1.Links,I6 0,I6 0,I6 0,I6 0,.bool false]))],[],[]⟩ kr ?_ ?_
 ·refine Zh [0,1] 4 kr (zR 2 (Kf kr ?_));refine Nn (n:=3) [2,4] kr ⟨?_, ?_,trivial⟩
  ·exact ⟨_,rfl,(zR 1 (Kf kr (Zh [3,4,5] 0 kr (zR 3 (Kf kr (Zq kr (.of kr kr)))))))⟩
  exact ⟨_,rfl,(zR 1 (Kf kr (Zh [2,3,5] 0 kr (zR 3 (Kf kr (Zq kr (.of kr kr)))))))⟩
 exact w1 n0 .z t0⟩
def Vh(a0:(List Jc)):Option (List Jc) :=
 (Qi ([]:(List Jc)) a0).bind fun x1=>
 (slO x1 none (some ((a0.length:Nat):Int)) (some ((a0.length:Nat):Int))).bind fun x2=>
 some x2
instance (a0:(List Jc)):Cp (Vh a0) 100 [Enc.pv a0] Enc.pv:=⟨fun r h=>by
 unfold Vh at h;refine zG f100 ?_;refine w1 n0 X1 ?_;intro _ h1 h;refine zR 1 (Cr (tk:=5) h1 kr (w1 a0 (el 2 (.l 1 .x)) ?_));intro _ h2 h;refine Kiz h2 (.own 5) kr kr (.inl ⟨rfl,rfl⟩) ?_;exact w1 n0 z1 t0⟩
def Vn(a0:(List Jd)):Option (List Jd) :=
 (Qi ([]:(List Jd)) a0).bind fun x1=>
 (slO x1 none (some ((a0.length:Nat):Int)) (some ((a0.length:Nat):Int))).bind fun x2=>
 some x2
instance (a0:(List Jd)):Cp (Vn a0) 101 [Enc.pv a0] Enc.pv:=⟨fun r h=>by
 unfold Vn at h;refine zG f101 ?_;refine w1 n0 X1 ?_;intro _ h1 h;refine zR 1 (Cr (tk:=5) h1 kr (w1 a0 (el 2 (.l 1 .x)) ?_));intro _ h2 h;refine Kiz h2 (.own 5) kr kr (.inl ⟨rfl,rfl⟩) ?_;exact w1 n0 z1 t0⟩
end
end PM
