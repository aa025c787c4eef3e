/-
 Plain functions for the program's functions, and the proofs that the program does them. Printed by den.py.
-/
import Derived.Test.YtfpoeepcomnjhaaGreatDoorDen4
namespace PM
noncomputable section
open Go Go.RowKit Go.Proofs
attribute [local irreducible] Kl pwp
def Jc3 (a0:(List Jn)) (a1:Int) (a2:Int):(Int×(List Jn))→Option ((Int×(List Jn))⊕((List Jn)⊕(List Jn))):=fun (x17,x18) =>
 bif decide (x17<((a0.length:Nat):Int)) then (
  onInl (α:=(List Jn)) (β:=((Int×(List Jn))⊕((List Jn)⊕(List Jn)))) (
   (ixO a0 x17).bind fun x31 =>
   (Cs (De.mk a1 a2) x31).bind fun r32 =>
   bif r32.2 then (
    (Ul x18 [r32.1]).bind fun x33 =>
    some (.inl x33)
   ) else (
    some (.inl x18)
   )
  ) fun x30 =>
  some (.inl (w64 (x17+1),x30))
 ) else (
  some (.inr (.inl x18))
 )
def Oz (a0:(List Jn)) (a1:Int) (a2:Int):Option (List Jn) :=
 (Ys a0).bind fun r1 =>
 bif (!r1) then (
  some ([]:(List Jn))
 ) else (
  onInl (α:=(List Jn)) (β:=(List Jn)) (Ki (Jc3 a0 a1 a2) (0,([]:(List Jn)))) fun x26 =>
  some x26
 )
theorem Jkn (a0:(List Jn)) (a1:Int) (a2:Int) (r:(List Jn)) (h:Oz a0 a1 a2=some r):Kg Tryz.prog GlS 178 [Enc.pv a0,Enc.pv a1,Enc.pv a2] (Jk (.own 100007) r):=by
 unfold Oz at h;refine zC Tryz.func178 Tryz.ntmps178 ?_;refine Ja (Jc (zE (Jb (Ja (Ja (Jc (zR 1 ?_)))))));obtain ⟨r1,h1,h⟩:=Je h;refine zP (Bb _ r1 h1) (zE (Jb ?_));rcases Ji h with ⟨hb,h⟩|⟨hb,h⟩
 ·refine zT hb (Ja (Jc (zE (Jb (Yz 6 100007 4 32 (by kernel_rfl) (by kernel_rfl) (Jm (Jj ?_)))))));cases h;exact zQ
 refine zU hb (Jg (Jb (Ja (Jc (zE (Jb (Ja (Ja (Jc (zR 1 ?_))))))))));refine zL (L:=a0) ?_;refine zE (Jb (Jl (Yz 7 100007 4 32 (by kernel_rfl) (by kernel_rfl) ?_)));obtain ⟨o24,h24,h⟩:=Kf h;refine zA 36 0 (fun (x17,x18)=>⟨[(1,I6 a1),(2,I6 a2),(7,Jk (.own 100007) x18),(15,Jk .frozen a0),(16,I6 ((a0.length:Nat):Int)),(17,I6 x17)],[],[(100007,(((x18).map cellsOf).length,4))],[]⟩) (fun x26=>⟨[(7,Jk (.own 100007) x26)],[],[(100007,(((x26).map cellsOf).length,4))],[]⟩) h24 ?_ ?_
 ·rintro ⟨x17,x18⟩ oh23 h23;unfold Jc3 at h23;refine Ja (Jc (zE (Jb (Ja ?_))));rcases Ji h23 with ⟨hb,h23⟩|⟨hb,h23⟩
  ·refine zT hb (Jg (Jb ?_));obtain ⟨o28,h28,h23⟩:=Kf h23;refine Qm (o:=o28) 36 (fun x30=>⟨[(1,I6 a1),(2,I6 a2),(7,Jk (.own 100007) x30),(15,Jk .frozen a0),(16,I6 ((a0.length:Nat):Int)),(17,I6 x17)],[],[(100007,(((x30).map cellsOf).length,4))],[]⟩) ?_ ?_
   ·refine Jl (Ja (Jc ?_));obtain ⟨x31,h29,h28⟩:=Je h28;refine zI h29 (zE (Jb (Ja (Jc (zR 4 ?_)))));obtain ⟨r32,h30,h28⟩:=Je h28;refine zP (Nn _ _ r32 h30) (zE (Jb (Ja (Jc (zE (Jb ?_))))));rcases Ji h28 with ⟨hb,h28⟩|⟨hb,h28⟩
    ·refine zT hb (Jc (zR 3 ?_));obtain ⟨x33,h31,h28⟩:=Je h28;refine zW (tk:=100007) h31 ?_;refine zE (Jx ?_);cases h28;exact zJ
    refine zU hb (Jg (Jx ?_));cases h28;exact zJ
   rintro x30 rfl;have h23:=Ka h23;refine Jc (zE ?_);cases h23;exact zB
  refine zU hb (Jv (Jt ?_));cases h23;exact zX
 rintro x26 s' rfl hs;have h:=Ka h;refine Jr (Jb (Jy hs (Ja (Jc (zE (Jb (Jm ?_)))))));cases h;exact zQ
theorem Jjv (a0:(List Jn)) (a1:Int) (a2:Int) (r:(List Jn)) (h:Oz a0 a1 a2=some r):Kg Tryz.prog GlS 178 [Enc.pv a0,Enc.pv a1,Enc.pv a2] (Enc.pv r) :=
 (Jkn a0 a1 a2 r h).freeze (by kernel_rfl) (by kernel_rfl) (by kernel_rfl)
def Ol (a0:Int) (a1:Jh):Option Bool :=
 bif decide (a0=1) then (
  some true
 ) else (
  onInl (α:=Bool) (β:=Bool) (
   bif decide (a0=2) then (
    some (.inl (decide (a0=2)))
   ) else (
    some (.inl (decide (a0=3)))
   )
  ) fun x1 =>
  bif x1 then (
   some (((decide (a1.In=0))&&(decide (a1.Out=1)))||((decide (a1.In=1))&&(decide (a1.Out=0))))
  ) else (
   some false
  )
 )
theorem Jf4 (a0:Int) (a1:Jh) (r:Bool) (h:Ol a0 a1=some r):Kg Tryz.prog GlS 246 [Enc.pv a0,Enc.pv a1] (Enc.pv r):=by
 unfold Ol at h;refine zC Tryz.func246 Tryz.ntmps246 ?_;refine Ja (Jc (zE (Jb (Ja (Ja (Jc (zE (Jb (Jl (Ja (Jc (zE (Jb ?_)))))))))))));rcases Ji h with ⟨hb,h⟩|⟨hb,h⟩
 ·refine zT hb (Ja (Jc (zE (Jb (Jm (Jp (Jj ?_)))))));cases h;exact zQ
 refine zU hb ?_;obtain ⟨o1,h1,h⟩:=Kf h;refine Qm (o:=o1) 29 (fun x1=>⟨[(3,.ref 3 0),(8,.bool x1)],[(3,.cells (cellsOf a1))],[],[]⟩) ?_ ?_
 ·refine Ja (Jc (zE (Jb ?_)));rcases Ji h1 with ⟨hb,h1⟩|⟨hb,h1⟩
  ·refine zT hb (Jg ?_);cases h1;exact zJ
  refine zU hb (Jc (zE ?_));cases h1;exact zJ
 rintro x1 rfl;have h:=Ka h;rcases Ji h with ⟨hb,h⟩|⟨hb,h⟩
 ·refine zT hb (Ja (Jc (zR 4 ?_)));refine Ks 4 18 ((decide (a1.In=0))&&(decide (a1.Out=1))) (fun x hx=>?_) ?_
  ·rcases Vz hx with ⟨hb,hx⟩|⟨hb,hx⟩
   ·refine zS 14 hb ?_;subst hx;exact zF
   refine zS 14 hb ?_;subst hx;exact zF
  refine zR 1 ?_;refine Ks 9 28 (((decide (a1.In=0))&&(decide (a1.Out=1)))||((decide (a1.In=1))&&(decide (a1.Out=0)))) (fun x hx=>?_) ?_
  ·rcases Vi hx with ⟨hb,hx⟩|⟨hb,hx⟩
   ·refine zS 19 hb ?_;subst hx;exact zF
   refine zS 19 hb (zR 4 ?_);refine Tb 4 27 ((decide (a1.In=1))&&(decide (a1.Out=0))) (fun x hx=>?_) ?_
   ·rcases Vz hx with ⟨hb,hx⟩|⟨hb,hx⟩
    ·refine zS 23 hb ?_;subst hx;exact zF
    refine zS 23 hb ?_;subst hx;exact zF
   subst hx;exact zF
  refine zE (Jb (Jm (Jp (Jj ?_))));cases h;exact zQ
 refine zU hb (Jg (Jx (Jb (Ja (Jc (zE (Jb (Jm ?_))))))));cases h;exact zQ
def Ig (a0:Int):Option Bool :=
 some (!(decide (a0=a0)))
theorem Tp (a0:Int) (r:Bool) (h:Ig a0=some r):Kg Tryz.prog GlS 270 [Enc.pv a0] (Enc.pv r):=by
 unfold Ig at h;refine zC Tryz.func270 Tryz.ntmps270 ?_;refine Ja (Jc (zE (Jb (Ja (Jc (zE (Jb (Jm ?_))))))));cases h;exact zQ
def Fi (a0:Int) (a1:Int):Option Int :=
 (Ig a0).bind fun r1 =>
 (Ig a1).bind fun r2 =>
 bif r1 then (
  bif r2 then (
   some 0
  ) else (
   some (-1)
  )
 ) else (
  bif r2 then (
   some 1
  ) else (
   bif decide (a0<a1) then (
    some (-1)
   ) else (
    bif decide (a1<a0) then (
     some 1
    ) else (
     some 0
    )
   )
  )
 )
theorem Pz (a0:Int) (a1:Int) (r:Int) (h:Fi a0 a1=some r):Kg Tryz.prog GlS 250 [Enc.pv a0,Enc.pv a1] (Enc.pv r):=by
 unfold Fi at h;refine zC Tryz.func250 Tryz.ntmps250 ?_;refine Ja (Jc (zE (Jb (Ja (Jc (zR 1 ?_))))));obtain ⟨r1,h1,h⟩:=Je h;refine zP (Tp _ r1 h1) (zE (Jb (Ja (Jc (zR 1 ?_)))));obtain ⟨r2,h2,h⟩:=Je h;refine zP (Tp _ r2 h2) (zE (Jb (Ja (Ja (Jc (zE (Jb ?_)))))));rcases Ji h with ⟨hb,h⟩|⟨hb,h⟩
 ·refine zT hb (Ja (Ja (Jc (zE (Jb ?_)))));rcases Ji h with ⟨hb,h⟩|⟨hb,h⟩
  ·refine zT hb (Ja (Jc (zE (Jb (Jm (Jj (Jj ?_)))))));cases h;exact zQ
  refine zU hb (Jg (Jb (Ja (Jc (zE (Jb (Jm (Jj ?_))))))));cases h;exact zQ
 refine zU hb (Jg (Jb (Ja (Ja (Jc (zE (Jb ?_)))))));rcases Ji h with ⟨hb,h⟩|⟨hb,h⟩
 ·refine zT hb (Ja (Jc (zE (Jb (Jm (Jj ?_))))));cases h;exact zQ
 refine zU hb (Jg (Jb (Ja (Ja (Jc (zE (Jb ?_)))))));rcases Ji h with ⟨hb,h⟩|⟨hb,h⟩
 ·refine zT hb (Ja (Jc (zE (Jb (Jm (Jj ?_))))));cases h;exact zQ
 refine zU hb (Jg (Jb (Ja (Ja (Jc (zE (Jb ?_)))))));rcases Ji h with ⟨hb,h⟩|⟨hb,h⟩
 ·refine zT hb (Ja (Jc (zE (Jb (Jm (Jj ?_))))));cases h;exact zQ
 refine zU hb (Jg (Jb (Ja (Jc (zE (Jb (Jm ?_)))))));cases h;exact zQ
def Je3 (a0:(List Int)):Int→Option (Int⊕(Unit⊕Int)):=fun x2 =>
 bif decide (x2<((a0.length:Nat):Int)) then (
  (ixO a0 x2).bind fun x4 =>
  bif (!(decide (x4=0))) then (
   some (.inr (.inr x4))
  ) else (
   some (.inl (w64 (x2+1)))
  )
 ) else (
  some (.inr (.inl ()))
 )
def Jb5 (a0:(List Int)):Option Int :=
 onInl (α:=Unit) (β:=Int) (Ki (Je3 a0) 0) fun _ =>
 some 0
theorem Jlp (a0:(List Int)) (r:Int) (h:Jb5 a0=some r):Kg Tryz.prog GlS 249 [Enc.pv a0] (Enc.pv r):=by
 unfold Jb5 at h;refine zC Tryz.func249 Tryz.ntmps249 ?_;refine Ja (Jc (zE (Jb (Ja (Jc (zE (Jb (Ja (Ja (Jc (zR 1 ?_)))))))))));refine zL (L:=a0) ?_;refine zE (Jb (Jl ?_));obtain ⟨o6,h6,h⟩:=Kf h;refine zA 18 0 (fun x2=>⟨[(3,I6 0),(6,Jk .frozen a0),(7,I6 ((a0.length:Nat):Int)),(8,I6 x2)],[],[],[]⟩) (fun (_:Unit)=>⟨[(3,I6 0)],[],[],[]⟩) h6 ?_ ?_
 ·rintro x2 oh5 h5;unfold Je3 at h5;refine Ja (Jc (zE (Jb (Ja ?_))));rcases Ji h5 with ⟨hb,h5⟩|⟨hb,h5⟩
  ·refine zT hb (Jg (Jb (Ja (Jl (Ja (Jc ?_))))));obtain ⟨x4,h7,h5⟩:=Je h5;refine zI h7 (zE (Jb (Ja (Jc (zE (Jb ?_))))));rcases Ji h5 with ⟨hb,h5⟩|⟨hb,h5⟩
   ·refine zT hb (Ja (Jc (zE (Jb (Jm (Jp (Jj ?_)))))));cases h5;refine Kc fun he=>?_;subst he;have h8:=Km h;refine Jp (Jj ?_);cases h8;exact zQ
   refine zU hb (Jg (Jx (Jb (Jc (zE ?_)))));cases h5;exact zB
  refine zU hb (Jv (Jt ?_));cases h5;exact zX
 rintro _ s' rfl hs;have h:=Ka h;refine Jr (Jb (Jy hs (Ja (Jc (zE (Jb (Jm ?_)))))));cases h;exact zQ
def Bp (a0:Jf) (a1:Jf):Option Int :=
 (Fi a0.At a1.At).bind fun r1 =>
 (Fi a0.Id a1.Id).bind fun r2 =>
 (Jb5 [r1,r2]).bind fun r3 =>
 some r3
theorem Dq (a0:Jf) (a1:Jf) (r:Int) (h:Bp a0 a1=some r):Kg Tryz.prog GlS 248 [Enc.pv a0,Enc.pv a1] (Enc.pv r):=by
 unfold Bp at h;refine zC Tryz.func248 Tryz.ntmps248 ?_;refine Ja (Jc (zE (Jb (Ja (zD (zR 4 ?_))))));obtain ⟨r1,h1,h⟩:=Je h;refine zP (Pz _ _ r1 h1) (zR 4 ?_);obtain ⟨r2,h2,h⟩:=Je h;refine zP (Pz _ _ r2 h2) (zR 1 ?_);obtain ⟨r3,h3,h⟩:=Je h;refine zP (Jlp _ r3 h3) (zE (Jb (Jm ?_)));cases h;exact zQ
def Wh (a0:(List Jf)) (a1:Int):(Int×(List Jf))→Option ((Int×(List Jf))⊕((List Jf)⊕((Int×(List Jf))⊕((List Jf)⊕(List Jf))))):=fun (x108,x109) =>
 ((bif decide (a1<x108) then (
  (Zp 0 (((a0:(List Jf)).map cellsOf).length) x108).bind fun j126 =>
  (Wl x109 (((a0:(List Jf)).map cellsOf).length) j126).bind fun x127 =>
  (Zp 0 (((a0:(List Jf)).map cellsOf).length) (w64 (x108 - 1))).bind fun j128 =>
  (Wl x109 (((a0:(List Jf)).map cellsOf).length) j128).bind fun x129 =>
  (Bp x127 x129).bind fun r130 =>
  some (decide (r130<0))
 ) else some false):Option Bool).bind fun b125 =>
 bif b125 then (
  (Zp 0 (((a0:(List Jf)).map cellsOf).length) (w64 (x108 - 1))).bind fun j131 =>
  (Wl x109 (((a0:(List Jf)).map cellsOf).length) j131).bind fun x132 =>
  (Zp 0 (((a0:(List Jf)).map cellsOf).length) x108).bind fun j133 =>
  (Wl x109 (((a0:(List Jf)).map cellsOf).length) j133).bind fun x134 =>
  (Zp 0 (((a0:(List Jf)).map cellsOf).length) x108).bind fun j135 =>
  (Wl x109 (((a0:(List Jf)).map cellsOf).length) j135).bind fun x136 =>
  (Zp 0 (((a0:(List Jf)).map cellsOf).length) (w64 (x108 - 1))).bind fun j137 =>
  (Wl (x109.set j135 x132) (((a0:(List Jf)).map cellsOf).length) j137).bind fun x138 =>
  some (.inl (w64 (x108 - 1),((x109.set j135 x132).set j137 x134)))
 ) else (
  some (.inr (.inl x109))
 )
def Wi (a0:(List Jf)) (a1:Int) (a2:Int):(Int×(List Jf))→Option ((Int×(List Jf))⊕((List Jf)⊕(List Jf))):=fun (x46,x47) =>
 bif decide (x46<a2) then (
  onInl (α:=(List Jf)) (β:=((Int×(List Jf))⊕((List Jf)⊕(List Jf)))) (Ki (Wh a0 a1) (x46,x47)) fun x124 =>
  some (.inl (w64 (x46+1),x124))
 ) else (
  some (.inr (.inl x47))
 )
def Qe (a0:(List Jf)) (a1:Int) (a2:Int):Option (List Jf) :=
 onInl (α:=(List Jf)) (β:=(List Jf)) (Ki (Wi a0 a1 a2) (w64 (a1+1),a0)) fun x93 =>
 some x93
theorem Uk (a0:(List Jf)) (a1:Int) (a2:Int) (r:(List Jf)) (h:Qe a0 a1 a2=some r):Pl Tryz.prog GlS 277 2 16 (a0.map cellsOf) [Enc.pv a1,Enc.pv a2,.fn 248 []] none (r.map cellsOf):=by
 unfold Qe at h;refine Ch Tryz.func277 (by rfl) rfl Tryz.ntmps277 (by rfl) rfl ?_;refine Ja (Jc (zE (Jb (Jl ?_))));obtain ⟨o90,h90,h⟩:=Kf h;refine zA 53 0 (fun (x46,x47)=>⟨[(0,.ex 1000000000 2 16 ((a0.map cellsOf).length) 0 ((a0.map cellsOf).length)),(1,I6 a1),(2,I6 a2),(3,.fn 248 []),(8,I6 x46)],[],[(1000000000,((a0.map cellsOf).length,0))],[(1000000000,(2,(16,x47.map cellsOf)))]⟩) (fun x93=>⟨[],[],[(1000000000,((a0.map cellsOf).length,0))],[(1000000000,(2,(16,x93.map cellsOf)))]⟩) h90 ?_ ?_
 ·rintro ⟨x46,x47⟩ oh89 h89;unfold Wi at h89;refine Ja (Ja (Jc (zE (Jb ?_))));rcases Ji h89 with ⟨hb,h89⟩|⟨hb,h89⟩
  ·refine zT hb (Jg (Jb (Ja (Jl (Ja (Jc (zE (Jb (Jl ?_)))))))));obtain ⟨o120,h120,h89⟩:=Kf h89;refine zA 53 2 (fun (x108,x109)=>⟨[(0,.ex 1000000000 2 16 ((a0.map cellsOf).length) 0 ((a0.map cellsOf).length)),(1,I6 a1),(2,I6 a2),(3,.fn 248 []),(8,I6 x46),(9,I6 x108)],[],[(1000000000,((a0.map cellsOf).length,0))],[(1000000000,(2,(16,x109.map cellsOf)))]⟩) (fun x124=>⟨[(0,.ex 1000000000 2 16 ((a0.map cellsOf).length) 0 ((a0.map cellsOf).length)),(1,I6 a1),(2,I6 a2),(3,.fn 248 []),(8,I6 x46)],[],[(1000000000,((a0.map cellsOf).length,0))],[(1000000000,(2,(16,x124.map cellsOf)))]⟩) h120 ?_ ?_
   ·rintro ⟨x108,x109⟩ oh119 h119;unfold Wh at h119;refine Ja (Ja (zD ?_));obtain ⟨b125,h121,h119⟩:=Je h119;refine zR 4 ?_;refine Ko 13 34 (.bool b125) ?_ ?_
    ·rcases Ji h121 with ⟨hb,h121⟩|⟨hb,h121⟩
     ·refine zS 21 hb (zR 3 ?_);obtain ⟨j126,h122,h121⟩:=Je h121;refine Uz (tk:=1000000000) (k:=2) (N:=(a0.map cellsOf).length) h122 (by kernel_rfl) ?_;obtain ⟨x127,h123,h121⟩:=Je h121;refine Vk (L:=x109) (N:=(a0.map cellsOf).length) (j:=j126) (y:=x127) (v:=Enc.pv x127) h123 true 2 0 (by kernel_rfl) (by kernel_rfl) ?_;refine zR 3 ?_;obtain ⟨j128,h124,h121⟩:=Je h121;refine Uz (tk:=1000000000) (k:=2) (N:=(a0.map cellsOf).length) h124 (by kernel_rfl) ?_;obtain ⟨x129,h125,h121⟩:=Je h121;refine Vk (L:=x109) (N:=(a0.map cellsOf).length) (j:=j128) (y:=x129) (v:=Enc.pv x129) h125 true 2 0 (by kernel_rfl) (by kernel_rfl) ?_;obtain ⟨r130,h126,h121⟩:=Je h121;refine zP (Dq _ _ r130 h126) ?_;cases h121;exact zF
     refine zS 21 hb ?_;cases h121;exact zF
    refine zN (Jb ?_);rcases Ji h119 with ⟨hb,h119⟩|⟨hb,h119⟩
    ·refine zT hb (Jg (Jb (Ja (Jl (zD (zR 8 ?_))))));obtain ⟨j131,h127,h119⟩:=Je h119;refine Uz (tk:=1000000000) (k:=2) (N:=(a0.map cellsOf).length) h127 (by kernel_rfl) ?_;obtain ⟨x132,h128,h119⟩:=Je h119;refine Vk (L:=x109) (N:=(a0.map cellsOf).length) (j:=j131) (y:=x132) (v:=Enc.pv x132) h128 true 2 0 (by kernel_rfl) (by kernel_rfl) ?_;refine zR 2 ?_;obtain ⟨j133,h129,h119⟩:=Je h119;refine Uz (tk:=1000000000) (k:=2) (N:=(a0.map cellsOf).length) h129 (by kernel_rfl) ?_;obtain ⟨x134,h130,h119⟩:=Je h119;refine Vk (L:=x109) (N:=(a0.map cellsOf).length) (j:=j133) (y:=x134) (v:=Enc.pv x134) h130 true 2 0 (by kernel_rfl) (by kernel_rfl) ?_;obtain ⟨j135,h131,h119⟩:=Je h119;refine Uz (tk:=1000000000) (k:=2) (N:=(a0.map cellsOf).length) h131 (by kernel_rfl) ?_;obtain ⟨x136,h132,h119⟩:=Je h119;refine Mr (L:=x109) (tk:=1000000000) (N:=(a0.map cellsOf).length) (j:=j135) (y:=x136) (y':=x132) h132 0 2 [I6 x132.Id,I6 x132.At] (by kernel_rfl) (by kernel_rfl) ?_;obtain ⟨j137,h133,h119⟩:=Je h119;refine Uz (tk:=1000000000) (k:=2) (N:=(a0.map cellsOf).length) h133 (by kernel_rfl) ?_;obtain ⟨x138,h134,h119⟩:=Je h119;refine Mr (L:=((x109.set j135 x132):(List Jf))) (tk:=1000000000) (N:=(a0.map cellsOf).length) (j:=j137) (y:=x138) (y':=x134) h134 0 2 [I6 x134.Id,I6 x134.At] (by kernel_rfl) (by kernel_rfl) ?_;refine zN (Jx (Jb (Jc (zE ?_))));cases h119;exact zB
    refine zU hb (Jv (Jt ?_));cases h119;exact zX
   rintro x124 s' rfl hs;have h89:=Ka h89;refine Jr (Jx (Jb (Jy hs (Jc (zE ?_)))));cases h89;exact zB
  refine zU hb (Jv (Jt ?_));cases h89;exact zX
 rintro x93 s' rfl hs;have h:=Ka h;refine Jr ?_;cases h;exact Jj1 hs (by kernel_rfl)
def Wz (a0:(List Jf)) (a1:Int) (a2:Int) (a3:Int):(Int×(List Jf))→Option ((Int×(List Jf))⊕((List Jf)⊕(List Jf))):=fun (x9,x10) =>
 bif decide (x9<a3) then (
  (Zp 0 (((a0:(List Jf)).map cellsOf).length) (w64 (a2+x9))).bind fun j20 =>
  (Wl x10 (((a0:(List Jf)).map cellsOf).length) j20).bind fun x21 =>
  (Zp 0 (((a0:(List Jf)).map cellsOf).length) (w64 (a1+x9))).bind fun j22 =>
  (Wl x10 (((a0:(List Jf)).map cellsOf).length) j22).bind fun x23 =>
  (Zp 0 (((a0:(List Jf)).map cellsOf).length) (w64 (a1+x9))).bind fun j24 =>
  (Wl x10 (((a0:(List Jf)).map cellsOf).length) j24).bind fun x25 =>
  (Zp 0 (((a0:(List Jf)).map cellsOf).length) (w64 (a2+x9))).bind fun j26 =>
  (Wl (x10.set j24 x21) (((a0:(List Jf)).map cellsOf).length) j26).bind fun x27 =>
  some (.inl (w64 (x9+1),((x10.set j24 x21).set j26 x23)))
 ) else (
  some (.inr (.inl x10))
 )
def Qd (a0:(List Jf)) (a1:Int) (a2:Int) (a3:Int):Option (List Jf) :=
 onInl (α:=(List Jf)) (β:=(List Jf)) (Ki (Wz a0 a1 a2 a3) (0,a0)) fun x19 =>
 some x19
theorem Qr (a0:(List Jf)) (a1:Int) (a2:Int) (a3:Int) (r:(List Jf)) (h:Qd a0 a1 a2 a3=some r):Pl Tryz.prog GlS 280 2 16 (a0.map cellsOf) [Enc.pv a1,Enc.pv a2,Enc.pv a3,.fn 248 []] none (r.map cellsOf):=by
 unfold Qd at h;refine Ch Tryz.func280 (by rfl) rfl Tryz.ntmps280 (by rfl) rfl ?_;refine Ja (Jc (zE (Jb (Jl ?_))));obtain ⟨o18,h18,h⟩:=Kf h;refine zA 38 0 (fun (x9,x10)=>⟨[(0,.ex 1000000000 2 16 ((a0.map cellsOf).length) 0 ((a0.map cellsOf).length)),(1,I6 a1),(2,I6 a2),(3,I6 a3),(10,I6 x9)],[],[(1000000000,((a0.map cellsOf).length,0))],[(1000000000,(2,(16,x10.map cellsOf)))]⟩) (fun x19=>⟨[],[],[(1000000000,((a0.map cellsOf).length,0))],[(1000000000,(2,(16,x19.map cellsOf)))]⟩) h18 ?_ ?_
 ·rintro ⟨x9,x10⟩ oh17 h17;unfold Wz at h17;refine Ja (Ja (Jc (zE (Jb ?_))));rcases Ji h17 with ⟨hb,h17⟩|⟨hb,h17⟩
  ·refine zT hb (Jg (Jb (Ja (Jl (zD (zR 12 ?_))))));obtain ⟨j20,h19,h17⟩:=Je h17;refine Uz (tk:=1000000000) (k:=2) (N:=(a0.map cellsOf).length) h19 (by kernel_rfl) ?_;obtain ⟨x21,h20,h17⟩:=Je h17;refine Vk (L:=x10) (N:=(a0.map cellsOf).length) (j:=j20) (y:=x21) (v:=Enc.pv x21) h20 true 2 0 (by kernel_rfl) (by kernel_rfl) ?_;refine zR 4 ?_;obtain ⟨j22,h21,h17⟩:=Je h17;refine Uz (tk:=1000000000) (k:=2) (N:=(a0.map cellsOf).length) h21 (by kernel_rfl) ?_;obtain ⟨x23,h22,h17⟩:=Je h17;refine Vk (L:=x10) (N:=(a0.map cellsOf).length) (j:=j22) (y:=x23) (v:=Enc.pv x23) h22 true 2 0 (by kernel_rfl) (by kernel_rfl) ?_;obtain ⟨j24,h23,h17⟩:=Je h17;refine Uz (tk:=1000000000) (k:=2) (N:=(a0.map cellsOf).length) h23 (by kernel_rfl) ?_;obtain ⟨x25,h24,h17⟩:=Je h17;refine Mr (L:=x10) (tk:=1000000000) (N:=(a0.map cellsOf).length) (j:=j24) (y:=x25) (y':=x21) h24 0 2 [I6 x21.Id,I6 x21.At] (by kernel_rfl) (by kernel_rfl) ?_;obtain ⟨j26,h25,h17⟩:=Je h17;refine Uz (tk:=1000000000) (k:=2) (N:=(a0.map cellsOf).length) h25 (by kernel_rfl) ?_;obtain ⟨x27,h26,h17⟩:=Je h17;refine Mr (L:=((x10.set j24 x21):(List Jf))) (tk:=1000000000) (N:=(a0.map cellsOf).length) (j:=j26) (y:=x27) (y':=x23) h26 0 2 [I6 x23.Id,I6 x23.At] (by kernel_rfl) (by kernel_rfl) ?_;refine zN (Jx (Jb (Jc (zE ?_))));cases h17;exact zB
  refine zU hb (Jv (Jt ?_));cases h17;exact zX
 rintro x19 s' rfl hs;have h:=Ka h;refine Jr ?_;cases h;exact Jj1 hs (by kernel_rfl)
def Zk (a2:Int):(Int×(List Jf)×Int)→Option ((Int×(List Jf)×Int)⊕(((List Jf)×Int)⊕(List Jf))):=fun (x3,x4,x5) =>
 bif (!(decide (x3=x5))) then (
  bif decide (x5<x3) then (
   (Qd x4 (w64 (a2 - x3)) a2 x5).bind fun r10 =>
   some (.inl (w64 (x3 - x5),r10,x5))
  ) else (
   (Qd x4 (w64 (a2 - x3)) (w64 ((w64 (a2+x5)) - x3)) x3).bind fun r11 =>
   some (.inl (x3,r11,w64 (x5 - x3)))
  )
 ) else (
  some (.inr (.inl (x4,x3)))
 )
def Ub (a0:(List Jf)) (a1:Int) (a2:Int) (a3:Int):Option (List Jf) :=
 onInl (α:=((List Jf)×Int)) (β:=(List Jf)) (Ki (Zk a2) (w64 (a2 - a1),a0,w64 (a3 - a2))) fun (x8,x9) =>
 (Qd x8 (w64 (a2 - x9)) a2 x9).bind fun r12 =>
 some r12
theorem Zn (a0:(List Jf)) (a1:Int) (a2:Int) (a3:Int) (r:(List Jf)) (h:Ub a0 a1 a2 a3=some r):Pl Tryz.prog GlS 279 2 16 (a0.map cellsOf) [Enc.pv a1,Enc.pv a2,Enc.pv a3,.fn 248 []] none (r.map cellsOf):=by
 unfold Ub at h;refine Ch Tryz.func279 (by rfl) rfl Tryz.ntmps279 (by rfl) rfl ?_;refine Ja (Jc (zE (Jb (Ja (Jc (zE (Jb (Ja (Jl ?_)))))))));obtain ⟨o6,h6,h⟩:=Kf h;refine zA 58 0 (fun (x3,x4,x5)=>⟨[(0,.ex 1000000000 2 16 ((a0.map cellsOf).length) 0 ((a0.map cellsOf).length)),(2,I6 a2),(4,.fn 248 []),(10,I6 x3),(11,I6 x5)],[],[(1000000000,((a0.map cellsOf).length,0))],[(1000000000,(2,(16,x4.map cellsOf)))]⟩) (fun (x8,x9)=>⟨[(0,.ex 1000000000 2 16 ((a0.map cellsOf).length) 0 ((a0.map cellsOf).length)),(2,I6 a2),(4,.fn 248 []),(10,I6 x9)],[],[(1000000000,((a0.map cellsOf).length,0))],[(1000000000,(2,(16,x8.map cellsOf)))]⟩) h6 ?_ ?_
 ·rintro ⟨x3,x4,x5⟩ oh5 h5;unfold Zk at h5;refine Ja (Ja (Jc (zE (Jb ?_))));rcases Ji h5 with ⟨hb,h5⟩|⟨hb,h5⟩
  ·refine zT hb (Jg (Jb (Jl (Ja (Jc (zE (Jb ?_)))))));rcases Ji h5 with ⟨hb,h5⟩|⟨hb,h5⟩
   ·refine zT hb (Ja (Jc (zR 7 ?_)));obtain ⟨r10,h7,h5⟩:=Je h5;refine Gr (t:=1000000000) (L:=x4) (L':=r10) (N:=(a0.map cellsOf).length) (by kernel_rfl) (by kernel_rfl) (by kernel_rfl) (Qr _ _ _ _ r10 h7) ?_;refine zN (Jb (Jc (zE (Jx ?_))));cases h5;exact zB
   refine zU hb (Ja (Jc (zR 11 ?_)));obtain ⟨r11,h8,h5⟩:=Je h5;refine Gr (t:=1000000000) (L:=x4) (L':=r11) (N:=(a0.map cellsOf).length) (by kernel_rfl) (by kernel_rfl) (by kernel_rfl) (Qr _ _ _ _ r11 h8) ?_;refine zN (Jb (Jc (zE (Jx ?_))));cases h5;exact zB
  refine zU hb (Jv (Jt ?_));cases h5;exact zX
 rintro ⟨x8,x9⟩ s' rfl hs;have h:=Ka h;refine Jr (Jb (Jy hs (Jc (zR 7 ?_))));obtain ⟨r12,h9,h⟩:=Je h;refine Gr (t:=1000000000) (L:=x8) (L':=r12) (N:=(a0.map cellsOf).length) (by kernel_rfl) (by kernel_rfl) (by kernel_rfl) (Qr _ _ _ _ r12 h9) ?_;refine zN ?_;cases h;exact Xr (by kernel_rfl)
def Yr (a0:(List Jf)) (a1:Int):(Int×Int)→Option ((Int×Int)⊕(Int⊕(List Jf))):=fun (x6,x7) =>
 bif decide (x6<x7) then (
  (Zp 0 (((a0:(List Jf)).map cellsOf).length) (w64 ((IntKind.u64.wrap (w64 (x6+x7))).fdiv 2))).bind fun j14 =>
  (Wl a0 (((a0:(List Jf)).map cellsOf).length) j14).bind fun x15 =>
  (Zp 0 (((a0:(List Jf)).map cellsOf).length) a1).bind fun j16 =>
  (Wl a0 (((a0:(List Jf)).map cellsOf).length) j16).bind fun x17 =>
  (Bp x15 x17).bind fun r18 =>
  bif decide (r18<0) then (
   some (.inl (w64 ((w64 ((IntKind.u64.wrap (w64 (x6+x7))).fdiv 2))+1),x7))
  ) else (
   some (.inl (x6,w64 ((IntKind.u64.wrap (w64 (x6+x7))).fdiv 2)))
  )
 ) else (
  some (.inr (.inl x6))
 )
def Yi (a0:(List Jf)) (x13:Int):(Int×(List Jf))→Option ((Int×(List Jf))⊕((List Jf)⊕(List Jf))):=fun (x27,x28) =>
 bif decide (x27<(w64 (x13 - 1))) then (
  (Zp 0 (((a0:(List Jf)).map cellsOf).length) (w64 (x27+1))).bind fun j38 =>
  (Wl x28 (((a0:(List Jf)).map cellsOf).length) j38).bind fun x39 =>
  (Zp 0 (((a0:(List Jf)).map cellsOf).length) x27).bind fun j40 =>
  (Wl x28 (((a0:(List Jf)).map cellsOf).length) j40).bind fun x41 =>
  (Zp 0 (((a0:(List Jf)).map cellsOf).length) x27).bind fun j42 =>
  (Wl x28 (((a0:(List Jf)).map cellsOf).length) j42).bind fun x43 =>
  (Zp 0 (((a0:(List Jf)).map cellsOf).length) (w64 (x27+1))).bind fun j44 =>
  (Wl (x28.set j42 x39) (((a0:(List Jf)).map cellsOf).length) j44).bind fun x45 =>
  some (.inl (w64 (x27+1),((x28.set j42 x39).set j44 x41)))
 ) else (
  some (.inr (.inl x28))
 )
def Yg (a0:(List Jf)) (a2:Int):(Int×Int)→Option ((Int×Int)⊕(Int⊕(List Jf))):=fun (x51,x52) =>
 bif decide (x51<x52) then (
  (Zp 0 (((a0:(List Jf)).map cellsOf).length) a2).bind fun j59 =>
  (Wl a0 (((a0:(List Jf)).map cellsOf).length) j59).bind fun x60 =>
  (Zp 0 (((a0:(List Jf)).map cellsOf).length) (w64 ((IntKind.u64.wrap (w64 (x51+x52))).fdiv 2))).bind fun j61 =>
  (Wl a0 (((a0:(List Jf)).map cellsOf).length) j61).bind fun x62 =>
  (Bp x60 x62).bind fun r63 =>
  bif (!(decide (r63<0))) then (
   some (.inl (w64 ((w64 ((IntKind.u64.wrap (w64 (x51+x52))).fdiv 2))+1),x52))
  ) else (
   some (.inl (x51,w64 ((IntKind.u64.wrap (w64 (x51+x52))).fdiv 2)))
  )
 ) else (
  some (.inr (.inl x51))
 )
def Yo (a0:(List Jf)) (x58:Int):(Int×(List Jf))→Option ((Int×(List Jf))⊕((List Jf)⊕(List Jf))):=fun (x72,x73) =>
 bif decide (x58<x72) then (
  (Zp 0 (((a0:(List Jf)).map cellsOf).length) (w64 (x72 - 1))).bind fun j83 =>
  (Wl x73 (((a0:(List Jf)).map cellsOf).length) j83).bind fun x84 =>
  (Zp 0 (((a0:(List Jf)).map cellsOf).length) x72).bind fun j85 =>
  (Wl x73 (((a0:(List Jf)).map cellsOf).length) j85).bind fun x86 =>
  (Zp 0 (((a0:(List Jf)).map cellsOf).length) x72).bind fun j87 =>
  (Wl x73 (((a0:(List Jf)).map cellsOf).length) j87).bind fun x88 =>
  (Zp 0 (((a0:(List Jf)).map cellsOf).length) (w64 (x72 - 1))).bind fun j89 =>
  (Wl (x73.set j87 x84) (((a0:(List Jf)).map cellsOf).length) j89).bind fun x90 =>
  some (.inl (w64 (x72 - 1),((x73.set j87 x84).set j89 x86)))
 ) else (
  some (.inr (.inl x73))
 )
def Ym (a0:(List Jf)) (a1:Int) (a2:Int) (a3:Int):(Int×Int)→Option ((Int×Int)⊕(Int⊕(List Jf))):=fun (x98,x99) =>
 bif decide (x98<x99) then (
  (Zp 0 (((a0:(List Jf)).map cellsOf).length) (w64 ((w64 ((w64 ((w64 ((IntKind.u64.wrap (w64 (a1+a3))).fdiv 2))+a2)) - 1)) - (w64 ((IntKind.u64.wrap (w64 (x98+x99))).fdiv 2))))).bind fun j106 =>
  (Wl a0 (((a0:(List Jf)).map cellsOf).length) j106).bind fun x107 =>
  (Zp 0 (((a0:(List Jf)).map cellsOf).length) (w64 ((IntKind.u64.wrap (w64 (x98+x99))).fdiv 2))).bind fun j108 =>
  (Wl a0 (((a0:(List Jf)).map cellsOf).length) j108).bind fun x109 =>
  (Bp x107 x109).bind fun r110 =>
  bif (!(decide (r110<0))) then (
   some (.inl (w64 ((w64 ((IntKind.u64.wrap (w64 (x98+x99))).fdiv 2))+1),x99))
  ) else (
   some (.inl (x98,w64 ((IntKind.u64.wrap (w64 (x98+x99))).fdiv 2)))
  )
 ) else (
  some (.inr (.inl x98))
 )
def Qh (rc_d_slices_symMergeCmpFunc_api_Linked__linking_Of_c1:(List Jf)→Int→Int→Int→Option (List Jf)) (a0:(List Jf)) (a1:Int) (a2:Int) (a3:Int):Option (List Jf) :=
 bif decide ((w64 (a2 - a1))=1) then (
  onInl (α:=Int) (β:=(List Jf)) (Ki (Yr a0 a1) (a2,a3)) fun x13 =>
  onInl (α:=(List Jf)) (β:=(List Jf)) (Ki (Yi a0 x13) (a1,a0)) fun x37 =>
  some x37
 ) else (
  bif decide ((w64 (a3 - a2))=1) then (
   onInl (α:=Int) (β:=(List Jf)) (Ki (Yg a0 a2) (a1,a2)) fun x58 =>
   onInl (α:=(List Jf)) (β:=(List Jf)) (Ki (Yo a0 x58) (a2,a0)) fun x82 =>
   some x82
  ) else (
   onInl (α:=(Int×Int)) (β:=(List Jf)) (
    bif decide ((w64 ((IntKind.u64.wrap (w64 (a1+a3))).fdiv 2))<a2) then (
     some (.inl (w64 ((w64 ((w64 ((IntKind.u64.wrap (w64 (a1+a3))).fdiv 2))+a2)) - a3),w64 ((IntKind.u64.wrap (w64 (a1+a3))).fdiv 2)))
    ) else (
     some (.inl (a1,a2))
    )
   ) fun (x91,x92) =>
   onInl (α:=Int) (β:=(List Jf)) (Ki (Ym a0 a1 a2 a3) (x91,x92)) fun x105 =>
   onInl (α:=(List Jf)) (β:=(List Jf)) (
    bif ((decide (x105<a2))&&(decide (a2<(w64 ((w64 ((w64 ((IntKind.u64.wrap (w64 (a1+a3))).fdiv 2))+a2)) - x105))))) then (
     (Ub a0 x105 a2 (w64 ((w64 ((w64 ((IntKind.u64.wrap (w64 (a1+a3))).fdiv 2))+a2)) - x105))).bind fun r113 =>
     some (.inl r113)
    ) else (
     some (.inl a0)
    )
   ) fun x112 =>
   onInl (α:=(List Jf)) (β:=(List Jf)) (
    bif ((decide (a1<x105))&&(decide (x105<(w64 ((IntKind.u64.wrap (w64 (a1+a3))).fdiv 2))))) then (
     (rc_d_slices_symMergeCmpFunc_api_Linked__linking_Of_c1 x112 a1 x105 (w64 ((IntKind.u64.wrap (w64 (a1+a3))).fdiv 2))).bind fun r116 =>
     some (.inl r116)
    ) else (
     some (.inl x112)
    )
   ) fun x115 =>
   bif ((decide ((w64 ((IntKind.u64.wrap (w64 (a1+a3))).fdiv 2))<(w64 ((w64 ((w64 ((IntKind.u64.wrap (w64 (a1+a3))).fdiv 2))+a2)) - x105))))&&(decide ((w64 ((w64 ((w64 ((IntKind.u64.wrap (w64 (a1+a3))).fdiv 2))+a2)) - x105))<a3))) then (
    (rc_d_slices_symMergeCmpFunc_api_Linked__linking_Of_c1 x115 (w64 ((IntKind.u64.wrap (w64 (a1+a3))).fdiv 2)) (w64 ((w64 ((w64 ((IntKind.u64.wrap (w64 (a1+a3))).fdiv 2))+a2)) - x105)) a3).bind fun r117 =>
    some r117
   ) else (
    some x115
   )
  )
 )
theorem Ut (rc_d_slices_symMergeCmpFunc_api_Linked__linking_Of_c1:(List Jf)→Int→Int→Int→Option (List Jf)) (hrc_d_slices_symMergeCmpFunc_api_Linked__linking_Of_c1:∀ (a0:(List Jf)) (a1:Int) (a2:Int) (a3:Int) (r:(List Jf)),rc_d_slices_symMergeCmpFunc_api_Linked__linking_Of_c1 a0 a1 a2 a3=some r→Pl Tryz.prog GlS 278 2 16 (a0.map cellsOf) [Enc.pv a1,Enc.pv a2,Enc.pv a3,.fn 248 []] none (r.map cellsOf)) (a0:(List Jf)) (a1:Int) (a2:Int) (a3:Int) (r:(List Jf)) (h:Qh rc_d_slices_symMergeCmpFunc_api_Linked__linking_Of_c1 a0 a1 a2 a3=some r):Pl Tryz.prog GlS 278 2 16 (a0.map cellsOf) [Enc.pv a1,Enc.pv a2,Enc.pv a3,.fn 248 []] none (r.map cellsOf):=by
 unfold Qh at h;refine Ch Tryz.func278 (by rfl) rfl Tryz.ntmps278 (by rfl) rfl ?_;refine Ja (Ja (Jc (zE (Jb ?_))));rcases Ji h with ⟨hb,h⟩|⟨hb,h⟩
 ·refine zT hb (Ja (Jc (zE (Jb (Ja (Jc (zE (Jb (Ja (Jl ?_))))))))));obtain ⟨o12,h12,h⟩:=Kf h;refine zA 220 0 (fun (x6,x7)=>⟨[(0,.ex 1000000000 2 16 ((a0.map cellsOf).length) 0 ((a0.map cellsOf).length)),(1,I6 a1),(4,.fn 248 []),(10,I6 x6),(11,I6 x7)],[],[(1000000000,((a0.map cellsOf).length,0))],[(1000000000,(2,(16,a0.map cellsOf)))]⟩) (fun x13=>⟨[(0,.ex 1000000000 2 16 ((a0.map cellsOf).length) 0 ((a0.map cellsOf).length)),(1,I6 a1),(10,I6 x13)],[],[(1000000000,((a0.map cellsOf).length,0))],[(1000000000,(2,(16,a0.map cellsOf)))]⟩) h12 ?_ ?_
  ·rintro ⟨x6,x7⟩ oh11 h11;unfold Yr at h11;refine Ja (Ja (Jc (zE (Jb ?_))));rcases Ji h11 with ⟨hb,h11⟩|⟨hb,h11⟩
   ·refine zT hb (Jg (Jb (Jl (Ja (Jc (zE (Jb (Ja (zD (zR 3 ?_))))))))));obtain ⟨j14,h13,h11⟩:=Je h11;refine Uz (tk:=1000000000) (k:=2) (N:=(a0.map cellsOf).length) h13 (by kernel_rfl) ?_;obtain ⟨x15,h14,h11⟩:=Je h11;refine Vk (L:=a0) (N:=(a0.map cellsOf).length) (j:=j14) (y:=x15) (v:=Enc.pv x15) h14 true 2 0 (by kernel_rfl) (by kernel_rfl) ?_;refine zR 2 ?_;obtain ⟨j16,h15,h11⟩:=Je h11;refine Uz (tk:=1000000000) (k:=2) (N:=(a0.map cellsOf).length) h15 (by kernel_rfl) ?_;obtain ⟨x17,h16,h11⟩:=Je h11;refine Vk (L:=a0) (N:=(a0.map cellsOf).length) (j:=j16) (y:=x17) (v:=Enc.pv x17) h16 true 2 0 (by kernel_rfl) (by kernel_rfl) ?_;obtain ⟨r18,h17,h11⟩:=Je h11;refine zP (Dq _ _ r18 h17) (zE (Jb ?_));rcases Ji h11 with ⟨hb,h11⟩|⟨hb,h11⟩
    ·refine zT hb (Jc (zE (Jx ?_)));cases h11;exact zB
    refine zU hb (Jc (zE (Jx ?_)));cases h11;exact zB
   refine zU hb (Jv (Jt ?_));cases h11;exact zX
  rintro x13 s' rfl hs;have h:=Ka h;refine Jr (Jb (Jy hs (Ja (Ja (Jc (zE (Jb (Jl ?_))))))));obtain ⟨o35,h35,h⟩:=Kf h;refine zA 220 2 (fun (x27,x28)=>⟨[(0,.ex 1000000000 2 16 ((a0.map cellsOf).length) 0 ((a0.map cellsOf).length)),(10,I6 x13),(13,I6 x27)],[],[(1000000000,((a0.map cellsOf).length,0))],[(1000000000,(2,(16,x28.map cellsOf)))]⟩) (fun x37=>⟨[],[],[(1000000000,((a0.map cellsOf).length,0))],[(1000000000,(2,(16,x37.map cellsOf)))]⟩) h35 ?_ ?_
  ·rintro ⟨x27,x28⟩ oh34 h34;unfold Yi at h34;refine Ja (Ja (Jc (zE (Jb ?_))));rcases Ji h34 with ⟨hb,h34⟩|⟨hb,h34⟩
   ·refine zT hb (Jg (Jb (Ja (Jl (zD (zR 8 ?_))))));obtain ⟨j38,h36,h34⟩:=Je h34;refine Uz (tk:=1000000000) (k:=2) (N:=(a0.map cellsOf).length) h36 (by kernel_rfl) ?_;obtain ⟨x39,h37,h34⟩:=Je h34;refine Vk (L:=x28) (N:=(a0.map cellsOf).length) (j:=j38) (y:=x39) (v:=Enc.pv x39) h37 true 2 0 (by kernel_rfl) (by kernel_rfl) ?_;refine zR 2 ?_;obtain ⟨j40,h38,h34⟩:=Je h34;refine Uz (tk:=1000000000) (k:=2) (N:=(a0.map cellsOf).length) h38 (by kernel_rfl) ?_;obtain ⟨x41,h39,h34⟩:=Je h34;refine Vk (L:=x28) (N:=(a0.map cellsOf).length) (j:=j40) (y:=x41) (v:=Enc.pv x41) h39 true 2 0 (by kernel_rfl) (by kernel_rfl) ?_;obtain ⟨j42,h40,h34⟩:=Je h34;refine Uz (tk:=1000000000) (k:=2) (N:=(a0.map cellsOf).length) h40 (by kernel_rfl) ?_;obtain ⟨x43,h41,h34⟩:=Je h34;refine Mr (L:=x28) (tk:=1000000000) (N:=(a0.map cellsOf).length) (j:=j42) (y:=x43) (y':=x39) h41 0 2 [I6 x39.Id,I6 x39.At] (by kernel_rfl) (by kernel_rfl) ?_;obtain ⟨j44,h42,h34⟩:=Je h34;refine Uz (tk:=1000000000) (k:=2) (N:=(a0.map cellsOf).length) h42 (by kernel_rfl) ?_;obtain ⟨x45,h43,h34⟩:=Je h34;refine Mr (L:=((x28.set j42 x39):(List Jf))) (tk:=1000000000) (N:=(a0.map cellsOf).length) (j:=j44) (y:=x45) (y':=x41) h43 0 2 [I6 x41.Id,I6 x41.At] (by kernel_rfl) (by kernel_rfl) ?_;refine zN (Jx (Jb (Jc (zE ?_))));cases h34;exact zB
   refine zU hb (Jv (Jt ?_));cases h34;exact zX
  rintro x37 s' rfl hs;have h:=Ka h;refine Jr (Jb (Jy hs (Jm (Jj ?_))));cases h;exact Xr (by kernel_rfl)
 refine zU hb (Jg (Jb (Ja (Ja (Jc (zE (Jb ?_)))))));rcases Ji h with ⟨hb,h⟩|⟨hb,h⟩
 ·refine zT hb (Ja (Jc (zE (Jb (Ja (Jc (zE (Jb (Ja (Jl ?_))))))))));obtain ⟨o55,h55,h⟩:=Kf h;refine zA 220 4 (fun (x51,x52)=>⟨[(0,.ex 1000000000 2 16 ((a0.map cellsOf).length) 0 ((a0.map cellsOf).length)),(2,I6 a2),(4,.fn 248 []),(14,I6 x51),(15,I6 x52)],[],[(1000000000,((a0.map cellsOf).length,0))],[(1000000000,(2,(16,a0.map cellsOf)))]⟩) (fun x58=>⟨[(0,.ex 1000000000 2 16 ((a0.map cellsOf).length) 0 ((a0.map cellsOf).length)),(2,I6 a2),(14,I6 x58)],[],[(1000000000,((a0.map cellsOf).length,0))],[(1000000000,(2,(16,a0.map cellsOf)))]⟩) h55 ?_ ?_
  ·rintro ⟨x51,x52⟩ oh54 h54;unfold Yg at h54;refine Ja (Ja (Jc (zE (Jb ?_))));rcases Ji h54 with ⟨hb,h54⟩|⟨hb,h54⟩
   ·refine zT hb (Jg (Jb (Jl (Ja (Jc (zE (Jb (Ja (zD (zR 3 ?_))))))))));obtain ⟨j59,h56,h54⟩:=Je h54;refine Uz (tk:=1000000000) (k:=2) (N:=(a0.map cellsOf).length) h56 (by kernel_rfl) ?_;obtain ⟨x60,h57,h54⟩:=Je h54;refine Vk (L:=a0) (N:=(a0.map cellsOf).length) (j:=j59) (y:=x60) (v:=Enc.pv x60) h57 true 2 0 (by kernel_rfl) (by kernel_rfl) ?_;refine zR 2 ?_;obtain ⟨j61,h58,h54⟩:=Je h54;refine Uz (tk:=1000000000) (k:=2) (N:=(a0.map cellsOf).length) h58 (by kernel_rfl) ?_;obtain ⟨x62,h59,h54⟩:=Je h54;refine Vk (L:=a0) (N:=(a0.map cellsOf).length) (j:=j61) (y:=x62) (v:=Enc.pv x62) h59 true 2 0 (by kernel_rfl) (by kernel_rfl) ?_;obtain ⟨r63,h60,h54⟩:=Je h54;refine zP (Dq _ _ r63 h60) (zE (Jb ?_));rcases Ji h54 with ⟨hb,h54⟩|⟨hb,h54⟩
    ·refine zT hb (Jc (zE (Jx ?_)));cases h54;exact zB
    refine zU hb (Jc (zE (Jx ?_)));cases h54;exact zB
   refine zU hb (Jv (Jt ?_));cases h54;exact zX
  rintro x58 s' rfl hs;have h:=Ka h;refine Jr (Jb (Jy hs (Ja (Ja (Jc (zE (Jb (Jl ?_))))))));obtain ⟨o78,h78,h⟩:=Kf h;refine zA 220 6 (fun (x72,x73)=>⟨[(0,.ex 1000000000 2 16 ((a0.map cellsOf).length) 0 ((a0.map cellsOf).length)),(14,I6 x58),(17,I6 x72)],[],[(1000000000,((a0.map cellsOf).length,0))],[(1000000000,(2,(16,x73.map cellsOf)))]⟩) (fun x82=>⟨[],[],[(1000000000,((a0.map cellsOf).length,0))],[(1000000000,(2,(16,x82.map cellsOf)))]⟩) h78 ?_ ?_
  ·rintro ⟨x72,x73⟩ oh77 h77;unfold Yo at h77;refine Ja (Ja (Jc (zE (Jb ?_))));rcases Ji h77 with ⟨hb,h77⟩|⟨hb,h77⟩
   ·refine zT hb (Jg (Jb (Ja (Jl (zD (zR 8 ?_))))));obtain ⟨j83,h79,h77⟩:=Je h77;refine Uz (tk:=1000000000) (k:=2) (N:=(a0.map cellsOf).length) h79 (by kernel_rfl) ?_;obtain ⟨x84,h80,h77⟩:=Je h77;refine Vk (L:=x73) (N:=(a0.map cellsOf).length) (j:=j83) (y:=x84) (v:=Enc.pv x84) h80 true 2 0 (by kernel_rfl) (by kernel_rfl) ?_;refine zR 2 ?_;obtain ⟨j85,h81,h77⟩:=Je h77;refine Uz (tk:=1000000000) (k:=2) (N:=(a0.map cellsOf).length) h81 (by kernel_rfl) ?_;obtain ⟨x86,h82,h77⟩:=Je h77;refine Vk (L:=x73) (N:=(a0.map cellsOf).length) (j:=j85) (y:=x86) (v:=Enc.pv x86) h82 true 2 0 (by kernel_rfl) (by kernel_rfl) ?_;obtain ⟨j87,h83,h77⟩:=Je h77;refine Uz (tk:=1000000000) (k:=2) (N:=(a0.map cellsOf).length) h83 (by kernel_rfl) ?_;obtain ⟨x88,h84,h77⟩:=Je h77;refine Mr (L:=x73) (tk:=1000000000) (N:=(a0.map cellsOf).length) (j:=j87) (y:=x88) (y':=x84) h84 0 2 [I6 x84.Id,I6 x84.At] (by kernel_rfl) (by kernel_rfl) ?_;obtain ⟨j89,h85,h77⟩:=Je h77;refine Uz (tk:=1000000000) (k:=2) (N:=(a0.map cellsOf).length) h85 (by kernel_rfl) ?_;obtain ⟨x90,h86,h77⟩:=Je h77;refine Mr (L:=((x73.set j87 x84):(List Jf))) (tk:=1000000000) (N:=(a0.map cellsOf).length) (j:=j89) (y:=x90) (y':=x86) h86 0 2 [I6 x86.Id,I6 x86.At] (by kernel_rfl) (by kernel_rfl) ?_;refine zN (Jx (Jb (Jc (zE ?_))));cases h77;exact zB
   refine zU hb (Jv (Jt ?_));cases h77;exact zX
  rintro x82 s' rfl hs;have h:=Ka h;refine Jr (Jb (Jy hs (Jm (Jj ?_))));cases h;exact Xr (by kernel_rfl)
 refine zU hb (Jg (Jb (Ja (Jc (zE (Jb (Ja (Jc (zE (Jb (Ja (Jc (zE (Jb ?_))))))))))))));obtain ⟨o87,h87,h⟩:=Kf h;refine Qm (o:=o87) 220 (fun (x91,x92)=>⟨[(0,.ex 1000000000 2 16 ((a0.map cellsOf).length) 0 ((a0.map cellsOf).length)),(1,I6 a1),(2,I6 a2),(3,I6 a3),(4,.fn 248 []),(18,I6 (w64 ((IntKind.u64.wrap (w64 (a1+a3))).fdiv 2))),(19,I6 (w64 ((w64 ((IntKind.u64.wrap (w64 (a1+a3))).fdiv 2))+a2))),(20,I6 x91),(21,I6 x92)],[],[(1000000000,((a0.map cellsOf).length,0))],[(1000000000,(2,(16,a0.map cellsOf)))]⟩) ?_ ?_
 ·refine Ja (Jc (zE (Jb ?_)));rcases Ji h87 with ⟨hb,h87⟩|⟨hb,h87⟩
  ·refine zT hb (Ja (Jc (zE (Jb (Jc (zE ?_))))));cases h87;exact zJ
  refine zU hb (Ja (Jc (zE (Jb (Jc (zE ?_))))));cases h87;exact zJ
 rintro ⟨x91,x92⟩ rfl;have h:=Ka h;refine Ja (Jc (zE (Jb (Ja (Jl ?_)))));obtain ⟨o99,h99,h⟩:=Kf h;refine zA 220 8 (fun (x98,x99)=>⟨[(0,.ex 1000000000 2 16 ((a0.map cellsOf).length) 0 ((a0.map cellsOf).length)),(1,I6 a1),(2,I6 a2),(3,I6 a3),(4,.fn 248 []),(18,I6 (w64 ((IntKind.u64.wrap (w64 (a1+a3))).fdiv 2))),(19,I6 (w64 ((w64 ((IntKind.u64.wrap (w64 (a1+a3))).fdiv 2))+a2))),(20,I6 x98),(21,I6 x99),(22,I6 (w64 ((w64 ((w64 ((IntKind.u64.wrap (w64 (a1+a3))).fdiv 2))+a2)) - 1)))],[],[(1000000000,((a0.map cellsOf).length,0))],[(1000000000,(2,(16,a0.map cellsOf)))]⟩) (fun x105=>⟨[(0,.ex 1000000000 2 16 ((a0.map cellsOf).length) 0 ((a0.map cellsOf).length)),(1,I6 a1),(2,I6 a2),(3,I6 a3),(4,.fn 248 []),(18,I6 (w64 ((IntKind.u64.wrap (w64 (a1+a3))).fdiv 2))),(19,I6 (w64 ((w64 ((IntKind.u64.wrap (w64 (a1+a3))).fdiv 2))+a2))),(20,I6 x105)],[],[(1000000000,((a0.map cellsOf).length,0))],[(1000000000,(2,(16,a0.map cellsOf)))]⟩) h99 ?_ ?_
 ·rintro ⟨x98,x99⟩ oh98 h98;unfold Ym at h98;refine Ja (Ja (Jc (zE (Jb ?_))));rcases Ji h98 with ⟨hb,h98⟩|⟨hb,h98⟩
  ·refine zT hb (Jg (Jb (Jl (Ja (Jc (zE (Jb (Ja (zD (zR 5 ?_))))))))));obtain ⟨j106,h100,h98⟩:=Je h98;refine Uz (tk:=1000000000) (k:=2) (N:=(a0.map cellsOf).length) h100 (by kernel_rfl) ?_;obtain ⟨x107,h101,h98⟩:=Je h98;refine Vk (L:=a0) (N:=(a0.map cellsOf).length) (j:=j106) (y:=x107) (v:=Enc.pv x107) h101 true 2 0 (by kernel_rfl) (by kernel_rfl) ?_;refine zR 2 ?_;obtain ⟨j108,h102,h98⟩:=Je h98;refine Uz (tk:=1000000000) (k:=2) (N:=(a0.map cellsOf).length) h102 (by kernel_rfl) ?_;obtain ⟨x109,h103,h98⟩:=Je h98;refine Vk (L:=a0) (N:=(a0.map cellsOf).length) (j:=j108) (y:=x109) (v:=Enc.pv x109) h103 true 2 0 (by kernel_rfl) (by kernel_rfl) ?_;obtain ⟨r110,h104,h98⟩:=Je h98;refine zP (Dq _ _ r110 h104) (zE (Jb ?_));rcases Ji h98 with ⟨hb,h98⟩|⟨hb,h98⟩
   ·refine zT hb (Jc (zE (Jx ?_)));cases h98;exact zB
   refine zU hb (Jc (zE (Jx ?_)));cases h98;exact zB
  refine zU hb (Jv (Jt ?_));cases h98;exact zX
 rintro x105 s' rfl hs;have h:=Ka h;refine Jr (Jb (Jy hs (Ja (Jc (zE (Jb ?_))))));obtain ⟨o106,h106,h⟩:=Kf h;refine Qm (o:=o106) 220 (fun x112=>⟨[(0,.ex 1000000000 2 16 ((a0.map cellsOf).length) 0 ((a0.map cellsOf).length)),(1,I6 a1),(3,I6 a3),(4,.fn 248 []),(18,I6 (w64 ((IntKind.u64.wrap (w64 (a1+a3))).fdiv 2))),(20,I6 x105),(24,I6 (w64 ((w64 ((w64 ((IntKind.u64.wrap (w64 (a1+a3))).fdiv 2))+a2)) - x105)))],[],[(1000000000,((a0.map cellsOf).length,0))],[(1000000000,(2,(16,x112.map cellsOf)))]⟩) ?_ ?_
 ·refine Ja (Jc (zR 4 ?_));refine Ks 4 185 ((decide (x105<a2))&&(decide (a2<(w64 ((w64 ((w64 ((IntKind.u64.wrap (w64 (a1+a3))).fdiv 2))+a2)) - x105))))) (fun x hx=>?_) ?_
  ·rcases Vz hx with ⟨hb,hx⟩|⟨hb,hx⟩
   ·refine zS 181 hb ?_;subst hx;exact zF
   refine zS 181 hb ?_;subst hx;exact zF
  refine zN (Jb ?_);rcases Ji h106 with ⟨hb,h106⟩|⟨hb,h106⟩
  ·refine zT hb (Jc (zR 5 ?_));obtain ⟨r113,h107,h106⟩:=Je h106;refine Gr (t:=1000000000) (L:=a0) (L':=r113) (N:=(a0.map cellsOf).length) (by kernel_rfl) (by kernel_rfl) (by kernel_rfl) (Zn _ _ _ _ r113 h107) ?_;refine zN ?_;cases h106;exact zJ
  refine zU hb (Jg ?_);cases h106;exact zJ
 rintro x112 rfl;have h:=Ka h;obtain ⟨o109,h109,h⟩:=Kf h;refine Qm (o:=o109) 220 (fun x115=>⟨[(0,.ex 1000000000 2 16 ((a0.map cellsOf).length) 0 ((a0.map cellsOf).length)),(3,I6 a3),(4,.fn 248 []),(18,I6 (w64 ((IntKind.u64.wrap (w64 (a1+a3))).fdiv 2))),(24,I6 (w64 ((w64 ((w64 ((IntKind.u64.wrap (w64 (a1+a3))).fdiv 2))+a2)) - x105)))],[],[(1000000000,((a0.map cellsOf).length,0))],[(1000000000,(2,(16,x115.map cellsOf)))]⟩) ?_ ?_
 ·refine Ja (Jc (zR 4 ?_));refine Ks 4 199 ((decide (a1<x105))&&(decide (x105<(w64 ((IntKind.u64.wrap (w64 (a1+a3))).fdiv 2))))) (fun x hx=>?_) ?_
  ·rcases Vz hx with ⟨hb,hx⟩|⟨hb,hx⟩
   ·refine zS 195 hb ?_;subst hx;exact zF
   refine zS 195 hb ?_;subst hx;exact zF
  refine zN (Jb ?_);rcases Ji h109 with ⟨hb,h109⟩|⟨hb,h109⟩
  ·refine zT hb (Jc (zR 5 ?_));obtain ⟨r116,h110,h109⟩:=Je h109;refine Gr (t:=1000000000) (L:=x112) (L':=r116) (N:=(a0.map cellsOf).length) (by kernel_rfl) (by kernel_rfl) (by kernel_rfl) (hrc_d_slices_symMergeCmpFunc_api_Linked__linking_Of_c1 _ _ _ _ r116 h110) ?_;refine zN ?_;cases h109;exact zJ
  refine zU hb (Jg ?_);cases h109;exact zJ
 rintro x115 rfl;have h:=Ka h;refine Ja (Jc (zR 4 ?_));refine Ks 4 213 ((decide ((w64 ((IntKind.u64.wrap (w64 (a1+a3))).fdiv 2))<(w64 ((w64 ((w64 ((IntKind.u64.wrap (w64 (a1+a3))).fdiv 2))+a2)) - x105))))&&(decide ((w64 ((w64 ((w64 ((IntKind.u64.wrap (w64 (a1+a3))).fdiv 2))+a2)) - x105))<a3))) (fun x hx=>?_) ?_
 ·rcases Vz hx with ⟨hb,hx⟩|⟨hb,hx⟩
  ·refine zS 209 hb ?_;subst hx;exact zF
  refine zS 209 hb ?_;subst hx;exact zF
 refine zN (Jb ?_);rcases Ji h with ⟨hb,h⟩|⟨hb,h⟩
 ·refine zT hb (Jc (zR 5 ?_));obtain ⟨r117,h111,h⟩:=Je h;refine Gr (t:=1000000000) (L:=x115) (L':=r117) (N:=(a0.map cellsOf).length) (by kernel_rfl) (by kernel_rfl) (by kernel_rfl) (hrc_d_slices_symMergeCmpFunc_api_Linked__linking_Of_c1 _ _ _ _ r117 h111) ?_;refine zN ?_;cases h;exact Xr (by kernel_rfl)
 refine zU hb (Jg ?_);cases h;exact Xr (by kernel_rfl)
def Qi (n:Nat):(List Jf)→Int→Int→Int→Option (List Jf):=Nat.rec (fun _ _ _ _=>none) (fun _ ih=>Qh ih) n
theorem Uu : ∀ (n:Nat) (a0:(List Jf)) (a1:Int) (a2:Int) (a3:Int) (r:(List Jf)),Qi n a0 a1 a2 a3=some r→Pl Tryz.prog GlS 278 2 16 (a0.map cellsOf) [Enc.pv a1,Enc.pv a2,Enc.pv a3,.fn 248 []] none (r.map cellsOf)
 | 0,_,_,_,_,_,h=>by cases h
 | n+1,a0,a1,a2,a3,r,h=>Ut (Qi n) (Uu n) a0 a1 a2 a3 r h
def Qx (a0:(List Jf)) (a1:Int) (a2:Int) (a3:Int):Option (List Jf):=Qh (Qi Jfz) a0 a1 a2 a3
theorem Va (a0:(List Jf)) (a1:Int) (a2:Int) (a3:Int) (r:(List Jf)) (h:Qx a0 a1 a2 a3=some r):Pl Tryz.prog GlS 278 2 16 (a0.map cellsOf) [Enc.pv a1,Enc.pv a2,Enc.pv a3,.fn 248 []] none (r.map cellsOf):=Ut (Qi Jfz) (Uu Jfz) a0 a1 a2 a3 r h
def Zi (a1:Int):(Int×Int×(List Jf))→Option ((Int×Int×(List Jf))⊕(((List Jf)×Int)⊕(List Jf))):=fun (x2,x3,x4) =>
 bif decide (x3≤a1) then (
  (Qe x4 x2 x3).bind fun r8 =>
  some (.inl (x3,w64 (x3+20),r8))
 ) else (
  some (.inr (.inl (x4,x2)))
 )
def Zl (a1:Int) (x21:Int):(Int×Int×(List Jf))→Option ((Int×Int×(List Jf))⊕(((List Jf)×Int)⊕((Int×(List Jf))⊕((List Jf)⊕(List Jf))))):=fun (x36,x37,x38) =>
 bif decide (x37≤a1) then (
  (Qx x38 x36 (w64 (x36+x21)) x37).bind fun r42 =>
  some (.inl (x37,w64 (x37+(w64 (2 * x21))),r42))
 ) else (
  some (.inr (.inl (x38,x36)))
 )
def Zj (a1:Int):(Int×(List Jf))→Option ((Int×(List Jf))⊕((List Jf)⊕(List Jf))):=fun (x21,x22) =>
 bif decide (x21<a1) then (
  onInl (α:=((List Jf)×Int)) (β:=((Int×(List Jf))⊕((List Jf)⊕(List Jf)))) (Ki (Zl a1 x21) (0,w64 (2 * x21),x22)) fun (x40,x41) =>
  onInl (α:=(List Jf)) (β:=((Int×(List Jf))⊕((List Jf)⊕(List Jf)))) (
   bif decide ((w64 (x41+x21))<a1) then (
    (Qx x40 x41 (w64 (x41+x21)) a1).bind fun r45 =>
    some (.inl r45)
   ) else (
    some (.inl x40)
   )
  ) fun x44 =>
  some (.inl (w64 (x21 * 2),x44))
 ) else (
  some (.inr (.inl x22))
 )
def Qz (a0:(List Jf)) (a1:Int):Option (List Jf) :=
 onInl (α:=((List Jf)×Int)) (β:=(List Jf)) (Ki (Zi a1) (0,20,a0)) fun (x6,x7) =>
 (Qe x6 x7 a1).bind fun r9 =>
 onInl (α:=(List Jf)) (β:=(List Jf)) (Ki (Zj a1) (20,r9)) fun x34 =>
 some x34
theorem Zq (a0:(List Jf)) (a1:Int) (r:(List Jf)) (h:Qz a0 a1=some r):Pl Tryz.prog GlS 274 2 16 (a0.map cellsOf) [Enc.pv a1,.fn 248 []] none (r.map cellsOf):=by
 unfold Qz at h;refine Ch Tryz.func274 (by rfl) rfl Tryz.ntmps274 (by rfl) rfl ?_;refine Ja (Jc (zE (Jb (Ja (Jc (zE (Jb (Ja (Jl ?_)))))))));obtain ⟨o4,h4,h⟩:=Kf h;refine zA 63 0 (fun (x2,x3,x4)=>⟨[(0,.ex 1000000000 2 16 ((a0.map cellsOf).length) 0 ((a0.map cellsOf).length)),(1,I6 a1),(2,.fn 248 []),(6,I6 20),(7,I6 x2),(8,I6 x3)],[],[(1000000000,((a0.map cellsOf).length,0))],[(1000000000,(2,(16,x4.map cellsOf)))]⟩) (fun (x6,x7)=>⟨[(0,.ex 1000000000 2 16 ((a0.map cellsOf).length) 0 ((a0.map cellsOf).length)),(1,I6 a1),(2,.fn 248 []),(6,I6 20),(7,I6 x7)],[],[(1000000000,((a0.map cellsOf).length,0))],[(1000000000,(2,(16,x6.map cellsOf)))]⟩) h4 ?_ ?_
 ·rintro ⟨x2,x3,x4⟩ oh3 h3;unfold Zi at h3;refine Ja (Ja (Jc (zE (Jb ?_))));rcases Ji h3 with ⟨hb,h3⟩|⟨hb,h3⟩
  ·refine zT hb (Jg (Jb (Jl (Ja (Jc (zR 4 ?_))))));obtain ⟨r8,h5,h3⟩:=Je h3;refine Gr (t:=1000000000) (L:=x4) (L':=r8) (N:=(a0.map cellsOf).length) (by kernel_rfl) (by kernel_rfl) (by kernel_rfl) (Uk _ _ _ r8 h5) ?_;refine zN (Jb (Ja (Jc (zE (Jb (Jc (zE (Jx ?_))))))));cases h3;exact zB
  refine zU hb (Jv (Jt ?_));cases h3;exact zX
 rintro ⟨x6,x7⟩ s' rfl hs;have h:=Ka h;refine Jr (Jb (Jy hs (Ja (Jc (zR 4 ?_)))));obtain ⟨r9,h6,h⟩:=Je h;refine Gr (t:=1000000000) (L:=x6) (L':=r9) (N:=(a0.map cellsOf).length) (by kernel_rfl) (by kernel_rfl) (by kernel_rfl) (Uk _ _ _ r9 h6) ?_;refine zN (Jb (Jl ?_));obtain ⟨o24,h24,h⟩:=Kf h;refine zA 63 2 (fun (x21,x22)=>⟨[(0,.ex 1000000000 2 16 ((a0.map cellsOf).length) 0 ((a0.map cellsOf).length)),(1,I6 a1),(2,.fn 248 []),(6,I6 x21)],[],[(1000000000,((a0.map cellsOf).length,0))],[(1000000000,(2,(16,x22.map cellsOf)))]⟩) (fun x34=>⟨[],[],[(1000000000,((a0.map cellsOf).length,0))],[(1000000000,(2,(16,x34.map cellsOf)))]⟩) h24 ?_ ?_
 ·rintro ⟨x21,x22⟩ oh23 h23;unfold Zj at h23;refine Ja (Ja (Jc (zE (Jb ?_))));rcases Ji h23 with ⟨hb,h23⟩|⟨hb,h23⟩
  ·refine zT hb (Jg (Jb (Jl (Ja (Jc (zE (Jb (Ja (Jl ?_)))))))));obtain ⟨o28,h28,h23⟩:=Kf h23;refine zA 63 4 (fun (x36,x37,x38)=>⟨[(0,.ex 1000000000 2 16 ((a0.map cellsOf).length) 0 ((a0.map cellsOf).length)),(1,I6 a1),(2,.fn 248 []),(6,I6 x21),(7,I6 x36),(8,I6 x37)],[],[(1000000000,((a0.map cellsOf).length,0))],[(1000000000,(2,(16,x38.map cellsOf)))]⟩) (fun (x40,x41)=>⟨[(0,.ex 1000000000 2 16 ((a0.map cellsOf).length) 0 ((a0.map cellsOf).length)),(1,I6 a1),(2,.fn 248 []),(6,I6 x21),(7,I6 x41)],[],[(1000000000,((a0.map cellsOf).length,0))],[(1000000000,(2,(16,x40.map cellsOf)))]⟩) h28 ?_ ?_
   ·rintro ⟨x36,x37,x38⟩ oh27 h27;unfold Zl at h27;refine Ja (Ja (Jc (zE (Jb ?_))));rcases Ji h27 with ⟨hb,h27⟩|⟨hb,h27⟩
    ·refine zT hb (Jg (Jb (Jl (Ja (Jc (zR 7 ?_))))));obtain ⟨r42,h29,h27⟩:=Je h27;refine Gr (t:=1000000000) (L:=x38) (L':=r42) (N:=(a0.map cellsOf).length) (by kernel_rfl) (by kernel_rfl) (by kernel_rfl) (Va _ _ _ _ r42 h29) ?_;refine zN (Jb (Ja (Jc (zE (Jb (Jc (zE (Jx ?_))))))));cases h27;exact zB
    refine zU hb (Jv (Jt ?_));cases h27;exact zX
   rintro ⟨x40,x41⟩ s' rfl hs;have h23:=Ka h23;refine Jr (Jb (Jy hs ?_));obtain ⟨o31,h31,h23⟩:=Kf h23;refine Qm (o:=o31) 63 (fun x44=>⟨[(0,.ex 1000000000 2 16 ((a0.map cellsOf).length) 0 ((a0.map cellsOf).length)),(1,I6 a1),(2,.fn 248 []),(6,I6 x21)],[],[(1000000000,((a0.map cellsOf).length,0))],[(1000000000,(2,(16,x44.map cellsOf)))]⟩) ?_ ?_
   ·refine Ja (Jc (zE (Jb (Ja (Jc (zE (Jb ?_)))))));rcases Ji h31 with ⟨hb,h31⟩|⟨hb,h31⟩
    ·refine zT hb (Jc (zR 5 ?_));obtain ⟨r45,h32,h31⟩:=Je h31;refine Gr (t:=1000000000) (L:=x40) (L':=r45) (N:=(a0.map cellsOf).length) (by kernel_rfl) (by kernel_rfl) (by kernel_rfl) (Va _ _ _ _ r45 h32) ?_;refine zN ?_;cases h31;exact zJ
    refine zU hb (Jg ?_);cases h31;exact zJ
   rintro x44 rfl;have h23:=Ka h23;refine Jc (zE (Jx ?_));cases h23;exact zB
  refine zU hb (Jv (Jt ?_));cases h23;exact zX
 rintro x34 s' rfl hs;have h:=Ka h;refine Jr ?_;cases h;exact Jj1 hs (by kernel_rfl)
def Qy (a0:(List Jf)):Option (List Jf) :=
 (Qz a0 ((((a0:(List Jf)).map cellsOf).length:Nat):Int)).bind fun r1 =>
 some r1
theorem Zc (a0:(List Jf)) (r:(List Jf)) (h:Qy a0=some r):Pl Tryz.prog GlS 247 2 16 (a0.map cellsOf) [.fn 248 []] none (r.map cellsOf):=by
 unfold Qy at h;refine Ch Tryz.func247 (by rfl) rfl Tryz.ntmps247 (by rfl) rfl ?_;refine Jc (zR 4 ?_);obtain ⟨r1,h1,h⟩:=Je h;refine Gr (t:=1000000000) (L:=a0) (L':=r1) (N:=(a0.map cellsOf).length) (by kernel_rfl) (by kernel_rfl) (by kernel_rfl) (Zq _ _ r1 h1) ?_;refine zN ?_;cases h;exact Xr (by kernel_rfl)
def Jey (a3:Int) (x132:Int) (x134:(List (Int×(List Ju)))) (x192:Jh) (x194:Kv):(Int×(List Jf))→Option ((Int×(List Jf))⊕((List Jf)⊕(((List Jf)×(List (Int×(List Ju))))⊕((Int×Int×(List (Int×(List Ju)))×(List Jf))⊕((List Jf)⊕(List Jf)))))):=fun (x230,x231) =>
 bif decide (x230<((((Uo (x134:(List (Int×(List Ju)))) x192.El).getD ([]:(List Ju))).length:Nat):Int)) then (
  onInl (α:=(List Jf)) (β:=((Int×(List Jf))⊕((List Jf)⊕(((List Jf)×(List (Int×(List Ju))))⊕((Int×Int×(List (Int×(List Ju)))×(List Jf))⊕((List Jf)⊕(List Jf))))))) (
   (ixO ((Uo (x134:(List (Int×(List Ju)))) x192.El).getD ([]:(List Ju))) x230).bind fun x244 =>
   onInl (α:=Int) (β:=((List Jf)⊕((Int×(List Jf))⊕((List Jf)⊕(((List Jf)×(List (Int×(List Ju))))⊕((Int×Int×(List (Int×(List Ju)))×(List Jf))⊕((List Jf)⊕(List Jf)))))))) (
    bif decide (x192.In=1) then (
     some (.inl (w64 ((w64 (x132+x194.Length)) - x244.Offset)))
    ) else (
     some (.inl (w64 (x132+x244.Offset)))
    )
   ) fun x245 =>
   bif decide (x245≤a3) then (
    (Ul x231 [(Jf.mk x244.Id x245)]).bind fun x246 =>
    some (.inl x246)
   ) else (
    some (.inl x231)
   )
  ) fun x243 =>
  some (.inl (w64 (x230+1),x243))
 ) else (
  some (.inr (.inl x231))
 )
def Jem (a0:Jd) (a1:(List Jh)) (a3:Int):(Int×Int×(List (Int×(List Ju)))×(List Jf))→Option ((Int×Int×(List (Int×(List Ju)))×(List Jf))⊕((List Jf)⊕(List Jf))):=fun (x132,x133,x134,x135) =>
 bif decide (x133<((a1.length:Nat):Int)) then (
  (ixO a1 x133).bind fun x192 =>
  ((bif decide (x192.El<0) then some true else (
   some (decide (((a0.Elements.length:Nat):Int)≤x192.El))
  )):Option Bool).bind fun b193 =>
  bif b193 then (
   some (.inr (.inr ([]:(List Jf))))
  ) else (
   (ixO a0.Elements x192.El).bind fun x194 =>
   onInl (α:=((List Jf)×(List (Int×(List Ju))))) (β:=((Int×Int×(List (Int×(List Ju)))×(List Jf))⊕((List Jf)⊕(List Jf)))) (
    (Ol x194.Kind x192).bind fun r222 =>
    bif r222 then (
     onInl (α:=(List Jf)) (β:=(((List Jf)×(List (Int×(List Ju))))⊕((Int×Int×(List (Int×(List Ju)))×(List Jf))⊕((List Jf)⊕(List Jf))))) (Ki (Jey a3 x132 x134 x192 x194) (0,x135)) fun x239 =>
     some (.inl (x239,(Jrm x192.El x134)))
    ) else (
     some (.inl (x135,x134))
    )
   ) fun (x220,x221) =>
   some (.inl (w64 (x132+x194.Length),w64 (x133+1),x221,x220))
  )
 ) else (
  some (.inr (.inl x135))
 )
def Jci (a0:Jd) (a1:(List Jh)) (a2:Int) (a3:Int):Option (List Jf) :=
 (Cf a0 a1).bind fun r1 =>
 bif (!r1) then (
  some ([]:(List Jf))
 ) else (
  (Jvc (fun (x:Ju)=>x.El) a0.Balises).bind fun m2 =>
  onInl (α:=(List Jf)) (β:=(List Jf)) (Ki (Jem a0 a1 a3) (a2,0,m2,([]:(List Jf)))) fun x191 =>
  (Qy x191).bind fun r247 =>
  some r247
 )
theorem Jlq (a0:Jd) (a1:(List Jh)) (a2:Int) (a3:Int) (r:(List Jf)) (h:Jci a0 a1 a2 a3=some r):Kg Tryz.prog GlS 179 [Enc.pv a0,Enc.pv a1,Enc.pv a2,Enc.pv a3] (Enc.pv r):=by
 unfold Jci at h;refine zC Tryz.func179 Tryz.ntmps179 ?_;refine Ja (Jc (zE (Jb (Ja (Ja (Jc (zR 2 ?_)))))));obtain ⟨r1,h1,h⟩:=Je h;refine zP (Ii _ _ r1 h1) (zE (Jb ?_));rcases Ji h with ⟨hb,h⟩|⟨hb,h⟩
 ·refine zT hb (Ja (Jc (zE (Jb (Jm (Jj ?_))))));cases h;exact zQ
 refine zU hb (Jg (Jb (Ja (Jc (zE (Jb (Ja (Ja (Jc (zR 2 ?_))))))))));refine zL (L:=a0.Balises) ?_;refine zE (Jb (Jl ?_));obtain ⟨m2,h2,h⟩:=Je h;obtain ⟨em2,hz,hz2⟩:=Jt8 h2;refine Ka8 (κ:=Int) (ν:=Ju) a0.Balises (fun (x:Ju)=>x.El) 0 (fun (i:Nat) (m:List (Int×List Ju))=>Jdy ⟨[(1,Jk .frozen a1),(2,I6 a2),(3,I6 a3),(4,.ref 4 0),(9,.mp 24),(26,Jk .frozen a0.Balises),(27,I6 ((a0.Balises.length:Nat):Int)),(28,I6 ((i:Nat):Int))],[(4,.cells (cellsOf a0))],[],[]⟩ 116 24 (.mapo (esO m) (Enc.k Ju) (Enc.b Ju) Vd) (Xc m)) (fun (m:List (Int×List Ju))=>((⟨[(1,Jk .frozen a1),(2,I6 a2),(3,I6 a3),(4,.ref 4 0),(9,.mp 24)],(24,.map (Wc m))::[(4,.cells (cellsOf a0))],[],[]⟩:JS).st 116)) ?_ ?_ ?_ ?_
 ·exact Ka7 24 (by kernel_rfl) (by kernel_rfl) (by decide) (by kernel_rfl)
 ·intro i x hx;have hi:=Wj hx;refine Ja (Jc (zE (Jb (Ja ?_))));refine Jbi (b:=decide (((i:Nat):Int)<((a0.Balises.length:Nat):Int))) (decide_eq_true (by omega)) (by kernel_rfl) ?_;refine Jg (Jb (Ja (Jl (Ja (Jc (p_ix (Ha hx) (by kernel_rfl) (zE (Jb (Jx4 (by kernel_rfl) (by kernel_rfl) (zR 6 ?_))))))))));refine Kd4 (m:=(grp (fun (x:Ju)=>x.El) (a0.Balises.take i))) (k:=x.El) (tk:=Vd) 24 (by kernel_rfl) (by kernel_rfl) ?_;cases hf:Co x.El (grp (fun (x:Ju)=>x.El) (a0.Balises.take i)) with
  | none =>
   refine zR 2 ?_;refine Tj (α:=Ju) (tk:=41) (L:=([]:List Ju)) (ys:=[x]) (M:=[x]) (Jvw (n:=a0.Balises.length) (by simp; omega) hz) (by kernel_rfl) ?_;refine Jyv (m:=(grp (fun (x:Ju)=>x.El) (a0.Balises.take i))) (k:=x.El) (M:=[x]) (tk:=Vd) 41 24 (by kernel_rfl) (by kernel_rfl) ?_;refine zN ?_;refine Jx (Jb (Jy (Kbk (j:=⟨[(1,Jk .frozen a1),(2,I6 a2),(3,I6 a3),(4,.ref 4 0),(9,.mp 24),(26,Jk .frozen a0.Balises),(27,I6 ((a0.Balises.length:Nat):Int)),(28,I6 ((i:Nat):Int))],[(4,.cells (cellsOf a0))],[],[]⟩) (n:=116) 24 41 (fk:=(fun (x:Ju)=>x.El)) (x:=x) (m:=(grp (fun (x:Ju)=>x.El) (a0.Balises.take i))) (by decide) hf (by kernel_rfl) (by kernel_rfl) (by have h1:=Ju8 (fun (x:Ju)=>x.El) (a0.Balises.take i); simp only [List.length_take] at h1; omega) (by kernel_rfl) (by kernel_rfl)) ?_));refine Jc (zE ?_);refine ⟨rfl, ?_⟩;have hw:((i+1:Nat):Int)=w64 ((i:Int)+1):=(Pv (by omega)).symm;show Wkr _ (Jdy ⟨[(1,Jk .frozen (a1:(List Jh))),(2,I6 a2),(3,I6 a3),(4,.ref 4 0),(9,.mp 24),(26,Jk .frozen (a0.Balises:(List Ju))),(27,I6 ((a0.Balises.length:Nat):Int)),(28,I6 ((i+1:Nat):Int))],[(4,.cells (cellsOf a0))],[],[]⟩ 116 24 (.mapo (esO (Xm (fun (x:Ju)=>x.El) x (grp (fun (x:Ju)=>x.El) (a0.Balises.take i)))) (Enc.k Ju) (Enc.b Ju) Vd) (Xc (Xm (fun (x:Ju)=>x.El) x (grp (fun (x:Ju)=>x.El) (a0.Balises.take i)))));rw [hw];exact Jme 24 (by kernel_rfl) (by kernel_rfl) (by kernel_rfl) (by kernel_rfl)
  | some y =>
   obtain ⟨q,M⟩:=y;refine zR 2 ?_;refine Kc6 (α:=Ju) (tk:=Vd q) (L:=M) (ys:=[x]) (M:=M++[x]) (T:=Xc (grp (fun (x:Ju)=>x.El) (a0.Balises.take i))) (Jvw (Jr5 hx hf) hz) (by kernel_rfl) (Jwr hf) (by kernel_rfl) ?_;refine Jyv (m:=(grp (fun (x:Ju)=>x.El) (a0.Balises.take i))) (k:=x.El) (M:=M++[x]) (tk:=Vd) (Vd q) 24 (by kernel_rfl) (by kernel_rfl) ?_;refine zN ?_;refine Jx (Jb (Jy (Kak (j:=⟨[(1,Jk .frozen a1),(2,I6 a2),(3,I6 a3),(4,.ref 4 0),(9,.mp 24),(26,Jk .frozen a0.Balises),(27,I6 ((a0.Balises.length:Nat):Int)),(28,I6 ((i:Nat):Int))],[(4,.cells (cellsOf a0))],[],[]⟩) (n:=116) 24 (fk:=(fun (x:Ju)=>x.El)) (x:=x) (m:=(grp (fun (x:Ju)=>x.El) (a0.Balises.take i))) hf (by kernel_rfl) (by kernel_rfl) (by kernel_rfl) (by kernel_rfl)) ?_));refine Jc (zE ?_);refine ⟨rfl, ?_⟩;have hw:((i+1:Nat):Int)=w64 ((i:Int)+1):=(Pv (by omega)).symm;show Wkr _ (Jdy ⟨[(1,Jk .frozen (a1:(List Jh))),(2,I6 a2),(3,I6 a3),(4,.ref 4 0),(9,.mp 24),(26,Jk .frozen (a0.Balises:(List Ju))),(27,I6 ((a0.Balises.length:Nat):Int)),(28,I6 ((i+1:Nat):Int))],[(4,.cells (cellsOf a0))],[],[]⟩ 116 24 (.mapo (esO (Xm (fun (x:Ju)=>x.El) x (grp (fun (x:Ju)=>x.El) (a0.Balises.take i)))) (Enc.k Ju) (Enc.b Ju) Vd) (Xc (Xm (fun (x:Ju)=>x.El) x (grp (fun (x:Ju)=>x.El) (a0.Balises.take i)))));rw [hw];exact Jme 24 (by kernel_rfl) (by kernel_rfl) (by kernel_rfl) (by kernel_rfl)
 ·intro m;refine Ja (Jc (zE (Jb (Ja ?_))));refine Jbp (b:=decide (((a0.Balises.length:Nat):Int)<((a0.Balises.length:Nat):Int))) (decide_eq_false (by omega)) (by kernel_rfl) ?_;refine Jv (Jt ?_);exact ⟨rfl,Kaw (j:=⟨[(1,Jk .frozen a1),(2,I6 a2),(3,I6 a3),(4,.ref 4 0),(9,.mp 24)],[(4,.cells (cellsOf a0))],[],[]⟩) (m:=m) (tk:=Vd) 24 (by kernel_rfl) (by kernel_rfl) (by kernel_rfl)⟩
 intro s' hs;rw [← em2] at hs;refine Jr (Jb (Jy hs (Ja (Jc (zE (Jb (Ja (Jc (zE (Jb (Ja (Ja (Jc (zR 1 ?_))))))))))))));refine zL (L:=a1) ?_;refine zE (Jb (Jl (Jy (Jh8 12 100012 2 16 (by kernel_rfl) (by kernel_rfl)) ?_)));obtain ⟨o177,h177,h⟩:=Kf h;refine zA 116 2 (fun (x132,x133,x134,x135)=>⟨[(3,I6 a3),(4,.ref 4 0),(9,.mp 24),(12,.ex 100012 2 16 ((x135.map cellsOf).length) 0 ((x135.map cellsOf).length)),(13,I6 x132),(44,Jk .frozen a1),(45,I6 ((a1.length:Nat):Int)),(46,I6 x133)],[(4,.cells (cellsOf a0)),(24,.map (Wc (x134:(List (Int×(List Ju))))))],[(100012,((x135.map cellsOf).length,0))],[(100012,(2,(16,x135.map cellsOf)))]⟩) (fun x191=>⟨[(12,.ex 100012 2 16 ((x191.map cellsOf).length) 0 ((x191.map cellsOf).length))],[],[(100012,((x191.map cellsOf).length,0))],[(100012,(2,(16,x191.map cellsOf)))]⟩) h177 ?_ ?_
 ·rintro ⟨x132,x133,x134,x135⟩ oh176 h176;unfold Jem at h176;refine Ja (Jc (zE (Jb (Ja ?_))));rcases Ji h176 with ⟨hb,h176⟩|⟨hb,h176⟩
  ·refine zT hb (Jg (Jb (Ja (Jl (Ja (Jc ?_))))));obtain ⟨x192,h178,h176⟩:=Je h176;refine zI h178 (zE (Jb (Ja (Ja (Jc ?_)))));obtain ⟨b193,h179,h176⟩:=Je h176;refine zR 4 ?_;refine Ko 7 60 (.bool b193) ?_ ?_
   ·rcases Ji h179 with ⟨hb,h179⟩|⟨hb,h179⟩
    ·refine zS 53 hb ?_;cases h179;exact zF
    refine zS 53 hb (zR 4 ?_);refine zL (L:=a0.Elements) ?_;cases h179;exact zF
   refine zN (Jb ?_);rcases Ji h176 with ⟨hb,h176⟩|⟨hb,h176⟩
   ·refine zT hb (Ja (Jc (zE (Jb (Jm (Jj (Jp (Jj ?_))))))));cases h176;refine Kc fun he=>?_;subst he;have h180:=Km h;refine Jp (Jj ?_);cases h180;exact zQ
   refine zU hb (Jg (Jb (Ja (Jc (zR 4 ?_)))));obtain ⟨x194,h181,h176⟩:=Je h176;refine zI h181 (zE (Jb ?_));obtain ⟨o206,h206,h176⟩:=Kf h176;refine Qm (o:=o206) 116 (fun (x220,x221)=>⟨[(3,I6 a3),(4,.ref 4 0),(9,.mp 24),(12,.ex 100012 2 16 ((x220.map cellsOf).length) 0 ((x220.map cellsOf).length)),(13,I6 x132),(16,.ref 16 0),(44,Jk .frozen a1),(45,I6 ((a1.length:Nat):Int)),(46,I6 x133)],[(4,.cells (cellsOf a0)),(16,.cells (cellsOf x194)),(24,.map (Wc (x221:(List (Int×(List Ju))))))],[(100012,((x220.map cellsOf).length,0))],[(100012,(2,(16,x220.map cellsOf)))]⟩) ?_ ?_
   ·refine Ja (Jc (zR 3 ?_));obtain ⟨r222,h207,h206⟩:=Je h206;refine zP (Jf4 _ _ r222 h207) (zN (Jb ?_));rcases Ji h206 with ⟨hb,h206⟩|⟨hb,h206⟩
    ·refine zT hb (Ja (Ja (Jc (zR 3 ?_))));refine Jdz (m:=(x134:(List (Int×(List Ju))))) (k:=x192.El) ([]:(List Ju)) 24 (by kernel_rfl) (by kernel_rfl) ?_;refine zL (L:=(((Uo (x134:(List (Int×(List Ju)))) x192.El).getD ([]:(List Ju))):(List Ju))) ?_;refine zE (Jb (Jl ?_));obtain ⟨o223,h223,h206⟩:=Kf h206;refine zA 116 4 (fun (x230,x231)=>⟨[(3,I6 a3),(4,.ref 4 0),(9,.mp 24),(12,.ex 100012 2 16 ((x231.map cellsOf).length) 0 ((x231.map cellsOf).length)),(13,I6 x132),(15,.ref 15 0),(16,.ref 16 0),(44,Jk .frozen a1),(45,I6 ((a1.length:Nat):Int)),(46,I6 x133),(74,Jk .frozen (((Uo (x134:(List (Int×(List Ju)))) x192.El).getD ([]:(List Ju))):(List Ju))),(75,I6 ((((Uo (x134:(List (Int×(List Ju)))) x192.El).getD ([]:(List Ju))).length:Nat):Int)),(76,I6 x230)],[(4,.cells (cellsOf a0)),(15,.cells (cellsOf x192)),(16,.cells (cellsOf x194)),(24,.map (Wc (x134:(List (Int×(List Ju))))))],[(100012,((x231.map cellsOf).length,0))],[(100012,(2,(16,x231.map cellsOf)))]⟩) (fun x239=>⟨[(3,I6 a3),(4,.ref 4 0),(9,.mp 24),(12,.ex 100012 2 16 ((x239.map cellsOf).length) 0 ((x239.map cellsOf).length)),(13,I6 x132),(15,.ref 15 0),(16,.ref 16 0),(44,Jk .frozen a1),(45,I6 ((a1.length:Nat):Int)),(46,I6 x133)],[(4,.cells (cellsOf a0)),(15,.cells (cellsOf x192)),(16,.cells (cellsOf x194)),(24,.map (Wc (x134:(List (Int×(List Ju))))))],[(100012,((x239.map cellsOf).length,0))],[(100012,(2,(16,x239.map cellsOf)))]⟩) h223 ?_ ?_
     ·rintro ⟨x230,x231⟩ oh222 h222;unfold Jey at h222;refine Ja (Jc (zE (Jb (Ja ?_))));rcases Ji h222 with ⟨hb,h222⟩|⟨hb,h222⟩
      ·refine zT hb (Jg (Jb ?_));obtain ⟨o227,h227,h222⟩:=Kf h222;refine Qm (o:=o227) 116 (fun x243=>⟨[(3,I6 a3),(4,.ref 4 0),(9,.mp 24),(12,.ex 100012 2 16 ((x243.map cellsOf).length) 0 ((x243.map cellsOf).length)),(13,I6 x132),(15,.ref 15 0),(16,.ref 16 0),(44,Jk .frozen a1),(45,I6 ((a1.length:Nat):Int)),(46,I6 x133),(74,Jk .frozen (((Uo (x134:(List (Int×(List Ju)))) x192.El).getD ([]:(List Ju))):(List Ju))),(75,I6 ((((Uo (x134:(List (Int×(List Ju)))) x192.El).getD ([]:(List Ju))).length:Nat):Int)),(76,I6 x230)],[(4,.cells (cellsOf a0)),(15,.cells (cellsOf x192)),(16,.cells (cellsOf x194)),(24,.map (Wc (x134:(List (Int×(List Ju))))))],[(100012,((x243.map cellsOf).length,0))],[(100012,(2,(16,x243.map cellsOf)))]⟩) ?_ ?_
       ·refine Jl (Ja (Jc ?_));obtain ⟨x244,h228,h227⟩:=Je h227;refine zI h228 (zE (Jb (Ja (Jc (zE (Jb ?_))))));obtain ⟨o229,h229,h227⟩:=Kf h227;refine Qm (o:=o229) 116 (fun x245=>⟨[(3,I6 a3),(4,.ref 4 0),(9,.mp 24),(12,.ex 100012 2 16 ((x231.map cellsOf).length) 0 ((x231.map cellsOf).length)),(13,I6 x132),(15,.ref 15 0),(16,.ref 16 0),(18,.ref 18 0),(19,I6 x245),(44,Jk .frozen a1),(45,I6 ((a1.length:Nat):Int)),(46,I6 x133),(74,Jk .frozen (((Uo (x134:(List (Int×(List Ju)))) x192.El).getD ([]:(List Ju))):(List Ju))),(75,I6 ((((Uo (x134:(List (Int×(List Ju)))) x192.El).getD ([]:(List Ju))).length:Nat):Int)),(76,I6 x230)],[(4,.cells (cellsOf a0)),(15,.cells (cellsOf x192)),(16,.cells (cellsOf x194)),(18,.cells (cellsOf x244)),(24,.map (Wc (x134:(List (Int×(List Ju))))))],[(100012,((x231.map cellsOf).length,0))],[(100012,(2,(16,x231.map cellsOf)))]⟩) ?_ ?_
        ·refine Ja (Jc (zE (Jb ?_)));rcases Ji h229 with ⟨hb,h229⟩|⟨hb,h229⟩
         ·refine zT hb (Jc (zE ?_));cases h229;exact zJ
         refine zU hb (Jg ?_);cases h229;exact zJ
        rintro x245 rfl;have h227:=Ka h227;refine Ja (Jc (zE (Jb ?_)));rcases Ji h227 with ⟨hb,h227⟩|⟨hb,h227⟩
        ·refine zT hb (Jc (zR 6 ?_));obtain ⟨x246,h230,h227⟩:=Je h227;refine Juq (tk:=100012) (N:=(x231.map cellsOf).length) h230 (by kernel_rfl) (by kernel_rfl) (by kernel_rfl) ?_;refine zE (Jx ?_);cases h227;exact zJ
        refine zU hb (Jg (Jx ?_));cases h227;exact zJ
       rintro x243 rfl;have h222:=Ka h222;refine Jc (zE ?_);cases h222;exact zB
      refine zU hb (Jv (Jt ?_));cases h222;exact zX
     rintro x239 s' rfl hs;have h206:=Ka h206;refine Jr (Jb (Jy hs (Jc (zR 3 ?_))));refine Kc1 (m:=(x134:(List (Int×(List Ju))))) (k:=x192.El) 24 (by kernel_rfl) (by kernel_rfl) ?_;refine zN ?_;cases h206;exact zJ
    refine zU hb (Jg ?_);cases h206;exact zJ
   rintro ⟨x220,x221⟩ rfl;have h176:=Ka h176;refine Jc (zE (Jx (Jb (Jc (zE ?_)))));cases h176;exact zB
  refine zU hb (Jv (Jt ?_));cases h176;exact zX
 rintro x191 s' rfl hs;have h:=Ka h;refine Jr (Jb (Jy hs (Ja (Jc (zR 1 ?_)))));obtain ⟨r247,h231,h⟩:=Je h;refine Gr (t:=100012) (L:=x191) (L':=r247) (N:=(x191.map cellsOf).length) (by kernel_rfl) (by kernel_rfl) (by kernel_rfl) (Zc _ r247 h231) ?_;refine zN (Jb (Ja (Jc (zE (Jb ?_)))));refine Jy (Gt (xss:=r247.map cellsOf) 100012 2 16 ((x191.map cellsOf).length) [8,12,113,115] [] (by kernel_rfl) (by kernel_rfl) (by kernel_rfl) (by kernel_rfl)) ?_;refine Jm ?_;cases h;exact zQ
def Jbh (a0:(List Jf)) (a2:Int):Int→Option (Int⊕(Unit⊕Int)):=fun x2 =>
 bif decide (x2<((a0.length:Nat):Int)) then (
  (ixO a0 x2).bind fun x4 =>
  bif decide (x4.Id=a2) then (
   some (.inr (.inr x2))
  ) else (
   some (.inl (w64 (x2+1)))
  )
 ) else (
  some (.inr (.inl ()))
 )
def Xk (a0:(List Jf)) (a1:Int) (a2:Int):Option Int :=
 onInl (α:=Unit) (β:=Int) (Ki (Jbh a0 a2) a1) fun _ =>
 some (-1)
theorem Jiq (a0:(List Jf)) (a1:Int) (a2:Int) (r:Int) (h:Xk a0 a1 a2=some r):Kg Tryz.prog GlS 272 [Enc.pv a0,Enc.pv a1,Enc.pv a2] (Enc.pv r):=by
 unfold Xk at h;refine zC Tryz.func272 Tryz.ntmps272 ?_;refine Ja (Jc (zE (Jb (Ja (Ja (Jc (zE (Jb (Jl ?_)))))))));obtain ⟨o6,h6,h⟩:=Kf h;refine zA 23 0 (fun x2=>⟨[(0,Jk .frozen a0),(2,I6 a2),(7,I6 x2)],[],[],[]⟩) (fun (_:Unit)=>⟨[],[],[],[]⟩) h6 ?_ ?_
 ·rintro x2 oh5 h5;unfold Jbh at h5;refine Ja (Ja (Jc (zR 2 ?_)));refine zL (L:=a0) ?_;refine zE (Jb ?_);rcases Ji h5 with ⟨hb,h5⟩|⟨hb,h5⟩
  ·refine zT hb (Jg (Jb (Ja (Jl (Ja (Jc (zR 2 ?_)))))));obtain ⟨x4,h7,h5⟩:=Je h5;refine zI h7 (zE (Jb ?_));rcases Ji h5 with ⟨hb,h5⟩|⟨hb,h5⟩
   ·refine zT hb (Ja (Jc (zE (Jb (Jm (Jp (Jj ?_)))))));cases h5;refine Kc fun he=>?_;subst he;have h8:=Km h;refine Jp (Jj ?_);cases h8;exact zQ
   refine zU hb (Jg (Jx (Jb (Jc (zE ?_)))));cases h5;exact zB
  refine zU hb (Jv (Jt ?_));cases h5;exact zX
 rintro _ s' rfl hs;have h:=Ka h;refine Jr (Jb (Jy hs (Ja (Jc (zE (Jb (Jm ?_)))))));cases h;exact zQ
def Jal (a0:(List Jf)):Int→Option (Int⊕(Unit⊕Bool)):=fun x7 =>
 bif decide (x7<((a0.length:Nat):Int)) then (
  (ixO a0 x7).bind fun x14 =>
  ((bif decide (0<x7) then (
   (ixO a0 (w64 (x7 - 1))).bind fun x16 =>
   some (decide (x14.At<x16.At))
  ) else some false):Option Bool).bind fun b15 =>
  ((bif b15 then some true else (
   (slO a0 none (some x7) none).bind fun x18 =>
   (Xk x18 0 x14.Id).bind fun r19 =>
   some (decide (0≤r19))
  )):Option Bool).bind fun b17 =>
  bif b17 then (
   some (.inr (.inr false))
  ) else (
   some (.inl (w64 (x7+1)))
  )
 ) else (
  some (.inr (.inl ()))
 )
def Rs (a0:(List Jf)):Option Bool :=
 bif decide (24<((a0.length:Nat):Int)) then (
  some false
 ) else (
  onInl (α:=Unit) (β:=Bool) (Ki (Jal a0) 0) fun _ =>
  some true
 )
theorem Jhi (a0:(List Jf)) (r:Bool) (h:Rs a0=some r):Kg Tryz.prog GlS 236 [Enc.pv a0] (Enc.pv r):=by
 unfold Rs at h;refine zC Tryz.func236 Tryz.ntmps236 ?_;refine Ja (Jc (zE (Jb (Ja (Ja (Jc (zR 1 ?_)))))));refine zL (L:=a0) ?_;refine zE (Jb ?_);rcases Ji h with ⟨hb,h⟩|⟨hb,h⟩
 ·refine zT hb (Ja (Jc (zE (Jb (Jm (Jj ?_))))));cases h;exact zQ
 refine zU hb (Jg (Jb (Ja (Ja (Jc (zR 1 ?_))))));refine zL (L:=a0) ?_;refine zE (Jb (Jl ?_));obtain ⟨o16,h16,h⟩:=Kf h;refine zA 38 0 (fun x7=>⟨[(0,Jk .frozen a0),(8,Jk .frozen a0),(9,I6 ((a0.length:Nat):Int)),(10,I6 x7)],[],[],[]⟩) (fun (_:Unit)=>⟨[],[],[],[]⟩) h16 ?_ ?_
 ·rintro x7 oh15 h15;unfold Jal at h15;refine Ja (Jc (zE (Jb (Ja ?_))));rcases Ji h15 with ⟨hb,h15⟩|⟨hb,h15⟩
  ·refine zT hb (Jg (Jb (Ja (Jl (Ja (Jc (zR 1 ?_)))))));obtain ⟨x14,h17,h15⟩:=Je h15;refine zI h17 (zE (Jb (Ja (zD ?_))));obtain ⟨b15,h18,h15⟩:=Je h15;refine zR 3 ?_;refine Ko 10 27 (.bool b15) ?_ ?_
   ·rcases Ji h18 with ⟨hb,h18⟩|⟨hb,h18⟩
    ·refine zS 17 hb (zR 5 ?_);obtain ⟨x16,h19,h18⟩:=Je h18;refine zI h19 ?_;cases h18;exact zF
    refine zS 17 hb ?_;cases h18;exact zF
   obtain ⟨b17,h20,h15⟩:=Je h15;refine zR 1 ?_;refine Ko 8 36 (.bool b17) ?_ ?_
   ·rcases Ji h20 with ⟨hb,h20⟩|⟨hb,h20⟩
    ·refine zS 28 hb ?_;cases h20;exact zF
    refine zS 28 hb (zR 2 ?_);obtain ⟨x18,h21,h20⟩:=Je h20;refine Jzi h21 .frozen (by kernel_rfl) (by kernel_rfl) (by kernel_rfl) ?_;refine zR 2 ?_;obtain ⟨r19,h22,h20⟩:=Je h20;refine zP (Jiq _ _ _ r19 h22) ?_;cases h20;exact zF
   refine zN (Jb ?_);rcases Ji h15 with ⟨hb,h15⟩|⟨hb,h15⟩
   ·refine zT hb (Ja (Jc (zE (Jb (Jm (Jp (Jj ?_)))))));cases h15;refine Kc fun he=>?_;subst he;have h23:=Km h;refine Jp (Jj ?_);cases h23;exact zQ
   refine zU hb (Jg (Jx (Jb (Jc (zE ?_)))));cases h15;exact zB
  refine zU hb (Jv (Jt ?_));cases h15;exact zX
 rintro _ s' rfl hs;have h:=Ka h;refine Jr (Jb (Jy hs (Ja (Jc (zE (Jb (Jm ?_)))))));cases h;exact zQ
def Nb (a0:Qp):Option Bool :=
 ((bif ((decide (1≤a0.Seq))&&(decide (a0.Seq≤1073741824))) then (
  (Ys a0.Profile).bind fun r2 =>
  some r2
 ) else some false):Option Bool).bind fun b1 =>
 ((bif (b1&&(decide (0<((a0.Profile.length:Nat):Int)))) then (
  (ixO a0.Profile (w64 (((a0.Profile.length:Nat):Int) - 1))).bind fun x4 =>
  some (decide (x4.To=a0.End))
 ) else some false):Option Bool).bind fun b3 =>
 ((bif b3 then (
  (Rs a0.Links).bind fun r6 =>
  some r6
 ) else some false):Option Bool).bind fun b5 =>
 some b5
theorem Jfh (a0:Qp) (r:Bool) (h:Nb a0=some r):Kg Tryz.prog GlS 175 [Enc.pv a0] (Enc.pv r):=by
 unfold Nb at h;refine zC Tryz.func175 Tryz.ntmps175 ?_;refine Ja (Jc (zE (Jb (Ja (Jc (zR 2 ?_))))));refine zL (L:=a0.Profile) ?_;refine zE (Jb (Ja (zD (zR 4 ?_))));refine Ks 4 14 ((decide (1≤a0.Seq))&&(decide (a0.Seq≤1073741824))) (fun x hx=>?_) ?_
 ·rcases Vz hx with ⟨hb,hx⟩|⟨hb,hx⟩
  ·refine zS 10 hb ?_;subst hx;exact zF
  refine zS 10 hb ?_;subst hx;exact zF
 obtain ⟨b1,h1,h⟩:=Je h;refine zR 1 ?_;refine Ko 4 19 (.bool b1) ?_ ?_
 ·rcases Ji h1 with ⟨hb,h1⟩|⟨hb,h1⟩
  ·refine zS 15 hb (zR 2 ?_);obtain ⟨r2,h2,h1⟩:=Je h1;refine zP (Bb _ r2 h2) ?_;cases h1;exact zF
  refine zS 15 hb ?_;cases h1;exact zF
 refine zR 1 ?_;refine Ks 3 23 (b1&&(decide (0<((a0.Profile.length:Nat):Int)))) (fun x hx=>?_) ?_
 ·rcases Vz hx with ⟨hb,hx⟩|⟨hb,hx⟩
  ·refine zS 20 hb ?_;subst hx;exact zF
  refine zS 20 hb ?_;subst hx;exact zF
 obtain ⟨b3,h3,h⟩:=Je h;refine zR 1 ?_;refine Ko 11 35 (.bool b3) ?_ ?_
 ·rcases Ji h3 with ⟨hb,h3⟩|⟨hb,h3⟩
  ·refine zS 24 hb (zR 4 ?_);obtain ⟨x4,h4,h3⟩:=Je h3;refine zI h4 ?_;cases h3;exact zF
  refine zS 24 hb ?_;cases h3;exact zF
 obtain ⟨b5,h5,h⟩:=Je h;refine zR 1 ?_;refine Ko 4 40 (.bool b5) ?_ ?_
 ·rcases Ji h5 with ⟨hb,h5⟩|⟨hb,h5⟩
  ·refine zS 36 hb (zR 2 ?_);obtain ⟨r6,h6,h5⟩:=Je h5;refine zP (Jhi _ r6 h6) ?_;cases h5;exact zF
  refine zS 36 hb ?_;cases h5;exact zF
 refine zE (Jb (Jm ?_));cases h;exact zQ
def Nh (a0:Jd) (a1:Jq) (a2:(List Qa)) (a3:Int):Option (Qp×Int) :=
 (Cf a0 a1.Steps).bind fun r1 =>
 bif (((!r1)||(decide (a3<1)))||(decide (1073741824<a3))) then (
  some ((Qp.mk 0 0 [] []),1)
 ) else (
  (Jb3 a0 a1.Steps a1.Origin).bind fun r2 =>
  (Hk a2 a1.Steps a1.Origin a0 r2).bind fun r3 =>
  (Oz r3 a1.Origin a1.At).bind fun r4 =>
  (Jci a0 a1.Steps a1.Origin a1.At).bind fun r5 =>
  (Nb (Qp.mk a3 a1.At r4 r5)).bind fun r6 =>
  bif (!r6) then (
   some ((Qp.mk 0 0 [] []),2)
  ) else (
   some ((Qp.mk a3 a1.At r4 r5),0)
  )
 )
set_option maxRecDepth 100000 in
theorem Jeb (a0:Jd) (a1:Jq) (a2:(List Qa)) (a3:Int) (r:(Qp×Int)) (h:Nh a0 a1 a2 a3=some r):Kg Tryz.prog GlS 99 [Enc.pv a0,Enc.pv a1,Enc.pv a2,Enc.pv a3] (.tup [Enc.pv r.1,Enc.pv r.2]):=by
 unfold Nh at h;refine Jpr Tryz.func99 (by rfl) rfl Tryz.ntmps99 (by rfl) rfl ?_;refine Jhv (Jc (zE (Jmf (Jhv (Ja (Jc (zR 3 ?_)))))));obtain ⟨r1,h1,h⟩:=Je h;refine zP (Ii _ _ r1 h1) (zR 2 ?_);refine Ks 3 19 ((!r1)||(decide (a3<1))) (fun x hx=>?_) ?_
 ·rcases Vi hx with ⟨hb,hx⟩|⟨hb,hx⟩
  ·refine zS 16 hb ?_;subst hx;exact zF
  refine zS 16 hb ?_;subst hx;exact zF
 refine zR 1 ?_;refine Ks 3 23 (((!r1)||(decide (a3<1)))||(decide (1073741824<a3))) (fun x hx=>?_) ?_
 ·rcases Vi hx with ⟨hb,hx⟩|⟨hb,hx⟩
  ·refine zS 20 hb ?_;subst hx;exact zF
  refine zS 20 hb ?_;subst hx;exact zF
 refine zN (Jb ?_);rcases Ji h with ⟨hb,h⟩|⟨hb,h⟩
 ·refine zT hb (Ja (Jc (zE (Jb (Jm (Kc9 ?_))))));cases h;exact zQ
 refine zU hb (Jg (Jmf ?_));refine Jgz 1 174 [.ref 8 0,.ref 9 0] (by rfl) ?_;refine zE ?_;refine ⟨by kernel_rfl,by kernel_rfl,by kernel_rfl, ?_⟩;refine Ja (zD (zR 11 ?_));obtain ⟨r2,h2,h⟩:=Je h;refine zP (Jln _ _ _ r2 h2) ?_;obtain ⟨r3,h3,h⟩:=Je h;refine zP (Jb7 _ _ _ _ _ r3 h3) (zE (Jb (Ja (zD (zR 8 ?_)))));obtain ⟨r4,h4,h⟩:=Je h;refine zP (Jjv _ _ _ r4 h4) (zR 7 ?_);obtain ⟨r5,h5,h⟩:=Je h;refine zP (Jlq _ _ _ _ r5 h5) (zE (Jb (Jm ?_)));refine Kc7 (caps:=[.ref 8 0,.ref 9 0]) (by kernel_rfl) Tryz.func174 (by rfl) rfl Tryz.ntmps174 (by rfl) ?_;refine Jy ((Jcu 1 (by kernel_rfl)).trans (.of (j:=⟨[(0,.ref 1008 0),(1,.ref 1009 0),(14,.ref 1008 0),(15,.ref 1009 0),(63,.fn 174 [.ref 1008 0,.ref 1009 0])],[(1008,.cells ([I6 a3,I6 a1.At,Jk .frozen r4,Jk .frozen r5])),(1009,.cells ([I6 0]))],[],[]⟩) (n:=5800064) (by kernel_rfl) (by kernel_rfl))) ?_;refine Ja (Jc (zR 1 ?_));obtain ⟨r6,h6,h⟩:=Je h;refine zP (Jfh _ r6 h6) (zE (Jb ?_));rcases Ji h with ⟨hb,h⟩|⟨hb,h⟩
 ·refine zT hb (Jc (zE ?_));cases h;exact Jgs (by kernel_rfl) (by kernel_rfl) (by kernel_rfl)
 refine zU hb (Jg ?_);cases h;exact Jgs (by kernel_rfl) (by kernel_rfl) (by kernel_rfl)
def Jez (a0:Jd) (a1:(List Qa)) (a2:Jq):Option (Jq×Kz) :=
 onInl (α:=(Int×Int×Int×Int×Int×(List Jh)×(List Int)×(List Int)×(List Int)×(List Int)×Int×Int×Int×Int×Int)) (β:=(Jq×Kz)) (
  bif (!(decide (a2.CutSeq=0))) then (
   (Rl a0 a2).bind fun r17 =>
   some (.inl (3,r17.Id,r17.Origin,r17.End,r17.At,r17.Steps,r17.Routes,r17.Starts,r17.Ends,r17.Done,r17.Min,r17.Sent,r17.Accepted,r17.Cut,r17.CutSeq))
  ) else (
   some (.inl (2,a2.Id,a2.Origin,a2.End,a2.At,a2.Steps,a2.Routes,a2.Starts,a2.Ends,a2.Done,a2.Min,a2.Sent,a2.Accepted,a2.Cut,a2.CutSeq))
  )
 ) fun (x2,x3,x4,x5,x6,x7,x8,x9,x10,x11,x12,x13,x14,x15,x16) =>
 (Nh a0 (Jq.mk x3 x4 x5 x6 x7 x8 x9 x10 x11 x12 x13 x14 x15 x16) a1 (w64 (a2.Sent+1))).bind fun r18 =>
 bif (!(decide (r18.2=0))) then (
  some (a2,(Kz.mk 5 0 0 0 0 (Qp.mk 0 0 [] []) (Ca.mk 0 0 0 0 false)))
 ) else (
  some ((Jq.mk a2.Id a2.Origin a2.End a2.At a2.Steps a2.Routes a2.Starts a2.Ends a2.Done a2.Min (w64 (a2.Sent+1)) a2.Accepted a2.Cut a2.CutSeq),(Kz.mk x2 0 0 0 0 r18.1 (Ca.mk 0 0 0 0 false)))
 )
theorem Jor (a0:Jd) (a1:(List Qa)) (a2:Jq) (r:(Jq×Kz)) (h:Jez a0 a1 a2=some r):Kg Tryz.prog GlS 44 [Enc.pv a0,Enc.pv a1,Enc.pv a2] (.tup [Enc.pv r.1,Enc.pv r.2]):=by
 unfold Jez at h;refine zC Tryz.func44 Tryz.ntmps44 ?_;refine Ja (Jc (zE (Jb (Ja (zD (zE (Jb ?_)))))));obtain ⟨o2,h2,h⟩:=Kf h;refine Qm (o:=o2) 41 (fun (x2,x3,x4,x5,x6,x7,x8,x9,x10,x11,x12,x13,x14,x15,x16)=>⟨[(1,Jk .frozen a1),(3,.ref 3 0),(5,.ref 5 0),(6,.ref 6 0),(7,.ref 7 0),(8,I6 x2),(9,.ref 9 0)],[(3,.cells (cellsOf a0)),(5,.cells (cellsOf a2)),(6,.cells ([I6 0,I6 0,I6 0,I6 0,.nil,.nil,.nil,.nil,.nil,I6 0,I6 0,I6 0,I6 0,I6 0])),(7,.cells ([I6 0,I6 0,I6 0,I6 0,I6 0,I6 0,I6 0,.nil,.nil,I6 0,I6 0,I6 0,I6 0,.bool false])),(9,.cells ([I6 x3,I6 x4,I6 x5,I6 x6,Jk .frozen x7,Jk .frozen x8,Jk .frozen x9,Jk .frozen x10,Jk .frozen x11,I6 x12,I6 x13,I6 x14,I6 x15,I6 x16]))],[],[]⟩) ?_ ?_
 ·refine Ja (Jc (zE (Jb ?_)));rcases Ji h2 with ⟨hb,h2⟩|⟨hb,h2⟩
  ·refine zT hb (Jc (zR 2 ?_));obtain ⟨r17,h3,h2⟩:=Je h2;refine zP (Jgw _ _ r17 h3) (zE ?_);cases h2;exact zJ
  refine zU hb (Jg ?_);cases h2;exact zJ
 rintro ⟨x2,x3,x4,x5,x6,x7,x8,x9,x10,x11,x12,x13,x14,x15,x16⟩ rfl;have h:=Ka h;refine Ja (Jc (zR 6 ?_));obtain ⟨r18,h4,h⟩:=Je h;refine zP (Jeb _ _ _ _ r18 h4) (zE (Jb (Ja (Ja (Jc (zE (Jb ?_)))))));rcases Ji h with ⟨hb,h⟩|⟨hb,h⟩
 ·refine zT hb (Ja (Jc (zE (Jb (Jm (Jj ?_))))));cases h;exact zQ
 refine zU hb (Jg (Jb (Ja (Jc (zE (Jb (Ja ?_)))))));refine Jkd 41 ⟨[(6,.ref 6 0),(7,.ref 7 0)],[(6,.cells ([I6 a2.Id,I6 a2.Origin,I6 a2.End,I6 a2.At,Jk .frozen a2.Steps,Jk .frozen a2.Routes,Jk .frozen a2.Starts,Jk .frozen a2.Ends,Jk .frozen a2.Done,I6 a2.Min,I6 (w64 (a2.Sent+1)),I6 a2.Accepted,I6 a2.Cut,I6 a2.CutSeq])),(7,.cells ([I6 x2,I6 0,I6 0,I6 0,I6 0,I6 r18.1.Seq,I6 r18.1.End,Jk .frozen r18.1.Profile,Jk .frozen r18.1.Links,I6 0,I6 0,I6 0,I6 0,.bool false]))],[],[]⟩ (by kernel_rfl) ?_ ?_
 ·refine Yc [0,1] 4 (by kernel_rfl) ?_;refine zR 2 (Kq (by kernel_rfl) ?_);refine Ih (n:=3) [2,4] (by kernel_rfl) ⟨?_, ?_,trivial⟩
  ·refine ⟨_,rfl, ?_⟩;refine zR 1 (Kq (by kernel_rfl) ?_);refine Yc [3,4,5] 0 (by kernel_rfl) ?_;refine zR 3 (Kq (by kernel_rfl) ?_);exact Yl (by kernel_rfl) (.of (by kernel_rfl) (by kernel_rfl))
  refine ⟨_,rfl, ?_⟩;refine zR 1 (Kq (by kernel_rfl) ?_);refine Yc [2,3,5] 0 (by kernel_rfl) ?_;refine zR 3 (Kq (by kernel_rfl) ?_);exact Yl (by kernel_rfl) (.of (by kernel_rfl) (by kernel_rfl))
 refine Jb (Jm ?_);cases h;exact zQ
def Yv (a0:(List Jn)):Option (List Jn) :=
 (Ul ([]:(List Jn)) a0).bind fun x1 =>
 (slO x1 none (some ((a0.length:Nat):Int)) (some ((a0.length:Nat):Int))).bind fun x2 =>
 some x2
theorem Nw (a0:(List Jn)) (r:(List Jn)) (h:Yv a0=some r):Kg Tryz.prog GlS 100 [Enc.pv a0] (Enc.pv r):=by
 unfold Yv at h;refine zC Tryz.func100 Tryz.ntmps100 ?_;refine Ja (Jc (zE (Jb (Ja (Jc (zR 1 ?_))))));obtain ⟨x1,h1,h⟩:=Je h;refine Tj (tk:=5) h1 (by kernel_rfl) ?_;refine zE (Jb (Ja (Jc (zR 2 ?_))));refine zL (L:=a0) ?_;refine zR 1 ?_;refine zL (L:=a0) ?_;obtain ⟨x2,h2,h⟩:=Je h;refine Kbv h2 (.own 5) (by kernel_rfl) (by kernel_rfl) (.inl ⟨rfl,rfl⟩) ?_;refine zE (Jb (Jm ?_));cases h;exact zQ
def Zg (a0:(List Jf)):Option (List Jf) :=
 (Ul ([]:(List Jf)) a0).bind fun x1 =>
 (slO x1 none (some ((a0.length:Nat):Int)) (some ((a0.length:Nat):Int))).bind fun x2 =>
 some x2
theorem Oh (a0:(List Jf)) (r:(List Jf)) (h:Zg a0=some r):Kg Tryz.prog GlS 101 [Enc.pv a0] (Enc.pv r):=by
 unfold Zg at h;refine zC Tryz.func101 Tryz.ntmps101 ?_;refine Ja (Jc (zE (Jb (Ja (Jc (zR 1 ?_))))));obtain ⟨x1,h1,h⟩:=Je h;refine Tj (tk:=5) h1 (by kernel_rfl) ?_;refine zE (Jb (Ja (Jc (zR 2 ?_))));refine zL (L:=a0) ?_;refine zR 1 ?_;refine zL (L:=a0) ?_;obtain ⟨x2,h2,h⟩:=Je h;refine Kbv h2 (.own 5) (by kernel_rfl) (by kernel_rfl) (.inl ⟨rfl,rfl⟩) ?_;refine zE (Jb (Jm ?_));cases h;exact zQ
end
end PM
