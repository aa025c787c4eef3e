/-
 Plain functions for the program's functions, and the proofs that the program does them. Printed by den.py.
-/
import Derived.Test.YtfpoeepcomnjhaaGreatDoorDen3
namespace PM
noncomputable section
open Go Go.RowKit Go.Proofs
attribute [local irreducible] Jv pwp
def Pt (a0:Jx) (a1:Kd) (a2:(List Jg)) (a3:Int):Int->Option (Int⊕(Unit⊕Int)):=fun x9 =>
 bif decide (x9<((a0.Routes.length:Nat):Int)) then (
  onInl (α:=Unit) (β:=(Int⊕(Unit⊕Int))) (
   (ixO a0.Routes x9).bind fun x22 =>
   bif decide (((a1.Routes.length:Nat):Int)<=x9) then (
    some (.inr (.inr (.inr (-1))))
   ) else (
    ((bif (!(decide (x22.Entry=a3))) then some true else (
     (ixO a1.Routes x9).bind fun x24 =>
     some (!(decide (x24.State=2)))
    )):Option Bool).bind fun b23 =>
    bif b23 then (
     some (.inl ())
    ) else (
     (Qb a2 x9).bind fun r25 =>
     bif (!r25) then (
      some (.inr (.inr (.inr x9)))
     ) else (
      some (.inl ())
     )
    )
   )
  ) fun _ =>
  some (.inl (w64 (x9+1)))
 ) else (
  some (.inr (.inl ()))
 )
def Rw (a0:Jx) (a1:Kd) (a2:(List Jg)) (a3:Int):Option Int :=
 onInl (Js (Pt a0 a1 a2 a3) 0) fun _ =>
 some (-1)
instance Uw (a0:Jx) (a1:Kd) (a2:(List Jg)) (a3:Int):Ct Tryz.prog GlS (Rw a0 a1 a2 a3) 96 [Enc.pv a0,Enc.pv a1,Enc.pv a2,Enc.pv a3] Enc.pv:=⟨fun r h=>by
 unfold Rw at h;refine zC Tryz.func96 Tryz.ntmps96 ?_;refine w1 a0.Routes (.e (.l 2 (.e .s))) ?_;intro h;refine yN 45 0 [15] (fun x9=>⟨[(2,Jh .frozen a2),(3,I6 a3),(5,.ref 5 0),(13,Jh .frozen a0.Routes),(14,I6 ((a0.Routes.length:Nat):Int)),(15,I6 x9)],[(5,.cells (cellsOf a1))],[],[]⟩) h ?_ ?_
 ·intro x9 _ h;unfold Pt at h;refine w1 n0 (.e (.c .s .z)) ?_;intro h;refine yJ 45 (fun (_:Unit)=>⟨[(2,Jh .frozen a2),(3,I6 a3),(5,.ref 5 0),(13,Jh .frozen a0.Routes),(14,I6 ((a0.Routes.length:Nat):Int)),(15,I6 x9)],[(5,.cells (cellsOf a1))],[],[]⟩) h ?_ ?_
  ·intro _ h;refine w1 a1.Routes (.i 1 (.e (.l 3 (.e (.c (.e .z) (.b 5 8 37 (.g 0 .z (.i 3 .z)) (.e (.c .z .S)))))))) ?_;intro _ _ h;exact Ve (Jo (Kj (Jui 9 [5,10] (cs:=[I6 x9]) (cs':=[I6 x9]) kr kr kr kr (w1 n0 (.p 2 (.e (.e (.c (.e .z) .z)))) t0))))
  intro _ h;exact w1 n0 (.e .z) t0
 intro _ s' h hs;exact w1 n0 (.e .z) t0⟩
def Bo (a0:Jb) (c0:Jb):Option Bool :=
 some (decide (a0.El=c0.El))
instance Joq (a0:Jb) (c0:Jb):Ct Tryz.prog GlS (Bo a0 c0) 235 [Enc.pv a0,.cptr (cellsOf c0)] Enc.pv:=⟨fun r h=>by
 unfold Bo at h;refine zC Tryz.func235 Tryz.ntmps235 ?_;exact w1 n0 (.e (.e .z)) t0⟩
def Vv (a0:(List Jb)) (a1_0:Jb):Int->Option (Int⊕(Unit⊕Int)):=fun x3 =>
 bif decide (x3<((a0.length:Nat):Int)) then (
  (ixO a0 x3).bind fun x6 =>
  (Bo x6 a1_0).bind fun r7 =>
  bif r7 then (
   some (.inr (.inr x3))
  ) else (
   some (.inl (w64 (x3+1)))
  )
 ) else (
  some (.inr (.inl ()))
 )
def Qo (a0:(List Jb)) (a1_0:Jb):Option Int :=
 onInl (Js (Vv a0 a1_0) 0) fun _ =>
 some (-1)
instance Tw (a0:(List Jb)) (a1_0:Jb):Ct Tryz.prog GlS (Qo a0 a1_0) 271 [Enc.pv a0,.fn 235 [.cptr (cellsOf a1_0)]] Enc.pv:=⟨fun r h=>by
 unfold Qo at h;refine zC Tryz.func271 Tryz.ntmps271 ?_;refine w1 a0 (.e (.l 1 (.e .s))) ?_;intro h;refine yN 19 0 [8] (fun x3=>⟨[(0,Jh .frozen a0),(1,.fn 235 [.cptr (cellsOf a1_0)]),(7,I6 ((a0.length:Nat):Int)),(8,I6 x3)],[],[],[]⟩) h ?_ ?_
 ·intro x3 _ h;unfold Vv at h;exact w1 n0 (.e (.c (.e (.i 3 (.p 1 (.e (.c (.e .z) (.e .z)))))) .z)) t0
 intro _ s' h hs;exact w1 n0 (.e .z) t0⟩
def Qf (a0:(List Jb)) (a1_0:Jb):Option Bool :=
 (Qo a0 a1_0).bind fun r1 =>
 some (decide (0<=r1))
instance Sp (a0:(List Jb)) (a1_0:Jb):Ct Tryz.prog GlS (Qf a0 a1_0) 234 [Enc.pv a0,.fn 235 [.cptr (cellsOf a1_0)]] Enc.pv:=⟨fun r h=>by
 unfold Qf at h;refine zC Tryz.func234 Tryz.ntmps234 ?_;exact w1 n0 (.e (.p 2 (.e .z))) t0⟩
def Bi (a0:Jb) (c0:Jg):Option Bool :=
 (Qf c0.Steps a0).bind fun r1 =>
 some r1
instance Jsu (a0:Jb) (c0:Jg):Ct Tryz.prog GlS (Bi a0 c0) 233 [Enc.pv a0,.cptr (cellsOf c0)] Enc.pv:=⟨fun r h=>by
 unfold Bi at h;refine zC Tryz.func233 Tryz.ntmps233 ?_;refine w1 n0 (.e .S) ?_;intro h;refine Jo (Kj (Jui 2 [] (cs:=cellsOf a0) (cs':=cellsOf a0) kr kr kr kr ?_));exact w1 n0 (.p 3 (.e .z)) t0⟩
def Qq (a0:(List Jb)) (a1_0:Jg):Int->Option (Int⊕(Unit⊕Int)):=fun x3 =>
 bif decide (x3<((a0.length:Nat):Int)) then (
  (ixO a0 x3).bind fun x6 =>
  (Bi x6 a1_0).bind fun r7 =>
  bif r7 then (
   some (.inr (.inr x3))
  ) else (
   some (.inl (w64 (x3+1)))
  )
 ) else (
  some (.inr (.inl ()))
 )
def Qs (a0:(List Jb)) (a1_0:Jg):Option Int :=
 onInl (Js (Qq a0 a1_0) 0) fun _ =>
 some (-1)
instance Jam (a0:(List Jb)) (a1_0:Jg):Ct Tryz.prog GlS (Qs a0 a1_0) 271 [Enc.pv a0,.fn 233 [.cptr (cellsOf a1_0)]] Enc.pv:=⟨fun r h=>by
 unfold Qs at h;refine zC Tryz.func271 Tryz.ntmps271 ?_;refine w1 a0 (.e (.l 1 (.e .s))) ?_;intro h;refine yN 19 0 [8] (fun x3=>⟨[(0,Jh .frozen a0),(1,.fn 233 [.cptr (cellsOf a1_0)]),(7,I6 ((a0.length:Nat):Int)),(8,I6 x3)],[],[],[]⟩) h ?_ ?_
 ·intro x3 _ h;unfold Qq at h;exact w1 n0 (.e (.c (.e (.i 3 (.p 1 (.e (.c (.e .z) (.e .z)))))) .z)) t0
 intro _ s' h hs;exact w1 n0 (.e .z) t0⟩
def Kx (a0:(List Jb)) (a1_0:Jg):Option Bool :=
 (Qs a0 a1_0).bind fun r1 =>
 some (decide (0<=r1))
instance Tr (a0:(List Jb)) (a1_0:Jg):Ct Tryz.prog GlS (Kx a0 a1_0) 234 [Enc.pv a0,.fn 233 [.cptr (cellsOf a1_0)]] Enc.pv:=⟨fun r h=>by
 unfold Kx at h;refine zC Tryz.func234 Tryz.ntmps234 ?_;exact w1 n0 (.e (.p 2 (.e .z))) t0⟩
def Ej (a0:Jx) (a1:Jg) (a2:Int):Option (Int⊕Ji) :=
 onInl (α:=Unit) (β:=(Int⊕Ji)) (
  ((bif decide (a2<0) then some true else (
   some (decide (((a0.Routes.length:Nat):Int)<=a2))
  )):Option Bool).bind fun b2 =>
  bif b2 then (
   some (.inr (.inl 1))
  ) else (
   some (.inl ())
  )
 ) fun _ =>
 (ixO a0.Routes a2).bind fun x3 =>
 onInl (α:=Unit) (β:=(Int⊕Ji)) (
  bif (!(decide (a1.CutSeq=0))) then (
   some (.inr (.inl 11))
  ) else (
   some (.inl ())
  )
 ) fun _ =>
 onInl (α:=Unit) (β:=(Int⊕Ji)) (
  bif ((decide (a1.End=(-1)))||(!(decide (a1.End=x3.Entry)))) then (
   some (.inr (.inl 10))
  ) else (
   some (.inl ())
  )
 ) fun _ =>
 onInl (α:=Unit) (β:=(Int⊕Ji)) (
  (Kx x3.Path a1).bind fun r7 =>
  ((bif r7 then some true else (
   (Wb a1.Routes a2).bind fun r9 =>
   some r9
  )):Option Bool).bind fun b8 =>
  bif b8 then (
   some (.inr (.inl 8))
  ) else (
   some (.inl ())
  )
 ) fun _ =>
 onInl (α:=Unit) (β:=(Int⊕Ji)) (
  bif ((decide (64<(w64 (((a1.Steps.length:Nat):Int)+((x3.Path.length:Nat):Int)))))||(decide (1073741824<(w64 (a1.At+x3.Length))))) then (
   some (.inr (.inl 2))
  ) else (
   some (.inl ())
  )
 ) fun _ =>
 some (.inr x3)
theorem Xz (a0:Jx) (a1:Jg) (a2:Int) (r:(Int⊕Ji)) (h:Ej a0 a1 a2=some r):Jlv Tryz.prog GlS 170 [Enc.pv a0,Enc.pv a1,Enc.pv a2] (panR 218 (fun r=>Enc.pv r) r):=by
 unfold Ej at h;refine Joe Tryz.func170 (by rfl) rfl Tryz.ntmps170 (by rfl) rfl ?_;refine w1 n0 (.e .S) ?_;intro h;refine Jo ?_;refine yJ 74 (fun (_:Unit)=>⟨[(2,I6 a2),(3,.ref 3 0),(4,.ref 4 0),(6,.ref 6 0)],[(3,.cells (cellsOf a0)),(4,.cells (cellsOf a1)),(6,.cells ([.str ByteArray.empty,I6 0,I6 0,.nil,.nil,.nil,I6 0,I6 0,.nil,.nil,.nil,.nil,.nil,.nil]))],[],[]⟩) h ?_ ?_
 ·intro _ h;refine w1 a0.Routes (.b 3 6 17 (.g 0 .z (.l 3 .z)) (.e (.c .S .z))) ?_;intro _ h;refine Jd0 (Rm 0 1 (w1 n0 (.e .S) ?_));intro h;refine Jg5 (d:=19) (y:=(218,[(.i64,1)])) kr fun ch hpan=>?_;refine vJp h ?_;clear h;intro h;cases h;exact Jme hpan
 intro _ h;refine w1 n0 (.i 3 (.e .S)) ?_;intro x3 h;refine Jo ?_;refine yJ 74 (fun (_:Unit)=>⟨[(2,I6 a2),(4,.ref 4 0),(6,.ref 6 0),(7,.ref 7 0)],[(4,.cells (cellsOf a1)),(6,.cells ([.str ByteArray.empty,I6 0,I6 0,.nil,.nil,.nil,I6 0,I6 0,.nil,.nil,.nil,.nil,.nil,.nil])),(7,.cells (cellsOf x3))],[],[]⟩) h ?_ ?_
 ·intro _ h;refine w1 n0 (.e (.c .S .z)) ?_;intro h;refine Jd0 (Rm 0 1 (w1 n0 (.e .S) ?_));intro h;refine Jg5 (d:=29) (y:=(218,[(.i64,11)])) kr fun ch hpan=>?_;refine vJp h ?_;clear h;intro h;cases h;exact Jme hpan
 intro _ h;refine yJ 74 (fun (_:Unit)=>⟨[(2,I6 a2),(4,.ref 4 0),(6,.ref 6 0),(7,.ref 7 0)],[(4,.cells (cellsOf a1)),(6,.cells ([.str ByteArray.empty,I6 0,I6 0,.nil,.nil,.nil,I6 0,I6 0,.nil,.nil,.nil,.nil,.nil,.nil])),(7,.cells (cellsOf x3))],[],[]⟩) h ?_ ?_
 ·intro _ h;refine w1 n0 (.o 4 6 39 0 (.e (.c .S .z))) ?_;intro h;refine Jd0 (Rm 0 1 (w1 n0 (.e .S) ?_));intro h;refine Jg5 (d:=41) (y:=(218,[(.i64,10)])) kr fun ch hpan=>?_;refine vJp h ?_;clear h;intro h;cases h;exact Jme hpan
 intro _ h;refine w1 n0 (.e .S) ?_;intro h;refine Jo ?_;refine yJ 74 (fun (_:Unit)=>⟨[(4,.cptr (cellsOf a1)),(6,.ref 6 0),(7,.ref 7 0)],[(6,.cells ([.str ByteArray.empty,I6 0,I6 0,.nil,.nil,.nil,I6 0,I6 0,.nil,.nil,.nil,.nil,.nil,.nil])),(7,.cells (cellsOf x3))],[],[]⟩) h ?_ ?_
 ·intro _ h;refine Kj (Jui 4 [6,7] (cs:=cellsOf a1) (cs':=cellsOf a1) kr kr kr kr (w1 n0 (.p 3 (.b 1 5 52 (.g 0 .z (.p 3 .z)) (.e (.c .S .z)))) ?_));intro _ _ h;refine Jd0 (Rm 0 1 (w1 n0 (.e .S) ?_));intro h;refine Jg5 (d:=54) (y:=(218,[(.i64,8)])) kr fun ch hpan=>?_;refine vJp h ?_;clear h;intro h;cases h;exact Jme hpan
 intro _ h;refine yJ 74 (fun (_:Unit)=>⟨[(6,.ref 6 0),(7,.ref 7 0)],[(6,.cells ([.str ByteArray.empty,I6 0,I6 0,.nil,.nil,.nil,I6 0,I6 0,.nil,.nil,.nil,.nil,.nil,.nil])),(7,.cells (cellsOf x3))],[],[]⟩) h ?_ ?_
 ·intro _ h;refine w1 a1.Steps (.l 2 .s) ?_;intro h;refine yl 2 x3.Path (w1 n0 (.o 3 7 70 0 (.e (.c .S .z))) ?_);intro h;refine Jd0 (Rm 0 1 (w1 n0 (.e .S) ?_));intro h;refine Jg5 (d:=72) (y:=(218,[(.i64,2)])) kr fun ch hpan=>?_;refine vJp h ?_;clear h;intro h;cases h;exact Jme hpan
 intro _ h;refine w1 n0 (.e .s) ?_;intro h;cases h;exact ⟨_,rfl,Jzp kr kr kr⟩
def Fy (a0:Ja) (a1:Ji) (x1:Int):(Int×Int)->Option ((Int×Int)⊕(Int⊕Int)):=fun (x9,x10) =>
 bif decide (x10<((a1.Path.length:Nat):Int)) then (
  onInl (α:=Int) (β:=((Int×Int)⊕(Int⊕Int))) (
   (ixO a1.Path x10).bind fun x23 =>
   (Ym a0 x23.El).bind fun r24 =>
   bif decide (r24=x1) then (
    (Fa a0 x23).bind fun r25 =>
    some (.inl (w64 (x9+r25)))
   ) else (
    some (.inl x9)
   )
  ) fun x22 =>
  some (.inl (x22,w64 (x10+1)))
 ) else (
  some (.inr (.inl x9))
 )
def Eu (a0:Ja) (a1:Ji):Option Int :=
 bif decide (((a1.Sections.length:Nat):Int)=0) then (
  some 0
 ) else (
  (ixO a1.Sections (w64 (((a1.Sections.length:Nat):Int) - 1))).bind fun x1 =>
  onInl (Js (Fy a0 a1 x1) (0,0)) fun x18 =>
  some x18
 )
instance Jxt (a0:Ja) (a1:Ji):Ct Tryz.prog GlS (Eu a0 a1) 171 [Enc.pv a0,Enc.pv a1] Enc.pv:=⟨fun r h=>by
 unfold Eu at h;refine zC Tryz.func171 Tryz.ntmps171 ?_;refine w1 a1.Sections (.e (.l 2 (.e (.c (.e .z) (.l 4 (.i 1 (.e (.e .s)))))))) ?_;intro x1 h;refine yl 2 a1.Path (w1 n0 (.e .s) ?_);intro h;refine yL 41 0 (fun (x9,x10)=>⟨[(2,.ref 2 0),(5,I6 x1),(6,I6 x9),(22,Jh .frozen a1.Path),(23,I6 ((a1.Path.length:Nat):Int)),(24,I6 x10)],[(2,.cells (cellsOf a0))],[],[]⟩) (fun x18=>⟨[(6,I6 x18)],[],[],[]⟩) h ?_ ?_
 ·rintro ⟨x9,x10⟩ _ h;unfold Fy at h;refine w1 n0 (.e (.c .s .z)) ?_;intro h;refine yJ 41 (fun x22=>⟨[(2,.ref 2 0),(5,I6 x1),(6,I6 x22),(22,Jh .frozen a1.Path),(23,I6 ((a1.Path.length:Nat):Int)),(24,I6 x10)],[(2,.cells (cellsOf a0))],[],[]⟩) h ?_ ?_
  ·intro _ h;exact w1 n0 (.i 0 (.e (.p 3 (.e (.c (.p 3 (.e .z)) .z))))) t0
  intro x22 h;exact w1 n0 (.e .z) t0
 intro x18 s' h hs;exact w1 n0 (.e .z) t0⟩
def Ei (a0:Ja) (a1:Jx) (a2:Jg) (a3:Int):Option (Jg×Int) :=
 Jyz (Ej a1 a2 a3) (fun e2 =>
  some ((Jg.mk 0 0 0 0 [] [] [] [] [] 0 0 0 0 0),e2)
 ) fun r1 =>
 Option.bind (α:=((List Jb)×(List Int)×(List Int)×(List Int)×(List Int))) (
  (Kz a2.Steps).bind fun r13 =>
  (Jy a2.Routes).bind fun r14 =>
  (Jy a2.Starts).bind fun r15 =>
  (Jy a2.Ends).bind fun r16 =>
  (Jy a2.Done).bind fun r17 =>
  some (r13,r14,r15,r16,r17)
 ) fun (x8,x9,x10,x11,x12) =>
 (Uq x8 r1.Path).bind fun x18 =>
 (Uq x9 [a3]).bind fun x19 =>
 (Eu a0 r1).bind fun r20 =>
 (Uq x10 [w64 ((w64 (a2.At+r1.Length)) - r20)]).bind fun x21 =>
 (Uq x11 [w64 (a2.At+r1.Length)]).bind fun x22 =>
 some ((Jg.mk a2.Id a2.Origin r1.Exit (w64 (a2.At+r1.Length)) x18 x19 x21 x22 x12 a2.Min a2.Sent a2.Accepted a2.Cut a2.CutSeq),0)
set_option maxRecDepth 100000 in
instance Jwh (a0:Ja) (a1:Jx) (a2:Jg) (a3:Int):Ct Tryz.prog GlS (Ei a0 a1 a2 a3) 97 [Enc.pv a0,Enc.pv a1,Enc.pv a2,Enc.pv a3] (fun r=>.tup [Enc.pv r.1,Enc.pv r.2]):=⟨fun r h=>by
 unfold Ei at h;refine Joy Tryz.func97 (by rfl) rfl Tryz.ntmps97 (by rfl) rfl ?_;refine Jhj (Wj (w1 n0 (.e .S) ?_));intro h;refine Jlh ?_;refine Jgj 1 169 [.ref 8 0,.ref 9 0] (by rfl) ?_;refine w1 n0 (.e .S) ?_;intro h;refine ⟨by kernel_rfl,by kernel_rfl,by kernel_rfl, ?_⟩;refine Kj (Jd0 (Rm 0 3 (w1 n0 (.e .S) ?_)));intro h;rcases Kk3 h with ⟨e2,h1,h⟩|⟨r1,h1,h⟩
 ·refine Kfw (Xz _ _ _ (.inl e2) h1) kr fun ch hpan=>?_;refine Ji9 ?_;refine Kku hpan (Jzv (x:=some (218,[(.i64,e2)])) (caps:=[.ref 8 0,.ref 9 0]) kr Tryz.func169 (by rfl) rfl Tryz.ntmps169 (by rfl) ?_);refine Jt9 ((Jcg 1 kr).trans (.of (j:=⟨[(0,.ref 1008 0),(1,.ref 1009 0),(25,.ref 1008 0),(26,.ref 1009 0),(75,.fn 169 [.ref 1008 0,.ref 1009 0])],[(1008,.cells ([I6 0,I6 0,I6 0,I6 0,.nil,.nil,.nil,.nil,.nil,I6 0,I6 0,I6 0,I6 0,I6 0])),(1009,.cells ([I6 0]))],[],[]⟩) (n:=5900076) kr kr)) (Jmm ⟨rfl,rfl,rfl,rfl,fun _ _=>rfl,fun _ _=>rfl⟩ kr (Kj (Wj (zR 1 (Kjy (t:=20) (b:=true) kr kr (w1 n0 (.e .S) ?_))))));intro h;refine Jo (Xh (b:=true) rfl kr (w1 n0 (.e .s) ?_));intro h;refine zR 1 (Kme (cs:=[(.i64,e2)]) kr (w1 n0 (.e (.e .S)) ?_));intro h;refine Jo (Xh (b:=true) rfl kr (w1 n0 (.e .s) ?_));intro h;cases h;exact Jgi kr kr kr
 refine Kdt (Xz _ _ _ (.inr r1) h1) kr kr (Rm 4 2 (w1 n0 (.e .S) ?_));intro h;refine Jz3 (Jo (Kj (Jiw (So 0 1 (w1 n0 (.e .S) ?_)))));intro h;refine Fq 3 ⟨[(3,I6 a3),(4,.ref 3004 0),(8,.ref 3008 0),(9,.ref 3009 0),(10,.ref 3010 0),(16,Enc.pv a2),(58,.fn 169 [.ref 3008 0,.ref 3009 0])],[(3004,.cells (cellsOf a0)),(3008,.cells ([I6 0,I6 0,I6 0,I6 0,.nil,.nil,.nil,.nil,.nil,I6 0,I6 0,I6 0,I6 0,I6 0])),(3009,.cells ([I6 0])),(3010,.cells (cellsOf r1))],[],[]⟩ 100059 kr kr kr ?_;obtain ⟨o7,h7,h⟩:=Ka h;refine Jqg (f:=93) (asx:=[Enc.pv a2]) kr Tryz.func93 (by rfl) rfl Tryz.ntmps93 (by rfl) ?_;refine Je8 o7 5900083 (fun (x8,x9,x10,x11,x12)=>⟨[(2,.ref 2 0),(27,I6 a3),(28,.ref 3004 0),(32,.ref 3008 0),(33,.ref 3009 0),(34,.ref 3010 0),(82,.fn 169 [.ref 3008 0,.ref 3009 0])],[(2,.cells ([I6 a2.Id,I6 a2.Origin,I6 a2.End,I6 a2.At,Jh (.own 5007) x8,Jh (.own 9007) x9,Jh (.own 13007) x10,Jh (.own 17007) x11,Jh (.own 21007) x12,I6 a2.Min,I6 a2.Sent,I6 a2.Accepted,I6 a2.Cut,I6 a2.CutSeq])),(3004,.cells (cellsOf a0)),(3008,.cells ([I6 0,I6 0,I6 0,I6 0,.nil,.nil,.nil,.nil,.nil,I6 0,I6 0,I6 0,I6 0,I6 0])),(3009,.cells ([I6 0])),(3010,.cells (cellsOf r1))],[(5007,(((x8).map cellsOf).length,3)),(9007,(((x9).map cellsOf).length,1)),(13007,(((x10).map cellsOf).length,1)),(17007,(((x11).map cellsOf).length,1)),(21007,(((x12).map cellsOf).length,1))],[]⟩) ?_ ?_
 ·have h:=h7;refine w1 n0 (.e (.p 2 (.e (.p 2 (.e (.p 2 (.e (.p 2 (.e (.p 2 (.e (.e .s)))))))))))) ?_;intro _ _ _ _ _ h;cases h;exact Jx5 kr kr
 obtain ⟨x8,x9,x10,x11,x12⟩:=o7;refine Jp8 (r:=.agg [I6 a2.Id,I6 a2.Origin,I6 a2.End,I6 a2.At,Jh (.own 5007) x8,Jh (.own 9007) x9,Jh (.own 13007) x10,Jh (.own 17007) x11,Jh (.own 21007) x12,I6 a2.Min,I6 a2.Sent,I6 a2.Accepted,I6 a2.Cut,I6 a2.CutSeq]) kr (Fq 4 ⟨[(3,I6 a3),(4,.ref 3004 0),(8,.ref 3008 0),(9,.ref 3009 0),(10,.ref 3010 0),(17,.agg [I6 a2.Id,I6 a2.Origin,I6 a2.End,I6 a2.At,Jh (.own 4005007) x8,Jh (.own 4009007) x9,Jh (.own 4013007) x10,Jh (.own 4017007) x11,Jh (.own 4021007) x12,I6 a2.Min,I6 a2.Sent,I6 a2.Accepted,I6 a2.Cut,I6 a2.CutSeq]),(58,.fn 169 [.ref 3008 0,.ref 3009 0])],[(3004,.cells (cellsOf a0)),(3008,.cells ([I6 0,I6 0,I6 0,I6 0,.nil,.nil,.nil,.nil,.nil,I6 0,I6 0,I6 0,I6 0,I6 0])),(3009,.cells ([I6 0])),(3010,.cells (cellsOf r1))],[(4005007,(((x8).map cellsOf).length,3)),(4009007,(((x9).map cellsOf).length,1)),(4013007,(((x10).map cellsOf).length,1)),(4017007,(((x11).map cellsOf).length,1)),(4021007,(((x12).map cellsOf).length,1))],[]⟩ 100059 kr kr kr ?_);refine Fq 3 ⟨[(3,I6 a3),(4,.ref 4 0),(8,.ref 8 0),(9,.ref 9 0),(10,.ref 10 0),(17,.agg [I6 a2.Id,I6 a2.Origin,I6 a2.End,I6 a2.At,Jh (.own 4005007) x8,Jh (.own 4009007) x9,Jh (.own 4013007) x10,Jh (.own 4017007) x11,Jh (.own 4021007) x12,I6 a2.Min,I6 a2.Sent,I6 a2.Accepted,I6 a2.Cut,I6 a2.CutSeq]),(58,.fn 169 [.ref 8 0,.ref 9 0])],[(4,.cells (cellsOf a0)),(8,.cells ([I6 0,I6 0,I6 0,I6 0,.nil,.nil,.nil,.nil,.nil,I6 0,I6 0,I6 0,I6 0,I6 0])),(9,.cells ([I6 0])),(10,.cells (cellsOf r1))],[(4005007,(((x8).map cellsOf).length,3)),(4009007,(((x9).map cellsOf).length,1)),(4013007,(((x10).map cellsOf).length,1)),(4017007,(((x11).map cellsOf).length,1)),(4021007,(((x12).map cellsOf).length,1))],[]⟩ 100059 kr kr kr (So 2 1 (w1 n0 (.e .S) ?_));intro h;refine Jid (Jo (Kj (Wj (w1 n0 (.e (.e (.w 4 (.e (.w 4 (.e (.p 6 (.w 2 (.e (.w 5 (.e (.e .S)))))))))))) ?_))));intro x18 x19 _ x21 x22 h;refine Jo (Wf ?_);refine Kkj (Jzv (x:=none) (caps:=[.ref 8 0,.ref 9 0]) kr Tryz.func169 (by rfl) rfl Tryz.ntmps169 (by rfl) ?_);refine Jt9 ((Jcg 5 kr).trans (.of (j:=⟨[(0,.ref 5008 0),(1,.ref 5009 0),(25,.ref 5008 0),(26,.ref 5009 0),(75,.fn 169 [.ref 5008 0,.ref 5009 0])],[(5008,.cells ([I6 a2.Id,I6 a2.Origin,I6 r1.Exit,I6 (w64 (a2.At+r1.Length)),Jh (.own 4005007) x18,Jh (.own 4009007) x19,Jh (.own 4013007) x21,Jh (.own 4017007) x22,Jh (.own 4021007) x12,I6 a2.Min,I6 a2.Sent,I6 a2.Accepted,I6 a2.Cut,I6 a2.CutSeq])),(5009,.cells ([I6 0]))],[(4005007,(((x18).map cellsOf).length,3)),(4009007,(((x19).map cellsOf).length,1)),(4013007,(((x21).map cellsOf).length,1)),(4017007,(((x22).map cellsOf).length,1)),(4021007,(((x12).map cellsOf).length,1))],[]⟩) (n:=5900076) kr kr)) (Jmm ⟨rfl,rfl,rfl,rfl,fun _ _=>rfl,fun _ _=>rfl⟩ kr (Kj (Wj (zR 1 (Kjy (t:=20) (b:=false) kr kr (w1 n0 (.e .S) ?_))))));intro h;refine Jo (Xa (b:=false) rfl kr (Ve ?_));cases h;exact Jgi kr kr kr⟩
def Dy (a0:Int) (c0:Jg):Option Bool :=
 some (decide (c0.Cut<a0))
instance Jsv (a0:Int) (c0:Jg):Ct Tryz.prog GlS (Dy a0 c0) 173 [Enc.pv a0,.cptr (cellsOf c0)] Enc.pv:=⟨fun r h=>by
 unfold Dy at h;refine zC Tryz.func173 Tryz.ntmps173 ?_;exact w1 n0 (.e (.e .z)) t0⟩
def Ua (a0:(List Int)) (a1_0:Jg):Int->Option (Int⊕(Unit⊕Int)):=fun x3 =>
 bif decide (x3<((a0.length:Nat):Int)) then (
  (ixO a0 x3).bind fun x6 =>
  (Dy x6 a1_0).bind fun r7 =>
  bif r7 then (
   some (.inr (.inr x3))
  ) else (
   some (.inl (w64 (x3+1)))
  )
 ) else (
  some (.inr (.inl ()))
 )
def Ug (a0:(List Int)) (a1_0:Jg):Option Int :=
 onInl (Js (Ua a0 a1_0) 0) fun _ =>
 some (-1)
instance Jb7 (a0:(List Int)) (a1_0:Jg):Ct Tryz.prog GlS (Ug a0 a1_0) 166 [Enc.pv a0,.fn 173 [.cptr (cellsOf a1_0)]] Enc.pv:=⟨fun r h=>by
 unfold Ug at h;refine zC Tryz.func166 Tryz.ntmps166 ?_;refine w1 a0 (.e (.l 1 (.e .s))) ?_;intro h;refine yN 19 0 [8] (fun x3=>⟨[(0,Jh .frozen a0),(1,.fn 173 [.cptr (cellsOf a1_0)]),(7,I6 ((a0.length:Nat):Int)),(8,I6 x3)],[],[],[]⟩) h ?_ ?_
 ·intro x3 _ h;unfold Ua at h;exact w1 n0 (.e (.c (.e (.i 3 (.p 1 (.e (.c (.e .z) (.e .z)))))) .z)) t0
 intro _ s' h hs;exact w1 n0 (.e .z) t0⟩
def Qz (a0:(List Int)) (a1_0:Jg):Option Bool :=
 (Ug a0 a1_0).bind fun r1 =>
 some (decide (0<=r1))
instance Cw (a0:(List Int)) (a1_0:Jg):Ct Tryz.prog GlS (Qz a0 a1_0) 172 [Enc.pv a0,.fn 173 [.cptr (cellsOf a1_0)]] Enc.pv:=⟨fun r h=>by
 unfold Qz at h;refine zC Tryz.func172 Tryz.ntmps172 ?_;exact w1 n0 (.e (.p 2 (.e .z))) t0⟩
def Gk (a0:Ja) (a1:Jg):(Int×Int×(List Jb))->Option ((Int×Int×(List Jb))⊕((List Jb)⊕Jg)):=fun (x32,x33,x34) =>
 bif decide (x33<((a1.Steps.length:Nat):Int)) then (
  onInl (α:=((List Jb)×Int)) (β:=((Int×Int×(List Jb))⊕((List Jb)⊕Jg))) (
   (ixO a1.Steps x33).bind fun x58 =>
   onInl (α:=(List Jb)) (β:=(((List Jb)×Int)⊕((Int×Int×(List Jb))⊕((List Jb)⊕Jg)))) (
    bif decide (x32<a1.Cut) then (
     (Uq x34 [x58]).bind fun x61 =>
     some (.inl x61)
    ) else (
     some (.inl x34)
    )
   ) fun x60 =>
   ((bif decide (0<=x58.El) then (
    some (decide (x58.El<((a0.Elements.length:Nat):Int)))
   ) else some false):Option Bool).bind fun b62 =>
   bif b62 then (
    (ixO a0.Elements x58.El).bind fun x63 =>
    some (.inl (x60,w64 (x32+x63.Length)))
   ) else (
    some (.inl (x60,x32))
   )
  ) fun (x56,x57) =>
  some (.inl (x57,w64 (x33+1),x56))
 ) else (
  some (.inr (.inl x34))
 )
def Fc (a0:Ja) (a1:Jg):Option Jg :=
 (Qz a1.Ends a1).bind fun r1 =>
 bif (!r1) then (
  some a1
 ) else (
  onInl (Js (Gk a0 a1) (a1.Origin,0,[])) fun x49 =>
  some (Jg.mk a1.Id a1.Origin a1.End a1.Cut x49 a1.Routes a1.Starts a1.Ends a1.Done a1.Min a1.Sent a1.Accepted a1.Cut a1.CutSeq)
 )
instance Jxw (a0:Ja) (a1:Jg):Ct Tryz.prog GlS (Fc a0 a1) 98 [Enc.pv a0,Enc.pv a1] Enc.pv:=⟨fun r h=>by
 unfold Fc at h;refine zC Tryz.func98 Tryz.ntmps98 ?_;refine w1 n0 (.e .x) ?_;intro r1 h1 h;refine zR 3 (Kik [] ((Cw _ _).ok r1 h1) kr kr kr (w1 a1.Steps (.e (.e (.c (.e .z) (.e (.e (.l 2 (.e .S))))))) ?_));intro h;refine Jo (Kq (Zh 6 100006 3 24 kr kr ?_));refine yL 61 0 (fun (x32,x33,x34)=>⟨[(2,.ref 2 0),(3,.ref 3 0),(4,.ref 4 0),(6,Jh (.own 100006) x34),(7,I6 x32),(20,Jh .frozen a1.Steps),(21,I6 ((a1.Steps.length:Nat):Int)),(22,I6 x33)],[(2,.cells (cellsOf a0)),(3,.cells (cellsOf a1)),(4,.cells ([I6 0,I6 0,I6 0,I6 0,.nil,.nil,.nil,.nil,.nil,I6 0,I6 0,I6 0,I6 0,I6 0]))],[(100006,(((x34).map cellsOf).length,3))],[]⟩) (fun x49=>⟨[(3,.ref 3 0),(4,.ref 4 0),(6,Jh (.own 100006) x49)],[(3,.cells (cellsOf a1)),(4,.cells ([I6 0,I6 0,I6 0,I6 0,.nil,.nil,.nil,.nil,.nil,I6 0,I6 0,I6 0,I6 0,I6 0]))],[(100006,(((x49).map cellsOf).length,3))],[]⟩) h ?_ ?_
 ·rintro ⟨x32,x33,x34⟩ _ h;unfold Gk at h;refine w1 n0 (.e (.c .s .z)) ?_;intro h;refine yJ 61 (fun (x56,x57)=>⟨[(2,.ref 2 0),(3,.ref 3 0),(4,.ref 4 0),(6,Jh (.own 100006) x56),(7,I6 x57),(20,Jh .frozen a1.Steps),(21,I6 ((a1.Steps.length:Nat):Int)),(22,I6 x33)],[(2,.cells (cellsOf a0)),(3,.cells (cellsOf a1)),(4,.cells ([I6 0,I6 0,I6 0,I6 0,.nil,.nil,.nil,.nil,.nil,I6 0,I6 0,I6 0,I6 0,I6 0]))],[(100006,(((x56).map cellsOf).length,3))],[]⟩) h ?_ ?_
  ·intro _ h;refine w1 n0 (.i 0 (.e .S)) ?_;intro x58 h;refine Jo ?_;refine yJ 61 (fun x60=>⟨[(2,.ref 2 0),(3,.ref 3 0),(4,.ref 4 0),(6,Jh (.own 100006) x60),(7,I6 x32),(9,.ref 9 0),(20,Jh .frozen a1.Steps),(21,I6 ((a1.Steps.length:Nat):Int)),(22,I6 x33)],[(2,.cells (cellsOf a0)),(3,.cells (cellsOf a1)),(4,.cells ([I6 0,I6 0,I6 0,I6 0,.nil,.nil,.nil,.nil,.nil,I6 0,I6 0,I6 0,I6 0,I6 0])),(9,.cells (cellsOf x58))],[(100006,(((x60).map cellsOf).length,3))],[]⟩) h ?_ ?_
   ·intro _ h;exact w1 n0 (.e (.c (.w 3 (.e .z)) .z)) t0
   intro x60 h;exact w1 a0.Elements (.b 4 7 44 (.g 0 (.l 4 .z) .z) (.e (.c (.i 5 (.e .z)) .z))) t0
  rintro ⟨x56,x57⟩ h;exact w1 n0 (.e .z) t0
 intro x49 s' h hs;exact w1 n0 (.e (.e (.e .z))) t0⟩
def Vh (a0:Int):Option Bool :=
 some ((decide ((-1073741824)<=a0))&&(decide (a0<=1073741824)))
instance Jpi (a0:Int):Ct Tryz.prog GlS (Vh a0) 242 [Enc.pv a0] Enc.pv:=⟨fun r h=>by
 unfold Vh at h;refine zC Tryz.func242 Tryz.ntmps242 ?_;exact w1 n0 (.e (.o 3 3 8 0 (.e .z))) t0⟩
def Be (a0:Ju) (a1:Jb):Option Int :=
 bif ((decide (a1.In=0))||((decide (a1.In=2))&&(decide (a0.Kind=3)))) then (
  some a0.Grade
 ) else (
  some (w64 (0 - a0.Grade))
 )
instance Jsx (a0:Ju) (a1:Jb):Ct Tryz.prog GlS (Be a0 a1) 243 [Enc.pv a0,Enc.pv a1] Enc.pv:=⟨fun r h=>by
 unfold Be at h;refine zC Tryz.func243 Tryz.ntmps243 ?_;exact w1 n0 (.e (.o 4 9 17 0 (.e (.c (.e .z) (.e .z))))) t0⟩
def Es (a0:Ju) (a1:Jb):Option Int :=
 bif ((decide (a0.Kind=2))&&((decide (a1.In=2))||(decide (a1.Out=2)))) then (
  some a0.Slow
 ) else (
  some a0.Speed
 )
instance Jxo (a0:Ju) (a1:Jb):Ct Tryz.prog GlS (Es a0 a1) 244 [Enc.pv a0,Enc.pv a1] Enc.pv:=⟨fun r h=>by
 unfold Es at h;refine zC Tryz.func244 Tryz.ntmps244 ?_;exact w1 n0 (.e (.o 4 9 17 0 (.e (.c (.e .z) (.e .z))))) t0⟩
def Ft (a0:(List Jd)):Int->Option (Int⊕(Unit⊕Bool)):=fun x7 =>
 bif decide (x7<((a0.length:Nat):Int)) then (
  (ixO a0 x7).bind fun x14 =>
  (Vh x14.From).bind fun r15 =>
  ((bif (!r15) then some true else (
   (Vh x14.To).bind fun r17 =>
   some (!r17)
  )):Option Bool).bind fun b16 =>
  bif (((((b16||(decide (x14.To<=x14.From)))||(decide (x14.Grade<(-50))))||(decide (50<x14.Grade)))||(decide (x14.Speed<1)))||(decide (10000<x14.Speed))) then (
   some (.inr (.inr false))
  ) else (
   ((bif decide (0<x7) then (
    (ixO a0 (w64 (x7 - 1))).bind fun x19 =>
    some (!(decide (x14.From=x19.To)))
   ) else some false):Option Bool).bind fun b18 =>
   bif b18 then (
    some (.inr (.inr false))
   ) else (
    some (.inl (w64 (x7+1)))
   )
  )
 ) else (
  some (.inr (.inl ()))
 )
def Vj (a0:(List Jd)):Option Bool :=
 bif decide (128<((a0.length:Nat):Int)) then (
  some false
 ) else (
  onInl (Js (Ft a0) 0) fun _ =>
  some true
 )
instance Jw9 (a0:(List Jd)):Ct Tryz.prog GlS (Vj a0) 188 [Enc.pv a0] Enc.pv:=⟨fun r h=>by
 unfold Vj at h;refine zC Tryz.func188 Tryz.ntmps188 ?_;refine w1 a0 (.e (.l 1 (.e (.c (.e .z) (.l 1 (.e .s)))))) ?_;intro h;refine yN 66 0 [10] (fun x7=>⟨[(0,Jh .frozen a0),(8,Jh .frozen a0),(9,I6 ((a0.length:Nat):Int)),(10,I6 x7)],[],[],[]⟩) h ?_ ?_
 ·intro x7 _ h;unfold Ft at h;exact w1 n0 (.e (.c (.i 1 (.e (.p 2 (.b 2 5 24 (.g 0 .z (.p 2 .z)) (.o 1 6 31 4 (.o 1 4 36 3 (.o 1 4 41 2 (.o 1 4 46 1 (.o 1 4 51 0 (.e (.c (.e .z) (.b 3 10 64 (.g 0 (.i 5 .z) .z) (.e (.c (.e .z) (.e .z))))))))))))))) .z)) t0
 intro _ s' h hs;exact w1 n0 (.e .z) t0⟩
def Nu (a0:Ja) (a1:(List Jb)):(Int×Int×(List Jd))->Option ((Int×Int×(List Jd))⊕((List Jd)⊕(List Jd))):=fun (x21,x22,x23) =>
 bif decide (x22<((a1.length:Nat):Int)) then (
  (ixO a1 x22).bind fun x34 =>
  ((bif decide (x34.El<0) then some true else (
   some (decide (((a0.Elements.length:Nat):Int)<=x34.El))
  )):Option Bool).bind fun b35 =>
  bif b35 then (
   some (.inr (.inr ([]:(List Jd))))
  ) else (
   (ixO a0.Elements x34.El).bind fun x36 =>
   (Na x36.Kind x34.In x34.Out).bind fun r37 =>
   ((bif (!r37.2) then some true else (
    (Vh x21).bind fun r39 =>
    some (!r39)
   )):Option Bool).bind fun b38 =>
   bif b38 then (
    some (.inr (.inr ([]:(List Jd))))
   ) else (
    (Be x36 x34).bind fun r40 =>
    (Es x36 x34).bind fun r41 =>
    (Uq x23 [(Jd.mk x21 (w64 (x21+x36.Length)) r40 r41)]).bind fun x42 =>
    some (.inl (w64 (x21+x36.Length),w64 (x22+1),x42))
   )
  )
 ) else (
  some (.inr (.inl x23))
 )
def Hw (a0:Ja) (a1:(List Jb)) (a2:Int):Option (List Jd) :=
 bif decide (128<((a1.length:Nat):Int)) then (
  some ([]:(List Jd))
 ) else (
  onInl (Js (Nu a0 a1) (a2,0,[])) fun x33 =>
  (Vj x33).bind fun r43 =>
  bif (!r43) then (
   some ([]:(List Jd))
  ) else (
   some x33
  )
 )
instance Kc6 (a0:Ja) (a1:(List Jb)) (a2:Int):Ct Tryz.prog GlS (Hw a0 a1 a2) 177 [Enc.pv a0,Enc.pv a1,Enc.pv a2] Enc.pv:=⟨fun r h=>by
 unfold Hw at h;refine zC Tryz.func177 Tryz.ntmps177 ?_;refine w1 a1 (.e (.l 1 (.e (.c (.e .z) (.e (.e (.l 1 (.e .S)))))))) ?_;intro h;refine Jo (Kq (Zh 7 100007 4 32 kr kr ?_));refine yL 81 0 (fun (x21,x22,x23)=>⟨[(3,.ref 3 0),(7,Jh (.own 100007) x23),(8,I6 x21),(19,Jh .frozen a1),(20,I6 ((a1.length:Nat):Int)),(21,I6 x22)],[(3,.cells (cellsOf a0))],[(100007,(((x23).map cellsOf).length,4))],[]⟩) (fun x33=>⟨[(7,Jh (.own 100007) x33)],[],[(100007,(((x33).map cellsOf).length,4))],[]⟩) h ?_ ?_
 ·rintro ⟨x21,x22,x23⟩ _ h;unfold Nu at h;exact w1 a0.Elements (.e (.c (.i 0 (.e (.b 4 7 35 (.g 0 .z (.l 4 .z)) (.e (.c (.e .z) (.i 4 (.e (.p 6 (.e (.b 3 4 58 (.g 0 .z (.p 1 .z)) (.e (.c (.e .z) (.e (.p 5 (.p 2 (.w 2 (.e (.e (.e .z))))))))))))))))))) .z)) t0
 intro x33 s' h hs;exact w1 n0 (.p 1 (.e (.c (.e .z) (.e .z)))) t0⟩
def Wz (a0:(List Jd)):Option (List Jd) :=
 (Uq ([]:(List Jd)) a0).bind fun x1 =>
 some x1
instance Jkp (a0:(List Jd)):Ct Tryz.prog GlS (Wz a0) 238 [Enc.pv a0] (fun r=>Jh (.own 7) r):=⟨fun r h=>by
 unfold Wz at h;refine zC Tryz.func238 Tryz.ntmps238 ?_;refine w1 n0 (.e (.e .S)) ?_;intro h;refine Jo ?_;refine Tq (e:=(a0.map cellsOf).isEmpty) kr (fun hub=>?_) ?_
 ·have hN:=Tx (Jjc hub) h;refine w1 n0 (.e .S) ?_;intro h;refine Jo (Zh 2 7 4 32 kr kr (Wf (Za ?_)));cases hN;exact zQ
 obtain ⟨x1,h1,h⟩:=Ka h;refine Ve (Jo (Kj (Wj (zR 2 (Jbe (tk:=7) h1 kr ?_)))));exact w1 n0 (.e .z) t0⟩
def Zi (a0:Ja) (a1:Jk):Option Int :=
 ((bif (((decide (a1.Id<1))||(decide (1073741824<a1.Id)))||(decide (a1.El<0))) then some true else (
  some (decide (((a0.Elements.length:Nat):Int)<=a1.El))
 )):Option Bool).bind fun b1 =>
 bif b1 then (
  some 1
 ) else (
  ((bif ((decide (a1.From<0))||(decide (a1.To<=a1.From))) then some true else (
   (ixO a0.Elements a1.El).bind fun x3 =>
   some (decide (x3.Length<a1.To))
  )):Option Bool).bind fun b2 =>
  bif ((b2||(decide (a1.Speed<100)))||(decide (10000<a1.Speed))) then (
   some 1
  ) else (
   some 0
  )
 )
instance Jqv (a0:Ja) (a1:Jk):Ct Tryz.prog GlS (Zi a0 a1) 239 [Enc.pv a0,Enc.pv a1] Enc.pv:=⟨fun r h=>by
 unfold Zi at h;refine zC Tryz.func239 Tryz.ntmps239 ?_;exact w1 a0.Elements (.e (.o 4 4 12 1 (.o 1 4 17 0 (.b 1 7 25 (.g 0 .z (.l 4 .z)) (.e (.c (.e .z) (.o 4 6 35 0 (.b 1 11 47 (.g 0 .z (.i 6 .z)) (.o 1 4 52 1 (.o 1 4 57 0 (.e (.c (.e .z) (.e .z))))))))))))) t0⟩
def Ya (a0:Dc) (a1:Jd):Option (Jd×Bool) :=
 some ((Jd.mk (max a1.From a0.from_) (min a1.To a0.to_) a1.Grade a1.Speed),decide ((max a1.From a0.from_)<(min a1.To a0.to_)))
instance Jst (a0:Dc) (a1:Jd):Ct Tryz.prog GlS (Ya a0 a1) 245 [Enc.pv a0,Enc.pv a1] (fun r=>.tup [Enc.pv r.1,Enc.pv r.2]):=⟨fun r h=>by
 unfold Ya at h;refine zC Tryz.func245 Tryz.ntmps245 ?_;refine w1 n0 (.e .S) ?_;intro h;refine Jo (Kj ?_);refine Jje 24 ⟨[(3,.ref 3 0),(4,.ref 4 0)],[(3,.cells ([I6 (max a1.From a0.from_),I6 (min a1.To a0.to_),I6 a1.Grade,I6 a1.Speed])),(4,.cells ([I6 0,I6 0,I6 0,I6 0]))],[],[]⟩ kr ?_ ?_
 ·refine Yu [0,1,2,3,4,5,6,7,10] 5 kr (zR 9 (Ke kr ?_));refine Mc (n:=4) [8,11] kr ⟨?_, ?_,trivial⟩
  ·exact ⟨_,rfl,(zR 1 (Ke kr (Yu [9,11,12,13] 0 kr (zR 4 (Ke kr (Yx kr (.of kr kr)))))))⟩
  exact ⟨_,rfl,(zR 1 (Ke kr (Yu [8,9,12,13] 0 kr (zR 4 (Ke kr (Yx kr (.of kr kr)))))))⟩
 refine Jo (Kj ?_);refine Jje 24 ⟨[(4,.ref 4 0),(5,.bool (decide ((max a1.From a0.from_)<(min a1.To a0.to_))))],[(4,.cells ([I6 (max a1.From a0.from_),I6 (min a1.To a0.to_),I6 a1.Grade,I6 a1.Speed]))],[],[]⟩ kr ?_ ?_
 ·refine Yu [0,1,3] 5 kr (zR 3 (Ke kr ?_));refine Mc (n:=4) [2,4,6] kr ⟨?_, ?_, ?_,trivial⟩
  ·refine ⟨_,rfl,(zR 1 (Ke kr ?_))⟩;refine Mc (n:=3) [4,6] kr ⟨?_, ?_,trivial⟩
   ·exact ⟨_,rfl,(zR 1 (Ke kr (Yu [5,6,7] 0 kr (zR 3 (Ke kr (Yx kr (.of kr kr)))))))⟩
   exact ⟨_,rfl,(zR 1 (Ke kr (Yu [4,5,7] 0 kr (zR 3 (Ke kr (Yx kr (.of kr kr)))))))⟩
  ·refine ⟨_,rfl,(zR 1 (Ke kr ?_))⟩;refine Mc (n:=3) [2,6] kr ⟨?_, ?_,trivial⟩
   ·exact ⟨_,rfl,(zR 1 (Ke kr (Yu [5,6,7] 0 kr (zR 3 (Ke kr (Yx kr (.of kr kr)))))))⟩
   exact ⟨_,rfl,(zR 1 (Ke kr (Yu [2,5,7] 0 kr (zR 3 (Ke kr (Yx kr (.of kr kr)))))))⟩
  exact ⟨_,rfl,(zR 1 (Ke kr (Yu [2,4,5,7] 0 kr (zR 4 (Ke kr (Yx kr (.of kr kr)))))))⟩
 exact w1 n0 .z t0⟩
def Pd (a3:Int) (x169:Jd) (r170:(Jd×Bool)):((List Jd)×Int)->Option (((List Jd)×Int)⊕((List Jd)⊕((List Jd)⊕((Int×(List Jd))⊕((List Jd)⊕(List Jd)))))):=fun (x177,x178) =>
 bif decide (x178<(([(Jd.mk x169.From r170.1.From x169.Grade x169.Speed),(Jd.mk r170.1.From r170.1.To r170.1.Grade (min r170.1.Speed a3)),(Jd.mk r170.1.To x169.To x169.Grade x169.Speed)].length:Nat):Int)) then (
  onInl (α:=(List Jd)) (β:=(((List Jd)×Int)⊕((List Jd)⊕((List Jd)⊕((Int×(List Jd))⊕((List Jd)⊕(List Jd))))))) (
   (ixO [(Jd.mk x169.From r170.1.From x169.Grade x169.Speed),(Jd.mk r170.1.From r170.1.To r170.1.Grade (min r170.1.Speed a3)),(Jd.mk r170.1.To x169.To x169.Grade x169.Speed)] x178).bind fun x188 =>
   bif decide (x188.From<x188.To) then (
    (Uq x177 [x188]).bind fun x189 =>
    some (.inl x189)
   ) else (
    some (.inl x177)
   )
  ) fun x187 =>
  some (.inl (x187,w64 (x178+1)))
 ) else (
  some (.inr (.inl x177))
 )
def Gh (a0:(List Jd)) (a1:Int) (a2:Int) (a3:Int):(Int×(List Jd))->Option ((Int×(List Jd))⊕((List Jd)⊕(List Jd))):=fun (x101,x102) =>
 bif decide (x101<((a0.length:Nat):Int)) then (
  onInl (α:=(List Jd)) (β:=((Int×(List Jd))⊕((List Jd)⊕(List Jd)))) (
   (ixO a0 x101).bind fun x169 =>
   (Ya (Dc.mk a1 a2) x169).bind fun r170 =>
   bif (!r170.2) then (
    (Uq x102 [x169]).bind fun x171 =>
    some (.inl x171)
   ) else (
    onInl (Js (Pd a3 x169 r170) (x102,0)) fun x184 =>
    some (.inl x184)
   )
  ) fun x168 =>
  some (.inl (w64 (x101+1),x168))
 ) else (
  some (.inr (.inl x102))
 )
def Zg (a0:(List Jd)) (a1:Int) (a2:Int) (a3:Int):Option (List Jd) :=
 (Vj a0).bind fun r1 =>
 bif ((!r1)||(decide (a3<1))) then (
  some ([]:(List Jd))
 ) else (
  onInl (Js (Gh a0 a1 a2 a3) (0,[])) fun x146 =>
  bif decide (128<((x146.length:Nat):Int)) then (
   some ([]:(List Jd))
  ) else (
   some x146
  )
 )
instance Jxh (a0:(List Jd)) (a1:Int) (a2:Int) (a3:Int):Ct Tryz.prog GlS (Zg a0 a1 a2 a3) 273 [Enc.pv a0,Enc.pv a1,Enc.pv a2,Enc.pv a3] Enc.pv:=⟨fun r h=>by
 unfold Zg at h;refine zC Tryz.func273 Tryz.ntmps273 ?_;refine w1 a0 (.e (.p 1 (.o 2 3 24 0 (.e (.c (.e .z) (.e (.l 1 (.e .S)))))))) ?_;intro _ h;refine Jo (Kq (Zh 9 100009 4 32 kr kr ?_));refine yM 82 0 [27] (fun (x101,x102)=>⟨[(1,I6 a1),(2,I6 a2),(3,I6 a3),(9,Jh (.own 100009) x102),(25,Jh .frozen a0),(26,I6 ((a0.length:Nat):Int)),(27,I6 x101)],[],[(100009,(((x102).map cellsOf).length,4))],[]⟩) h ?_ ?_
 ·rintro ⟨x101,x102⟩ _ h;unfold Gh at h;refine w1 n0 (.e (.c .s .z)) ?_;intro h;refine yJ 82 (fun x168=>⟨[(1,I6 a1),(2,I6 a2),(3,I6 a3),(9,Jh (.own 100009) x168),(25,Jh .frozen a0),(26,I6 ((a0.length:Nat):Int)),(27,I6 x101)],[],[(100009,(((x168).map cellsOf).length,4))],[]⟩) h ?_ ?_
  ·intro _ h;refine w1 n0 (.i 0 (.e (.p 4 (.e (.e (.c (.w 3 (.e .z)) .S)))))) ?_;intro x169 r170 h;refine Ve (Jo (Kj ?_));refine Jje 82 ⟨[(1,I6 a1),(2,I6 a2),(3,I6 a3),(9,Jh (.own 100009) x102),(12,.ref 12 0),(14,.ref 14 0),(15,.ref 15 0),(25,Jh .frozen a0),(26,I6 ((a0.length:Nat):Int)),(27,I6 x101)],[(12,.cells (cellsOf r170.1)),(14,.cells (cellsOf x169)),(15,.cells (cellsOf x169))],[(100009,(((x102).map cellsOf).length,4))],[]⟩ kr ?_ ?_
   ·refine Yu [0] 5 kr (zR 1 (Ke kr ?_));refine Mc (n:=4) [1,2,3] kr ⟨?_, ?_, ?_,trivial⟩
    ·exact ⟨_,rfl,(zR 1 (Ke kr (Yu [2,3,4,5] 0 kr (zR 4 (Ke kr (Yx kr (.of kr kr)))))))⟩
    ·refine ⟨_,rfl,(zR 1 (Ke kr ?_))⟩;refine Mc (n:=3) [1,3] kr ⟨?_, ?_,trivial⟩
     ·exact ⟨_,rfl,(zR 1 (Ke kr (Yu [3,4,5] 0 kr (zR 3 (Ke kr (Yx kr (.of kr kr)))))))⟩
     refine ⟨_,rfl,(zR 1 (Ke kr ?_))⟩;refine Mc (n:=2) [1,4] kr ⟨?_, ?_,trivial⟩
     ·exact ⟨_,rfl,(zR 1 (Ke kr (Yu [4,5] 0 kr (zR 2 (Ke kr (Yx kr (.of kr kr)))))))⟩
     exact ⟨_,rfl,(zR 1 (Ke kr (Yu [1,5] 0 kr (zR 2 (Ke kr (Yx kr (.of kr kr)))))))⟩
    refine ⟨_,rfl,(zR 1 (Ke kr ?_))⟩;refine Mc (n:=3) [1,2] kr ⟨?_, ?_,trivial⟩
    ·exact ⟨_,rfl,(zR 1 (Ke kr (Yu [2,4,5] 0 kr (zR 3 (Ke kr (Yx kr (.of kr kr)))))))⟩
    refine ⟨_,rfl,(zR 1 (Ke kr ?_))⟩;refine Mc (n:=2) [1,4] kr ⟨?_, ?_,trivial⟩
    ·exact ⟨_,rfl,(zR 1 (Ke kr (Yu [4,5] 0 kr (zR 2 (Ke kr (Yx kr (.of kr kr)))))))⟩
    exact ⟨_,rfl,(zR 1 (Ke kr (Yu [1,5] 0 kr (zR 2 (Ke kr (Yx kr (.of kr kr)))))))⟩
   refine Jo (Kj ?_);refine Jje 82 ⟨[(1,I6 a1),(2,I6 a2),(3,I6 a3),(9,Jh (.own 100009) x102),(12,.ref 12 0),(14,.ref 14 0),(15,.ref 15 0),(25,Jh .frozen a0),(26,I6 ((a0.length:Nat):Int)),(27,I6 x101)],[(12,.cells (cellsOf r170.1)),(14,.cells ([I6 x169.From,I6 r170.1.From,I6 x169.Grade,I6 x169.Speed])),(15,.cells ([I6 r170.1.To,I6 x169.To,I6 x169.Grade,I6 x169.Speed]))],[(100009,(((x102).map cellsOf).length,4))],[]⟩ kr ?_ ?_
   ·refine Yu [0,1,2,4] 4 kr (zR 4 (Ke kr ?_));refine Mc (n:=3) [3,5] kr ⟨?_, ?_,trivial⟩
    ·exact ⟨_,rfl,(zR 1 (Ke kr (Yu [5,6,7] 0 kr (zR 3 (Ke kr (Yx kr (.of kr kr)))))))⟩
    exact ⟨_,rfl,(zR 1 (Ke kr (Yu [3,6,7] 0 kr (zR 3 (Ke kr (Yx kr (.of kr kr)))))))⟩
   refine w1 (([(Jd.mk x169.From r170.1.From x169.Grade x169.Speed),(Jd.mk r170.1.From r170.1.To r170.1.Grade (min r170.1.Speed a3)),(Jd.mk r170.1.To x169.To x169.Grade x169.Speed)]:(List Jd))) (.e (.l 4 (.e .s))) ?_;intro h;refine yL 82 2 (fun (x177,x178)=>⟨[(1,I6 a1),(2,I6 a2),(3,I6 a3),(9,Jh (.own 100009) x177),(25,Jh .frozen a0),(26,I6 ((a0.length:Nat):Int)),(27,I6 x101),(61,Jh .full ([(Jd.mk x169.From r170.1.From x169.Grade x169.Speed),(Jd.mk r170.1.From r170.1.To r170.1.Grade (min r170.1.Speed a3)),(Jd.mk r170.1.To x169.To x169.Grade x169.Speed)]:(List Jd))),(62,I6 (([(Jd.mk x169.From r170.1.From x169.Grade x169.Speed),(Jd.mk r170.1.From r170.1.To r170.1.Grade (min r170.1.Speed a3)),(Jd.mk r170.1.To x169.To x169.Grade x169.Speed)].length:Nat):Int)),(63,I6 x178)],[],[(100009,(((x177).map cellsOf).length,4))],[]⟩) (fun x184=>⟨[(1,I6 a1),(2,I6 a2),(3,I6 a3),(9,Jh (.own 100009) x184),(25,Jh .frozen a0),(26,I6 ((a0.length:Nat):Int)),(27,I6 x101)],[],[(100009,(((x184).map cellsOf).length,4))],[]⟩) h ?_ ?_
   ·rintro ⟨x177,x178⟩ _ h;unfold Pd at h;refine w1 n0 (.e (.c .s .z)) ?_;intro h;refine yJ 82 (fun x187=>⟨[(1,I6 a1),(2,I6 a2),(3,I6 a3),(9,Jh (.own 100009) x187),(25,Jh .frozen a0),(26,I6 ((a0.length:Nat):Int)),(27,I6 x101),(61,Jh .full ([(Jd.mk x169.From r170.1.From x169.Grade x169.Speed),(Jd.mk r170.1.From r170.1.To r170.1.Grade (min r170.1.Speed a3)),(Jd.mk r170.1.To x169.To x169.Grade x169.Speed)]:(List Jd))),(62,I6 (([(Jd.mk x169.From r170.1.From x169.Grade x169.Speed),(Jd.mk r170.1.From r170.1.To r170.1.Grade (min r170.1.Speed a3)),(Jd.mk r170.1.To x169.To x169.Grade x169.Speed)].length:Nat):Int)),(63,I6 x178)],[],[(100009,(((x187).map cellsOf).length,4))],[]⟩) h ?_ ?_
    ·intro _ h;exact w1 n0 (.i 0 (.e (.e (.c (.w 3 (.e .z)) .z)))) t0
    intro x187 h;exact w1 n0 (.e .z) t0
   intro x184 s' h hs;exact Ui (Je7 (vJw h hs kr kr))
  intro x168 h;exact w1 n0 (.e .z) t0
 intro x146 s' h hs;exact w1 x146 (.l 1 (.e (.c (.e .z) (.e .z)))) t0⟩
def Yz (a0:Ja) (a1:(List Jb)) (a4:Jk):((List Jd)×Int×Int)->Option (((List Jd)×Int×Int)⊕((List Jd)⊕(Option (List Jd)))):=fun (x31,x32,x33) =>
 bif decide (x33<((a1.length:Nat):Int)) then (
  onInl (α:=((List Jd)×Int)) (β:=(((List Jd)×Int×Int)⊕((List Jd)⊕(Option (List Jd))))) (
   (ixO a1 x33).bind fun x81 =>
   ((bif decide (x81.El<0) then some true else (
    some (decide (((a0.Elements.length:Nat):Int)<=x81.El))
   )):Option Bool).bind fun b82 =>
   bif b82 then (
    some (.inl (x31,x32))
   ) else (
    (ixO a0.Elements x81.El).bind fun x83 =>
    onInl (α:=(List Jd)) (β:=(((List Jd)×Int)⊕(((List Jd)×Int×Int)⊕((List Jd)⊕(Option (List Jd)))))) (
     bif decide (x81.El=a4.El) then (
      onInl (α:=(Int×Int)) (β:=((List Jd)⊕(((List Jd)×Int)⊕(((List Jd)×Int×Int)⊕((List Jd)⊕(Option (List Jd))))))) (
       bif ((decide (x81.In=0))||((decide (x81.In=2))&&(decide (x83.Kind=3)))) then (
        some (.inl (w64 (x32+a4.From),w64 (x32+a4.To)))
       ) else (
        some (.inl (w64 ((w64 (x32+x83.Length)) - a4.To),w64 ((w64 (x32+x83.Length)) - a4.From)))
       )
      ) fun (x90,x91) =>
      (Zg x31 x90 x91 a4.Speed).bind fun r92 =>
      onInl (α:=Unit) (β:=((List Jd)⊕(((List Jd)×Int)⊕(((List Jd)×Int×Int)⊕((List Jd)⊕(Option (List Jd))))))) (
       ((bif decide (((r92.length:Nat):Int)=0) then (
        some (decide (0<((x31.length:Nat):Int)))
       ) else some false):Option Bool).bind fun b94 =>
       bif b94 then (
        some (.inr (.inr (.inr (.inr (.inr none)))))
       ) else (
        some (.inl ())
       )
      ) fun _ =>
      some (.inl r92)
     ) else (
      some (.inl x31)
     )
    ) fun x89 =>
    some (.inl (x89,w64 (x32+x83.Length)))
   )
  ) fun (x79,x80) =>
  some (.inl (x79,x80,w64 (x33+1)))
 ) else (
  some (.inr (.inl x31))
 )
def Yi (a0:Ja) (a1:(List Jb)) (a2:Int) (a3:(List Jd)) (a4:Jk):Option (Option (List Jd)) :=
 onInl (Js (Yz a0 a1 a4) (a3,a2,0)) fun x64 =>
 some (some x64)
theorem Iu (a0:Ja) (a1:(List Jb)) (a2:Int) (a3:(List Jd)) (a4:Jk) (r:(Option (List Jd))) (h:Yi a0 a1 a2 a3 a4=some r):Jlw Tryz.prog GlS 240 [Enc.pv a0,Enc.pv a1,Enc.pv a2,Enc.pv a3,Enc.pv a4] (r.map fun r=>Enc.pv r):=by
 unfold Yi at h;refine Joi Tryz.func240 (by rfl) rfl Tryz.ntmps240 (by rfl) rfl ?_;refine w1 a1 (.e (.e (.l 1 (.e .s)))) ?_;intro h;refine yL 101 0 (fun (x31,x32,x33)=>⟨[(3,Jh .frozen x31),(5,.ref 5 0),(9,.ref 9 0),(11,I6 x32),(20,Jh .frozen a1),(21,I6 ((a1.length:Nat):Int)),(22,I6 x33)],[(5,.cells (cellsOf a0)),(9,.cells (cellsOf a4))],[],[]⟩) (fun x64=>⟨[(3,Jh .frozen x64)],[],[],[]⟩) h ?_ ?_
 ·rintro ⟨x31,x32,x33⟩ _ h;unfold Yz at h;refine w1 n0 (.e (.c .s .z)) ?_;intro h;refine yJ 101 (fun (x79,x80)=>⟨[(3,Jh .frozen x79),(5,.ref 5 0),(9,.ref 9 0),(11,I6 x80),(20,Jh .frozen a1),(21,I6 ((a1.length:Nat):Int)),(22,I6 x33)],[(5,.cells (cellsOf a0)),(9,.cells (cellsOf a4))],[],[]⟩) h ?_ ?_
  ·intro _ h;refine w1 a0.Elements (.i 0 (.e (.b 4 7 36 (.g 0 .z (.l 4 .z)) (.e (.c .z (.i 4 (.e (.e .S)))))))) ?_;intro _ _ x83 h;refine Jo ?_;refine yJ 101 (fun x89=>⟨[(3,Jh .frozen x89),(5,.ref 5 0),(9,.ref 9 0),(15,I6 (w64 (x32+x83.Length))),(20,Jh .frozen a1),(21,I6 ((a1.length:Nat):Int)),(22,I6 x33)],[(5,.cells (cellsOf a0)),(9,.cells (cellsOf a4))],[],[]⟩) h ?_ ?_
   ·intro _ h;refine w1 n0 (.e (.c (.e .S) .z)) ?_;intro h;refine Jo ?_;refine yJ 101 (fun (x90,x91)=>⟨[(3,Jh .frozen x31),(5,.ref 5 0),(9,.ref 9 0),(15,I6 (w64 (x32+x83.Length))),(16,I6 x90),(17,I6 x91),(20,Jh .frozen a1),(21,I6 ((a1.length:Nat):Int)),(22,I6 x33)],[(5,.cells (cellsOf a0)),(9,.cells (cellsOf a4))],[],[]⟩) h ?_ ?_
    ·intro _ h;exact w1 n0 (.o 4 9 72 0 (.e (.c (.e .z) .z))) t0
    rintro ⟨x90,x91⟩ h;refine w1 n0 (.p 5 (.e .S)) ?_;intro r92 h;refine Jo ?_;refine yJ 101 (fun (_:Unit)=>⟨[(5,.ref 5 0),(9,.ref 9 0),(15,I6 (w64 (x32+x83.Length))),(18,Jh .frozen r92),(20,Jh .frozen a1),(21,I6 ((a1.length:Nat):Int)),(22,I6 x33)],[(5,.cells (cellsOf a0)),(9,.cells (cellsOf a4))],[],[]⟩) h ?_ ?_
    ·intro _ h;refine w6 r92 (.l 1 (.b 2 4 94 (.g 0 .s .z) (.e (.c .S .z)))) ?_ ?_ t0 t0 t0 t0
     ·intro _ h;exact yl 1 x31 (w1 n0 .z t0)
     intro _ h;refine Jd0 (Rm 0 1 (w1 n0 (.e .S) ?_));intro h;refine Klq (d:=96) kr fun ch hpan=>?_;refine vJp h ?_;clear h;intro h;refine vJp h ?_;clear h;intro h;refine Jau (vJp h ?_);clear h;intro h;refine vLp h ?_;clear h;intro h;refine Jau (Ji9 ?_);cases h;exact Klf hpan
    intro _ h;exact w1 n0 (.e .z) t0
   intro x89 h;exact w1 n0 (.e .z) t0
  rintro ⟨x79,x80⟩ h;exact w1 n0 (.e .z) t0
 intro x64 s' h hs;refine w1 n0 (.e .s) ?_;intro h;cases h;exact ⟨_,rfl,Jzp kr kr kr⟩
def Bp (a0:(List Jk)) (a1:(List Jb)) (a2:Int) (a3:Ja):(Int×(List Jd))->Option ((Int×(List Jd))⊕((List Jd)⊕(List Jd))):=fun (x24,x25) =>
 bif decide (x24<((a0.length:Nat):Int)) then (
  onInl (α:=(List Jd)) (β:=((Int×(List Jd))⊕((List Jd)⊕(List Jd)))) (
   (ixO a0 x24).bind fun x41 =>
   ((bif x41.Active then (
    (Zi a3 x41).bind fun r43 =>
    some (decide (r43=0))
   ) else some false):Option Bool).bind fun b42 =>
   bif b42 then (
    Ki9 (Yi a3 a1 a2 x25 x41) (
     some (.inr (.inr (.inr ([]:(List Jd)))))
    ) fun r44 =>
    some (.inl r44)
   ) else (
    some (.inl x25)
   )
  ) fun x40 =>
  some (.inl (w64 (x24+1),x40))
 ) else (
  some (.inr (.inl x25))
 )
def Yd (a0:(List Jk)) (a1:(List Jb)) (a2:Int) (a3:Ja) (a4:(List Jd)):Option (List Jd) :=
 (Wz a4).bind fun r1 =>
 (Vj a4).bind fun r2 =>
 ((bif (!r2) then some true else (
  (Cg a3 a1).bind fun r4 =>
  some (!r4)
 )):Option Bool).bind fun b3 =>
 bif ((b3||(decide (a2<(-1073741824))))||(decide (1073741824<a2))) then (
  some r1
 ) else (
  onInl (Js (Bp a0 a1 a2 a3) (0,r1)) fun x35 =>
  some x35
 )
set_option maxRecDepth 100000 in
instance Jqo (a0:(List Jk)) (a1:(List Jb)) (a2:Int) (a3:Ja) (a4:(List Jd)):Ct Tryz.prog GlS (Yd a0 a1 a2 a3 a4) 176 [Enc.pv a0,Enc.pv a1,Enc.pv a2,Enc.pv a3,Enc.pv a4] Enc.pv:=⟨fun r h=>by
 unfold Yd at h;refine Jor Tryz.func176 (by rfl) rfl Tryz.ntmps176 (by rfl) rfl ?_;refine Jhj (Wj (w1 n0 (.e .S) ?_));intro h;refine Jlh ?_;refine Jgj 1 237 [.ref 10 0] (by rfl) ?_;refine w1 n0 (.e .S) ?_;intro h;refine ⟨by kernel_rfl,by kernel_rfl,by kernel_rfl, ?_⟩;refine w6 a0 (.p 1 (.e (.p 1 (.b 2 5 24 (.g 0 .z (.p 2 .z)) (.o 1 3 28 1 (.o 1 3 32 0 (.e (.c (.e .S) (.l 1 (.e .s)))))))))) ?_ ?_ t0 t0 t0 t0
 ·intro r1 _ _ h;refine Jo (Wf (Za ?_));refine Kf2 (Jqs (pan:=false) (caps:=[.ref 10 0]) kr Tryz.func237 (by rfl) rfl Tryz.ntmps237 (by rfl) ?_);refine Jn0 ((Jcg 1 kr).trans (.of (j:=⟨[(0,.ref 1010 0),(13,.ref 1010 0),(59,.fn 237 [.ref 1010 0])],[(1010,.cells ([Jh (.own 1015007) r1]))],[(1015007,(((r1).map cellsOf).length,4))],[]⟩) (n:=5700060) kr kr)) ?_;refine Jh6 ⟨rfl,rfl,rfl,rfl,fun _ _=>rfl,(fun a _ _ _ h=>by simp [Act.eval] at h; simp [go_sem,h]),(fun a _ h=>by simp [Act.eval] at h; simp [go_sem,h])⟩ kr ?_;refine Xa (b:=false) rfl kr (Ve ?_);cases h;exact Jgi kr kr kr
 intro _ _ _ h;refine yM 100057 0 [36] (fun (x24,x25)=>⟨[(1,Jh .frozen a1),(2,I6 a2),(8,.ref 8 0),(10,.ref 10 0),(34,Jh .frozen a0),(35,I6 ((a0.length:Nat):Int)),(36,I6 x24),(56,.fn 237 [.ref 10 0])],[(8,.cells (cellsOf a3)),(10,.cells ([Jh .frozen x25]))],[],[]⟩) h ?_ ?_
 ·rintro ⟨x24,x25⟩ _ h;unfold Bp at h;refine w1 n0 (.e (.c .s .z)) ?_;intro h;refine yJ 100057 (fun x40=>⟨[(1,Jh .frozen a1),(2,I6 a2),(8,.ref 8 0),(10,.ref 10 0),(34,Jh .frozen a0),(35,I6 ((a0.length:Nat):Int)),(36,I6 x24),(56,.fn 237 [.ref 10 0])],[(8,.cells (cellsOf a3)),(10,.cells ([Jh .frozen x40]))],[],[]⟩) h ?_ ?_
  ·intro _ h;refine w1 n0 (.i 0 (.e (.b 3 5 47 (.g 0 (.p 2 .z) .z) (.e (.c .S .z))))) ?_;intro _ _ h;refine Jd0 (Rm 0 5 (w1 n0 (.e .S) ?_));intro h;rcases Kmv h with ⟨h56,h⟩|⟨r44,h56,h⟩
   ·refine Kjg (Iu _ _ _ _ _ none h56) kr fun ch hpan=>?_;refine Jau (vJp h ?_);clear h;intro h;refine vLp h ?_;clear h;intro h;refine Jau (Ji9 ?_);refine Kks hpan (Jqs (pan:=true) (caps:=[.ref 10 0]) kr Tryz.func237 (by rfl) rfl Tryz.ntmps237 (by rfl) ?_);refine Jn0 ((Jcg 17 kr).trans (.of (j:=⟨[(0,.ref 17010 0),(13,.ref 17010 0),(59,.fn 237 [.ref 17010 0])],[(17010,.cells ([Jh .frozen x25]))],[],[]⟩) (n:=5700060) kr kr)) ?_;refine Jh6 ⟨rfl,rfl,rfl,rfl,fun _ _=>rfl,(fun a _ _ _ h=>by simp [Act.eval] at h; simp [go_sem,h]),(fun a _ h=>by simp [Act.eval] at h; simp [go_sem,h])⟩ kr ?_;refine Xh (b:=true) rfl kr (w1 n0 (.e .s) ?_);intro h;cases h;exact Jgi kr kr kr
   refine Khp (Iu _ _ _ _ _ (some r44) h56) kr kr (Rm 6 1 (w1 n0 (.e .S) ?_));intro h;exact Jz3 (Je7 (w1 n0 .z t0))
  intro x40 h;exact w1 n0 (.e .z) t0
 intro x35 s' h hs;refine w1 n0 (.e .S) ?_;intro h;refine Jo (Wf ?_);refine Kf2 (Jqs (pan:=false) (caps:=[.ref 10 0]) kr Tryz.func237 (by rfl) rfl Tryz.ntmps237 (by rfl) ?_);refine Jn0 ((Jcg 19 kr).trans (.of (j:=⟨[(0,.ref 19010 0),(13,.ref 19010 0),(59,.fn 237 [.ref 19010 0])],[(19010,.cells ([Jh .frozen x35]))],[],[]⟩) (n:=5700060) kr kr)) ?_;refine Jh6 ⟨rfl,rfl,rfl,rfl,fun _ _=>rfl,(fun a _ _ _ h=>by simp [Act.eval] at h; simp [go_sem,h]),(fun a _ h=>by simp [Act.eval] at h; simp [go_sem,h])⟩ kr ?_;refine Xa (b:=false) rfl kr (Ve ?_);cases h;exact Jgi kr kr kr⟩
end
end PM
