/-
 Plain functions for the program's functions, and the proofs that the program does them. Printed by den.py.
-/
import Derived.Test.YtfpoeepcomnjhaaGreatDoorDen5
namespace PM
noncomputable section
open Go Go.RowKit Go.Proofs Go.Proofs.Tryz
attribute [local irreducible] Ju pwp
def Nl(a0:Jk)(a1:Jo)(a2:Int):Option (Jk×Jo) :=
 onInl (α:=Int) (β:=(Jk×Jo)) (
  bif decide (a0.Out<1073741824) then (
   some (.inl (w64 (a0.Out+1)))
  ) else (
   some (.inl a0.Out)
  )
 ) fun x1=>
 (Zc a1.Auth.Profile).bind fun r2=>
 (Zi a1.Auth.Links).bind fun r3=>
 some ((Jk.mk a0.Peer x1 a0.In a0.Heard),(Jo.mk a1.Kind a1.From a0.Peer x1 a2 (Jz.mk a1.Auth.Seq a1.Auth.End r2 r3) a1.Report))
instance (a0:Jk)(a1:Jo)(a2:Int):Cp (Nl a0 a1 a2) 45 [Enc.pv a0,Enc.pv a1,Enc.pv a2] (fun r=>.tup [Enc.pv r.1,Enc.pv r.2]):=⟨fun r h=>by
 unfold Nl at h;refine zG f45 ?_;refine w1 n0 S1 ?_;intro h;refine Jm ?_;refine uJ 37 (fun s x1=>⟨gt s [2,3,4,6,7],(3,.cells ([I6 a0.Peer,I6 x1,I6 a0.In,I6 a0.Heard]))::gh s [4,6,7],[],[]⟩) h ?_ ?_
 ·intro _ h;exact w1 n0 (ec z1 .z) t0
 intro x1 h;refine Kb ?_;refine Jjg 37 ⟨[(3,.ref 3 0),(4,.ref 4 0),(6,.ref 6 0),(7,.ref 7 0)],[(3,.cells ([I6 a0.Peer,I6 x1,I6 a0.In,I6 a0.Heard])),(4,.cells ([I6 a1.Kind,I6 a1.From,I6 a0.Peer,I6 x1,I6 a2,I6 a1.Auth.Seq,I6 a1.Auth.End,Jg .frozen a1.Auth.Profile,Jg .frozen a1.Auth.Links,I6 a1.Report.Min,I6 a1.Report.Speed,I6 a1.Report.Mode,I6 a1.Report.Accepted,.bool a1.Report.Whole])),(6,.cells ([I6 0,I6 0,I6 0,I6 0])),(7,.cells ([I6 0,I6 0,I6 0,I6 0,I6 0,I6 0,I6 0,.nil,.nil,I6 0,I6 0,I6 0,I6 0,.bool false]))],[],[]⟩ kr ?_ ?_
 ·refine Yp [0,1,2,4,5] 6 kr (zR 5 (Kf kr ?_));refine Lu (n:=5) [3,6] kr ⟨?_, ?_,trivial⟩
  ·exact ⟨_,rfl,(zR 1 (Kf kr (Yp [6,7,8,9,10] 0 kr (zR 5 (Kf kr (Za kr (.of kr kr)))))))⟩
  exact ⟨_,rfl,(zR 1 (Kf kr (Yp [3,7,8,9,10] 0 kr (zR 5 (Kf kr (Za kr (.of kr kr)))))))⟩
 refine w1 n0 (.p 3 (ep 3 S1)) ?_;intro r2 r3 h;refine Jm (Kb ?_);refine Jzv 37 ⟨[(6,.ref 6 0),(7,.ref 7 0)],[(6,.cells ([I6 a0.Peer,I6 x1,I6 a0.In,I6 a0.Heard])),(7,.cells ([I6 a1.Kind,I6 a1.From,I6 a0.Peer,I6 x1,I6 a2,I6 a1.Auth.Seq,I6 a1.Auth.End,Jg .frozen r2,Jg .frozen r3,I6 a1.Report.Min,I6 a1.Report.Speed,I6 a1.Report.Mode,I6 a1.Report.Accepted,.bool a1.Report.Whole]))],[],[]⟩ kr ?_ ?_
 ·refine Ur [0,1] kr ⟨?_, ?_,trivial⟩
  ·refine ⟨_,rfl,(zR 1 (Ej ?_))⟩;refine Ur [1,2] kr ⟨?_, ?_,trivial⟩
   ·refine ⟨_,rfl,(zR 1 (Ej ?_))⟩;refine Ur [2] kr ⟨?_,trivial⟩;refine ⟨_,rfl,(zR 1 (Ej ?_))⟩;refine Ur [3] kr ⟨?_,trivial⟩;exact ⟨_,rfl,(zR 1 (Ej (Xc kr (.of kr kr))))⟩
   refine ⟨_,rfl,(zR 1 (Ej ?_))⟩;refine Ur [1] kr ⟨?_,trivial⟩;refine ⟨_,rfl,(zR 1 (Ej ?_))⟩;refine Ur [3] kr ⟨?_,trivial⟩;exact ⟨_,rfl,(zR 1 (Ej (Xc kr (.of kr kr))))⟩
  refine ⟨_,rfl,(zR 1 (Ej ?_))⟩;refine Ur [0] kr ⟨?_,trivial⟩;refine ⟨_,rfl,(zR 1 (Ej ?_))⟩;refine Ur [2] kr ⟨?_,trivial⟩;refine ⟨_,rfl,(zR 1 (Ej ?_))⟩;refine Ur [3] kr ⟨?_,trivial⟩;exact ⟨_,rfl,(zR 1 (Ej (Xc kr (.of kr kr))))⟩
 exact w1 n0 .z t0⟩
def Qf(a0:(List Jk)):Option (List Jk) :=
 (Qd ([]:(List Jk)) a0).bind fun x1=>
 some x1
theorem Yf(a0:(List Jk))(r:(List Jk))(h:Qf a0=some r):Jm4 prog GlS 92 [Enc.pv a0] 4 32 (r.map cellsOf):=by
 unfold Qf at h;refine Jbn func92 (by rfl) rfl ntmps92 (by rfl) rfl ?_;refine w1 n0 S2 ?_;intro h;refine Jm ?_;refine Tw (e:=(a0.map cellsOf).isEmpty) kr (fun hub=>?_) ?_
 ·have hN:=Xb (Ji7 hub) h;refine w1 n0 S1 ?_;intro h;refine Jm (Kw (Jio 2 100002 4 32 kr kr) (Vw (Yw ?_)));have hq:=cN hN;subst hq;exact Jn4 100002 (((([]:(List Jk)):(List Jk)).map cellsOf).length) kr
 obtain ⟨x1,h1,h⟩:=Qp h;refine Qv (Jm (Kb (Vn (zR 2 (Jlc (tk:=7) (x:=.lst .full 4 32 []) h1 (.inr ⟨_,_,rfl⟩) kr kr (w1 n0 S1 ?_))))));intro h;refine Jm (Vw ?_);have hq:=cN h;subst hq;exact Jn4 7 ((x1.map cellsOf).length) kr
def Jgj(a4:Jj)(x33:(List Jd)):(Int×(List Jd))->Option ((Int×(List Jd))⊕((List Jd)⊕((List Jd)×Nat×(List Jk)))):=fun (x42,x43)=>
 bif decide (x42<((a4.Tracks.length:Nat):Int)) then (
  (ixO a4.Tracks x42).bind fun x53=>
  (Kl x53.Steps).bind fun r54=>
  (Jt x53.Routes).bind fun r55=>
  (Jt x53.Starts).bind fun r56=>
  (Jt x53.Ends).bind fun r57=>
  (Jt x53.Done).bind fun r58=>
  (Vz 0 (((x33:(List Jd)).map cellsOf).length) x42).bind fun j59=>
  (Uy x43 (((x33:(List Jd)).map cellsOf).length) j59).bind fun x60=>
  some (.inl (w64 (x42+1),(x43.set j59 (Jd.mk x53.Id x53.Origin x53.End x53.At r54 r55 r56 r57 r58 x53.Min x53.Sent x53.Accepted x53.Cut x53.CutSeq))))
 ) else (
  some (.inr (.inl x43))
 )
def Jge(a0:Ja)(a1:Jw)(a2:Ko)(x31:Nat)(x264:Int):(List Jd)->Option ((List Jd)⊕((List Jd)⊕(List Jd))):=fun x430=>
 (Vz 0 x31 x264).bind fun j445=>
 (Uy x430 x31 j445).bind fun x446=>
 ((bif decide (x446.CutSeq=0) then (
  (Vz 0 x31 x264).bind fun j448=>
  (Uy x430 x31 j448).bind fun x449=>
  some (!(decide (x449.End=(-1))))
 ) else some false)).bind fun b447=>
 bif b447 then (
  (Vz 0 x31 x264).bind fun j450=>
  (Uy x430 x31 j450).bind fun x451=>
  (Jel a1 a2 x430 x451.End).bind fun r452=>
  bif decide (r452<0) then (
   some (.inr (.inr x430))
  ) else (
   (Vz 0 x31 x264).bind fun j453=>
   (Uy x430 x31 j453).bind fun x454=>
   (Ta a0 a1 x454 r452).bind fun r455=>
   bif (!(decide (r455.2=0))) then (
    some (.inr (.inr x430))
   ) else (
    (Vz 0 x31 x264).bind fun j456=>
    (Uy x430 x31 j456).bind fun x457=>
    some (.inl (x430.set j456 r455.1))
   )
  )
 ) else (
  some (.inr (.inl x430))
 )
def Jgf(a0:Ja)(a1:Jw)(a2:Ko)(a3:(List Jy))(a5:Int)(x31:Nat)(x32:(List Jk)):(Int×(List Jd)×(List Jk)×(List Jo))->Option ((Int×(List Jd)×(List Jk)×(List Jo))⊕(((List Jd)×(List Jk)×(List Jo))⊕(Jj×(List Jo)))):=fun (x264,x265,x266,x267)=>
 bif decide (x264<((x31:Nat):Int)) then (
  (Vz 0 x31 x264).bind fun j370=>
  (Uy x265 x31 j370).bind fun x371=>
  (Sp x371 a2).bind fun r372=>
  (Vz 0 x31 x264).bind fun j373=>
  (Uy x265 x31 j373).bind fun x374=>
  Option.bind (α:=(List Jd)) (
   onInl (Jq (Jge a0 a1 a2 x31 x264) (x265.set j373 r372)) fun x444=>
   some x444
  ) fun x416=>
  (Vz 0 x31 x264).bind fun j458=>
  (Uy x416 x31 j458).bind fun x459=>
  (Jes a0 a3 x459).bind fun r460=>
  (Vz 0 x31 x264).bind fun j461=>
  (Uy x416 x31 j461).bind fun x462=>
  (Vz 0 (((x32:(List Jk)).map cellsOf).length) x264).bind fun j463=>
  (Uy x266 (((x32:(List Jk)).map cellsOf).length) j463).bind fun x464=>
  (Nl x464 r460.2 a5).bind fun r465=>
  (Vz 0 (((x32:(List Jk)).map cellsOf).length) x264).bind fun j466=>
  (Uy x266 (((x32:(List Jk)).map cellsOf).length) j466).bind fun x467=>
  (Qd x267 [r465.2]).bind fun x468=>
  some (.inl (w64 (x264+1),(x416.set j461 r460.1),(x266.set j466 r465.1),x468))
 ) else (
  some (.inr (.inl (x265,x266,x267)))
 )
def Ja9(a0:Ja)(a1:Jw)(a2:Ko)(a3:(List Jy))(a4:Jj)(a5:Int):Option (Jj×(List Jo)) :=
 Option.bind (α:=((List Jd)×Nat×(List Jk))) (
  (Jtv ((a4.Tracks.length:Nat):Int) ((a4.Tracks.length:Nat):Int) 192 ((Jd.mk 0 0 0 0 [] [] [] [] [] 0 0 0 0 0):Jd)).bind fun x33=>
  onInl (Jq (Jgj a4 x33) (0,x33)) fun x52=>
  (Qf a4.Sessions).bind fun r61=>
  some (x52,((x33:(List Jd)).map cellsOf).length,r61)
 ) fun (x30,x31,x32)=>
 (Vt (Jj.mk x30 x32)).bind fun r62=>
 bif (!r62) then (
  some ((Jj.mk x30 x32),([]:(List Jo)))
 ) else (
  onInl (Jq (Jgf a0 a1 a2 a3 a5 x31 x32) (0,x30,x32,[])) fun (x367,x368,x369)=>
  some ((Jj.mk x367 x368),x369)
 )
set_option maxRecDepth 100000 in
instance (a0:Ja)(a1:Jw)(a2:Ko)(a3:(List Jy))(a4:Jj)(a5:Int):Cp (Ja9 a0 a1 a2 a3 a4 a5) 14 [Enc.pv a0,Enc.pv a1,Enc.pv a2,Enc.pv a3,Enc.pv a4,Enc.pv a5] (fun r=>.tup [Enc.pv r.1,Jg (.own 100014) r.2]):=⟨fun r h=>by
 unfold Ja9 at h;refine zG f14 ?_;refine w1 n0 S1 ?_;intro h;refine Jm (Kb (Jaj (Bx 0 1 (w1 n0 S1 ?_))));intro h;refine Vm 1 ⟨[(3,Jg .frozen a3),(5,I6 a5),(6,.ref 1006 0),(7,.ref 1007 0),(8,.ref 1008 0),(10,.ref 1010 0),(12,.ref 1012 0),(18,Enc.pv a4)],[(1006,.cells (cellsOf a0)),(1007,.cells (cellsOf a1)),(1008,.cells (cellsOf a2)),(1010,.cells (cellsOf a4)),(1012,.cells ([.nil,.nil]))],[],[]⟩ 86 kr kr kr ?_;obtain ⟨o29,h29,h⟩:=Qp h;refine Jfa (f:=40) (asx:=[Enc.pv a4]) kr func40 (by rfl) rfl ntmps40 (by rfl) ?_;refine Og o29 8600136 (fun (x30,x31,x32)=>⟨[(2,.ref 2 0),(53,Jg .frozen a3),(55,I6 a5),(56,.ref 1006 0),(57,.ref 1007 0),(58,.ref 1008 0),(60,.ref 1010 0),(62,.ref 1012 0)],[(2,.cells ([.ex 9 14 192 x31 0 x31,.ex 47 4 32 ((x32.map cellsOf).length) 0 ((x32.map cellsOf).length)])),(1006,.cells (cellsOf a0)),(1007,.cells (cellsOf a1)),(1008,.cells (cellsOf a2)),(1010,.cells (cellsOf a4)),(1012,.cells ([.nil,.nil]))],[(9,(x31,0)),(47,((x32.map cellsOf).length,0))],[(9,(14,(192,x30.map cellsOf))),(47,(4,(32,x32.map cellsOf)))]⟩) ?_ ?_
 ·have h:=h29;refine w1 a4.Tracks (el 2 .x) ?_;intro _ h30 h;refine Jv3 (z:=((Jd.mk 0 0 0 0 [] [] [] [] [] 0 0 0 0 0):Jd)) 9 h30 kr kr (w1 a4.Tracks (el 2 s1) ?_);intro h;refine uM 8600136 0 [13] (fun s (x42,x43)=>⟨(13,I6 x42)::gt s [1,2,3,11,12,53,55,56,57,58,60,62],gh s [1,2,1006,1007,1008,1010,1012],gT s [9],[(9,(14,(192,x43.map cellsOf)))]⟩) h ?_ ?_
  ·rintro ⟨x42,x43⟩ _ h;unfold Jgj at h;refine w1 n0 (ec (.i 1 (ep 2 (ep 2 (ep 2 (ep 2 (ep 2 (.e (.j 3 .x)))))))) .z) ?_;intro x53 r54 r55 r56 r57 r58 _ _ h56 h;exact yst 0 9 (Jd.mk x53.Id x53.Origin x53.End x53.At r54 r55 r56 r57 r58 x53.Min x53.Sent x53.Accepted x53.Cut x53.CutSeq) 0 14 h56 (w1 n0 z2 t0)
  intro x52 s' h hs;refine w1 n0 X1 ?_;intro r61 h57 h;refine zR 2 (Jh1 (α:=Jk) 47 (Yf _ r61 h57) kr kr (w1 n0 s2 ?_));intro h;cases h;exact Jkw kr kr
 obtain ⟨x30,x31,x32⟩:=o29;refine Jfe (r:=.agg [.ex 9 14 192 x31 0 x31,.ex 47 4 32 ((x32.map cellsOf).length) 0 ((x32.map cellsOf).length)]) kr (Vm 2 ⟨[(3,Jg .frozen a3),(5,I6 a5),(6,.ref 1006 0),(7,.ref 1007 0),(8,.ref 1008 0),(10,.ref 1010 0),(12,.ref 1012 0),(19,.agg [.ex 2000009 14 192 x31 0 x31,.ex 2000047 4 32 ((x32.map cellsOf).length) 0 ((x32.map cellsOf).length)])],[(1006,.cells (cellsOf a0)),(1007,.cells (cellsOf a1)),(1008,.cells (cellsOf a2)),(1010,.cells (cellsOf a4)),(1012,.cells ([.nil,.nil]))],[(2000009,(x31,0)),(2000047,((x32.map cellsOf).length,0))],[(2000009,(14,(192,x30.map cellsOf))),(2000047,(4,(32,x32.map cellsOf)))]⟩ 86 kr kr kr ?_);refine Vm 1 ⟨[(3,Jg .frozen a3),(5,I6 a5),(6,.ref 6 0),(7,.ref 7 0),(8,.ref 8 0),(10,.ref 10 0),(12,.ref 12 0),(19,.agg [.ex 2000009 14 192 x31 0 x31,.ex 2000047 4 32 ((x32.map cellsOf).length) 0 ((x32.map cellsOf).length)])],[(6,.cells (cellsOf a0)),(7,.cells (cellsOf a1)),(8,.cells (cellsOf a2)),(10,.cells (cellsOf a4)),(12,.cells ([.nil,.nil]))],[(2000009,(x31,0)),(2000047,((x32.map cellsOf).length,0))],[(2000009,(14,(192,x30.map cellsOf))),(2000047,(4,(32,x32.map cellsOf)))]⟩ 86 kr kr kr (Bx 2 1 (w1 n0 S1 ?_));intro h;refine Jac (Jm (Kb (Kb (Vn ?_))));obtain ⟨r62,h58,h⟩:=Qp h;refine zR 1 (Fq [2000009,2000047] ((Jho _).ok r62 h58) kr kr kr ?_);refine w6 n0 (ec S1 S2) ?_ ?_ t0 t0 t0 t0
 ·intro h;exact Jm (Kw (Zy (xss:=x30.map cellsOf) 2000009 14 192 x31 [] [(10,0),(12,0)] kr kr kr kr) (Kw (Zy (xss:=x32.map cellsOf) 2000047 4 32 ((x32.map cellsOf).length) [] [(10,1),(12,1)] kr kr kr kr) (Wh 13 100014 14 144 kr kr (w1 n0 .z t0))))
 intro h;refine Jm (Kk (Wh 14 100014 14 144 kr kr ?_));refine uM 86 0 [27] (fun s (x264,x265,x266,x267)=>⟨(14,Jg (.own 100014) x267)::(27,I6 x264)::gt s [3,5,6,7,8,10,12,26],gh s [6,7,8,10,12],(100014,(((x267).map cellsOf).length,14))::gT s [2000009,2000047],[(2000009,(14,(192,x265.map cellsOf))),(2000047,(4,(32,x266.map cellsOf)))]⟩) h ?_ ?_
 ·rintro ⟨x264,x265,x266,x267⟩ _ h;unfold Jgf at h;refine w1 n0 (ec (.e (.j 6 (.d 0 true 14 0 (.p 1 (.j 0 .x))))) .z) ?_;intro _ _ r372 j373 _ h398 h;refine yst 0 2000009 r372 0 14 h398 (w1 n0 S1 ?_);intro h;refine Jm (Kb (Jaj (Bx 0 6 (w1 n0 S1 ?_))));intro h;refine Vm 3 ⟨[(3,Jg .frozen a3),(5,I6 a5),(6,.ref 3006 0),(7,.ref 3007 0),(8,.ref 3008 0),(10,.ref 3010 0),(12,.ref 3012 0),(14,Jg (.own 3100014) x267),(15,I6 x264),(26,I6 ((x31:Nat):Int)),(27,I6 x264),(41,Enc.pv a0),(42,Enc.pv a1),(43,Enc.pv a2),(45,.ex 2000009 14 192 x31 0 x31),(46,I6 x264)],[(3006,.cells (cellsOf a0)),(3007,.cells (cellsOf a1)),(3008,.cells (cellsOf a2)),(3010,.cells ([.ex 2000009 14 192 x31 0 x31,.ex 2000047 4 32 ((x32.map cellsOf).length) 0 ((x32.map cellsOf).length)])),(3012,.cells ([.nil,.nil]))],[(3100014,(((x267).map cellsOf).length,14)),(2000009,(x31,0)),(2000047,((x32.map cellsOf).length,0))],[(2000009,(14,(192,((x265.set j373 r372):(List Jd)).map cellsOf))),(2000047,(4,(32,x266.map cellsOf)))]⟩ 86 kr kr kr ?_;obtain ⟨o446,h446,h⟩:=Qp h;refine Jfa (f:=43) (asx:=[Enc.pv a0,Enc.pv a1,Enc.pv a2,.ex 2000009 14 192 x31 0 x31,I6 x264]) kr func43 (by rfl) rfl ntmps43 (by rfl) ?_;refine Og o446 8600141 (fun x416=>⟨[(58,Jg .frozen a3),(60,I6 a5),(61,.ref 3006 0),(62,.ref 3007 0),(63,.ref 3008 0),(65,.ref 3010 0),(67,.ref 3012 0),(69,Jg (.own 3100014) x267),(70,I6 x264),(81,I6 ((x31:Nat):Int)),(82,I6 x264)],[(3006,.cells (cellsOf a0)),(3007,.cells (cellsOf a1)),(3008,.cells (cellsOf a2)),(3010,.cells ([.ex 2000009 14 192 x31 0 x31,.ex 2000047 4 32 ((x32.map cellsOf).length) 0 ((x32.map cellsOf).length)])),(3012,.cells ([.nil,.nil]))],[(3100014,(((x267).map cellsOf).length,14)),(2000009,(x31,0)),(2000047,((x32.map cellsOf).length,0))],[(2000009,(14,(192,x416.map cellsOf))),(2000047,(4,(32,x266.map cellsOf)))]⟩) ?_ ?_
  ·have h:=h446;refine w1 n0 s1 ?_;intro h;refine uK 8600141 0 [] (fun s x430=>⟨gt s [3,4,5,6,7,58,60,61,62,63,65,67,69,70,81,82],gh s [5,6,7,3006,3007,3008,3010,3012],gT s [3100014,2000009,2000047],(2000009,(14,(192,x430.map cellsOf)))::gX s [2000047]⟩) h ?_ ?_
   ·intro x430 _ h;unfold Jge at h;refine w1 n0 (.j 2 (.d 1 false 1 13 (.b 2 7 26 (.g 0 (.j 2 (.d 1 false 1 2 .z)) .z) (ec .S .z)))) ?_;intro _ _ _ h;obtain ⟨j450,h484,h⟩:=Qp h;refine Qv (Jm (Kk (Kb ?_)));obtain ⟨x451,h485,h⟩:=Qp h;obtain ⟨r452,h486,h⟩:=Qp h;refine Kfv 8600141 ⟨[(3,.ex 2000009 14 192 x31 0 x31),(4,I6 x264),(5,.ref 5 0),(6,.ref 6 0),(7,.ref 7 0),(10,I6 r452),(58,Jg .frozen a3),(60,I6 a5),(61,.ref 3006 0),(62,.ref 3007 0),(63,.ref 3008 0),(65,.ref 3010 0),(67,.ref 3012 0),(69,Jg (.own 3100014) x267),(70,I6 x264),(81,I6 ((x31:Nat):Int)),(82,I6 x264)],[(5,.cells (cellsOf a0)),(6,.cells (cellsOf a1)),(7,.cells (cellsOf a2)),(3006,.cells (cellsOf a0)),(3007,.cells (cellsOf a1)),(3008,.cells (cellsOf a2)),(3010,.cells ([.ex 2000009 14 192 x31 0 x31,.ex 2000047 4 32 ((x32.map cellsOf).length) 0 ((x32.map cellsOf).length)])),(3012,.cells ([.nil,.nil]))],[(3100014,(((x267).map cellsOf).length,14)),(2000009,(x31,0)),(2000047,((x32.map cellsOf).length,0))],[(2000009,(14,(192,x430.map cellsOf))),(2000047,(4,(32,x266.map cellsOf)))]⟩ kr ?_ ?_
    ·refine Yb [2,3,4] 7 kr ?_;refine Qx (n:=6) [0,1,5] kr ⟨?_, ?_, ?_,trivial⟩
     ·refine ⟨_,rfl,(zR 1 (Kf kr ?_))⟩;refine Qx (n:=5) [1,5] kr ⟨?_, ?_,trivial⟩
      ·refine ⟨_,rfl,(zR 1 (Kf kr ?_))⟩;refine Qx (n:=4) [5] kr ⟨?_,trivial⟩;refine ⟨_,rfl,(Jor (tk:=2000009) (k:=14) (N:=x31) h484 kr (Kf kr (Yb [6] 3 kr ?_)))⟩;refine Qx (n:=2) [7] kr ⟨?_,trivial⟩;refine ⟨_,rfl,(Jce (L:=x430) (N:=x31) (j:=j450) (y:=x451) (v:=I6 x451.End) h485 false 1 2 kr kr (Kf kr ?_))⟩;refine Qx (n:=1) [8] kr ⟨?_,trivial⟩;exact ⟨_,rfl,(Fq [2000009] ((Um _ _ _ _).ok r452 h486) kr kr kr (Kf kr (Yb [9] 0 kr (Ma kr (.of kr kr)))))⟩
      refine ⟨_,rfl,(Jor (tk:=2000009) (k:=14) (N:=x31) h484 kr (Kf kr (Yb [6] 4 kr ?_)))⟩;refine Qx (n:=3) [1,7] kr ⟨?_, ?_,trivial⟩
      ·refine ⟨_,rfl,(zR 1 (Kf kr ?_))⟩;refine Qx (n:=2) [7] kr ⟨?_,trivial⟩;refine ⟨_,rfl,(Jce (L:=x430) (N:=x31) (j:=j450) (y:=x451) (v:=I6 x451.End) h485 false 1 2 kr kr (Kf kr ?_))⟩;refine Qx (n:=1) [8] kr ⟨?_,trivial⟩;exact ⟨_,rfl,(Fq [2000009] ((Um _ _ _ _).ok r452 h486) kr kr kr (Kf kr (Yb [9] 0 kr (Ma kr (.of kr kr)))))⟩
      refine ⟨_,rfl,(Jce (L:=x430) (N:=x31) (j:=j450) (y:=x451) (v:=I6 x451.End) h485 false 1 2 kr kr (Kf kr ?_))⟩;refine Qx (n:=2) [1] kr ⟨?_,trivial⟩;refine ⟨_,rfl,(zR 1 (Kf kr ?_))⟩;refine Qx (n:=1) [8] kr ⟨?_,trivial⟩;exact ⟨_,rfl,(Fq [2000009] ((Um _ _ _ _).ok r452 h486) kr kr kr (Kf kr (Yb [9] 0 kr (Ma kr (.of kr kr)))))⟩
     ·refine ⟨_,rfl,(zR 1 (Kf kr ?_))⟩;refine Qx (n:=5) [0,5] kr ⟨?_, ?_,trivial⟩
      ·refine ⟨_,rfl,(zR 1 (Kf kr ?_))⟩;refine Qx (n:=4) [5] kr ⟨?_,trivial⟩;refine ⟨_,rfl,(Jor (tk:=2000009) (k:=14) (N:=x31) h484 kr (Kf kr (Yb [6] 3 kr ?_)))⟩;refine Qx (n:=2) [7] kr ⟨?_,trivial⟩;refine ⟨_,rfl,(Jce (L:=x430) (N:=x31) (j:=j450) (y:=x451) (v:=I6 x451.End) h485 false 1 2 kr kr (Kf kr ?_))⟩;refine Qx (n:=1) [8] kr ⟨?_,trivial⟩;exact ⟨_,rfl,(Fq [2000009] ((Um _ _ _ _).ok r452 h486) kr kr kr (Kf kr (Yb [9] 0 kr (Ma kr (.of kr kr)))))⟩
      refine ⟨_,rfl,(Jor (tk:=2000009) (k:=14) (N:=x31) h484 kr (Kf kr (Yb [6] 4 kr ?_)))⟩;refine Qx (n:=3) [0,7] kr ⟨?_, ?_,trivial⟩
      ·refine ⟨_,rfl,(zR 1 (Kf kr ?_))⟩;refine Qx (n:=2) [7] kr ⟨?_,trivial⟩;refine ⟨_,rfl,(Jce (L:=x430) (N:=x31) (j:=j450) (y:=x451) (v:=I6 x451.End) h485 false 1 2 kr kr (Kf kr ?_))⟩;refine Qx (n:=1) [8] kr ⟨?_,trivial⟩;exact ⟨_,rfl,(Fq [2000009] ((Um _ _ _ _).ok r452 h486) kr kr kr (Kf kr (Yb [9] 0 kr (Ma kr (.of kr kr)))))⟩
      refine ⟨_,rfl,(Jce (L:=x430) (N:=x31) (j:=j450) (y:=x451) (v:=I6 x451.End) h485 false 1 2 kr kr (Kf kr ?_))⟩;refine Qx (n:=2) [0] kr ⟨?_,trivial⟩;refine ⟨_,rfl,(zR 1 (Kf kr ?_))⟩;refine Qx (n:=1) [8] kr ⟨?_,trivial⟩;exact ⟨_,rfl,(Fq [2000009] ((Um _ _ _ _).ok r452 h486) kr kr kr (Kf kr (Yb [9] 0 kr (Ma kr (.of kr kr)))))⟩
     refine ⟨_,rfl,(Jor (tk:=2000009) (k:=14) (N:=x31) h484 kr (Kf kr (Yb [6] 5 kr ?_)))⟩;refine Qx (n:=4) [0,1,7] kr ⟨?_, ?_, ?_,trivial⟩
     ·refine ⟨_,rfl,(zR 1 (Kf kr ?_))⟩;refine Qx (n:=3) [1,7] kr ⟨?_, ?_,trivial⟩
      ·refine ⟨_,rfl,(zR 1 (Kf kr ?_))⟩;refine Qx (n:=2) [7] kr ⟨?_,trivial⟩;refine ⟨_,rfl,(Jce (L:=x430) (N:=x31) (j:=j450) (y:=x451) (v:=I6 x451.End) h485 false 1 2 kr kr (Kf kr ?_))⟩;refine Qx (n:=1) [8] kr ⟨?_,trivial⟩;exact ⟨_,rfl,(Fq [2000009] ((Um _ _ _ _).ok r452 h486) kr kr kr (Kf kr (Yb [9] 0 kr (Ma kr (.of kr kr)))))⟩
      refine ⟨_,rfl,(Jce (L:=x430) (N:=x31) (j:=j450) (y:=x451) (v:=I6 x451.End) h485 false 1 2 kr kr (Kf kr ?_))⟩;refine Qx (n:=2) [1] kr ⟨?_,trivial⟩;refine ⟨_,rfl,(zR 1 (Kf kr ?_))⟩;refine Qx (n:=1) [8] kr ⟨?_,trivial⟩;exact ⟨_,rfl,(Fq [2000009] ((Um _ _ _ _).ok r452 h486) kr kr kr (Kf kr (Yb [9] 0 kr (Ma kr (.of kr kr)))))⟩
     ·refine ⟨_,rfl,(zR 1 (Kf kr ?_))⟩;refine Qx (n:=3) [0,7] kr ⟨?_, ?_,trivial⟩
      ·refine ⟨_,rfl,(zR 1 (Kf kr ?_))⟩;refine Qx (n:=2) [7] kr ⟨?_,trivial⟩;refine ⟨_,rfl,(Jce (L:=x430) (N:=x31) (j:=j450) (y:=x451) (v:=I6 x451.End) h485 false 1 2 kr kr (Kf kr ?_))⟩;refine Qx (n:=1) [8] kr ⟨?_,trivial⟩;exact ⟨_,rfl,(Fq [2000009] ((Um _ _ _ _).ok r452 h486) kr kr kr (Kf kr (Yb [9] 0 kr (Ma kr (.of kr kr)))))⟩
      refine ⟨_,rfl,(Jce (L:=x430) (N:=x31) (j:=j450) (y:=x451) (v:=I6 x451.End) h485 false 1 2 kr kr (Kf kr ?_))⟩;refine Qx (n:=2) [0] kr ⟨?_,trivial⟩;refine ⟨_,rfl,(zR 1 (Kf kr ?_))⟩;refine Qx (n:=1) [8] kr ⟨?_,trivial⟩;exact ⟨_,rfl,(Fq [2000009] ((Um _ _ _ _).ok r452 h486) kr kr kr (Kf kr (Yb [9] 0 kr (Ma kr (.of kr kr)))))⟩
     refine ⟨_,rfl,(Jce (L:=x430) (N:=x31) (j:=j450) (y:=x451) (v:=I6 x451.End) h485 false 1 2 kr kr (Kf kr ?_))⟩;refine Qx (n:=3) [0,1] kr ⟨?_, ?_,trivial⟩
     ·refine ⟨_,rfl,(zR 1 (Kf kr ?_))⟩;refine Qx (n:=2) [1] kr ⟨?_,trivial⟩;refine ⟨_,rfl,(zR 1 (Kf kr ?_))⟩;refine Qx (n:=1) [8] kr ⟨?_,trivial⟩;exact ⟨_,rfl,(Fq [2000009] ((Um _ _ _ _).ok r452 h486) kr kr kr (Kf kr (Yb [9] 0 kr (Ma kr (.of kr kr)))))⟩
     refine ⟨_,rfl,(zR 1 (Kf kr ?_))⟩;refine Qx (n:=2) [0] kr ⟨?_,trivial⟩;refine ⟨_,rfl,(zR 1 (Kf kr ?_))⟩;refine Qx (n:=1) [8] kr ⟨?_,trivial⟩;exact ⟨_,rfl,(Fq [2000009] ((Um _ _ _ _).ok r452 h486) kr kr kr (Kf kr (Yb [9] 0 kr (Ma kr (.of kr kr)))))⟩
    refine w6 n0 (ec .s (.j 4 (.d 0 true 14 0 (.p 1 (ee (.c .s (.j 3 .x))))))) ?_ ?_ ?_ t0 t0 t0
    ·intro h;cases h;exact Jkw kr kr
    ·intro _ _ _ h;cases h;exact Jkw kr kr
    intro _ _ r455 _ _ h493 h;exact yst 0 2000009 r455.1 0 14 h493 (w1 n0 z1 t0)
   intro x444 s' h hs;refine Qa ?_;cases h;exact Kb0 hs kr kr
  generalize o446=x416 at *;refine Jfe (r:=.tup []) kr (Vm 4 ⟨[(3,Jg .frozen a3),(5,I6 a5),(6,.ref 3006 0),(7,.ref 3007 0),(8,.ref 3008 0),(10,.ref 3010 0),(12,.ref 3012 0),(14,Jg (.own 3100014) x267),(15,I6 x264),(26,I6 ((x31:Nat):Int)),(27,I6 x264)],[(3006,.cells (cellsOf a0)),(3007,.cells (cellsOf a1)),(3008,.cells (cellsOf a2)),(3010,.cells ([.ex 2000009 14 192 x31 0 x31,.ex 2000047 4 32 ((x32.map cellsOf).length) 0 ((x32.map cellsOf).length)])),(3012,.cells ([.nil,.nil]))],[(3100014,(((x267).map cellsOf).length,14)),(2000009,(x31,0)),(2000047,((x32.map cellsOf).length,0))],[(2000009,(14,(192,x416.map cellsOf))),(2000047,(4,(32,x266.map cellsOf)))]⟩ 86 kr kr kr ?_);refine Vm 3 ⟨[(3,Jg .frozen a3),(5,I6 a5),(6,.ref 6 0),(7,.ref 7 0),(8,.ref 8 0),(10,.ref 10 0),(12,.ref 12 0),(14,Jg (.own 100014) x267),(15,I6 x264),(26,I6 ((x31:Nat):Int)),(27,I6 x264)],[(6,.cells (cellsOf a0)),(7,.cells (cellsOf a1)),(8,.cells (cellsOf a2)),(10,.cells ([.ex 2000009 14 192 x31 0 x31,.ex 2000047 4 32 ((x32.map cellsOf).length) 0 ((x32.map cellsOf).length)])),(12,.cells ([.nil,.nil]))],[(100014,(((x267).map cellsOf).length,14)),(2000009,(x31,0)),(2000047,((x32.map cellsOf).length,0))],[(2000009,(14,(192,x416.map cellsOf))),(2000047,(4,(32,x266.map cellsOf)))]⟩ 86 kr kr kr (Bx 7 0 (w1 n0 S1 ?_));intro h;refine Jac (Jm (Kb (w1 n0 (.j 5 (.d 0 true 14 0 (.p 0 (.e (.j 4 .x))))) ?_)));intro _ _ r460 _ _ h498 h;refine yst 0 2000009 r460.1 0 14 h498 (w1 n0 (.e (.j 6 (.d 0 true 4 0 (.p 2 (.j 3 .x))))) ?_);intro _ _ r465 _ _ h503 h;exact yst 0 2000047 r465.1 0 4 h503 (w1 n0 (ew 3 z2) t0)
 rintro ⟨x367,x368,x369⟩ s' h hs;refine w1 n0 S1 ?_;intro h;refine Jm (Kw (Zy (xss:=x367.map cellsOf) 2000009 14 192 x31 [] [(10,0),(12,0)] kr kr kr kr) (Kw (Zy (xss:=x368.map cellsOf) 2000047 4 32 ((x32.map cellsOf).length) [] [(10,1),(12,1)] kr kr kr kr) ?_));exact w1 n0 .z t0⟩
def Lh(a0:(List Jd)):(Int×(List (Int×Int)))->Option ((Int×(List (Int×Int)))⊕((List (Int×Int))⊕(List (Int×Int)))):=fun (x4,x5)=>
 bif decide (x4<((a0.length:Nat):Int)) then (
  onInl (α:=(List (Int×Int))) (β:=((Int×(List (Int×Int)))⊕((List (Int×Int))⊕(List (Int×Int))))) (
   (ixO a0 x4).bind fun x12=>
   bif (!((Wx (x5:(List (Int×Int))) x12.Id).isSome)) then (
    some (.inl (Fy x12.Id x4 x5))
   ) else (
    some (.inl x5)
   )
  ) fun x11=>
  some (.inl (w64 (x4+1),x11))
 ) else (
  some (.inr (.inl x5))
 )
def Cu(a0:(List Jd)):Option (List (Int×Int)) :=
 onInl (Jq (Lh a0) (0,[])) fun x9=>
 some x9
theorem Pr(a0:(List Jd))(r:(List (Int×Int)))(h:Cu a0=some r):Yr prog GlS 53 [Enc.pv a0] (Ke7 (r:(List (Int×Int)))):=by
 unfold Cu at h;refine zG f53 ?_;refine w1 a0 (ee (.l 1 s1)) ?_;intro h;refine uM 31 0 [11] (fun s (x4,x5)=>⟨(11,I6 x4)::gt s [3,9,10],[(8,.map (Ys x5))],[],[]⟩) h ?_ ?_
 ·rintro ⟨x4,x5⟩ _ h;unfold Lh at h;refine w1 n0 (ec .s .z) ?_;intro h;refine uJ 31 (fun s x11=>⟨gt s [3,9,10,11],[(8,.map (Ys x11))],[],[]⟩) h ?_ ?_
  ·intro _ h;refine w1 n0 (.i 1 s1) ?_;intro x12 h;refine zR 3 (Jjh (m:=x5) (k:=x12.Id) 0 8 kr kr (w1 n0 (ee (.c .s .z)) ?_));intro h;exact zR 4 (Jhh (m:=x5) (k:=x12.Id) (v:=x4) 8 kr kr kr (w1 n0 z1 t0))
  intro x11 h;exact w1 n0 z1 t0
 intro x9 s' h hs;refine w1 n0 S1 ?_;intro h;refine Jm (Kc1 8 [] x9 kr kr kr (Vw ?_));cases h;exact zQ
def Jdj(a1:Jj)(x35:(List Jd)):(Int×(List Jd))->Option ((Int×(List Jd))⊕((List Jd)⊕((List Jd)×Nat×(List Jk)))):=fun (x44,x45)=>
 bif decide (x44<((a1.Tracks.length:Nat):Int)) then (
  (ixO a1.Tracks x44).bind fun x55=>
  (Kl x55.Steps).bind fun r56=>
  (Jt x55.Routes).bind fun r57=>
  (Jt x55.Starts).bind fun r58=>
  (Jt x55.Ends).bind fun r59=>
  (Jt x55.Done).bind fun r60=>
  (Vz 0 (((x35:(List Jd)).map cellsOf).length) x44).bind fun j61=>
  (Uy x45 (((x35:(List Jd)).map cellsOf).length) j61).bind fun x62=>
  some (.inl (w64 (x44+1),(x45.set j61 (Jd.mk x55.Id x55.Origin x55.End x55.At r56 r57 r58 r59 r60 x55.Min x55.Sent x55.Accepted x55.Cut x55.CutSeq))))
 ) else (
  some (.inr (.inl x45))
 )
def Jbv(a0:Jw)(a1:Jj)(a2:Int)(a3:Int):Option (Jj×Int) :=
 (Vt a1).bind fun r1=>
 bif (!r1) then (
  some ((Jj.mk [] []),1)
 ) else (
  (Cu a1.Tracks).bind fun r2=>
  bif (!((Wx (r2:(List (Int×Int))) a2).isSome)) then (
   some ((Jj.mk [] []),9)
  ) else (
   Option.bind (α:=((List Jd)×Nat×(List Jk))) (
    (Jtv ((a1.Tracks.length:Nat):Int) ((a1.Tracks.length:Nat):Int) 192 ((Jd.mk 0 0 0 0 [] [] [] [] [] 0 0 0 0 0):Jd)).bind fun x35=>
    onInl (Jq (Jdj a1 x35) (0,x35)) fun x54=>
    (Bh a1.Sessions).bind fun r63=>
    some (x54,((x35:(List Jd)).map cellsOf).length,r63)
   ) fun (x32,x33,x34)=>
   (Vz 0 x33 ((Wx (r2:(List (Int×Int))) a2).getD 0)).bind fun j64=>
   (Uy x32 x33 j64).bind fun x65=>
   bif (!(decide (x65.CutSeq=0))) then (
    some ((Jj.mk [] []),11)
   ) else (
    ((bif decide (a3<0) then some true else (
     (Uy x32 x33 j64).bind fun x67=>
     some (decide (((x67.Routes.length:Nat):Int)<=a3))
    ))).bind fun b66=>
    ((bif b66 then some true else (
     (Uy x32 x33 j64).bind fun x69=>
     some (decide (((x69.Ends.length:Nat):Int)<=a3))
    ))).bind fun b68=>
    bif b68 then (
     some ((Jj.mk [] []),1)
    ) else (
     (Uy x32 x33 j64).bind fun x70=>
     (ixO x70.Routes a3).bind fun x71=>
     ((bif decide (x71<0) then some true else (
      some (decide (((a0.Routes.length:Nat):Int)<=x71))
     ))).bind fun b72=>
     bif b72 then (
      some ((Jj.mk [] []),1)
     ) else (
      (Uy x32 x33 j64).bind fun x73=>
      (ixO x73.Ends a3).bind fun x74=>
      (ixO a0.Routes x71).bind fun x75=>
      (Uy x32 x33 j64).bind fun x76=>
      (Uy (x32.set j64 (Jd.mk x76.Id x76.Origin x76.End x76.At x76.Steps x76.Routes x76.Starts x76.Ends x76.Done x76.Min x76.Sent x76.Accepted (w64 (x74 - x75.Length)) x76.CutSeq)) x33 j64).bind fun x77=>
      (Uy (x32.set j64 (Jd.mk x76.Id x76.Origin x76.End x76.At x76.Steps x76.Routes x76.Starts x76.Ends x76.Done x76.Min x76.Sent x76.Accepted (w64 (x74 - x75.Length)) x76.CutSeq)) x33 j64).bind fun x78=>
      some ((Jj.mk ((x32.set j64 (Jd.mk x76.Id x76.Origin x76.End x76.At x76.Steps x76.Routes x76.Starts x76.Ends x76.Done x76.Min x76.Sent x76.Accepted (w64 (x74 - x75.Length)) x76.CutSeq)).set j64 (Jd.mk x78.Id x78.Origin x78.End x78.At x78.Steps x78.Routes x78.Starts x78.Ends x78.Done x78.Min x78.Sent x78.Accepted x78.Cut (w64 (x77.Sent+1)))) x34),0)
     )
    )
   )
  )
 )
set_option maxRecDepth 100000 in
instance (a0:Jw)(a1:Jj)(a2:Int)(a3:Int):Cp (Jbv a0 a1 a2 a3) 20 [Enc.pv a0,Enc.pv a1,Enc.pv a2,Enc.pv a3] (fun r=>.tup [Enc.pv r.1,Enc.pv r.2]):=⟨fun r h=>by
 unfold Jbv at h;refine zG f20 ?_;refine w1 n0 (ep 1 (ec z1 .x)) ?_;intro _ r2 h2 h;refine zR 2 (zP (Pr _ r2 h2) (zR 1 (Jf2 (m:=r2) (k:=a2) 0 true kr (w1 n0 (ee (.c z1 .S)) ?_))));intro h;refine Qv (Jm (Kb (Jaj (Bx 0 1 (w1 n0 S1 ?_)))));intro h;refine Vm 1 ⟨[(3,I6 a3),(4,.ref 1004 0),(5,.ref 1005 0),(8,.ref 1008 0),(10,I6 ((Wx r2 a2).getD 0)),(29,Enc.pv a1)],[(1004,.cells (cellsOf a0)),(1005,.cells (cellsOf a1)),(1008,.cells ([.nil,.nil]))],[],[]⟩ 105 kr kr kr ?_;obtain ⟨o31,h31,h⟩:=Qp h;refine Jfa (f:=40) (asx:=[Enc.pv a1]) kr func40 (by rfl) rfl ntmps40 (by rfl) ?_;refine Og o31 10500155 (fun (x32,x33,x34)=>⟨[(2,.ref 2 0),(53,I6 a3),(54,.ref 1004 0),(55,.ref 1005 0),(58,.ref 1008 0),(60,I6 ((Wx r2 a2).getD 0))],[(2,.cells ([.ex 9 14 192 x33 0 x33,Jg (.own 47007) x34])),(1004,.cells (cellsOf a0)),(1005,.cells (cellsOf a1)),(1008,.cells ([.nil,.nil]))],[(47007,(((x34).map cellsOf).length,4)),(9,(x33,0))],[(9,(14,(192,x32.map cellsOf)))]⟩) ?_ ?_
 ·have h:=h31;refine w1 a1.Tracks (el 2 .x) ?_;intro _ h32 h;refine Jv3 (z:=((Jd.mk 0 0 0 0 [] [] [] [] [] 0 0 0 0 0):Jd)) 9 h32 kr kr (w1 a1.Tracks (el 2 s1) ?_);intro h;refine uM 10500155 0 [13] (fun s (x44,x45)=>⟨(13,I6 x44)::gt s [1,2,3,11,12,53,54,55,58,60],gh s [1,2,1004,1005,1008],gT s [9],[(9,(14,(192,x45.map cellsOf)))]⟩) h ?_ ?_
  ·rintro ⟨x44,x45⟩ _ h;unfold Jdj at h;refine w1 n0 (ec (.i 1 (ep 2 (ep 2 (ep 2 (ep 2 (ep 2 (.e (.j 3 .x)))))))) .z) ?_;intro x55 r56 r57 r58 r59 r60 _ _ h58 h;exact yst 0 9 (Jd.mk x55.Id x55.Origin x55.End x55.At r56 r57 r58 r59 r60 x55.Min x55.Sent x55.Accepted x55.Cut x55.CutSeq) 0 14 h58 (w1 n0 z2 t0)
  intro x54 s' h hs;refine w1 n0 (ep 2 s2) ?_;intro _ h;cases h;exact Jkw kr kr
 obtain ⟨x32,x33,x34⟩:=o31;refine Jfe (r:=.agg [.ex 9 14 192 x33 0 x33,Jg (.own 47007) x34]) kr (Vm 2 ⟨[(3,I6 a3),(4,.ref 1004 0),(5,.ref 1005 0),(8,.ref 1008 0),(10,I6 ((Wx r2 a2).getD 0)),(30,.agg [.ex 2000009 14 192 x33 0 x33,Jg (.own 2047007) x34])],[(1004,.cells (cellsOf a0)),(1005,.cells (cellsOf a1)),(1008,.cells ([.nil,.nil]))],[(2047007,(((x34).map cellsOf).length,4)),(2000009,(x33,0))],[(2000009,(14,(192,x32.map cellsOf)))]⟩ 105 kr kr kr (Vm 1 ⟨[(3,I6 a3),(4,.ref 4 0),(5,.ref 5 0),(8,.ref 8 0),(10,I6 ((Wx r2 a2).getD 0)),(30,.agg [.ex 2000009 14 192 x33 0 x33,Jg (.own 2047007) x34])],[(4,.cells (cellsOf a0)),(5,.cells (cellsOf a1)),(8,.cells ([.nil,.nil]))],[(2047007,(((x34).map cellsOf).length,4)),(2000009,(x33,0))],[(2000009,(14,(192,x32.map cellsOf)))]⟩ 105 kr kr kr (Bx 2 1 (w1 n0 S1 ?_))));intro h;refine Jac (Jm (Kb (Vn ?_)));refine w6 a0.Routes (.j 3 (.e (.d 3 false 1 13 (ec z1 (.b 3 8 51 (.g 0 .z (.d 4 false 1 5 .s)) (.b 1 8 60 (.g 0 .z (.d 4 false 1 7 .s)) (ec z1 (.d 3 false 1 5 (.i 1 (.e (.b 3 6 77 (.g 0 .z (.l 3 .z)) (ec z1 (.d 4 false 1 7 (.i 1 (.i 4 .x))))))))))))))) ?_ ?_ ?_ t0 t0 t0
 ·intro _ _ _ x67 h;exact yl 0 x67.Routes (w1 n0 .z t0)
 ·intro _ _ _ _ x69 h;exact yl 0 x69.Ends (w1 n0 .z t0)
 intro j64 _ _ _ _ _ _ _ x74 x75 x76 h72 h;refine yst 5 2000009 (Jd.mk x76.Id x76.Origin x76.End x76.At x76.Steps x76.Routes x76.Starts x76.Ends x76.Done x76.Min x76.Sent x76.Accepted (w64 (x74 - x75.Length)) x76.CutSeq) 12 1 h72 (w1 n0 X1 ?_);intro x77 h73 h;refine zR 4 (Jce (L:=((x32.set j64 (Jd.mk x76.Id x76.Origin x76.End x76.At x76.Steps x76.Routes x76.Starts x76.Ends x76.Done x76.Min x76.Sent x76.Accepted (w64 (x74 - x75.Length)) x76.CutSeq)):(List Jd))) (N:=x33) (j:=j64) (y:=x77) (v:=I6 x77.Sent) h73 false 1 10 kr kr ?_);obtain ⟨x78,h74,h⟩:=Qp h;refine yst 3 2000009 (Jd.mk x78.Id x78.Origin x78.End x78.At x78.Steps x78.Routes x78.Starts x78.Ends x78.Done x78.Min x78.Sent x78.Accepted x78.Cut (w64 (x77.Sent+1))) 13 1 h74 (w1 n0 S2 ?_);intro h;refine Jm (Kw (Zy (xss:=(((x32.set j64 (Jd.mk x76.Id x76.Origin x76.End x76.At x76.Steps x76.Routes x76.Starts x76.Ends x76.Done x76.Min x76.Sent x76.Accepted (w64 (x74 - x75.Length)) x76.CutSeq)).set j64 (Jd.mk x78.Id x78.Origin x78.End x78.At x78.Steps x78.Routes x78.Starts x78.Ends x78.Done x78.Min x78.Sent x78.Accepted x78.Cut (w64 (x77.Sent+1)))):(List Jd)).map cellsOf) 2000009 14 192 x33 [32] [(5,0),(8,0)] kr kr kr kr) ?_);exact w1 n0 .z t0⟩
def Jij(a0:Jj)(x35:(List Jd)):(Int×(List Jd))->Option ((Int×(List Jd))⊕((List Jd)⊕((List Jd)×Nat×(List Jk)))):=fun (x44,x45)=>
 bif decide (x44<((a0.Tracks.length:Nat):Int)) then (
  (ixO a0.Tracks x44).bind fun x55=>
  (Kl x55.Steps).bind fun r56=>
  (Jt x55.Routes).bind fun r57=>
  (Jt x55.Starts).bind fun r58=>
  (Jt x55.Ends).bind fun r59=>
  (Jt x55.Done).bind fun r60=>
  (Vz 0 (((x35:(List Jd)).map cellsOf).length) x44).bind fun j61=>
  (Uy x45 (((x35:(List Jd)).map cellsOf).length) j61).bind fun x62=>
  some (.inl (w64 (x44+1),(x45.set j61 (Jd.mk x55.Id x55.Origin x55.End x55.At r56 r57 r58 r59 r60 x55.Min x55.Sent x55.Accepted x55.Cut x55.CutSeq))))
 ) else (
  some (.inr (.inl x45))
 )
def Jhb(a0:Jj)(a1:Int)(a2:Int):Option (Jj×Jo×Int) :=
 (Vt a0).bind fun r1=>
 bif (!r1) then (
  some ((Jj.mk [] []),(Jo.mk 0 0 0 0 0 (Jz.mk 0 0 [] []) (Ki.mk 0 0 0 0 false)),1)
 ) else (
  (Cu a0.Tracks).bind fun r2=>
  bif (!((Wx (r2:(List (Int×Int))) a1).isSome)) then (
   some ((Jj.mk [] []),(Jo.mk 0 0 0 0 0 (Jz.mk 0 0 [] []) (Ki.mk 0 0 0 0 false)),9)
  ) else (
   Option.bind (α:=((List Jd)×Nat×(List Jk))) (
    (Jtv ((a0.Tracks.length:Nat):Int) ((a0.Tracks.length:Nat):Int) 192 ((Jd.mk 0 0 0 0 [] [] [] [] [] 0 0 0 0 0):Jd)).bind fun x35=>
    onInl (Jq (Jij a0 x35) (0,x35)) fun x54=>
    (Qf a0.Sessions).bind fun r63=>
    some (x54,((x35:(List Jd)).map cellsOf).length,r63)
   ) fun (x32,x33,x34)=>
   (Vz 0 (((x34:(List Jk)).map cellsOf).length) ((Wx (r2:(List (Int×Int))) a1).getD 0)).bind fun j64=>
   (Uy x34 (((x34:(List Jk)).map cellsOf).length) j64).bind fun x65=>
   (Nl x65 (Jo.mk 4 0 0 0 0 (Jz.mk 0 0 [] []) (Ki.mk 0 0 0 0 false)) a2).bind fun r66=>
   (Vz 0 (((x34:(List Jk)).map cellsOf).length) ((Wx (r2:(List (Int×Int))) a1).getD 0)).bind fun j67=>
   (Uy x34 (((x34:(List Jk)).map cellsOf).length) j67).bind fun x68=>
   some ((Jj.mk x32 (x34.set j67 r66.1)),r66.2,0)
  )
 )
set_option maxRecDepth 100000 in
instance (a0:Jj)(a1:Int)(a2:Int):Cp (Jhb a0 a1 a2) 18 [Enc.pv a0,Enc.pv a1,Enc.pv a2] (fun r=>.tup [Enc.pv r.1,Enc.pv r.2.1,Enc.pv r.2.2]):=⟨fun r h=>by
 unfold Jhb at h;refine zG f18 ?_;refine w1 n0 (ep 1 (ec z1 .x)) ?_;intro _ r2 h2 h;refine zR 2 (zP (Pr _ r2 h2) (zR 1 (Jf2 (m:=r2) (k:=a1) 0 true kr (w1 n0 (ee (.c z1 .S)) ?_))));intro h;refine Qv (Jm (Kb (Jaj (Bx 0 1 (w1 n0 S1 ?_)))));intro h;refine Vm 1 ⟨[(2,I6 a2),(3,.ref 1003 0),(6,.ref 1006 0),(7,.ref 1007 0),(9,I6 ((Wx r2 a1).getD 0)),(30,Enc.pv a0)],[(1003,.cells (cellsOf a0)),(1006,.cells ([.nil,.nil])),(1007,.cells ([I6 0,I6 0,I6 0,I6 0,I6 0,I6 0,I6 0,.nil,.nil,I6 0,I6 0,I6 0,I6 0,.bool false]))],[],[]⟩ 50 kr kr kr ?_;obtain ⟨o31,h31,h⟩:=Qp h;refine Jfa (f:=40) (asx:=[Enc.pv a0]) kr func40 (by rfl) rfl ntmps40 (by rfl) ?_;refine Og o31 5000100 (fun (x32,x33,x34)=>⟨[(2,.ref 2 0),(52,I6 a2),(53,.ref 1003 0),(56,.ref 1006 0),(57,.ref 1007 0),(59,I6 ((Wx r2 a1).getD 0))],[(2,.cells ([.ex 9 14 192 x33 0 x33,.ex 47 4 32 ((x34.map cellsOf).length) 0 ((x34.map cellsOf).length)])),(1003,.cells (cellsOf a0)),(1006,.cells ([.nil,.nil])),(1007,.cells ([I6 0,I6 0,I6 0,I6 0,I6 0,I6 0,I6 0,.nil,.nil,I6 0,I6 0,I6 0,I6 0,.bool false]))],[(9,(x33,0)),(47,((x34.map cellsOf).length,0))],[(9,(14,(192,x32.map cellsOf))),(47,(4,(32,x34.map cellsOf)))]⟩) ?_ ?_
 ·have h:=h31;refine w1 a0.Tracks (el 2 .x) ?_;intro _ h32 h;refine Jv3 (z:=((Jd.mk 0 0 0 0 [] [] [] [] [] 0 0 0 0 0):Jd)) 9 h32 kr kr (w1 a0.Tracks (el 2 s1) ?_);intro h;refine uM 5000100 0 [13] (fun s (x44,x45)=>⟨(13,I6 x44)::gt s [1,2,3,11,12,52,53,56,57,59],gh s [1,2,1003,1006,1007],gT s [9],[(9,(14,(192,x45.map cellsOf)))]⟩) h ?_ ?_
  ·rintro ⟨x44,x45⟩ _ h;unfold Jij at h;refine w1 n0 (ec (.i 1 (ep 2 (ep 2 (ep 2 (ep 2 (ep 2 (.e (.j 3 .x)))))))) .z) ?_;intro x55 r56 r57 r58 r59 r60 _ _ h58 h;exact yst 0 9 (Jd.mk x55.Id x55.Origin x55.End x55.At r56 r57 r58 r59 r60 x55.Min x55.Sent x55.Accepted x55.Cut x55.CutSeq) 0 14 h58 (w1 n0 z2 t0)
  intro x54 s' h hs;refine w1 n0 X1 ?_;intro r63 h59 h;refine zR 2 (Jh1 (α:=Jk) 47 (Yf _ r63 h59) kr kr (w1 n0 s2 ?_));intro h;cases h;exact Jkw kr kr
 obtain ⟨x32,x33,x34⟩:=o31;refine Jfe (r:=.agg [.ex 9 14 192 x33 0 x33,.ex 47 4 32 ((x34.map cellsOf).length) 0 ((x34.map cellsOf).length)]) kr (Vm 2 ⟨[(2,I6 a2),(3,.ref 1003 0),(6,.ref 1006 0),(7,.ref 1007 0),(9,I6 ((Wx r2 a1).getD 0)),(31,.agg [.ex 2000009 14 192 x33 0 x33,.ex 2000047 4 32 ((x34.map cellsOf).length) 0 ((x34.map cellsOf).length)])],[(1003,.cells (cellsOf a0)),(1006,.cells ([.nil,.nil])),(1007,.cells ([I6 0,I6 0,I6 0,I6 0,I6 0,I6 0,I6 0,.nil,.nil,I6 0,I6 0,I6 0,I6 0,.bool false]))],[(2000009,(x33,0)),(2000047,((x34.map cellsOf).length,0))],[(2000009,(14,(192,x32.map cellsOf))),(2000047,(4,(32,x34.map cellsOf)))]⟩ 50 kr kr kr ?_);refine Vm 1 ⟨[(2,I6 a2),(3,.ref 3 0),(6,.ref 6 0),(7,.ref 7 0),(9,I6 ((Wx r2 a1).getD 0)),(31,.agg [.ex 2000009 14 192 x33 0 x33,.ex 2000047 4 32 ((x34.map cellsOf).length) 0 ((x34.map cellsOf).length)])],[(3,.cells (cellsOf a0)),(6,.cells ([.nil,.nil])),(7,.cells ([I6 0,I6 0,I6 0,I6 0,I6 0,I6 0,I6 0,.nil,.nil,I6 0,I6 0,I6 0,I6 0,.bool false]))],[(2000009,(x33,0)),(2000047,((x34.map cellsOf).length,0))],[(2000009,(14,(192,x32.map cellsOf))),(2000047,(4,(32,x34.map cellsOf)))]⟩ 50 kr kr kr (Bx 2 1 (w1 n0 S1 ?_));intro h;refine Jac (Jm (Kb (Vn (w1 n0 (.j 3 (.d 0 true 4 0 (.p 2 (.e (.j 4 .x))))) ?_))));intro _ _ r66 j67 _ h64 h;refine yst 0 2000047 r66.1 0 4 h64 (w1 n0 S1 ?_);intro h;refine Jm (Kb ?_);refine Jzv 50 ⟨[(6,.ref 6 0),(7,.ref 7 0),(8,I6 0)],[(6,.cells ([.ex 2000009 14 192 x33 0 x33,.ex 2000047 4 32 ((x34.map cellsOf).length) 0 ((x34.map cellsOf).length)])),(7,.cells (cellsOf r66.2))],[(2000009,(x33,0)),(2000047,((x34.map cellsOf).length,0))],[(2000009,(14,(192,x32.map cellsOf))),(2000047,(4,(32,((x34.set j67 r66.1):(List Jk)).map cellsOf)))]⟩ kr ?_ ?_
 ·refine Ur [0,1] kr ⟨?_, ?_,trivial⟩
  ·refine ⟨_,rfl,(zR 1 (Ej ?_))⟩;refine Ur [1,2] kr ⟨?_, ?_,trivial⟩
   ·refine ⟨_,rfl,(zR 1 (Ej ?_))⟩;refine Ur [2] kr ⟨?_,trivial⟩;refine ⟨_,rfl,(zR 1 (Ej ?_))⟩;refine Ur [3] kr ⟨?_,trivial⟩;refine ⟨_,rfl,(zR 1 (Ej ?_))⟩;refine Ur [4] kr ⟨?_,trivial⟩;exact ⟨_,rfl,(zR 1 (Ej (Xc kr (.of kr kr))))⟩
   refine ⟨_,rfl,(zR 1 (Ej ?_))⟩;refine Ur [1] kr ⟨?_,trivial⟩;refine ⟨_,rfl,(zR 1 (Ej ?_))⟩;refine Ur [3] kr ⟨?_,trivial⟩;refine ⟨_,rfl,(zR 1 (Ej ?_))⟩;refine Ur [4] kr ⟨?_,trivial⟩;exact ⟨_,rfl,(zR 1 (Ej (Xc kr (.of kr kr))))⟩
  refine ⟨_,rfl,(zR 1 (Ej ?_))⟩;refine Ur [0] kr ⟨?_,trivial⟩;refine ⟨_,rfl,(zR 1 (Ej ?_))⟩;refine Ur [2] kr ⟨?_,trivial⟩;refine ⟨_,rfl,(zR 1 (Ej ?_))⟩;refine Ur [3] kr ⟨?_,trivial⟩;refine ⟨_,rfl,(zR 1 (Ej ?_))⟩;refine Ur [4] kr ⟨?_,trivial⟩;exact ⟨_,rfl,(zR 1 (Ej (Xc kr (.of kr kr))))⟩
 refine Jm (Kw (Zy (xss:=x32.map cellsOf) 2000009 14 192 x33 [] [(6,0)] kr kr kr kr) (Kw (Zy (xss:=((x34.set j67 r66.1):(List Jk)).map cellsOf) 2000047 4 32 ((x34.map cellsOf).length) [] [(6,1)] kr kr kr kr) ?_));exact w1 n0 .z t0⟩
def Il : Option Bool :=
 (Jc8 ).bind fun r1=>
 (Zo r1).bind fun r2=>
 (Jbp ).bind fun r3=>
 (Jjr r1 [r3.1] [r3.2]).bind fun r4=>
 ((bif ((!(decide (r2.2=0)))||(!(decide (r4.2=0)))) then some true else (
  some (!(decide (((r2.1.Routes.length:Nat):Int)=2)))
 ))).bind fun b5=>
 ((bif b5 then some true else (
  some (!(decide (((r4.1.Tracks.length:Nat):Int)=1)))
 ))).bind fun b6=>
 ((bif b6 then some true else (
  (ixO r4.1.Tracks 0).bind fun x8=>
  some (!(decide (x8.At=5000)))
 ))).bind fun b7=>
 ((bif b7 then some true else (
  (ixO r4.1.Tracks 0).bind fun x10=>
  some (!(decide (x10.End=0)))
 ))).bind fun b9=>
 bif b9 then (
  some false
 ) else (
  (Ja9 r1 r2.1 (Ko.mk [(Qh.mk 2 0 0),(Qh.mk 0 0 0)] []) ([]:(List Jy)) r4.1 1).bind fun r11=>
  (Ja9 r1 r2.1 (Ko.mk [(Qh.mk 2 0 0),(Qh.mk 2 0 0)] []) ([]:(List Jy)) r11.1 2).bind fun r12=>
  (Jbv r2.1 r12.1 3 0).bind fun r13=>
  (Jhb r4.1 3 1).bind fun r14=>
  ((bif (!(decide (((r11.2.length:Nat):Int)=1))) then some true else (
   some (!(decide (((r12.2.length:Nat):Int)=1)))
  ))).bind fun b15=>
  ((bif b15 then some true else (
   some (!(decide (((r11.1.Tracks.length:Nat):Int)=1)))
  ))).bind fun b16=>
  ((bif b16 then some true else (
   some (!(decide (((r12.1.Tracks.length:Nat):Int)=1)))
  ))).bind fun b17=>
  ((bif b17 then some true else (
   some (!(decide (((r13.1.Tracks.length:Nat):Int)=1)))
  ))).bind fun b18=>
  ((bif b18 then some true else (
   (ixO r11.1.Tracks 0).bind fun x20=>
   some (!(decide (((x20.Routes.length:Nat):Int)=1)))
  ))).bind fun b19=>
  bif b19 then (
   some false
  ) else (
   (ixO r11.2 0).bind fun x21=>
   ((bif decide (x21.Kind=2) then (
    (ixO r11.2 0).bind fun x23=>
    some (decide (x23.Auth.End=25000))
   ) else some false)).bind fun b22=>
   ((bif b22 then (
    (ixO r11.2 0).bind fun x25=>
    some (decide (x25.To=3))
   ) else some false)).bind fun b24=>
   ((bif b24 then (
    (ixO r12.2 0).bind fun x27=>
    some (decide (x27.Auth.End=45000))
   ) else some false)).bind fun b26=>
   ((bif b26 then (
    (ixO r12.1.Tracks 0).bind fun x29=>
    some (decide (x29.End=(-1)))
   ) else some false)).bind fun b28=>
   ((bif (b28&&(decide (r13.2=0))) then (
    (ixO r13.1.Tracks 0).bind fun x31=>
    some (decide (x31.Cut=5000))
   ) else some false)).bind fun b30=>
   some ((b30&&(decide (r14.2.2=0)))&&(decide (r14.2.1.Kind=4)))
  )
 )
instance : Cp (Il) 9 [] Enc.pv:=⟨fun r h=>by
 unfold Il at h;refine zG f9 ?_;refine w1 n0 X1 ?_;intro r1 h1 h;refine zP (Jky  r1 h1) (w1 n0 (ep 1 X1) ?_);intro r2 r3 h3 h;refine zP (Jiw  r3 h3) ?_;refine w6 r2.1.Routes (ep 5 (.e (.o 3 3 42 0 (.b 1 5 48 (.g 0 .z (.l 2 .z)) (.b 1 5 54 (.g 0 .z .s) (.b 1 7 62 (.g 0 .z (.i 2 .z)) (.b 1 7 70 (.g 0 .z (.i 2 .z)) (ec z1 (ep 7 (ep 7 (ep 2 (ep 1 s1)))))))))))) ?_ ?_ t0 t0 t0 t0
 ·intro r4 _ _ h;exact yl 2 r4.1.Tracks (w1 n0 .z t0)
 intro _ _ _ _ _ r11 r12 r13 _ h;refine yl 1 r11.2 ?_;refine w6 r12.2 (.b 2 4 113 (.g 0 .z (.l 1 .z)) (.b 1 5 119 (.g 0 .z .s) (.b 1 5 125 (.g 0 .z .s) (.b 1 5 131 (.g 0 .z .s) (.b 1 8 140 (.g 0 .z (.i 2 .s)) (ec z1 (.i 1 (.b 4 7 153 (.g 0 (.i 1 .z) .z) (.b 1 6 160 (.g 0 (.i 1 .z) .z) (.b 1 7 168 (.g 0 (.i 1 .z) .z) (.b 1 7 176 (.g 0 (.i 2 .z) .z) (.o 1 3 180 0 (.b 1 7 188 (.g 0 (.i 2 .z) .z) (.o 1 3 192 1 (.o 1 4 197 0 z1))))))))))))))) ?_ ?_ ?_ ?_ t0 t0
 ·intro _ _ h;exact yl 2 r11.1.Tracks (w1 n0 .z t0)
 ·intro _ _ _ h;exact yl 2 r12.1.Tracks (w1 n0 .z t0)
 ·intro _ _ _ _ h;exact yl 2 r13.1.Tracks (w1 n0 .z t0)
 intro _ _ _ _ _ x20 h;refine yl 2 x20.Routes ?_;exact w1 n0 .z t0⟩
def Zb(a0:Int)(a1:Int)(a2:Int):Option Bool :=
 some ((decide (a1<=a0))&&(decide (a0<=a2)))
instance (a0:Int)(a1:Int)(a2:Int):Cp (Zb a0 a1 a2) 89 [Enc.pv a0,Enc.pv a1,Enc.pv a2] Enc.pv:=⟨fun r h=>by
 unfold Zb at h;refine zG f89 ?_;exact w1 n0 (.e (.o 4 4 14 0 z1)) t0⟩
def Ew(a0:Jr):Option Int :=
 (Gz a0.Name).bind fun r1=>
 bif (!r1) then (
  some 3
 ) else (
  (Zb a0.Id 1 99).bind fun r2=>
  ((bif (!r2) then some true else (
   (Zb a0.Length 1 50000).bind fun r4=>
   some (!r4)
  ))).bind fun b3=>
  ((bif b3 then some true else (
   (Zb a0.Speed 1 10000).bind fun r6=>
   some (!r6)
  ))).bind fun b5=>
  ((bif b5 then some true else (
   (Zb a0.Accel 1 200).bind fun r8=>
   some (!r8)
  ))).bind fun b7=>
  ((bif b7 then some true else (
   (Zb a0.Service 1 200).bind fun r10=>
   some (!r10)
  ))).bind fun b9=>
  bif b9 then (
   some 1
  ) else (
   (Zb a0.Emergency a0.Service 200).bind fun r11=>
   ((bif (!r11) then some true else (
    (Zb a0.Delay 0 5).bind fun r13=>
    some (!r13)
   ))).bind fun b12=>
   ((bif b12 then some true else (
    (Zb a0.Const 0 500).bind fun r15=>
    some (!r15)
   ))).bind fun b14=>
   ((bif b14 then some true else (
    (Zb a0.Rate 0 100).bind fun r17=>
    some (!r17)
   ))).bind fun b16=>
   bif b16 then (
    some 1
   ) else (
    some 0
   )
  )
 )
instance (a0:Jr):Cp (Ew a0) 38 [Enc.pv a0] Enc.pv:=⟨fun r h=>by
 unfold Ew at h;refine zG f38 ?_;exact w1 n0 (ep 2 (ec z1 (.p 2 (.b 2 5 16 (.g 0 .z (.p 2 .z)) (.b 1 5 22 (.g 0 .z (.p 2 .z)) (.b 1 5 28 (.g 0 .z (.p 2 .z)) (.b 1 5 34 (.g 0 .z (.p 2 .z)) (ec z1 (.p 4 (.b 2 5 46 (.g 0 .z (.p 2 .z)) (.b 1 5 52 (.g 0 .z (.p 2 .z)) (.b 1 5 58 (.g 0 .z (.p 2 .z)) (ec z1 z1))))))))))))) t0⟩
end
end PM
