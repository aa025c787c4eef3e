/-
 Plain functions for the program's functions, and the proofs that the program does them. Printed by den.py.
-/
import Derived.Test.YtfpoeepcomnjhaaGreatDoorDen5
namespace PM
noncomputable section
open Go Go.RowKit Go.Proofs
attribute [local irreducible] Jv pwp
def Dg (a0:Jl) (a1:Kn) (a2:Int):Option (Jl×Kn) :=
 onInl (α:=Int) (β:=(Jl×Kn)) (
  bif decide (a0.Out<1073741824) then (
   some (.inl (w64 (a0.Out+1)))
  ) else (
   some (.inl a0.Out)
  )
 ) fun x1 =>
 (Ux a1.Auth.Profile).bind fun r2 =>
 (Vd a1.Auth.Links).bind fun r3 =>
 some ((Jl.mk a0.Peer x1 a0.In a0.Heard),(Kn.mk a1.Kind a1.From a0.Peer x1 a2 (Qd.mk a1.Auth.Seq a1.Auth.End r2 r3) a1.Report))
instance Kah (a0:Jl) (a1:Kn) (a2:Int):Ct Tryz.prog GlS (Dg a0 a1 a2) 45 [Enc.pv a0,Enc.pv a1,Enc.pv a2] (fun r=>.tup [Enc.pv r.1,Enc.pv r.2]):=⟨fun r h=>by
 unfold Dg at h;refine zC Tryz.func45 Tryz.ntmps45 ?_;refine w1 n0 (.e .S) ?_;intro h;refine Jo ?_;refine yJ 37 (fun x1=>⟨[(2,I6 a2),(3,.ref 3 0),(4,.ref 4 0),(6,.ref 6 0),(7,.ref 7 0)],[(3,.cells ([I6 a0.Peer,I6 x1,I6 a0.In,I6 a0.Heard])),(4,.cells (cellsOf a1)),(6,.cells ([I6 0,I6 0,I6 0,I6 0])),(7,.cells ([I6 0,I6 0,I6 0,I6 0,I6 0,I6 0,I6 0,.nil,.nil,I6 0,I6 0,I6 0,I6 0,.bool false]))],[],[]⟩) h ?_ ?_
 ·intro _ h;exact w1 n0 (.e (.c (.e .z) .z)) t0
 intro x1 h;refine Kj ?_;refine Jje 37 ⟨[(3,.ref 3 0),(4,.ref 4 0),(6,.ref 6 0),(7,.ref 7 0)],[(3,.cells ([I6 a0.Peer,I6 x1,I6 a0.In,I6 a0.Heard])),(4,.cells ([I6 a1.Kind,I6 a1.From,I6 a0.Peer,I6 x1,I6 a2,I6 a1.Auth.Seq,I6 a1.Auth.End,Jh .frozen a1.Auth.Profile,Jh .frozen a1.Auth.Links,I6 a1.Report.Min,I6 a1.Report.Speed,I6 a1.Report.Mode,I6 a1.Report.Accepted,.bool a1.Report.Whole])),(6,.cells ([I6 0,I6 0,I6 0,I6 0])),(7,.cells ([I6 0,I6 0,I6 0,I6 0,I6 0,I6 0,I6 0,.nil,.nil,I6 0,I6 0,I6 0,I6 0,.bool false]))],[],[]⟩ kr ?_ ?_
 ·refine Yu [0,1,2,4,5] 6 kr (zR 5 (Ke kr ?_));refine Mc (n:=5) [3,6] kr ⟨?_, ?_,trivial⟩
  ·exact ⟨_,rfl,(zR 1 (Ke kr (Yu [6,7,8,9,10] 0 kr (zR 5 (Ke kr (Yx kr (.of kr kr)))))))⟩
  exact ⟨_,rfl,(zR 1 (Ke kr (Yu [3,7,8,9,10] 0 kr (zR 5 (Ke kr (Yx kr (.of kr kr)))))))⟩
 refine w1 n0 (.p 3 (.e (.p 3 (.e .S)))) ?_;intro r2 r3 h;refine Jo (Kj ?_);refine Kea 37 ⟨[(6,.ref 6 0),(7,.ref 7 0)],[(6,.cells ([I6 a0.Peer,I6 x1,I6 a0.In,I6 a0.Heard])),(7,.cells ([I6 a1.Kind,I6 a1.From,I6 a0.Peer,I6 x1,I6 a2,I6 a1.Auth.Seq,I6 a1.Auth.End,Jh .frozen r2,Jh .frozen r3,I6 a1.Report.Min,I6 a1.Report.Speed,I6 a1.Report.Mode,I6 a1.Report.Accepted,.bool a1.Report.Whole]))],[],[]⟩ kr ?_ ?_
 ·refine Uy [0,1] kr ⟨?_, ?_,trivial⟩
  ·refine ⟨_,rfl,(zR 1 (Er ?_))⟩;refine Uy [1,2] kr ⟨?_, ?_,trivial⟩
   ·refine ⟨_,rfl,(zR 1 (Er ?_))⟩;refine Uy [2] kr ⟨?_,trivial⟩;refine ⟨_,rfl,(zR 1 (Er ?_))⟩;refine Uy [3] kr ⟨?_,trivial⟩;exact ⟨_,rfl,(zR 1 (Er (Tp kr (.of kr kr))))⟩
   refine ⟨_,rfl,(zR 1 (Er ?_))⟩;refine Uy [1] kr ⟨?_,trivial⟩;refine ⟨_,rfl,(zR 1 (Er ?_))⟩;refine Uy [3] kr ⟨?_,trivial⟩;exact ⟨_,rfl,(zR 1 (Er (Tp kr (.of kr kr))))⟩
  refine ⟨_,rfl,(zR 1 (Er ?_))⟩;refine Uy [0] kr ⟨?_,trivial⟩;refine ⟨_,rfl,(zR 1 (Er ?_))⟩;refine Uy [2] kr ⟨?_,trivial⟩;refine ⟨_,rfl,(zR 1 (Er ?_))⟩;refine Uy [3] kr ⟨?_,trivial⟩;exact ⟨_,rfl,(zR 1 (Er (Tp kr (.of kr kr))))⟩
 exact w1 n0 .z t0⟩
def Uk (a0:(List Jl)):Option (List Jl) :=
 (Uq ([]:(List Jl)) a0).bind fun x1 =>
 some x1
theorem De (a0:(List Jl)) (r:(List Jl)) (h:Uk a0=some r):Jnd Tryz.prog GlS 92 [Enc.pv a0] 4 32 (r.map cellsOf):=by
 unfold Uk at h;refine Jbk Tryz.func92 (by rfl) rfl Tryz.ntmps92 (by rfl) rfl ?_;refine w1 n0 (.e (.e .S)) ?_;intro h;refine Jo ?_;refine Tq (e:=(a0.map cellsOf).isEmpty) kr (fun hub=>?_) ?_
 ·have hN:=Tx (Jjc hub) h;refine w1 n0 (.e .S) ?_;intro h;refine Jo (Qx (Jhd 2 100002 4 32 kr kr) (Wf (Za ?_)));have hq:=Option.some.inj hN;subst hq;exact Jl6 100002 (((([]:(List Jl)):(List Jl)).map cellsOf).length) kr
 obtain ⟨x1,h1,h⟩:=Ka h;refine Ve (Jo (Kj (Wj (zR 2 (Jz0 (tk:=7) (x:=.lst .full 4 32 []) h1 (.inr ⟨_,_,rfl⟩) kr kr (w1 n0 (.e .S) ?_))))));intro h;refine Jo (Wf ?_);have hq:=Option.some.inj h;subst hq;exact Jl6 7 ((x1.map cellsOf).length) kr
def Jf2 (a4:Jn) (x33:(List Jg)):(Int×(List Jg))->Option ((Int×(List Jg))⊕((List Jg)⊕((List Jg)×Nat×(List Jl)))):=fun (x42,x43) =>
 bif decide (x42<((a4.Tracks.length:Nat):Int)) then (
  (ixO a4.Tracks x42).bind fun x53 =>
  (Kz x53.Steps).bind fun r54 =>
  (Jy x53.Routes).bind fun r55 =>
  (Jy x53.Starts).bind fun r56 =>
  (Jy x53.Ends).bind fun r57 =>
  (Jy x53.Done).bind fun r58 =>
  (Wt 0 (((x33:(List Jg)).map cellsOf).length) x42).bind fun j59 =>
  (Vi x43 (((x33:(List Jg)).map cellsOf).length) j59).bind fun x60 =>
  some (.inl (w64 (x42+1),(x43.set j59 (Jg.mk x53.Id x53.Origin x53.End x53.At r54 r55 r56 r57 r58 x53.Min x53.Sent x53.Accepted x53.Cut x53.CutSeq))))
 ) else (
  some (.inr (.inl x43))
 )
def Rd (a0:Ja) (a1:Jx) (a2:Kd) (x31:Nat) (x264:Int):(List Jg)->Option ((List Jg)⊕((List Jg)⊕(List Jg))):=fun x430 =>
 (Wt 0 x31 x264).bind fun j445 =>
 (Vi x430 x31 j445).bind fun x446 =>
 ((bif decide (x446.CutSeq=0) then (
  (Wt 0 x31 x264).bind fun j448 =>
  (Vi x430 x31 j448).bind fun x449 =>
  some (!(decide (x449.End=(-1))))
 ) else some false):Option Bool).bind fun b447 =>
 bif b447 then (
  (Wt 0 x31 x264).bind fun j450 =>
  (Vi x430 x31 j450).bind fun x451 =>
  (Rw a1 a2 x430 x451.End).bind fun r452 =>
  bif decide (r452<0) then (
   some (.inr (.inr x430))
  ) else (
   (Wt 0 x31 x264).bind fun j453 =>
   (Vi x430 x31 j453).bind fun x454 =>
   (Ei a0 a1 x454 r452).bind fun r455 =>
   bif (!(decide (r455.2=0))) then (
    some (.inr (.inr x430))
   ) else (
    (Wt 0 x31 x264).bind fun j456 =>
    (Vi x430 x31 j456).bind fun x457 =>
    some (.inl (x430.set j456 r455.1))
   )
  )
 ) else (
  some (.inr (.inl x430))
 )
def Ir (a0:Ja) (a1:Jx) (a2:Kd) (a3:(List Jk)) (a5:Int) (x31:Nat) (x32:(List Jl)):(Int×(List Jg)×(List Jl)×(List Kn))->Option ((Int×(List Jg)×(List Jl)×(List Kn))⊕(((List Jg)×(List Jl)×(List Kn))⊕(Jn×(List Kn)))):=fun (x264,x265,x266,x267) =>
 bif decide (x264<((x31:Nat):Int)) then (
  (Wt 0 x31 x264).bind fun j370 =>
  (Vi x265 x31 j370).bind fun x371 =>
  (Ca x371 a2).bind fun r372 =>
  (Wt 0 x31 x264).bind fun j373 =>
  (Vi x265 x31 j373).bind fun x374 =>
  Option.bind (α:=(List Jg)) (
   onInl (Js (Rd a0 a1 a2 x31 x264) (x265.set j373 r372)) fun x444 =>
   some x444
  ) fun x416 =>
  (Wt 0 x31 x264).bind fun j458 =>
  (Vi x416 x31 j458).bind fun x459 =>
  (Se a0 a3 x459).bind fun r460 =>
  (Wt 0 x31 x264).bind fun j461 =>
  (Vi x416 x31 j461).bind fun x462 =>
  (Wt 0 (((x32:(List Jl)).map cellsOf).length) x264).bind fun j463 =>
  (Vi x266 (((x32:(List Jl)).map cellsOf).length) j463).bind fun x464 =>
  (Dg x464 r460.2 a5).bind fun r465 =>
  (Wt 0 (((x32:(List Jl)).map cellsOf).length) x264).bind fun j466 =>
  (Vi x266 (((x32:(List Jl)).map cellsOf).length) j466).bind fun x467 =>
  (Uq x267 [r465.2]).bind fun x468 =>
  some (.inl (w64 (x264+1),(x416.set j461 r460.1),(x266.set j466 r465.1),x468))
 ) else (
  some (.inr (.inl (x265,x266,x267)))
 )
def Gu (a0:Ja) (a1:Jx) (a2:Kd) (a3:(List Jk)) (a4:Jn) (a5:Int):Option (Jn×(List Kn)) :=
 Option.bind (α:=((List Jg)×Nat×(List Jl))) (
  (Jxn ((a4.Tracks.length:Nat):Int) ((a4.Tracks.length:Nat):Int) 192 ((Jg.mk 0 0 0 0 [] [] [] [] [] 0 0 0 0 0):Jg)).bind fun x33 =>
  onInl (Js (Jf2 a4 x33) (0,x33)) fun x52 =>
  (Uk a4.Sessions).bind fun r61 =>
  some (x52,((x33:(List Jg)).map cellsOf).length,r61)
 ) fun (x30,x31,x32) =>
 (Cy (Jn.mk x30 x32)).bind fun r62 =>
 bif (!r62) then (
  some ((Jn.mk x30 x32),([]:(List Kn)))
 ) else (
  onInl (Js (Ir a0 a1 a2 a3 a5 x31 x32) (0,x30,x32,[])) fun (x367,x368,x369) =>
  some ((Jn.mk x367 x368),x369)
 )
set_option maxRecDepth 100000 in
instance Kep (a0:Ja) (a1:Jx) (a2:Kd) (a3:(List Jk)) (a4:Jn) (a5:Int):Ct Tryz.prog GlS (Gu a0 a1 a2 a3 a4 a5) 14 [Enc.pv a0,Enc.pv a1,Enc.pv a2,Enc.pv a3,Enc.pv a4,Enc.pv a5] (fun r=>.tup [Enc.pv r.1,Jh (.own 100014) r.2]):=⟨fun r h=>by
 unfold Gu at h;refine zC Tryz.func14 Tryz.ntmps14 ?_;refine w1 n0 (.e .S) ?_;intro h;refine Jo (Kj (Jiw (So 0 1 (w1 n0 (.e .S) ?_))));intro h;refine Fq 1 ⟨[(3,Jh .frozen a3),(5,I6 a5),(6,.ref 1006 0),(7,.ref 1007 0),(8,.ref 1008 0),(10,.ref 1010 0),(12,.ref 1012 0),(18,Enc.pv a4)],[(1006,.cells (cellsOf a0)),(1007,.cells (cellsOf a1)),(1008,.cells (cellsOf a2)),(1010,.cells (cellsOf a4)),(1012,.cells ([.nil,.nil]))],[],[]⟩ 86 kr kr kr ?_;obtain ⟨o29,h29,h⟩:=Ka h;refine Jqg (f:=40) (asx:=[Enc.pv a4]) kr Tryz.func40 (by rfl) rfl Tryz.ntmps40 (by rfl) ?_;refine Je8 o29 8600136 (fun (x30,x31,x32)=>⟨[(2,.ref 2 0),(53,Jh .frozen a3),(55,I6 a5),(56,.ref 1006 0),(57,.ref 1007 0),(58,.ref 1008 0),(60,.ref 1010 0),(62,.ref 1012 0)],[(2,.cells ([.ex 9 14 192 x31 0 x31,.ex 47 4 32 ((x32.map cellsOf).length) 0 ((x32.map cellsOf).length)])),(1006,.cells (cellsOf a0)),(1007,.cells (cellsOf a1)),(1008,.cells (cellsOf a2)),(1010,.cells (cellsOf a4)),(1012,.cells ([.nil,.nil]))],[(9,(x31,0)),(47,((x32.map cellsOf).length,0))],[(9,(14,(192,x30.map cellsOf))),(47,(4,(32,x32.map cellsOf)))]⟩) ?_ ?_
 ·have h:=h29;refine w1 a4.Tracks (.e (.l 2 .x)) ?_;intro x33 h30 h;refine Kf9 (z:=((Jg.mk 0 0 0 0 [] [] [] [] [] 0 0 0 0 0):Jg)) 9 h30 kr kr (w1 a4.Tracks (.e (.l 2 (.e .s))) ?_);intro h;refine yM 8600136 0 [13] (fun (x42,x43)=>⟨[(1,.ref 1 0),(2,.ref 2 0),(3,.ex 9 14 192 ((x33.map cellsOf).length) 0 ((x33.map cellsOf).length)),(11,Jh .frozen a4.Tracks),(12,I6 ((a4.Tracks.length:Nat):Int)),(13,I6 x42),(53,Jh .frozen a3),(55,I6 a5),(56,.ref 1006 0),(57,.ref 1007 0),(58,.ref 1008 0),(60,.ref 1010 0),(62,.ref 1012 0)],[(1,.cells (cellsOf a4)),(2,.cells ([.nil,.nil])),(1006,.cells (cellsOf a0)),(1007,.cells (cellsOf a1)),(1008,.cells (cellsOf a2)),(1010,.cells (cellsOf a4)),(1012,.cells ([.nil,.nil]))],[(9,((x33.map cellsOf).length,0))],[(9,(14,(192,x43.map cellsOf)))]⟩) h ?_ ?_
  ·rintro ⟨x42,x43⟩ _ h;unfold Jf2 at h;refine w1 n0 (.e (.c (.i 1 (.e (.p 2 (.e (.p 2 (.e (.p 2 (.e (.p 2 (.e (.p 2 (.e .x)))))))))))) .z)) ?_;intro x53 r54 r55 r56 r57 r58 j59 h55 h;refine zR 3 (Uz (tk:=9) (k:=14) (N:=(x33.map cellsOf).length) h55 kr ?_);obtain ⟨x60,h56,h⟩:=Ka h;exact Ox (L:=x43) (tk:=9) (N:=(x33.map cellsOf).length) (j:=j59) (y:=x60) (y':=(Jg.mk x53.Id x53.Origin x53.End x53.At r54 r55 r56 r57 r58 x53.Min x53.Sent x53.Accepted x53.Cut x53.CutSeq)) h56 0 14 [I6 x53.Id,I6 x53.Origin,I6 x53.End,I6 x53.At,Jh .frozen r54,Jh .frozen r55,Jh .frozen r56,Jh .frozen r57,Jh .frozen r58,I6 x53.Min,I6 x53.Sent,I6 x53.Accepted,I6 x53.Cut,I6 x53.CutSeq] kr kr (w1 n0 (.e (.e .z)) t0)
  intro x52 s' h hs;refine w1 n0 (.e .x) ?_;intro r61 h57 h;refine zR 2 (Jla (α:=Jl) 47 (De _ r61 h57) kr kr (w1 n0 (.e (.e .s)) ?_));intro h;cases h;exact Jx5 kr kr
 obtain ⟨x30,x31,x32⟩:=o29;refine Jp8 (r:=.agg [.ex 9 14 192 x31 0 x31,.ex 47 4 32 ((x32.map cellsOf).length) 0 ((x32.map cellsOf).length)]) kr (Fq 2 ⟨[(3,Jh .frozen a3),(5,I6 a5),(6,.ref 1006 0),(7,.ref 1007 0),(8,.ref 1008 0),(10,.ref 1010 0),(12,.ref 1012 0),(19,.agg [.ex 2000009 14 192 x31 0 x31,.ex 2000047 4 32 ((x32.map cellsOf).length) 0 ((x32.map cellsOf).length)])],[(1006,.cells (cellsOf a0)),(1007,.cells (cellsOf a1)),(1008,.cells (cellsOf a2)),(1010,.cells (cellsOf a4)),(1012,.cells ([.nil,.nil]))],[(2000009,(x31,0)),(2000047,((x32.map cellsOf).length,0))],[(2000009,(14,(192,x30.map cellsOf))),(2000047,(4,(32,x32.map cellsOf)))]⟩ 86 kr kr kr ?_);refine Fq 1 ⟨[(3,Jh .frozen a3),(5,I6 a5),(6,.ref 6 0),(7,.ref 7 0),(8,.ref 8 0),(10,.ref 10 0),(12,.ref 12 0),(19,.agg [.ex 2000009 14 192 x31 0 x31,.ex 2000047 4 32 ((x32.map cellsOf).length) 0 ((x32.map cellsOf).length)])],[(6,.cells (cellsOf a0)),(7,.cells (cellsOf a1)),(8,.cells (cellsOf a2)),(10,.cells (cellsOf a4)),(12,.cells ([.nil,.nil]))],[(2000009,(x31,0)),(2000047,((x32.map cellsOf).length,0))],[(2000009,(14,(192,x30.map cellsOf))),(2000047,(4,(32,x32.map cellsOf)))]⟩ 86 kr kr kr (So 2 1 (w1 n0 (.e .S) ?_));intro h;refine Jid (Jo (Kj (Kj (Wj ?_))));obtain ⟨r62,h58,h⟩:=Ka h;refine zR 1 (Fv [2000009,2000047] ((Jgz _).ok r62 h58) kr kr kr ?_);refine w6 n0 (.e (.c (.e .S) (.e (.e .S)))) ?_ ?_ t0 t0 t0 t0
 ·intro h;exact Jo (Qx (Hv (xss:=x30.map cellsOf) 2000009 14 192 x31 [] [(10,0),(12,0)] kr kr kr kr) (Qx (Hv (xss:=x32.map cellsOf) 2000047 4 32 ((x32.map cellsOf).length) [] [(10,1),(12,1)] kr kr kr kr) (Zh 13 100014 14 144 kr kr (w1 n0 .z t0))))
 intro h;refine Jo (Kq (Zh 14 100014 14 144 kr kr ?_));refine yM 86 0 [27] (fun (x264,x265,x266,x267)=>⟨[(3,Jh .frozen a3),(5,I6 a5),(6,.ref 6 0),(7,.ref 7 0),(8,.ref 8 0),(10,.ref 10 0),(12,.ref 12 0),(14,Jh (.own 100014) x267),(26,I6 ((x31:Nat):Int)),(27,I6 x264)],[(6,.cells (cellsOf a0)),(7,.cells (cellsOf a1)),(8,.cells (cellsOf a2)),(10,.cells ([.ex 2000009 14 192 x31 0 x31,.ex 2000047 4 32 ((x32.map cellsOf).length) 0 ((x32.map cellsOf).length)])),(12,.cells ([.nil,.nil]))],[(100014,(((x267).map cellsOf).length,14)),(2000009,(x31,0)),(2000047,((x32.map cellsOf).length,0))],[(2000009,(14,(192,x265.map cellsOf))),(2000047,(4,(32,x266.map cellsOf)))]⟩) h ?_ ?_
 ·rintro ⟨x264,x265,x266,x267⟩ _ h;unfold Ir at h;refine w1 n0 (.e (.c (.e .x) .z)) ?_;intro j370 h394 h;refine zR 6 (Uz (tk:=2000009) (k:=14) (N:=x31) h394 kr ?_);obtain ⟨x371,h395,h⟩:=Ka h;refine Vw (L:=x265) (N:=x31) (j:=j370) (y:=x371) (v:=Enc.pv x371) h395 true 14 0 kr kr (w1 n0 (.p 1 .x) ?_);intro r372 j373 h397 h;refine Uz (tk:=2000009) (k:=14) (N:=x31) h397 kr ?_;obtain ⟨x374,h398,h⟩:=Ka h;refine Ox (L:=x265) (tk:=2000009) (N:=x31) (j:=j373) (y:=x374) (y':=r372) h398 0 14 [I6 r372.Id,I6 r372.Origin,I6 r372.End,I6 r372.At,Jh .frozen r372.Steps,Jh .frozen r372.Routes,Jh .frozen r372.Starts,Jh .frozen r372.Ends,Jh .frozen r372.Done,I6 r372.Min,I6 r372.Sent,I6 r372.Accepted,I6 r372.Cut,I6 r372.CutSeq] kr kr (w1 n0 (.e .S) ?_);intro h;refine Jo (Kj (Jiw (So 0 6 (w1 n0 (.e .S) ?_))));intro h;refine Fq 3 ⟨[(3,Jh .frozen a3),(5,I6 a5),(6,.ref 3006 0),(7,.ref 3007 0),(8,.ref 3008 0),(10,.ref 3010 0),(12,.ref 3012 0),(14,Jh (.own 3100014) x267),(15,I6 x264),(26,I6 ((x31:Nat):Int)),(27,I6 x264),(41,Enc.pv a0),(42,Enc.pv a1),(43,Enc.pv a2),(45,.ex 2000009 14 192 x31 0 x31),(46,I6 x264)],[(3006,.cells (cellsOf a0)),(3007,.cells (cellsOf a1)),(3008,.cells (cellsOf a2)),(3010,.cells ([.ex 2000009 14 192 x31 0 x31,.ex 2000047 4 32 ((x32.map cellsOf).length) 0 ((x32.map cellsOf).length)])),(3012,.cells ([.nil,.nil]))],[(3100014,(((x267).map cellsOf).length,14)),(2000009,(x31,0)),(2000047,((x32.map cellsOf).length,0))],[(2000009,(14,(192,((x265.set j373 r372):(List Jg)).map cellsOf))),(2000047,(4,(32,x266.map cellsOf)))]⟩ 86 kr kr kr ?_;obtain ⟨o446,h446,h⟩:=Ka h;refine Jqg (f:=43) (asx:=[Enc.pv a0,Enc.pv a1,Enc.pv a2,.ex 2000009 14 192 x31 0 x31,I6 x264]) kr Tryz.func43 (by rfl) rfl Tryz.ntmps43 (by rfl) ?_;refine Je8 o446 8600141 (fun x416=>⟨[(58,Jh .frozen a3),(60,I6 a5),(61,.ref 3006 0),(62,.ref 3007 0),(63,.ref 3008 0),(65,.ref 3010 0),(67,.ref 3012 0),(69,Jh (.own 3100014) x267),(70,I6 x264),(81,I6 ((x31:Nat):Int)),(82,I6 x264)],[(3006,.cells (cellsOf a0)),(3007,.cells (cellsOf a1)),(3008,.cells (cellsOf a2)),(3010,.cells ([.ex 2000009 14 192 x31 0 x31,.ex 2000047 4 32 ((x32.map cellsOf).length) 0 ((x32.map cellsOf).length)])),(3012,.cells ([.nil,.nil]))],[(3100014,(((x267).map cellsOf).length,14)),(2000009,(x31,0)),(2000047,((x32.map cellsOf).length,0))],[(2000009,(14,(192,x416.map cellsOf))),(2000047,(4,(32,x266.map cellsOf)))]⟩) ?_ ?_
  ·have h:=h446;refine w1 n0 (.e .s) ?_;intro h;refine yK 8600141 0 [] (fun x430=>⟨[(3,.ex 2000009 14 192 x31 0 x31),(4,I6 x264),(5,.ref 5 0),(6,.ref 6 0),(7,.ref 7 0),(58,Jh .frozen a3),(60,I6 a5),(61,.ref 3006 0),(62,.ref 3007 0),(63,.ref 3008 0),(65,.ref 3010 0),(67,.ref 3012 0),(69,Jh (.own 3100014) x267),(70,I6 x264),(81,I6 ((x31:Nat):Int)),(82,I6 x264)],[(5,.cells (cellsOf a0)),(6,.cells (cellsOf a1)),(7,.cells (cellsOf a2)),(3006,.cells (cellsOf a0)),(3007,.cells (cellsOf a1)),(3008,.cells (cellsOf a2)),(3010,.cells ([.ex 2000009 14 192 x31 0 x31,.ex 2000047 4 32 ((x32.map cellsOf).length) 0 ((x32.map cellsOf).length)])),(3012,.cells ([.nil,.nil]))],[(3100014,(((x267).map cellsOf).length,14)),(2000009,(x31,0)),(2000047,((x32.map cellsOf).length,0))],[(2000009,(14,(192,x430.map cellsOf))),(2000047,(4,(32,x266.map cellsOf)))]⟩) h ?_ ?_
   ·intro x430 _ h;unfold Rd at h;obtain ⟨j445,h479,h⟩:=Ka h;refine Kj (Kj (Wj (zR 2 (Uz (tk:=2000009) (k:=14) (N:=x31) h479 kr ?_))));obtain ⟨x446,h480,h⟩:=Ka h;refine zR 1 (Vw (L:=x430) (N:=x31) (j:=j445) (y:=x446) (v:=I6 x446.CutSeq) h480 false 1 13 kr kr ?_);refine w6 n0 (.b 2 7 26 (.g 0 .x .z) (.e (.c .S .z))) ?_ ?_ t0 t0 t0 t0
    ·intro _ j448 h482 h;refine zR 2 (Uz (tk:=2000009) (k:=14) (N:=x31) h482 kr ?_);obtain ⟨x449,h483,h⟩:=Ka h;exact zR 1 (Vw (L:=x430) (N:=x31) (j:=j448) (y:=x449) (v:=I6 x449.End) h483 false 1 2 kr kr (w1 n0 .z t0))
    intro _ h;obtain ⟨j450,h484,h⟩:=Ka h;refine Ve (Jo (Kq (Kj ?_)));obtain ⟨x451,h485,h⟩:=Ka h;obtain ⟨r452,h486,h⟩:=Ka h;refine Kl1 8600141 ⟨[(3,.ex 2000009 14 192 x31 0 x31),(4,I6 x264),(5,.ref 5 0),(6,.ref 6 0),(7,.ref 7 0),(10,I6 r452),(58,Jh .frozen a3),(60,I6 a5),(61,.ref 3006 0),(62,.ref 3007 0),(63,.ref 3008 0),(65,.ref 3010 0),(67,.ref 3012 0),(69,Jh (.own 3100014) x267),(70,I6 x264),(81,I6 ((x31:Nat):Int)),(82,I6 x264)],[(5,.cells (cellsOf a0)),(6,.cells (cellsOf a1)),(7,.cells (cellsOf a2)),(3006,.cells (cellsOf a0)),(3007,.cells (cellsOf a1)),(3008,.cells (cellsOf a2)),(3010,.cells ([.ex 2000009 14 192 x31 0 x31,.ex 2000047 4 32 ((x32.map cellsOf).length) 0 ((x32.map cellsOf).length)])),(3012,.cells ([.nil,.nil]))],[(3100014,(((x267).map cellsOf).length,14)),(2000009,(x31,0)),(2000047,((x32.map cellsOf).length,0))],[(2000009,(14,(192,x430.map cellsOf))),(2000047,(4,(32,x266.map cellsOf)))]⟩ kr ?_ ?_
    ·refine Yj [2,3,4] 7 kr ?_;refine Um (n:=6) [0,1,5] kr ⟨?_, ?_, ?_,trivial⟩
     ·refine ⟨_,rfl,(zR 1 (Ke kr ?_))⟩;refine Um (n:=5) [1,5] kr ⟨?_, ?_,trivial⟩
      ·refine ⟨_,rfl,(zR 1 (Ke kr ?_))⟩;refine Um (n:=4) [5] kr ⟨?_,trivial⟩;refine ⟨_,rfl,(Uz (tk:=2000009) (k:=14) (N:=x31) h484 kr (Ke kr (Yj [6] 3 kr ?_)))⟩;refine Um (n:=2) [7] kr ⟨?_,trivial⟩;refine ⟨_,rfl,(Vw (L:=x430) (N:=x31) (j:=j450) (y:=x451) (v:=I6 x451.End) h485 false 1 2 kr kr (Ke kr ?_))⟩;refine Um (n:=1) [8] kr ⟨?_,trivial⟩;exact ⟨_,rfl,(Fv [2000009] ((Uw _ _ _ _).ok r452 h486) kr kr kr (Ke kr (Yj [9] 0 kr (Me kr (.of kr kr)))))⟩
      refine ⟨_,rfl,(Uz (tk:=2000009) (k:=14) (N:=x31) h484 kr (Ke kr (Yj [6] 4 kr ?_)))⟩;refine Um (n:=3) [1,7] kr ⟨?_, ?_,trivial⟩
      ·refine ⟨_,rfl,(zR 1 (Ke kr ?_))⟩;refine Um (n:=2) [7] kr ⟨?_,trivial⟩;refine ⟨_,rfl,(Vw (L:=x430) (N:=x31) (j:=j450) (y:=x451) (v:=I6 x451.End) h485 false 1 2 kr kr (Ke kr ?_))⟩;refine Um (n:=1) [8] kr ⟨?_,trivial⟩;exact ⟨_,rfl,(Fv [2000009] ((Uw _ _ _ _).ok r452 h486) kr kr kr (Ke kr (Yj [9] 0 kr (Me kr (.of kr kr)))))⟩
      refine ⟨_,rfl,(Vw (L:=x430) (N:=x31) (j:=j450) (y:=x451) (v:=I6 x451.End) h485 false 1 2 kr kr (Ke kr ?_))⟩;refine Um (n:=2) [1] kr ⟨?_,trivial⟩;refine ⟨_,rfl,(zR 1 (Ke kr ?_))⟩;refine Um (n:=1) [8] kr ⟨?_,trivial⟩;exact ⟨_,rfl,(Fv [2000009] ((Uw _ _ _ _).ok r452 h486) kr kr kr (Ke kr (Yj [9] 0 kr (Me kr (.of kr kr)))))⟩
     ·refine ⟨_,rfl,(zR 1 (Ke kr ?_))⟩;refine Um (n:=5) [0,5] kr ⟨?_, ?_,trivial⟩
      ·refine ⟨_,rfl,(zR 1 (Ke kr ?_))⟩;refine Um (n:=4) [5] kr ⟨?_,trivial⟩;refine ⟨_,rfl,(Uz (tk:=2000009) (k:=14) (N:=x31) h484 kr (Ke kr (Yj [6] 3 kr ?_)))⟩;refine Um (n:=2) [7] kr ⟨?_,trivial⟩;refine ⟨_,rfl,(Vw (L:=x430) (N:=x31) (j:=j450) (y:=x451) (v:=I6 x451.End) h485 false 1 2 kr kr (Ke kr ?_))⟩;refine Um (n:=1) [8] kr ⟨?_,trivial⟩;exact ⟨_,rfl,(Fv [2000009] ((Uw _ _ _ _).ok r452 h486) kr kr kr (Ke kr (Yj [9] 0 kr (Me kr (.of kr kr)))))⟩
      refine ⟨_,rfl,(Uz (tk:=2000009) (k:=14) (N:=x31) h484 kr (Ke kr (Yj [6] 4 kr ?_)))⟩;refine Um (n:=3) [0,7] kr ⟨?_, ?_,trivial⟩
      ·refine ⟨_,rfl,(zR 1 (Ke kr ?_))⟩;refine Um (n:=2) [7] kr ⟨?_,trivial⟩;refine ⟨_,rfl,(Vw (L:=x430) (N:=x31) (j:=j450) (y:=x451) (v:=I6 x451.End) h485 false 1 2 kr kr (Ke kr ?_))⟩;refine Um (n:=1) [8] kr ⟨?_,trivial⟩;exact ⟨_,rfl,(Fv [2000009] ((Uw _ _ _ _).ok r452 h486) kr kr kr (Ke kr (Yj [9] 0 kr (Me kr (.of kr kr)))))⟩
      refine ⟨_,rfl,(Vw (L:=x430) (N:=x31) (j:=j450) (y:=x451) (v:=I6 x451.End) h485 false 1 2 kr kr (Ke kr ?_))⟩;refine Um (n:=2) [0] kr ⟨?_,trivial⟩;refine ⟨_,rfl,(zR 1 (Ke kr ?_))⟩;refine Um (n:=1) [8] kr ⟨?_,trivial⟩;exact ⟨_,rfl,(Fv [2000009] ((Uw _ _ _ _).ok r452 h486) kr kr kr (Ke kr (Yj [9] 0 kr (Me kr (.of kr kr)))))⟩
     refine ⟨_,rfl,(Uz (tk:=2000009) (k:=14) (N:=x31) h484 kr (Ke kr (Yj [6] 5 kr ?_)))⟩;refine Um (n:=4) [0,1,7] kr ⟨?_, ?_, ?_,trivial⟩
     ·refine ⟨_,rfl,(zR 1 (Ke kr ?_))⟩;refine Um (n:=3) [1,7] kr ⟨?_, ?_,trivial⟩
      ·refine ⟨_,rfl,(zR 1 (Ke kr ?_))⟩;refine Um (n:=2) [7] kr ⟨?_,trivial⟩;refine ⟨_,rfl,(Vw (L:=x430) (N:=x31) (j:=j450) (y:=x451) (v:=I6 x451.End) h485 false 1 2 kr kr (Ke kr ?_))⟩;refine Um (n:=1) [8] kr ⟨?_,trivial⟩;exact ⟨_,rfl,(Fv [2000009] ((Uw _ _ _ _).ok r452 h486) kr kr kr (Ke kr (Yj [9] 0 kr (Me kr (.of kr kr)))))⟩
      refine ⟨_,rfl,(Vw (L:=x430) (N:=x31) (j:=j450) (y:=x451) (v:=I6 x451.End) h485 false 1 2 kr kr (Ke kr ?_))⟩;refine Um (n:=2) [1] kr ⟨?_,trivial⟩;refine ⟨_,rfl,(zR 1 (Ke kr ?_))⟩;refine Um (n:=1) [8] kr ⟨?_,trivial⟩;exact ⟨_,rfl,(Fv [2000009] ((Uw _ _ _ _).ok r452 h486) kr kr kr (Ke kr (Yj [9] 0 kr (Me kr (.of kr kr)))))⟩
     ·refine ⟨_,rfl,(zR 1 (Ke kr ?_))⟩;refine Um (n:=3) [0,7] kr ⟨?_, ?_,trivial⟩
      ·refine ⟨_,rfl,(zR 1 (Ke kr ?_))⟩;refine Um (n:=2) [7] kr ⟨?_,trivial⟩;refine ⟨_,rfl,(Vw (L:=x430) (N:=x31) (j:=j450) (y:=x451) (v:=I6 x451.End) h485 false 1 2 kr kr (Ke kr ?_))⟩;refine Um (n:=1) [8] kr ⟨?_,trivial⟩;exact ⟨_,rfl,(Fv [2000009] ((Uw _ _ _ _).ok r452 h486) kr kr kr (Ke kr (Yj [9] 0 kr (Me kr (.of kr kr)))))⟩
      refine ⟨_,rfl,(Vw (L:=x430) (N:=x31) (j:=j450) (y:=x451) (v:=I6 x451.End) h485 false 1 2 kr kr (Ke kr ?_))⟩;refine Um (n:=2) [0] kr ⟨?_,trivial⟩;refine ⟨_,rfl,(zR 1 (Ke kr ?_))⟩;refine Um (n:=1) [8] kr ⟨?_,trivial⟩;exact ⟨_,rfl,(Fv [2000009] ((Uw _ _ _ _).ok r452 h486) kr kr kr (Ke kr (Yj [9] 0 kr (Me kr (.of kr kr)))))⟩
     refine ⟨_,rfl,(Vw (L:=x430) (N:=x31) (j:=j450) (y:=x451) (v:=I6 x451.End) h485 false 1 2 kr kr (Ke kr ?_))⟩;refine Um (n:=3) [0,1] kr ⟨?_, ?_,trivial⟩
     ·refine ⟨_,rfl,(zR 1 (Ke kr ?_))⟩;refine Um (n:=2) [1] kr ⟨?_,trivial⟩;refine ⟨_,rfl,(zR 1 (Ke kr ?_))⟩;refine Um (n:=1) [8] kr ⟨?_,trivial⟩;exact ⟨_,rfl,(Fv [2000009] ((Uw _ _ _ _).ok r452 h486) kr kr kr (Ke kr (Yj [9] 0 kr (Me kr (.of kr kr)))))⟩
     refine ⟨_,rfl,(zR 1 (Ke kr ?_))⟩;refine Um (n:=2) [0] kr ⟨?_,trivial⟩;refine ⟨_,rfl,(zR 1 (Ke kr ?_))⟩;refine Um (n:=1) [8] kr ⟨?_,trivial⟩;exact ⟨_,rfl,(Fv [2000009] ((Uw _ _ _ _).ok r452 h486) kr kr kr (Ke kr (Yj [9] 0 kr (Me kr (.of kr kr)))))⟩
    refine w6 n0 (.e (.c .s .x)) ?_ ?_ t0 t0 t0 t0
    ·intro h;cases h;exact Jx5 kr kr
    intro j453 h488 h;refine zR 4 (Uz (tk:=2000009) (k:=14) (N:=x31) h488 kr ?_);obtain ⟨x454,h489,h⟩:=Ka h;refine Vw (L:=x430) (N:=x31) (j:=j453) (y:=x454) (v:=Enc.pv x454) h489 true 14 0 kr kr ?_;refine w6 n0 (.p 1 (.e (.e (.c .s .x)))) ?_ ?_ t0 t0 t0 t0
    ·intro _ h;cases h;exact Jx5 kr kr
    intro r455 j456 h492 h;refine zR 3 (Uz (tk:=2000009) (k:=14) (N:=x31) h492 kr ?_);obtain ⟨x457,h493,h⟩:=Ka h;exact Ox (L:=x430) (tk:=2000009) (N:=x31) (j:=j456) (y:=x457) (y':=r455.1) h493 0 14 [I6 r455.1.Id,I6 r455.1.Origin,I6 r455.1.End,I6 r455.1.At,Jh .frozen r455.1.Steps,Jh .frozen r455.1.Routes,Jh .frozen r455.1.Starts,Jh .frozen r455.1.Ends,Jh .frozen r455.1.Done,I6 r455.1.Min,I6 r455.1.Sent,I6 r455.1.Accepted,I6 r455.1.Cut,I6 r455.1.CutSeq] kr kr (w1 n0 (.e .z) t0)
   intro x444 s' h hs;refine Ui ?_;cases h;exact Kis hs kr kr
  generalize o446=x416 at *;refine Jp8 (r:=.tup []) kr (Fq 4 ⟨[(3,Jh .frozen a3),(5,I6 a5),(6,.ref 3006 0),(7,.ref 3007 0),(8,.ref 3008 0),(10,.ref 3010 0),(12,.ref 3012 0),(14,Jh (.own 3100014) x267),(15,I6 x264),(26,I6 ((x31:Nat):Int)),(27,I6 x264)],[(3006,.cells (cellsOf a0)),(3007,.cells (cellsOf a1)),(3008,.cells (cellsOf a2)),(3010,.cells ([.ex 2000009 14 192 x31 0 x31,.ex 2000047 4 32 ((x32.map cellsOf).length) 0 ((x32.map cellsOf).length)])),(3012,.cells ([.nil,.nil]))],[(3100014,(((x267).map cellsOf).length,14)),(2000009,(x31,0)),(2000047,((x32.map cellsOf).length,0))],[(2000009,(14,(192,x416.map cellsOf))),(2000047,(4,(32,x266.map cellsOf)))]⟩ 86 kr kr kr ?_);refine Fq 3 ⟨[(3,Jh .frozen a3),(5,I6 a5),(6,.ref 6 0),(7,.ref 7 0),(8,.ref 8 0),(10,.ref 10 0),(12,.ref 12 0),(14,Jh (.own 100014) x267),(15,I6 x264),(26,I6 ((x31:Nat):Int)),(27,I6 x264)],[(6,.cells (cellsOf a0)),(7,.cells (cellsOf a1)),(8,.cells (cellsOf a2)),(10,.cells ([.ex 2000009 14 192 x31 0 x31,.ex 2000047 4 32 ((x32.map cellsOf).length) 0 ((x32.map cellsOf).length)])),(12,.cells ([.nil,.nil]))],[(100014,(((x267).map cellsOf).length,14)),(2000009,(x31,0)),(2000047,((x32.map cellsOf).length,0))],[(2000009,(14,(192,x416.map cellsOf))),(2000047,(4,(32,x266.map cellsOf)))]⟩ 86 kr kr kr (So 7 0 (w1 n0 (.e .S) ?_));intro h;refine Jid (Jo (Kj ?_));obtain ⟨j458,h494,h⟩:=Ka h;refine zD (zR 5 (Uz (tk:=2000009) (k:=14) (N:=x31) h494 kr ?_));obtain ⟨x459,h495,h⟩:=Ka h;refine Vw (L:=x416) (N:=x31) (j:=j458) (y:=x459) (v:=Enc.pv x459) h495 true 14 0 kr kr (w1 n0 (.p 0 (.e .x)) ?_);intro r460 j461 h497 h;refine zR 4 (Uz (tk:=2000009) (k:=14) (N:=x31) h497 kr ?_);obtain ⟨x462,h498,h⟩:=Ka h;refine Ox (L:=x416) (tk:=2000009) (N:=x31) (j:=j461) (y:=x462) (y':=r460.1) h498 0 14 [I6 r460.1.Id,I6 r460.1.Origin,I6 r460.1.End,I6 r460.1.At,Jh .frozen r460.1.Steps,Jh .frozen r460.1.Routes,Jh .frozen r460.1.Starts,Jh .frozen r460.1.Ends,Jh .frozen r460.1.Done,I6 r460.1.Min,I6 r460.1.Sent,I6 r460.1.Accepted,I6 r460.1.Cut,I6 r460.1.CutSeq] kr kr (w1 n0 (.e .x) ?_);intro j463 h499 h;refine zR 6 (Uz (tk:=2000047) (k:=4) (N:=(x32.map cellsOf).length) h499 kr ?_);obtain ⟨x464,h500,h⟩:=Ka h;refine Vw (L:=x266) (N:=(x32.map cellsOf).length) (j:=j463) (y:=x464) (v:=Enc.pv x464) h500 true 4 0 kr kr (w1 n0 (.p 2 .x) ?_);intro r465 j466 h502 h;refine zR 3 (Uz (tk:=2000047) (k:=4) (N:=(x32.map cellsOf).length) h502 kr ?_);obtain ⟨x467,h503,h⟩:=Ka h;exact Ox (L:=x266) (tk:=2000047) (N:=(x32.map cellsOf).length) (j:=j466) (y:=x467) (y':=r465.1) h503 0 4 [I6 r465.1.Peer,I6 r465.1.Out,I6 r465.1.In,I6 r465.1.Heard] kr kr (w1 n0 (.e (.w 3 (.e (.e .z)))) t0)
 rintro ⟨x367,x368,x369⟩ s' h hs;refine w1 n0 (.e .S) ?_;intro h;refine Jo (Qx (Hv (xss:=x367.map cellsOf) 2000009 14 192 x31 [] [(10,0),(12,0)] kr kr kr kr) (Qx (Hv (xss:=x368.map cellsOf) 2000047 4 32 ((x32.map cellsOf).length) [] [(10,1),(12,1)] kr kr kr kr) ?_));exact w1 n0 .z t0⟩
def Jc7 (a0:(List Jg)):(Int×(List (Int×Int)))->Option ((Int×(List (Int×Int)))⊕((List (Int×Int))⊕(List (Int×Int)))):=fun (x4,x5) =>
 bif decide (x4<((a0.length:Nat):Int)) then (
  onInl (α:=(List (Int×Int))) (β:=((Int×(List (Int×Int)))⊕((List (Int×Int))⊕(List (Int×Int))))) (
   (ixO a0 x4).bind fun x12 =>
   bif (!((Vt (x5:(List (Int×Int))) x12.Id).isSome)) then (
    some (.inl (Gw x12.Id x4 x5))
   ) else (
    some (.inl x5)
   )
  ) fun x11 =>
  some (.inl (w64 (x4+1),x11))
 ) else (
  some (.inr (.inl x5))
 )
def Rl (a0:(List Jg)):Option (List (Int×Int)) :=
 onInl (Js (Jc7 a0) (0,[])) fun x9 =>
 some x9
theorem Jb0 (a0:(List Jg)) (r:(List (Int×Int))) (h:Rl a0=some r):Yy Tryz.prog GlS 53 [Enc.pv a0] (Kbi (r:(List (Int×Int)))):=by
 unfold Rl at h;refine zC Tryz.func53 Tryz.ntmps53 ?_;refine w1 a0 (.e (.e (.l 1 (.e .s)))) ?_;intro h;refine yM 31 0 [11] (fun (x4,x5)=>⟨[(3,.mp 8),(9,Jh .frozen a0),(10,I6 ((a0.length:Nat):Int)),(11,I6 x4)],[(8,.map (Yl x5))],[],[]⟩) h ?_ ?_
 ·rintro ⟨x4,x5⟩ _ h;unfold Jc7 at h;refine w1 n0 (.e (.c .s .z)) ?_;intro h;refine yJ 31 (fun x11=>⟨[(3,.mp 8),(9,Jh .frozen a0),(10,I6 ((a0.length:Nat):Int)),(11,I6 x4)],[(8,.map (Yl x11))],[],[]⟩) h ?_ ?_
  ·intro _ h;refine w1 n0 (.i 1 (.e .s)) ?_;intro x12 h;refine zR 3 (Jh7 (m:=x5) (k:=x12.Id) 0 8 kr kr (w1 n0 (.e (.e (.c .s .z))) ?_));intro h;exact zR 4 (Jgh (m:=x5) (k:=x12.Id) (v:=x4) 8 kr kr kr (w1 n0 (.e .z) t0))
  intro x11 h;exact w1 n0 (.e .z) t0
 intro x9 s' h hs;refine w1 n0 (.e .S) ?_;intro h;refine Jo (Kjx 8 [] x9 kr kr kr (Wf ?_));cases h;exact zQ
def Jdb (a1:Jn) (x35:(List Jg)):(Int×(List Jg))->Option ((Int×(List Jg))⊕((List Jg)⊕((List Jg)×Nat×(List Jl)))):=fun (x44,x45) =>
 bif decide (x44<((a1.Tracks.length:Nat):Int)) then (
  (ixO a1.Tracks x44).bind fun x55 =>
  (Kz x55.Steps).bind fun r56 =>
  (Jy x55.Routes).bind fun r57 =>
  (Jy x55.Starts).bind fun r58 =>
  (Jy x55.Ends).bind fun r59 =>
  (Jy x55.Done).bind fun r60 =>
  (Wt 0 (((x35:(List Jg)).map cellsOf).length) x44).bind fun j61 =>
  (Vi x45 (((x35:(List Jg)).map cellsOf).length) j61).bind fun x62 =>
  some (.inl (w64 (x44+1),(x45.set j61 (Jg.mk x55.Id x55.Origin x55.End x55.At r56 r57 r58 r59 r60 x55.Min x55.Sent x55.Accepted x55.Cut x55.CutSeq))))
 ) else (
  some (.inr (.inl x45))
 )
def Jbj (a0:Jx) (a1:Jn) (a2:Int) (a3:Int):Option (Jn×Int) :=
 (Cy a1).bind fun r1 =>
 bif (!r1) then (
  some ((Jn.mk [] []),1)
 ) else (
  (Rl a1.Tracks).bind fun r2 =>
  bif (!((Vt (r2:(List (Int×Int))) a2).isSome)) then (
   some ((Jn.mk [] []),9)
  ) else (
   Option.bind (α:=((List Jg)×Nat×(List Jl))) (
    (Jxn ((a1.Tracks.length:Nat):Int) ((a1.Tracks.length:Nat):Int) 192 ((Jg.mk 0 0 0 0 [] [] [] [] [] 0 0 0 0 0):Jg)).bind fun x35 =>
    onInl (Js (Jdb a1 x35) (0,x35)) fun x54 =>
    (Bj a1.Sessions).bind fun r63 =>
    some (x54,((x35:(List Jg)).map cellsOf).length,r63)
   ) fun (x32,x33,x34) =>
   (Wt 0 x33 ((Vt (r2:(List (Int×Int))) a2).getD 0)).bind fun j64 =>
   (Vi x32 x33 j64).bind fun x65 =>
   bif (!(decide (x65.CutSeq=0))) then (
    some ((Jn.mk [] []),11)
   ) else (
    ((bif decide (a3<0) then some true else (
     (Vi x32 x33 j64).bind fun x67 =>
     some (decide (((x67.Routes.length:Nat):Int)<=a3))
    )):Option Bool).bind fun b66 =>
    ((bif b66 then some true else (
     (Vi x32 x33 j64).bind fun x69 =>
     some (decide (((x69.Ends.length:Nat):Int)<=a3))
    )):Option Bool).bind fun b68 =>
    bif b68 then (
     some ((Jn.mk [] []),1)
    ) else (
     (Vi x32 x33 j64).bind fun x70 =>
     (ixO x70.Routes a3).bind fun x71 =>
     ((bif decide (x71<0) then some true else (
      some (decide (((a0.Routes.length:Nat):Int)<=x71))
     )):Option Bool).bind fun b72 =>
     bif b72 then (
      some ((Jn.mk [] []),1)
     ) else (
      (Vi x32 x33 j64).bind fun x73 =>
      (ixO x73.Ends a3).bind fun x74 =>
      (ixO a0.Routes x71).bind fun x75 =>
      (Vi x32 x33 j64).bind fun x76 =>
      (Vi (x32.set j64 (Jg.mk x76.Id x76.Origin x76.End x76.At x76.Steps x76.Routes x76.Starts x76.Ends x76.Done x76.Min x76.Sent x76.Accepted (w64 (x74 - x75.Length)) x76.CutSeq)) x33 j64).bind fun x77 =>
      (Vi (x32.set j64 (Jg.mk x76.Id x76.Origin x76.End x76.At x76.Steps x76.Routes x76.Starts x76.Ends x76.Done x76.Min x76.Sent x76.Accepted (w64 (x74 - x75.Length)) x76.CutSeq)) x33 j64).bind fun x78 =>
      some ((Jn.mk ((x32.set j64 (Jg.mk x76.Id x76.Origin x76.End x76.At x76.Steps x76.Routes x76.Starts x76.Ends x76.Done x76.Min x76.Sent x76.Accepted (w64 (x74 - x75.Length)) x76.CutSeq)).set j64 (Jg.mk x78.Id x78.Origin x78.End x78.At x78.Steps x78.Routes x78.Starts x78.Ends x78.Done x78.Min x78.Sent x78.Accepted x78.Cut (w64 (x77.Sent+1)))) x34),0)
     )
    )
   )
  )
 )
set_option maxRecDepth 100000 in
instance Kbl (a0:Jx) (a1:Jn) (a2:Int) (a3:Int):Ct Tryz.prog GlS (Jbj a0 a1 a2 a3) 20 [Enc.pv a0,Enc.pv a1,Enc.pv a2,Enc.pv a3] (fun r=>.tup [Enc.pv r.1,Enc.pv r.2]):=⟨fun r h=>by
 unfold Jbj at h;refine zC Tryz.func20 Tryz.ntmps20 ?_;refine w1 n0 (.e (.p 1 (.e (.c (.e .z) .x)))) ?_;intro _ r2 h2 h;refine zR 2 (zP (Jb0 _ r2 h2) (zR 1 (Jh9 (m:=r2) (k:=a2) 0 true kr (w1 n0 (.e (.e (.c (.e .z) .S))) ?_))));intro h;refine Ve (Jo (Kj (Jiw (So 0 1 (w1 n0 (.e .S) ?_)))));intro h;refine Fq 1 ⟨[(3,I6 a3),(4,.ref 1004 0),(5,.ref 1005 0),(8,.ref 1008 0),(10,I6 ((Vt r2 a2).getD 0)),(29,Enc.pv a1)],[(1004,.cells (cellsOf a0)),(1005,.cells (cellsOf a1)),(1008,.cells ([.nil,.nil]))],[],[]⟩ 105 kr kr kr ?_;obtain ⟨o31,h31,h⟩:=Ka h;refine Jqg (f:=40) (asx:=[Enc.pv a1]) kr Tryz.func40 (by rfl) rfl Tryz.ntmps40 (by rfl) ?_;refine Je8 o31 10500155 (fun (x32,x33,x34)=>⟨[(2,.ref 2 0),(53,I6 a3),(54,.ref 1004 0),(55,.ref 1005 0),(58,.ref 1008 0),(60,I6 ((Vt r2 a2).getD 0))],[(2,.cells ([.ex 9 14 192 x33 0 x33,Jh (.own 47007) x34])),(1004,.cells (cellsOf a0)),(1005,.cells (cellsOf a1)),(1008,.cells ([.nil,.nil]))],[(47007,(((x34).map cellsOf).length,4)),(9,(x33,0))],[(9,(14,(192,x32.map cellsOf)))]⟩) ?_ ?_
 ·have h:=h31;refine w1 a1.Tracks (.e (.l 2 .x)) ?_;intro x35 h32 h;refine Kf9 (z:=((Jg.mk 0 0 0 0 [] [] [] [] [] 0 0 0 0 0):Jg)) 9 h32 kr kr (w1 a1.Tracks (.e (.l 2 (.e .s))) ?_);intro h;refine yM 10500155 0 [13] (fun (x44,x45)=>⟨[(1,.ref 1 0),(2,.ref 2 0),(3,.ex 9 14 192 ((x35.map cellsOf).length) 0 ((x35.map cellsOf).length)),(11,Jh .frozen a1.Tracks),(12,I6 ((a1.Tracks.length:Nat):Int)),(13,I6 x44),(53,I6 a3),(54,.ref 1004 0),(55,.ref 1005 0),(58,.ref 1008 0),(60,I6 ((Vt r2 a2).getD 0))],[(1,.cells (cellsOf a1)),(2,.cells ([.nil,.nil])),(1004,.cells (cellsOf a0)),(1005,.cells (cellsOf a1)),(1008,.cells ([.nil,.nil]))],[(9,((x35.map cellsOf).length,0))],[(9,(14,(192,x45.map cellsOf)))]⟩) h ?_ ?_
  ·rintro ⟨x44,x45⟩ _ h;unfold Jdb at h;refine w1 n0 (.e (.c (.i 1 (.e (.p 2 (.e (.p 2 (.e (.p 2 (.e (.p 2 (.e (.p 2 (.e .x)))))))))))) .z)) ?_;intro x55 r56 r57 r58 r59 r60 j61 h57 h;refine zR 3 (Uz (tk:=9) (k:=14) (N:=(x35.map cellsOf).length) h57 kr ?_);obtain ⟨x62,h58,h⟩:=Ka h;exact Ox (L:=x45) (tk:=9) (N:=(x35.map cellsOf).length) (j:=j61) (y:=x62) (y':=(Jg.mk x55.Id x55.Origin x55.End x55.At r56 r57 r58 r59 r60 x55.Min x55.Sent x55.Accepted x55.Cut x55.CutSeq)) h58 0 14 [I6 x55.Id,I6 x55.Origin,I6 x55.End,I6 x55.At,Jh .frozen r56,Jh .frozen r57,Jh .frozen r58,Jh .frozen r59,Jh .frozen r60,I6 x55.Min,I6 x55.Sent,I6 x55.Accepted,I6 x55.Cut,I6 x55.CutSeq] kr kr (w1 n0 (.e (.e .z)) t0)
  intro x54 s' h hs;refine w1 n0 (.e (.p 2 (.e (.e .s)))) ?_;intro _ h;cases h;exact Jx5 kr kr
 obtain ⟨x32,x33,x34⟩:=o31;refine Jp8 (r:=.agg [.ex 9 14 192 x33 0 x33,Jh (.own 47007) x34]) kr (Fq 2 ⟨[(3,I6 a3),(4,.ref 1004 0),(5,.ref 1005 0),(8,.ref 1008 0),(10,I6 ((Vt r2 a2).getD 0)),(30,.agg [.ex 2000009 14 192 x33 0 x33,Jh (.own 2047007) x34])],[(1004,.cells (cellsOf a0)),(1005,.cells (cellsOf a1)),(1008,.cells ([.nil,.nil]))],[(2047007,(((x34).map cellsOf).length,4)),(2000009,(x33,0))],[(2000009,(14,(192,x32.map cellsOf)))]⟩ 105 kr kr kr (Fq 1 ⟨[(3,I6 a3),(4,.ref 4 0),(5,.ref 5 0),(8,.ref 8 0),(10,I6 ((Vt r2 a2).getD 0)),(30,.agg [.ex 2000009 14 192 x33 0 x33,Jh (.own 2047007) x34])],[(4,.cells (cellsOf a0)),(5,.cells (cellsOf a1)),(8,.cells ([.nil,.nil]))],[(2047007,(((x34).map cellsOf).length,4)),(2000009,(x33,0))],[(2000009,(14,(192,x32.map cellsOf)))]⟩ 105 kr kr kr (So 2 1 (w1 n0 (.e .S) ?_))));intro h;refine Jid (Jo (Kj (Wj ?_)));obtain ⟨j64,h60,h⟩:=Ka h;refine zR 3 (Uz (tk:=2000009) (k:=14) (N:=x33) h60 kr (w1 n0 (.e .x) ?_));intro x65 h61 h;refine zR 3 (Vw (L:=x32) (N:=x33) (j:=j64) (y:=x65) (v:=I6 x65.CutSeq) h61 false 1 13 kr kr ?_);refine w6 n0 (.e (.c (.e .z) (.b 3 8 51 (.g 0 .z .x) (.b 1 8 60 (.g 0 .z .x) (.e (.c (.e .z) .x)))))) ?_ ?_ ?_ t0 t0 t0
 ·intro _ x67 h63 h;exact zR 4 (Vw (L:=x32) (N:=x33) (j:=j64) (y:=x67) (v:=Jh .frozen x67.Routes) h63 false 1 5 kr kr (w1 x67.Routes (.l 0 .z) t0))
 ·intro _ _ x69 h65 h;exact zR 4 (Vw (L:=x32) (N:=x33) (j:=j64) (y:=x69) (v:=Jh .frozen x69.Ends) h65 false 1 7 kr kr (w1 x69.Ends (.l 0 .z) t0))
 intro _ _ x70 h66 h;refine zR 3 (Vw (L:=x32) (N:=x33) (j:=j64) (y:=x70) (v:=Jh .frozen x70.Routes) h66 false 1 5 kr kr (w1 a0.Routes (.i 1 (.e (.b 3 6 77 (.g 0 .z (.l 3 .z)) (.e (.c (.e .z) .x))))) ?_));intro _ _ x73 h69 h;refine zR 4 (Vw (L:=x32) (N:=x33) (j:=j64) (y:=x73) (v:=Jh .frozen x73.Ends) h69 false 1 7 kr kr (w1 n0 (.i 1 (.i 4 .x)) ?_));intro x74 x75 x76 h72 h;refine zR 5 (Ox (L:=x32) (tk:=2000009) (N:=x33) (j:=j64) (y:=x76) (y':=(Jg.mk x76.Id x76.Origin x76.End x76.At x76.Steps x76.Routes x76.Starts x76.Ends x76.Done x76.Min x76.Sent x76.Accepted (w64 (x74 - x75.Length)) x76.CutSeq)) h72 12 1 [I6 (w64 (x74 - x75.Length))] kr kr (w1 n0 (.e .x) ?_));intro x77 h73 h;refine zR 4 (Vw (L:=((x32.set j64 (Jg.mk x76.Id x76.Origin x76.End x76.At x76.Steps x76.Routes x76.Starts x76.Ends x76.Done x76.Min x76.Sent x76.Accepted (w64 (x74 - x75.Length)) x76.CutSeq)):(List Jg))) (N:=x33) (j:=j64) (y:=x77) (v:=I6 x77.Sent) h73 false 1 10 kr kr ?_);obtain ⟨x78,h74,h⟩:=Ka h;refine zR 3 (Ox (L:=((x32.set j64 (Jg.mk x76.Id x76.Origin x76.End x76.At x76.Steps x76.Routes x76.Starts x76.Ends x76.Done x76.Min x76.Sent x76.Accepted (w64 (x74 - x75.Length)) x76.CutSeq)):(List Jg))) (tk:=2000009) (N:=x33) (j:=j64) (y:=x78) (y':=(Jg.mk x78.Id x78.Origin x78.End x78.At x78.Steps x78.Routes x78.Starts x78.Ends x78.Done x78.Min x78.Sent x78.Accepted x78.Cut (w64 (x77.Sent+1)))) h74 13 1 [I6 (w64 (x77.Sent+1))] kr kr (w1 n0 (.e (.e .S)) ?_));intro h;refine Jo (Qx (Hv (xss:=(((x32.set j64 (Jg.mk x76.Id x76.Origin x76.End x76.At x76.Steps x76.Routes x76.Starts x76.Ends x76.Done x76.Min x76.Sent x76.Accepted (w64 (x74 - x75.Length)) x76.CutSeq)).set j64 (Jg.mk x78.Id x78.Origin x78.End x78.At x78.Steps x78.Routes x78.Starts x78.Ends x78.Done x78.Min x78.Sent x78.Accepted x78.Cut (w64 (x77.Sent+1)))):(List Jg)).map cellsOf) 2000009 14 192 x33 [32] [(5,0),(8,0)] kr kr kr kr) ?_);exact w1 n0 .z t0⟩
def Jhw (a0:Jn) (x35:(List Jg)):(Int×(List Jg))->Option ((Int×(List Jg))⊕((List Jg)⊕((List Jg)×Nat×(List Jl)))):=fun (x44,x45) =>
 bif decide (x44<((a0.Tracks.length:Nat):Int)) then (
  (ixO a0.Tracks x44).bind fun x55 =>
  (Kz x55.Steps).bind fun r56 =>
  (Jy x55.Routes).bind fun r57 =>
  (Jy x55.Starts).bind fun r58 =>
  (Jy x55.Ends).bind fun r59 =>
  (Jy x55.Done).bind fun r60 =>
  (Wt 0 (((x35:(List Jg)).map cellsOf).length) x44).bind fun j61 =>
  (Vi x45 (((x35:(List Jg)).map cellsOf).length) j61).bind fun x62 =>
  some (.inl (w64 (x44+1),(x45.set j61 (Jg.mk x55.Id x55.Origin x55.End x55.At r56 r57 r58 r59 r60 x55.Min x55.Sent x55.Accepted x55.Cut x55.CutSeq))))
 ) else (
  some (.inr (.inl x45))
 )
def Jf5 (a0:Jn) (a1:Int) (a2:Int):Option (Jn×Kn×Int) :=
 (Cy a0).bind fun r1 =>
 bif (!r1) then (
  some ((Jn.mk [] []),(Kn.mk 0 0 0 0 0 (Qd.mk 0 0 [] []) (Cj.mk 0 0 0 0 false)),1)
 ) else (
  (Rl a0.Tracks).bind fun r2 =>
  bif (!((Vt (r2:(List (Int×Int))) a1).isSome)) then (
   some ((Jn.mk [] []),(Kn.mk 0 0 0 0 0 (Qd.mk 0 0 [] []) (Cj.mk 0 0 0 0 false)),9)
  ) else (
   Option.bind (α:=((List Jg)×Nat×(List Jl))) (
    (Jxn ((a0.Tracks.length:Nat):Int) ((a0.Tracks.length:Nat):Int) 192 ((Jg.mk 0 0 0 0 [] [] [] [] [] 0 0 0 0 0):Jg)).bind fun x35 =>
    onInl (Js (Jhw a0 x35) (0,x35)) fun x54 =>
    (Uk a0.Sessions).bind fun r63 =>
    some (x54,((x35:(List Jg)).map cellsOf).length,r63)
   ) fun (x32,x33,x34) =>
   (Wt 0 (((x34:(List Jl)).map cellsOf).length) ((Vt (r2:(List (Int×Int))) a1).getD 0)).bind fun j64 =>
   (Vi x34 (((x34:(List Jl)).map cellsOf).length) j64).bind fun x65 =>
   (Dg x65 (Kn.mk 4 0 0 0 0 (Qd.mk 0 0 [] []) (Cj.mk 0 0 0 0 false)) a2).bind fun r66 =>
   (Wt 0 (((x34:(List Jl)).map cellsOf).length) ((Vt (r2:(List (Int×Int))) a1).getD 0)).bind fun j67 =>
   (Vi x34 (((x34:(List Jl)).map cellsOf).length) j67).bind fun x68 =>
   some ((Jn.mk x32 (x34.set j67 r66.1)),r66.2,0)
  )
 )
set_option maxRecDepth 100000 in
instance Khm (a0:Jn) (a1:Int) (a2:Int):Ct Tryz.prog GlS (Jf5 a0 a1 a2) 18 [Enc.pv a0,Enc.pv a1,Enc.pv a2] (fun r=>.tup [Enc.pv r.1,Enc.pv r.2.1,Enc.pv r.2.2]):=⟨fun r h=>by
 unfold Jf5 at h;refine zC Tryz.func18 Tryz.ntmps18 ?_;refine w1 n0 (.e (.p 1 (.e (.c (.e .z) .x)))) ?_;intro _ r2 h2 h;refine zR 2 (zP (Jb0 _ r2 h2) (zR 1 (Jh9 (m:=r2) (k:=a1) 0 true kr (w1 n0 (.e (.e (.c (.e .z) .S))) ?_))));intro h;refine Ve (Jo (Kj (Jiw (So 0 1 (w1 n0 (.e .S) ?_)))));intro h;refine Fq 1 ⟨[(2,I6 a2),(3,.ref 1003 0),(6,.ref 1006 0),(7,.ref 1007 0),(9,I6 ((Vt r2 a1).getD 0)),(30,Enc.pv a0)],[(1003,.cells (cellsOf a0)),(1006,.cells ([.nil,.nil])),(1007,.cells ([I6 0,I6 0,I6 0,I6 0,I6 0,I6 0,I6 0,.nil,.nil,I6 0,I6 0,I6 0,I6 0,.bool false]))],[],[]⟩ 50 kr kr kr ?_;obtain ⟨o31,h31,h⟩:=Ka h;refine Jqg (f:=40) (asx:=[Enc.pv a0]) kr Tryz.func40 (by rfl) rfl Tryz.ntmps40 (by rfl) ?_;refine Je8 o31 5000100 (fun (x32,x33,x34)=>⟨[(2,.ref 2 0),(52,I6 a2),(53,.ref 1003 0),(56,.ref 1006 0),(57,.ref 1007 0),(59,I6 ((Vt r2 a1).getD 0))],[(2,.cells ([.ex 9 14 192 x33 0 x33,.ex 47 4 32 ((x34.map cellsOf).length) 0 ((x34.map cellsOf).length)])),(1003,.cells (cellsOf a0)),(1006,.cells ([.nil,.nil])),(1007,.cells ([I6 0,I6 0,I6 0,I6 0,I6 0,I6 0,I6 0,.nil,.nil,I6 0,I6 0,I6 0,I6 0,.bool false]))],[(9,(x33,0)),(47,((x34.map cellsOf).length,0))],[(9,(14,(192,x32.map cellsOf))),(47,(4,(32,x34.map cellsOf)))]⟩) ?_ ?_
 ·have h:=h31;refine w1 a0.Tracks (.e (.l 2 .x)) ?_;intro x35 h32 h;refine Kf9 (z:=((Jg.mk 0 0 0 0 [] [] [] [] [] 0 0 0 0 0):Jg)) 9 h32 kr kr (w1 a0.Tracks (.e (.l 2 (.e .s))) ?_);intro h;refine yM 5000100 0 [13] (fun (x44,x45)=>⟨[(1,.ref 1 0),(2,.ref 2 0),(3,.ex 9 14 192 ((x35.map cellsOf).length) 0 ((x35.map cellsOf).length)),(11,Jh .frozen a0.Tracks),(12,I6 ((a0.Tracks.length:Nat):Int)),(13,I6 x44),(52,I6 a2),(53,.ref 1003 0),(56,.ref 1006 0),(57,.ref 1007 0),(59,I6 ((Vt r2 a1).getD 0))],[(1,.cells (cellsOf a0)),(2,.cells ([.nil,.nil])),(1003,.cells (cellsOf a0)),(1006,.cells ([.nil,.nil])),(1007,.cells ([I6 0,I6 0,I6 0,I6 0,I6 0,I6 0,I6 0,.nil,.nil,I6 0,I6 0,I6 0,I6 0,.bool false]))],[(9,((x35.map cellsOf).length,0))],[(9,(14,(192,x45.map cellsOf)))]⟩) h ?_ ?_
  ·rintro ⟨x44,x45⟩ _ h;unfold Jhw at h;refine w1 n0 (.e (.c (.i 1 (.e (.p 2 (.e (.p 2 (.e (.p 2 (.e (.p 2 (.e (.p 2 (.e .x)))))))))))) .z)) ?_;intro x55 r56 r57 r58 r59 r60 j61 h57 h;refine zR 3 (Uz (tk:=9) (k:=14) (N:=(x35.map cellsOf).length) h57 kr ?_);obtain ⟨x62,h58,h⟩:=Ka h;exact Ox (L:=x45) (tk:=9) (N:=(x35.map cellsOf).length) (j:=j61) (y:=x62) (y':=(Jg.mk x55.Id x55.Origin x55.End x55.At r56 r57 r58 r59 r60 x55.Min x55.Sent x55.Accepted x55.Cut x55.CutSeq)) h58 0 14 [I6 x55.Id,I6 x55.Origin,I6 x55.End,I6 x55.At,Jh .frozen r56,Jh .frozen r57,Jh .frozen r58,Jh .frozen r59,Jh .frozen r60,I6 x55.Min,I6 x55.Sent,I6 x55.Accepted,I6 x55.Cut,I6 x55.CutSeq] kr kr (w1 n0 (.e (.e .z)) t0)
  intro x54 s' h hs;refine w1 n0 (.e .x) ?_;intro r63 h59 h;refine zR 2 (Jla (α:=Jl) 47 (De _ r63 h59) kr kr (w1 n0 (.e (.e .s)) ?_));intro h;cases h;exact Jx5 kr kr
 obtain ⟨x32,x33,x34⟩:=o31;refine Jp8 (r:=.agg [.ex 9 14 192 x33 0 x33,.ex 47 4 32 ((x34.map cellsOf).length) 0 ((x34.map cellsOf).length)]) kr (Fq 2 ⟨[(2,I6 a2),(3,.ref 1003 0),(6,.ref 1006 0),(7,.ref 1007 0),(9,I6 ((Vt r2 a1).getD 0)),(31,.agg [.ex 2000009 14 192 x33 0 x33,.ex 2000047 4 32 ((x34.map cellsOf).length) 0 ((x34.map cellsOf).length)])],[(1003,.cells (cellsOf a0)),(1006,.cells ([.nil,.nil])),(1007,.cells ([I6 0,I6 0,I6 0,I6 0,I6 0,I6 0,I6 0,.nil,.nil,I6 0,I6 0,I6 0,I6 0,.bool false]))],[(2000009,(x33,0)),(2000047,((x34.map cellsOf).length,0))],[(2000009,(14,(192,x32.map cellsOf))),(2000047,(4,(32,x34.map cellsOf)))]⟩ 50 kr kr kr ?_);refine Fq 1 ⟨[(2,I6 a2),(3,.ref 3 0),(6,.ref 6 0),(7,.ref 7 0),(9,I6 ((Vt r2 a1).getD 0)),(31,.agg [.ex 2000009 14 192 x33 0 x33,.ex 2000047 4 32 ((x34.map cellsOf).length) 0 ((x34.map cellsOf).length)])],[(3,.cells (cellsOf a0)),(6,.cells ([.nil,.nil])),(7,.cells ([I6 0,I6 0,I6 0,I6 0,I6 0,I6 0,I6 0,.nil,.nil,I6 0,I6 0,I6 0,I6 0,.bool false]))],[(2000009,(x33,0)),(2000047,((x34.map cellsOf).length,0))],[(2000009,(14,(192,x32.map cellsOf))),(2000047,(4,(32,x34.map cellsOf)))]⟩ 50 kr kr kr (So 2 1 (w1 n0 (.e .S) ?_));intro h;refine Jid (Jo (Kj (Wj ?_)));obtain ⟨j64,h60,h⟩:=Ka h;refine zR 3 (Uz (tk:=2000047) (k:=4) (N:=(x34.map cellsOf).length) h60 kr ?_);obtain ⟨x65,h61,h⟩:=Ka h;refine Vw (L:=x34) (N:=(x34.map cellsOf).length) (j:=j64) (y:=x65) (v:=Enc.pv x65) h61 true 4 0 kr kr (w1 n0 (.p 2 (.e .x)) ?_);intro r66 j67 h63 h;refine zR 4 (Uz (tk:=2000047) (k:=4) (N:=(x34.map cellsOf).length) h63 kr ?_);obtain ⟨x68,h64,h⟩:=Ka h;refine Ox (L:=x34) (tk:=2000047) (N:=(x34.map cellsOf).length) (j:=j67) (y:=x68) (y':=r66.1) h64 0 4 [I6 r66.1.Peer,I6 r66.1.Out,I6 r66.1.In,I6 r66.1.Heard] kr kr (w1 n0 (.e .S) ?_);intro h;refine Jo (Kj ?_);refine Kea 50 ⟨[(6,.ref 6 0),(7,.ref 7 0),(8,I6 0)],[(6,.cells ([.ex 2000009 14 192 x33 0 x33,.ex 2000047 4 32 ((x34.map cellsOf).length) 0 ((x34.map cellsOf).length)])),(7,.cells (cellsOf r66.2))],[(2000009,(x33,0)),(2000047,((x34.map cellsOf).length,0))],[(2000009,(14,(192,x32.map cellsOf))),(2000047,(4,(32,((x34.set j67 r66.1):(List Jl)).map cellsOf)))]⟩ kr ?_ ?_
 ·refine Uy [0,1] kr ⟨?_, ?_,trivial⟩
  ·refine ⟨_,rfl,(zR 1 (Er ?_))⟩;refine Uy [1,2] kr ⟨?_, ?_,trivial⟩
   ·refine ⟨_,rfl,(zR 1 (Er ?_))⟩;refine Uy [2] kr ⟨?_,trivial⟩;refine ⟨_,rfl,(zR 1 (Er ?_))⟩;refine Uy [3] kr ⟨?_,trivial⟩;refine ⟨_,rfl,(zR 1 (Er ?_))⟩;refine Uy [4] kr ⟨?_,trivial⟩;exact ⟨_,rfl,(zR 1 (Er (Tp kr (.of kr kr))))⟩
   refine ⟨_,rfl,(zR 1 (Er ?_))⟩;refine Uy [1] kr ⟨?_,trivial⟩;refine ⟨_,rfl,(zR 1 (Er ?_))⟩;refine Uy [3] kr ⟨?_,trivial⟩;refine ⟨_,rfl,(zR 1 (Er ?_))⟩;refine Uy [4] kr ⟨?_,trivial⟩;exact ⟨_,rfl,(zR 1 (Er (Tp kr (.of kr kr))))⟩
  refine ⟨_,rfl,(zR 1 (Er ?_))⟩;refine Uy [0] kr ⟨?_,trivial⟩;refine ⟨_,rfl,(zR 1 (Er ?_))⟩;refine Uy [2] kr ⟨?_,trivial⟩;refine ⟨_,rfl,(zR 1 (Er ?_))⟩;refine Uy [3] kr ⟨?_,trivial⟩;refine ⟨_,rfl,(zR 1 (Er ?_))⟩;refine Uy [4] kr ⟨?_,trivial⟩;exact ⟨_,rfl,(zR 1 (Er (Tp kr (.of kr kr))))⟩
 refine Jo (Qx (Hv (xss:=x32.map cellsOf) 2000009 14 192 x33 [] [(6,0)] kr kr kr kr) (Qx (Hv (xss:=((x34.set j67 r66.1):(List Jl)).map cellsOf) 2000047 4 32 ((x34.map cellsOf).length) [] [(6,1)] kr kr kr kr) ?_));exact w1 n0 .z t0⟩
def Iz : Option Bool :=
 (Jcy ).bind fun r1 =>
 (Zs r1).bind fun r2 =>
 (Ja9 ).bind fun r3 =>
 (Jiv r1 [r3.1] [r3.2]).bind fun r4 =>
 ((bif ((!(decide (r2.2=0)))||(!(decide (r4.2=0)))) then some true else (
  some (!(decide (((r2.1.Routes.length:Nat):Int)=2)))
 )):Option Bool).bind fun b5 =>
 ((bif b5 then some true else (
  some (!(decide (((r4.1.Tracks.length:Nat):Int)=1)))
 )):Option Bool).bind fun b6 =>
 ((bif b6 then some true else (
  (ixO r4.1.Tracks 0).bind fun x8 =>
  some (!(decide (x8.At=5000)))
 )):Option Bool).bind fun b7 =>
 ((bif b7 then some true else (
  (ixO r4.1.Tracks 0).bind fun x10 =>
  some (!(decide (x10.End=0)))
 )):Option Bool).bind fun b9 =>
 bif b9 then (
  some false
 ) else (
  (Gu r1 r2.1 (Kd.mk [(Ud.mk 2 0 0),(Ud.mk 0 0 0)] []) ([]:(List Jk)) r4.1 1).bind fun r11 =>
  (Gu r1 r2.1 (Kd.mk [(Ud.mk 2 0 0),(Ud.mk 2 0 0)] []) ([]:(List Jk)) r11.1 2).bind fun r12 =>
  (Jbj r2.1 r12.1 3 0).bind fun r13 =>
  (Jf5 r4.1 3 1).bind fun r14 =>
  ((bif (!(decide (((r11.2.length:Nat):Int)=1))) then some true else (
   some (!(decide (((r12.2.length:Nat):Int)=1)))
  )):Option Bool).bind fun b15 =>
  ((bif b15 then some true else (
   some (!(decide (((r11.1.Tracks.length:Nat):Int)=1)))
  )):Option Bool).bind fun b16 =>
  ((bif b16 then some true else (
   some (!(decide (((r12.1.Tracks.length:Nat):Int)=1)))
  )):Option Bool).bind fun b17 =>
  ((bif b17 then some true else (
   some (!(decide (((r13.1.Tracks.length:Nat):Int)=1)))
  )):Option Bool).bind fun b18 =>
  ((bif b18 then some true else (
   (ixO r11.1.Tracks 0).bind fun x20 =>
   some (!(decide (((x20.Routes.length:Nat):Int)=1)))
  )):Option Bool).bind fun b19 =>
  bif b19 then (
   some false
  ) else (
   (ixO r11.2 0).bind fun x21 =>
   ((bif decide (x21.Kind=2) then (
    (ixO r11.2 0).bind fun x23 =>
    some (decide (x23.Auth.End=25000))
   ) else some false):Option Bool).bind fun b22 =>
   ((bif b22 then (
    (ixO r11.2 0).bind fun x25 =>
    some (decide (x25.To=3))
   ) else some false):Option Bool).bind fun b24 =>
   ((bif b24 then (
    (ixO r12.2 0).bind fun x27 =>
    some (decide (x27.Auth.End=45000))
   ) else some false):Option Bool).bind fun b26 =>
   ((bif b26 then (
    (ixO r12.1.Tracks 0).bind fun x29 =>
    some (decide (x29.End=(-1)))
   ) else some false):Option Bool).bind fun b28 =>
   ((bif (b28&&(decide (r13.2=0))) then (
    (ixO r13.1.Tracks 0).bind fun x31 =>
    some (decide (x31.Cut=5000))
   ) else some false):Option Bool).bind fun b30 =>
   some ((b30&&(decide (r14.2.2=0)))&&(decide (r14.2.1.Kind=4)))
  )
 )
instance Kbx : Ct Tryz.prog GlS (Iz) 9 [] Enc.pv:=⟨fun r h=>by
 unfold Iz at h;refine zC Tryz.func9 Tryz.ntmps9 ?_;refine w1 n0 (.e .x) ?_;intro r1 h1 h;refine zP (Jkq  r1 h1) (w1 n0 (.e (.p 1 (.e .x))) ?_);intro r2 r3 h3 h;refine zP (Ji0  r3 h3) ?_;refine w6 r2.1.Routes (.e (.p 5 (.e (.o 3 3 42 0 (.b 1 5 48 (.g 0 .z (.l 2 .z)) (.b 1 5 54 (.g 0 .z .s) (.b 1 7 62 (.g 0 .z (.i 2 .z)) (.b 1 7 70 (.g 0 .z (.i 2 .z)) (.e (.c (.e .z) (.e (.p 7 (.e (.p 7 (.e (.p 2 (.e (.p 1 (.e .s))))))))))))))))))) ?_ ?_ t0 t0 t0 t0
 ·intro r4 _ _ h;exact yl 2 r4.1.Tracks (w1 n0 .z t0)
 intro _ _ _ _ _ r11 r12 r13 _ h;refine yl 1 r11.2 ?_;refine w6 r12.2 (.b 2 4 113 (.g 0 .z (.l 1 .z)) (.b 1 5 119 (.g 0 .z .s) (.b 1 5 125 (.g 0 .z .s) (.b 1 5 131 (.g 0 .z .s) (.b 1 8 140 (.g 0 .z (.i 2 .s)) (.e (.c (.e .z) (.i 1 (.b 4 7 153 (.g 0 (.i 1 .z) .z) (.b 1 6 160 (.g 0 (.i 1 .z) .z) (.b 1 7 168 (.g 0 (.i 1 .z) .z) (.b 1 7 176 (.g 0 (.i 2 .z) .z) (.o 1 3 180 0 (.b 1 7 188 (.g 0 (.i 2 .z) .z) (.o 1 3 192 1 (.o 1 4 197 0 (.e .z))))))))))))))))) ?_ ?_ ?_ ?_ t0 t0
 ·intro _ _ h;exact yl 2 r11.1.Tracks (w1 n0 .z t0)
 ·intro _ _ _ h;exact yl 2 r12.1.Tracks (w1 n0 .z t0)
 ·intro _ _ _ _ h;exact yl 2 r13.1.Tracks (w1 n0 .z t0)
 intro _ _ _ _ _ x20 h;refine yl 2 x20.Routes ?_;exact w1 n0 .z t0⟩
def Zf (a0:Int) (a1:Int) (a2:Int):Option Bool :=
 some ((decide (a1<=a0))&&(decide (a0<=a2)))
instance Khl (a0:Int) (a1:Int) (a2:Int):Ct Tryz.prog GlS (Zf a0 a1 a2) 89 [Enc.pv a0,Enc.pv a1,Enc.pv a2] Enc.pv:=⟨fun r h=>by
 unfold Zf at h;refine zC Tryz.func89 Tryz.ntmps89 ?_;exact w1 n0 (.e (.o 4 4 14 0 (.e .z))) t0⟩
def Fi (a0:Kr):Option Int :=
 (Hi a0.Name).bind fun r1 =>
 bif (!r1) then (
  some 3
 ) else (
  (Zf a0.Id 1 99).bind fun r2 =>
  ((bif (!r2) then some true else (
   (Zf a0.Length 1 50000).bind fun r4 =>
   some (!r4)
  )):Option Bool).bind fun b3 =>
  ((bif b3 then some true else (
   (Zf a0.Speed 1 10000).bind fun r6 =>
   some (!r6)
  )):Option Bool).bind fun b5 =>
  ((bif b5 then some true else (
   (Zf a0.Accel 1 200).bind fun r8 =>
   some (!r8)
  )):Option Bool).bind fun b7 =>
  ((bif b7 then some true else (
   (Zf a0.Service 1 200).bind fun r10 =>
   some (!r10)
  )):Option Bool).bind fun b9 =>
  bif b9 then (
   some 1
  ) else (
   (Zf a0.Emergency a0.Service 200).bind fun r11 =>
   ((bif (!r11) then some true else (
    (Zf a0.Delay 0 5).bind fun r13 =>
    some (!r13)
   )):Option Bool).bind fun b12 =>
   ((bif b12 then some true else (
    (Zf a0.Const 0 500).bind fun r15 =>
    some (!r15)
   )):Option Bool).bind fun b14 =>
   ((bif b14 then some true else (
    (Zf a0.Rate 0 100).bind fun r17 =>
    some (!r17)
   )):Option Bool).bind fun b16 =>
   bif b16 then (
    some 1
   ) else (
    some 0
   )
  )
 )
instance Kb2 (a0:Kr):Ct Tryz.prog GlS (Fi a0) 38 [Enc.pv a0] Enc.pv:=⟨fun r h=>by
 unfold Fi at h;refine zC Tryz.func38 Tryz.ntmps38 ?_;exact w1 n0 (.e (.p 2 (.e (.c (.e .z) (.p 2 (.b 2 5 16 (.g 0 .z (.p 2 .z)) (.b 1 5 22 (.g 0 .z (.p 2 .z)) (.b 1 5 28 (.g 0 .z (.p 2 .z)) (.b 1 5 34 (.g 0 .z (.p 2 .z)) (.e (.c (.e .z) (.p 4 (.b 2 5 46 (.g 0 .z (.p 2 .z)) (.b 1 5 52 (.g 0 .z (.p 2 .z)) (.b 1 5 58 (.g 0 .z (.p 2 .z)) (.e (.c (.e .z) (.e .z)))))))))))))))))) t0⟩
end
end PM
