/-
 Plain functions for the program's functions, and the proofs that the program does them. Printed by den.py.
-/
import Derived.Test.YtfpoeepcomnjhaaGreatDoorDen5
namespace PM
noncomputable section
open Go Go.RowKit Go.Proofs
attribute [local irreducible] Kl pwp
def Me (a0:Kb) (a1:Kz) (a2:Int):Option (Kb×Kz) :=
 onInl (α:=Int) (β:=(Kb×Kz)) (
  bif decide (a0.Out<1073741824) then (
   some (.inl (w64 (a0.Out+1)))
  ) else (
   some (.inl a0.Out)
  )
 ) fun x1 =>
 (Yv a1.Auth.Profile).bind fun r2 =>
 (Zg a1.Auth.Links).bind fun r3 =>
 some ((Kb.mk a0.Peer x1 a0.In a0.Heard),(Kz.mk a1.Kind a1.From a0.Peer x1 a2 (Qp.mk a1.Auth.Seq a1.Auth.End r2 r3) a1.Report))
theorem Xt (a0:Kb) (a1:Kz) (a2:Int) (r:(Kb×Kz)) (h:Me a0 a1 a2=some r):Kg Tryz.prog GlS 45 [Enc.pv a0,Enc.pv a1,Enc.pv a2] (.tup [Enc.pv r.1,Enc.pv r.2]):=by
 unfold Me at h;refine zC Tryz.func45 Tryz.ntmps45 ?_;refine Ja (Jc (zE (Jb ?_)));obtain ⟨o1,h1,h⟩:=Kf h;refine Qm (o:=o1) 37 (fun x1=>⟨[(2,I6 a2),(3,.ref 3 0),(4,.ref 4 0),(6,.ref 6 0),(7,.ref 7 0)],[(3,.cells ([I6 a0.Peer,I6 x1,I6 a0.In,I6 a0.Heard])),(4,.cells (cellsOf a1)),(6,.cells ([I6 0,I6 0,I6 0,I6 0])),(7,.cells ([I6 0,I6 0,I6 0,I6 0,I6 0,I6 0,I6 0,.nil,.nil,I6 0,I6 0,I6 0,I6 0,.bool false]))],[],[]⟩) ?_ ?_
 ·refine Ja (Jc (zE (Jb ?_)));rcases Ji h1 with ⟨hb,h1⟩|⟨hb,h1⟩
  ·refine zT hb (Jc (zE ?_));cases h1;exact zJ
  refine zU hb (Jg ?_);cases h1;exact zJ
 rintro x1 rfl;have h:=Ka h;refine Ja ?_;refine Jkd 37 ⟨[(3,.ref 3 0),(4,.ref 4 0),(6,.ref 6 0),(7,.ref 7 0)],[(3,.cells ([I6 a0.Peer,I6 x1,I6 a0.In,I6 a0.Heard])),(4,.cells ([I6 a1.Kind,I6 a1.From,I6 a0.Peer,I6 x1,I6 a2,I6 a1.Auth.Seq,I6 a1.Auth.End,Jk .frozen a1.Auth.Profile,Jk .frozen a1.Auth.Links,I6 a1.Report.Min,I6 a1.Report.Speed,I6 a1.Report.Mode,I6 a1.Report.Accepted,.bool a1.Report.Whole])),(6,.cells ([I6 0,I6 0,I6 0,I6 0])),(7,.cells ([I6 0,I6 0,I6 0,I6 0,I6 0,I6 0,I6 0,.nil,.nil,I6 0,I6 0,I6 0,I6 0,.bool false]))],[],[]⟩ (by kernel_rfl) ?_ ?_
 ·refine Yc [0,1,2,4,5] 6 (by kernel_rfl) ?_;refine zR 5 (Kq (by kernel_rfl) ?_);refine Ih (n:=5) [3,6] (by kernel_rfl) ⟨?_, ?_,trivial⟩
  ·refine ⟨_,rfl, ?_⟩;refine zR 1 (Kq (by kernel_rfl) ?_);refine Yc [6,7,8,9,10] 0 (by kernel_rfl) ?_;refine zR 5 (Kq (by kernel_rfl) ?_);exact Yl (by kernel_rfl) (.of (by kernel_rfl) (by kernel_rfl))
  refine ⟨_,rfl, ?_⟩;refine zR 1 (Kq (by kernel_rfl) ?_);refine Yc [3,7,8,9,10] 0 (by kernel_rfl) ?_;refine zR 5 (Kq (by kernel_rfl) ?_);exact Yl (by kernel_rfl) (.of (by kernel_rfl) (by kernel_rfl))
 refine Jb (Ja (Jc (zR 3 ?_)));obtain ⟨r2,h2,h⟩:=Je h;refine zP (Nw _ r2 h2) (zE (Jb (Ja (Jc (zR 3 ?_)))));obtain ⟨r3,h3,h⟩:=Je h;refine zP (Oh _ r3 h3) (zE (Jb (Ja ?_)));refine Jzz 37 ⟨[(6,.ref 6 0),(7,.ref 7 0)],[(6,.cells ([I6 a0.Peer,I6 x1,I6 a0.In,I6 a0.Heard])),(7,.cells ([I6 a1.Kind,I6 a1.From,I6 a0.Peer,I6 x1,I6 a2,I6 a1.Auth.Seq,I6 a1.Auth.End,Jk .frozen r2,Jk .frozen r3,I6 a1.Report.Min,I6 a1.Report.Speed,I6 a1.Report.Mode,I6 a1.Report.Accepted,.bool a1.Report.Whole]))],[],[]⟩ (by kernel_rfl) ?_ ?_
 ·refine Ux [0,1] (by kernel_rfl) ⟨?_, ?_,trivial⟩
  ·refine ⟨_,rfl, ?_⟩;refine zR 1 (Ee ?_);refine Ux [1,2] (by kernel_rfl) ⟨?_, ?_,trivial⟩
   ·refine ⟨_,rfl, ?_⟩;refine zR 1 (Ee ?_);refine Ux [2] (by kernel_rfl) ⟨?_,trivial⟩;refine ⟨_,rfl, ?_⟩;refine zR 1 (Ee ?_);refine Ux [3] (by kernel_rfl) ⟨?_,trivial⟩;refine ⟨_,rfl, ?_⟩;refine zR 1 (Ee ?_);exact Ta (by kernel_rfl) (.of (by kernel_rfl) (by kernel_rfl))
   refine ⟨_,rfl, ?_⟩;refine zR 1 (Ee ?_);refine Ux [1] (by kernel_rfl) ⟨?_,trivial⟩;refine ⟨_,rfl, ?_⟩;refine zR 1 (Ee ?_);refine Ux [3] (by kernel_rfl) ⟨?_,trivial⟩;refine ⟨_,rfl, ?_⟩;refine zR 1 (Ee ?_);exact Ta (by kernel_rfl) (.of (by kernel_rfl) (by kernel_rfl))
  refine ⟨_,rfl, ?_⟩;refine zR 1 (Ee ?_);refine Ux [0] (by kernel_rfl) ⟨?_,trivial⟩;refine ⟨_,rfl, ?_⟩;refine zR 1 (Ee ?_);refine Ux [2] (by kernel_rfl) ⟨?_,trivial⟩;refine ⟨_,rfl, ?_⟩;refine zR 1 (Ee ?_);refine Ux [3] (by kernel_rfl) ⟨?_,trivial⟩;refine ⟨_,rfl, ?_⟩;refine zR 1 (Ee ?_);exact Ta (by kernel_rfl) (.of (by kernel_rfl) (by kernel_rfl))
 refine Jb (Jm ?_);cases h;exact zQ
def Vq (a0:(List Kb)):Option (List Kb) :=
 (Ul ([]:(List Kb)) a0).bind fun x1 =>
 some x1
theorem Cw (a0:(List Kb)) (r:(List Kb)) (h:Vq a0=some r):Jmi Tryz.prog GlS 92 [Enc.pv a0] 4 32 (r.map cellsOf):=by
 unfold Vq at h;refine Jaz Tryz.func92 (by rfl) rfl Tryz.ntmps92 (by rfl) rfl ?_;refine Ja (Jc (zE (Jb (Ja (Ja (Jc (zE (Jb ?_))))))));refine Sz (e:=(a0.map cellsOf).isEmpty) (by kernel_rfl) (fun hub=>?_) ?_
 ·have hN:=Sy (Jkk hub) h;refine Ja (Jc (zE (Jb (Jy (Jh8 2 100002 4 32 (by kernel_rfl) (by kernel_rfl)) (Jm (Jj ?_))))));have hq:=Option.some.inj hN;subst hq;exact Jnl 100002 (((([]:(List Kb)):(List Kb)).map cellsOf).length) (by kernel_rfl)
 refine Jg (Jb (Ja (Jc (zR 2 ?_))));obtain ⟨x1,h1,h⟩:=Je h;refine Jwm (tk:=7) (x:=.lst .full 4 32 []) h1 (.inr ⟨_,_,rfl⟩) (by kernel_rfl) (by kernel_rfl) ?_;refine zE (Jb (Jm ?_));have hq:=Option.some.inj h;subst hq;exact Jnl 7 ((x1.map cellsOf).length) (by kernel_rfl)
def Jgd (a4:Jz) (x33:(List Jq)):(Int×(List Jq))→Option ((Int×(List Jq))⊕((List Jq)⊕((List Jq)×Nat×(List Kb)))):=fun (x42,x43) =>
 bif decide (x42<((a4.Tracks.length:Nat):Int)) then (
  (ixO a4.Tracks x42).bind fun x53 =>
  (Ql x53.Steps).bind fun r54 =>
  (Kw x53.Routes).bind fun r55 =>
  (Kw x53.Starts).bind fun r56 =>
  (Kw x53.Ends).bind fun r57 =>
  (Kw x53.Done).bind fun r58 =>
  (Zp 0 (((x33:(List Jq)).map cellsOf).length) x42).bind fun j59 =>
  (Wl x43 (((x33:(List Jq)).map cellsOf).length) j59).bind fun x60 =>
  some (.inl (w64 (x42+1),(x43.set j59 (Jq.mk x53.Id x53.Origin x53.End x53.At r54 r55 r56 r57 r58 x53.Min x53.Sent x53.Accepted x53.Cut x53.CutSeq))))
 ) else (
  some (.inr (.inl x43))
 )
def Jgq (a0:Jd) (a1:Qo) (a2:Qs) (x31:Nat) (x264:Int):(List Jq)→Option ((List Jq)⊕((List Jq)⊕(List Jq))):=fun x430 =>
 (Zp 0 x31 x264).bind fun j445 =>
 (Wl x430 x31 j445).bind fun x446 =>
 ((bif decide (x446.CutSeq=0) then (
  (Zp 0 x31 x264).bind fun j448 =>
  (Wl x430 x31 j448).bind fun x449 =>
  some (!(decide (x449.End=(-1))))
 ) else some false):Option Bool).bind fun b447 =>
 bif b447 then (
  (Zp 0 x31 x264).bind fun j450 =>
  (Wl x430 x31 j450).bind fun x451 =>
  (Jea a1 a2 x430 x451.End).bind fun r452 =>
  bif decide (r452<0) then (
   some (.inr (.inr x430))
  ) else (
   (Zp 0 x31 x264).bind fun j453 =>
   (Wl x430 x31 j453).bind fun x454 =>
   (Rr a0 a1 x454 r452).bind fun r455 =>
   bif (!(decide (r455.2=0))) then (
    some (.inr (.inr x430))
   ) else (
    (Zp 0 x31 x264).bind fun j456 =>
    (Wl x430 x31 j456).bind fun x457 =>
    some (.inl (x430.set j456 r455.1))
   )
  )
 ) else (
  some (.inr (.inl x430))
 )
def Jgh (a0:Jd) (a1:Qo) (a2:Qs) (a3:(List Qa)) (a5:Int) (x31:Nat) (x32:(List Kb)):(Int×(List Jq)×(List Kb)×(List Kz))→Option ((Int×(List Jq)×(List Kb)×(List Kz))⊕(((List Jq)×(List Kb)×(List Kz))⊕(Jz×(List Kz)))):=fun (x264,x265,x266,x267) =>
 bif decide (x264<((x31:Nat):Int)) then (
  (Zp 0 x31 x264).bind fun j370 =>
  (Wl x265 x31 j370).bind fun x371 =>
  (Sc x371 a2).bind fun r372 =>
  (Zp 0 x31 x264).bind fun j373 =>
  (Wl x265 x31 j373).bind fun x374 =>
  Option.bind (α:=(List Jq)) (
   onInl (α:=(List Jq)) (β:=(List Jq)) (Ki (Jgq a0 a1 a2 x31 x264) (x265.set j373 r372)) fun x444 =>
   some x444
  ) fun x416 =>
  (Zp 0 x31 x264).bind fun j458 =>
  (Wl x416 x31 j458).bind fun x459 =>
  (Jez a0 a3 x459).bind fun r460 =>
  (Zp 0 x31 x264).bind fun j461 =>
  (Wl x416 x31 j461).bind fun x462 =>
  (Zp 0 (((x32:(List Kb)).map cellsOf).length) x264).bind fun j463 =>
  (Wl x266 (((x32:(List Kb)).map cellsOf).length) j463).bind fun x464 =>
  (Me x464 r460.2 a5).bind fun r465 =>
  (Zp 0 (((x32:(List Kb)).map cellsOf).length) x264).bind fun j466 =>
  (Wl x266 (((x32:(List Kb)).map cellsOf).length) j466).bind fun x467 =>
  (Ul x267 [r465.2]).bind fun x468 =>
  some (.inl (w64 (x264+1),(x416.set j461 r460.1),(x266.set j466 r465.1),x468))
 ) else (
  some (.inr (.inl (x265,x266,x267)))
 )
def Xz (a0:Jd) (a1:Qo) (a2:Qs) (a3:(List Qa)) (a4:Jz) (a5:Int):Option (Jz×(List Kz)) :=
 Option.bind (α:=((List Jq)×Nat×(List Kb))) (
  (Jyb ((a4.Tracks.length:Nat):Int) ((a4.Tracks.length:Nat):Int) 192 ((Jq.mk 0 0 0 0 [] [] [] [] [] 0 0 0 0 0):Jq)).bind fun x33 =>
  onInl (α:=(List Jq)) (β:=((List Jq)×Nat×(List Kb))) (Ki (Jgd a4 x33) (0,x33)) fun x52 =>
  (Vq a4.Sessions).bind fun r61 =>
  some (x52,((x33:(List Jq)).map cellsOf).length,r61)
 ) fun (x30,x31,x32) =>
 (Ge (Jz.mk x30 x32)).bind fun r62 =>
 bif (!r62) then (
  some ((Jz.mk x30 x32),([]:(List Kz)))
 ) else (
  onInl (α:=((List Jq)×(List Kb)×(List Kz))) (β:=(Jz×(List Kz))) (Ki (Jgh a0 a1 a2 a3 a5 x31 x32) (0,x30,x32,([]:(List Kz)))) fun (x367,x368,x369) =>
  some ((Jz.mk x367 x368),x369)
 )
set_option maxRecDepth 100000 in
theorem Je5 (a0:Jd) (a1:Qo) (a2:Qs) (a3:(List Qa)) (a4:Jz) (a5:Int) (r:(Jz×(List Kz))) (h:Xz a0 a1 a2 a3 a4 a5=some r):Kg Tryz.prog GlS 14 [Enc.pv a0,Enc.pv a1,Enc.pv a2,Enc.pv a3,Enc.pv a4,Enc.pv a5] (.tup [Enc.pv r.1,Jk (.own 100014) r.2]):=by
 unfold Xz at h;refine zC Tryz.func14 Tryz.ntmps14 ?_;refine Ja (Jc (zE (Jb (Ja (Jkf (Rw 0 1 (zE ?_)))))));refine Ez 1 ⟨[(3,Jk .frozen a3),(5,I6 a5),(6,.ref 1006 0),(7,.ref 1007 0),(8,.ref 1008 0),(10,.ref 1010 0),(12,.ref 1012 0),(18,Enc.pv a4)],[(1006,.cells (cellsOf a0)),(1007,.cells (cellsOf a1)),(1008,.cells (cellsOf a2)),(1010,.cells (cellsOf a4)),(1012,.cells ([.nil,.nil]))],[],[]⟩ 86 (by kernel_rfl) (by kernel_rfl) (by kernel_rfl) ?_;obtain ⟨o29,h29,h⟩:=Je h;refine Jpv (f:=40) (asx:=[Enc.pv a4]) (by kernel_rfl) Tryz.func40 (by rfl) rfl Tryz.ntmps40 (by rfl) ?_;refine Jfu o29 8600136 (fun (x30,x31,x32)=>⟨[(2,.ref 2 0),(53,Jk .frozen a3),(55,I6 a5),(56,.ref 1006 0),(57,.ref 1007 0),(58,.ref 1008 0),(60,.ref 1010 0),(62,.ref 1012 0)],[(2,.cells ([.ex 9 14 192 x31 0 x31,.ex 47 4 32 ((x32.map cellsOf).length) 0 ((x32.map cellsOf).length)])),(1006,.cells (cellsOf a0)),(1007,.cells (cellsOf a1)),(1008,.cells (cellsOf a2)),(1010,.cells (cellsOf a4)),(1012,.cells ([.nil,.nil]))],[(9,(x31,0)),(47,((x32.map cellsOf).length,0))],[(9,(14,(192,x30.map cellsOf))),(47,(4,(32,x32.map cellsOf)))]⟩) ?_ ?_
 ·refine Ja (Jc (zE (Jb (Ja (Jc (zR 2 ?_))))));refine zL (L:=a4.Tracks) ?_;obtain ⟨x33,h30,h29⟩:=Je h29;refine Jyp (z:=((Jq.mk 0 0 0 0 [] [] [] [] [] 0 0 0 0 0):Jq)) 9 h30 (by kernel_rfl) (by kernel_rfl) ?_;refine zE (Jb (Ja (Ja (Jc (zR 2 ?_)))));refine zL (L:=a4.Tracks) ?_;refine zE (Jb (Jl ?_));obtain ⟨o48,h48,h29⟩:=Kf h29;refine zA 8600136 0 (fun (x42,x43)=>⟨[(1,.ref 1 0),(2,.ref 2 0),(3,.ex 9 14 192 ((x33.map cellsOf).length) 0 ((x33.map cellsOf).length)),(11,Jk .frozen a4.Tracks),(12,I6 ((a4.Tracks.length:Nat):Int)),(13,I6 x42),(53,Jk .frozen a3),(55,I6 a5),(56,.ref 1006 0),(57,.ref 1007 0),(58,.ref 1008 0),(60,.ref 1010 0),(62,.ref 1012 0)],[(1,.cells (cellsOf a4)),(2,.cells ([.nil,.nil])),(1006,.cells (cellsOf a0)),(1007,.cells (cellsOf a1)),(1008,.cells (cellsOf a2)),(1010,.cells (cellsOf a4)),(1012,.cells ([.nil,.nil]))],[(9,((x33.map cellsOf).length,0))],[(9,(14,(192,x43.map cellsOf)))]⟩) (fun x52=>⟨[(1,.ref 1 0),(2,.ref 2 0),(3,.ex 9 14 192 ((x33.map cellsOf).length) 0 ((x33.map cellsOf).length)),(53,Jk .frozen a3),(55,I6 a5),(56,.ref 1006 0),(57,.ref 1007 0),(58,.ref 1008 0),(60,.ref 1010 0),(62,.ref 1012 0)],[(1,.cells (cellsOf a4)),(2,.cells ([.nil,.nil])),(1006,.cells (cellsOf a0)),(1007,.cells (cellsOf a1)),(1008,.cells (cellsOf a2)),(1010,.cells (cellsOf a4)),(1012,.cells ([.nil,.nil]))],[(9,((x33.map cellsOf).length,0))],[(9,(14,(192,x52.map cellsOf)))]⟩) h48 ?_ ?_
  ·rintro ⟨x42,x43⟩ oh47 h47;unfold Jgd at h47;refine Ja (Jc (zE (Jb (Ja ?_))));rcases Ji h47 with ⟨hb,h47⟩|⟨hb,h47⟩
   ·refine zT hb (Jg (Jb (Ja (Jl (Ja (Jc (zR 1 ?_)))))));obtain ⟨x53,h49,h47⟩:=Je h47;refine zI h49 (zE (Jb (Ja (Jc (zR 2 ?_)))));obtain ⟨r54,h50,h47⟩:=Je h47;refine zP (Uj _ r54 h50) (zE (Jb (Ja (Jc (zR 2 ?_)))));obtain ⟨r55,h51,h47⟩:=Je h47;refine zP (Ku _ r55 h51) (zE (Jb (Ja (Jc (zR 2 ?_)))));obtain ⟨r56,h52,h47⟩:=Je h47;refine zP (Ku _ r56 h52) (zE (Jb (Ja (Jc (zR 2 ?_)))));obtain ⟨r57,h53,h47⟩:=Je h47;refine zP (Ku _ r57 h53) (zE (Jb (Ja (Jc (zR 2 ?_)))));obtain ⟨r58,h54,h47⟩:=Je h47;refine zP (Ku _ r58 h54) (zE (Jb (Jc (zR 3 ?_))));obtain ⟨j59,h55,h47⟩:=Je h47;refine Uz (tk:=9) (k:=14) (N:=(x33.map cellsOf).length) h55 (by kernel_rfl) ?_;obtain ⟨x60,h56,h47⟩:=Je h47;refine Mr (L:=x43) (tk:=9) (N:=(x33.map cellsOf).length) (j:=j59) (y:=x60) (y':=(Jq.mk x53.Id x53.Origin x53.End x53.At r54 r55 r56 r57 r58 x53.Min x53.Sent x53.Accepted x53.Cut x53.CutSeq)) h56 0 14 [I6 x53.Id,I6 x53.Origin,I6 x53.End,I6 x53.At,Jk .frozen r54,Jk .frozen r55,Jk .frozen r56,Jk .frozen r57,Jk .frozen r58,I6 x53.Min,I6 x53.Sent,I6 x53.Accepted,I6 x53.Cut,I6 x53.CutSeq] (by kernel_rfl) (by kernel_rfl) ?_;refine zN (Jx (Jb (Jc (zE ?_))));cases h47;exact zB
   refine zU hb (Jv (Jt ?_));cases h47;exact zX
  rintro x52 s' rfl hs;have h29:=Ka h29;refine Jr (Jb (Jy hs (Ja (Jc (zE (Jb (Ja (Jc (zR 2 ?_)))))))));obtain ⟨r61,h57,h29⟩:=Je h29;refine Jmg (α:=Kb) 47 (Cw _ r61 h57) (by kernel_rfl) (by kernel_rfl) ?_;refine zE (Jb (Ja (Jc (zE (Jb (Jm ?_))))));cases h29;exact Jvm (by kernel_rfl) (by kernel_rfl)
 obtain ⟨x30,x31,x32⟩:=o29;refine Jqs (r:=.agg [.ex 9 14 192 x31 0 x31,.ex 47 4 32 ((x32.map cellsOf).length) 0 ((x32.map cellsOf).length)]) (by kernel_rfl) ?_;refine Ez 2 ⟨[(3,Jk .frozen a3),(5,I6 a5),(6,.ref 1006 0),(7,.ref 1007 0),(8,.ref 1008 0),(10,.ref 1010 0),(12,.ref 1012 0),(19,.agg [.ex 2000009 14 192 x31 0 x31,.ex 2000047 4 32 ((x32.map cellsOf).length) 0 ((x32.map cellsOf).length)])],[(1006,.cells (cellsOf a0)),(1007,.cells (cellsOf a1)),(1008,.cells (cellsOf a2)),(1010,.cells (cellsOf a4)),(1012,.cells ([.nil,.nil]))],[(2000009,(x31,0)),(2000047,((x32.map cellsOf).length,0))],[(2000009,(14,(192,x30.map cellsOf))),(2000047,(4,(32,x32.map cellsOf)))]⟩ 86 (by kernel_rfl) (by kernel_rfl) (by kernel_rfl) ?_;refine Ez 1 ⟨[(3,Jk .frozen a3),(5,I6 a5),(6,.ref 6 0),(7,.ref 7 0),(8,.ref 8 0),(10,.ref 10 0),(12,.ref 12 0),(19,.agg [.ex 2000009 14 192 x31 0 x31,.ex 2000047 4 32 ((x32.map cellsOf).length) 0 ((x32.map cellsOf).length)])],[(6,.cells (cellsOf a0)),(7,.cells (cellsOf a1)),(8,.cells (cellsOf a2)),(10,.cells (cellsOf a4)),(12,.cells ([.nil,.nil]))],[(2000009,(x31,0)),(2000047,((x32.map cellsOf).length,0))],[(2000009,(14,(192,x30.map cellsOf))),(2000047,(4,(32,x32.map cellsOf)))]⟩ 86 (by kernel_rfl) (by kernel_rfl) (by kernel_rfl) ?_;refine Rw 2 1 (zE (Jkj (Jb (Ja (Ja (Jc (zR 1 ?_)))))));obtain ⟨r62,h58,h⟩:=Je h;refine Fc [2000009,2000047] (Nk _ r62 h58) (by kernel_rfl) (by kernel_rfl) (by kernel_rfl) ?_;refine zE (Jb ?_);rcases Ji h with ⟨hb,h⟩|⟨hb,h⟩
 ·refine zT hb (Ja (Jc (zE (Jb ?_))));refine Jy (Gt (xss:=x30.map cellsOf) 2000009 14 192 x31 [] [(10,0),(12,0)] (by kernel_rfl) (by kernel_rfl) (by kernel_rfl) (by kernel_rfl)) ?_;refine Jy (Gt (xss:=x32.map cellsOf) 2000047 4 32 ((x32.map cellsOf).length) [] [(10,1),(12,1)] (by kernel_rfl) (by kernel_rfl) (by kernel_rfl) (by kernel_rfl)) ?_;refine Yz 13 100014 14 144 (by kernel_rfl) (by kernel_rfl) (Jm (Jj ?_));cases h;exact zQ
 refine zU hb (Jg (Jb (Ja (Jc (zE (Jb (Ja (Ja (Jc (zE (Jb (Jl (Yz 14 100014 14 144 (by kernel_rfl) (by kernel_rfl) ?_)))))))))))));obtain ⟨o393,h393,h⟩:=Kf h;refine zA 86 0 (fun (x264,x265,x266,x267)=>⟨[(3,Jk .frozen a3),(5,I6 a5),(6,.ref 6 0),(7,.ref 7 0),(8,.ref 8 0),(10,.ref 10 0),(12,.ref 12 0),(14,Jk (.own 100014) x267),(26,I6 ((x31:Nat):Int)),(27,I6 x264)],[(6,.cells (cellsOf a0)),(7,.cells (cellsOf a1)),(8,.cells (cellsOf a2)),(10,.cells ([.ex 2000009 14 192 x31 0 x31,.ex 2000047 4 32 ((x32.map cellsOf).length) 0 ((x32.map cellsOf).length)])),(12,.cells ([.nil,.nil]))],[(100014,(((x267).map cellsOf).length,14)),(2000009,(x31,0)),(2000047,((x32.map cellsOf).length,0))],[(2000009,(14,(192,x265.map cellsOf))),(2000047,(4,(32,x266.map cellsOf)))]⟩) (fun (x367,x368,x369)=>⟨[(10,.ref 10 0),(12,.ref 12 0),(14,Jk (.own 100014) x369)],[(10,.cells ([.ex 2000009 14 192 x31 0 x31,.ex 2000047 4 32 ((x32.map cellsOf).length) 0 ((x32.map cellsOf).length)])),(12,.cells ([.nil,.nil]))],[(100014,(((x369).map cellsOf).length,14)),(2000009,(x31,0)),(2000047,((x32.map cellsOf).length,0))],[(2000009,(14,(192,x367.map cellsOf))),(2000047,(4,(32,x368.map cellsOf)))]⟩) h393 ?_ ?_
 ·rintro ⟨x264,x265,x266,x267⟩ oh392 h392;unfold Jgh at h392;refine Ja (Jc (zE (Jb (Ja ?_))));rcases Ji h392 with ⟨hb,h392⟩|⟨hb,h392⟩
  ·refine zT hb (Jg (Jb (Ja (Jl (Ja (Jc (zE (Jb (Ja (zD (zR 6 ?_)))))))))));obtain ⟨j370,h394,h392⟩:=Je h392;refine Uz (tk:=2000009) (k:=14) (N:=x31) h394 (by kernel_rfl) ?_;obtain ⟨x371,h395,h392⟩:=Je h392;refine Vk (L:=x265) (N:=x31) (j:=j370) (y:=x371) (v:=Enc.pv x371) h395 true 14 0 (by kernel_rfl) (by kernel_rfl) ?_;refine zR 1 ?_;obtain ⟨r372,h396,h392⟩:=Je h392;refine zP (Jhj _ _ r372 h396) ?_;obtain ⟨j373,h397,h392⟩:=Je h392;refine Uz (tk:=2000009) (k:=14) (N:=x31) h397 (by kernel_rfl) ?_;obtain ⟨x374,h398,h392⟩:=Je h392;refine Mr (L:=x265) (tk:=2000009) (N:=x31) (j:=j373) (y:=x374) (y':=r372) h398 0 14 [I6 r372.Id,I6 r372.Origin,I6 r372.End,I6 r372.At,Jk .frozen r372.Steps,Jk .frozen r372.Routes,Jk .frozen r372.Starts,Jk .frozen r372.Ends,Jk .frozen r372.Done,I6 r372.Min,I6 r372.Sent,I6 r372.Accepted,I6 r372.Cut,I6 r372.CutSeq] (by kernel_rfl) (by kernel_rfl) ?_;refine zN (Jb (Ja (Jkf (Rw 0 6 (zE ?_)))));refine Ez 3 ⟨[(3,Jk .frozen a3),(5,I6 a5),(6,.ref 3006 0),(7,.ref 3007 0),(8,.ref 3008 0),(10,.ref 3010 0),(12,.ref 3012 0),(14,Jk (.own 3100014) x267),(15,I6 x264),(26,I6 ((x31:Nat):Int)),(27,I6 x264),(41,Enc.pv a0),(42,Enc.pv a1),(43,Enc.pv a2),(45,.ex 2000009 14 192 x31 0 x31),(46,I6 x264)],[(3006,.cells (cellsOf a0)),(3007,.cells (cellsOf a1)),(3008,.cells (cellsOf a2)),(3010,.cells ([.ex 2000009 14 192 x31 0 x31,.ex 2000047 4 32 ((x32.map cellsOf).length) 0 ((x32.map cellsOf).length)])),(3012,.cells ([.nil,.nil]))],[(3100014,(((x267).map cellsOf).length,14)),(2000009,(x31,0)),(2000047,((x32.map cellsOf).length,0))],[(2000009,(14,(192,((x265.set j373 r372):(List Jq)).map cellsOf))),(2000047,(4,(32,x266.map cellsOf)))]⟩ 86 (by kernel_rfl) (by kernel_rfl) (by kernel_rfl) ?_;obtain ⟨o446,h446,h392⟩:=Je h392;refine Jpv (f:=43) (asx:=[Enc.pv a0,Enc.pv a1,Enc.pv a2,.ex 2000009 14 192 x31 0 x31,I6 x264]) (by kernel_rfl) Tryz.func43 (by rfl) rfl Tryz.ntmps43 (by rfl) ?_;refine Jfu o446 8600141 (fun x416=>⟨[(58,Jk .frozen a3),(60,I6 a5),(61,.ref 3006 0),(62,.ref 3007 0),(63,.ref 3008 0),(65,.ref 3010 0),(67,.ref 3012 0),(69,Jk (.own 3100014) x267),(70,I6 x264),(81,I6 ((x31:Nat):Int)),(82,I6 x264)],[(3006,.cells (cellsOf a0)),(3007,.cells (cellsOf a1)),(3008,.cells (cellsOf a2)),(3010,.cells ([.ex 2000009 14 192 x31 0 x31,.ex 2000047 4 32 ((x32.map cellsOf).length) 0 ((x32.map cellsOf).length)])),(3012,.cells ([.nil,.nil]))],[(3100014,(((x267).map cellsOf).length,14)),(2000009,(x31,0)),(2000047,((x32.map cellsOf).length,0))],[(2000009,(14,(192,x416.map cellsOf))),(2000047,(4,(32,x266.map cellsOf)))]⟩) ?_ ?_
   ·refine Ja (Jc (zE (Jb (Jl ?_))));obtain ⟨o478,h478,h446⟩:=Kf h446;refine zA 8600141 0 (fun x430=>⟨[(3,.ex 2000009 14 192 x31 0 x31),(4,I6 x264),(5,.ref 5 0),(6,.ref 6 0),(7,.ref 7 0),(58,Jk .frozen a3),(60,I6 a5),(61,.ref 3006 0),(62,.ref 3007 0),(63,.ref 3008 0),(65,.ref 3010 0),(67,.ref 3012 0),(69,Jk (.own 3100014) x267),(70,I6 x264),(81,I6 ((x31:Nat):Int)),(82,I6 x264)],[(5,.cells (cellsOf a0)),(6,.cells (cellsOf a1)),(7,.cells (cellsOf a2)),(3006,.cells (cellsOf a0)),(3007,.cells (cellsOf a1)),(3008,.cells (cellsOf a2)),(3010,.cells ([.ex 2000009 14 192 x31 0 x31,.ex 2000047 4 32 ((x32.map cellsOf).length) 0 ((x32.map cellsOf).length)])),(3012,.cells ([.nil,.nil]))],[(3100014,(((x267).map cellsOf).length,14)),(2000009,(x31,0)),(2000047,((x32.map cellsOf).length,0))],[(2000009,(14,(192,x430.map cellsOf))),(2000047,(4,(32,x266.map cellsOf)))]⟩) (fun x444=>⟨[(58,Jk .frozen a3),(60,I6 a5),(61,.ref 3006 0),(62,.ref 3007 0),(63,.ref 3008 0),(65,.ref 3010 0),(67,.ref 3012 0),(69,Jk (.own 3100014) x267),(70,I6 x264),(81,I6 ((x31:Nat):Int)),(82,I6 x264)],[(3006,.cells (cellsOf a0)),(3007,.cells (cellsOf a1)),(3008,.cells (cellsOf a2)),(3010,.cells ([.ex 2000009 14 192 x31 0 x31,.ex 2000047 4 32 ((x32.map cellsOf).length) 0 ((x32.map cellsOf).length)])),(3012,.cells ([.nil,.nil]))],[(3100014,(((x267).map cellsOf).length,14)),(2000009,(x31,0)),(2000047,((x32.map cellsOf).length,0))],[(2000009,(14,(192,x444.map cellsOf))),(2000047,(4,(32,x266.map cellsOf)))]⟩) h478 ?_ ?_
    ·rintro x430 oh477 h477;unfold Jgq at h477;refine Ja (Ja (Jc (zR 2 ?_)));obtain ⟨j445,h479,h477⟩:=Je h477;refine Uz (tk:=2000009) (k:=14) (N:=x31) h479 (by kernel_rfl) ?_;refine zR 1 ?_;obtain ⟨x446,h480,h477⟩:=Je h477;refine Vk (L:=x430) (N:=x31) (j:=j445) (y:=x446) (v:=I6 x446.CutSeq) h480 false 1 13 (by kernel_rfl) (by kernel_rfl) ?_;obtain ⟨b447,h481,h477⟩:=Je h477;refine zR 2 ?_;refine Ko 7 26 (.bool b447) ?_ ?_
     ·rcases Ji h481 with ⟨hb,h481⟩|⟨hb,h481⟩
      ·refine zS 19 hb (zR 2 ?_);obtain ⟨j448,h482,h481⟩:=Je h481;refine Uz (tk:=2000009) (k:=14) (N:=x31) h482 (by kernel_rfl) ?_;refine zR 1 ?_;obtain ⟨x449,h483,h481⟩:=Je h481;refine Vk (L:=x430) (N:=x31) (j:=j448) (y:=x449) (v:=I6 x449.End) h483 false 1 2 (by kernel_rfl) (by kernel_rfl) ?_;cases h481;exact zF
      refine zS 19 hb ?_;cases h481;exact zF
     refine zN (Jb ?_);rcases Ji h477 with ⟨hb,h477⟩|⟨hb,h477⟩
     ·refine zT hb (Jg (Jb (Jl (Ja ?_))));obtain ⟨j450,h484,h477⟩:=Je h477;obtain ⟨x451,h485,h477⟩:=Je h477;obtain ⟨r452,h486,h477⟩:=Je h477;refine Keb 8600141 ⟨[(3,.ex 2000009 14 192 x31 0 x31),(4,I6 x264),(5,.ref 5 0),(6,.ref 6 0),(7,.ref 7 0),(10,I6 r452),(58,Jk .frozen a3),(60,I6 a5),(61,.ref 3006 0),(62,.ref 3007 0),(63,.ref 3008 0),(65,.ref 3010 0),(67,.ref 3012 0),(69,Jk (.own 3100014) x267),(70,I6 x264),(81,I6 ((x31:Nat):Int)),(82,I6 x264)],[(5,.cells (cellsOf a0)),(6,.cells (cellsOf a1)),(7,.cells (cellsOf a2)),(3006,.cells (cellsOf a0)),(3007,.cells (cellsOf a1)),(3008,.cells (cellsOf a2)),(3010,.cells ([.ex 2000009 14 192 x31 0 x31,.ex 2000047 4 32 ((x32.map cellsOf).length) 0 ((x32.map cellsOf).length)])),(3012,.cells ([.nil,.nil]))],[(3100014,(((x267).map cellsOf).length,14)),(2000009,(x31,0)),(2000047,((x32.map cellsOf).length,0))],[(2000009,(14,(192,x430.map cellsOf))),(2000047,(4,(32,x266.map cellsOf)))]⟩ (by kernel_rfl) ?_ ?_
      ·refine Wt [2,3,4] 7 (by kernel_rfl) ?_;refine Ue (n:=6) [0,1,5] (by kernel_rfl) ⟨?_, ?_, ?_,trivial⟩
       ·refine ⟨_,rfl, ?_⟩;refine zR 1 (Kq (by kernel_rfl) ?_);refine Ue (n:=5) [1,5] (by kernel_rfl) ⟨?_, ?_,trivial⟩
        ·refine ⟨_,rfl, ?_⟩;refine zR 1 (Kq (by kernel_rfl) ?_);refine Ue (n:=4) [5] (by kernel_rfl) ⟨?_,trivial⟩;refine ⟨_,rfl, ?_⟩;refine Uz (tk:=2000009) (k:=14) (N:=x31) h484 (by kernel_rfl) ?_;refine Kq (by kernel_rfl) ?_;refine Wt [6] 3 (by kernel_rfl) ?_;refine Ue (n:=2) [7] (by kernel_rfl) ⟨?_,trivial⟩;refine ⟨_,rfl, ?_⟩;refine Vk (L:=x430) (N:=x31) (j:=j450) (y:=x451) (v:=I6 x451.End) h485 false 1 2 (by kernel_rfl) (by kernel_rfl) ?_;refine Kq (by kernel_rfl) ?_;refine Ue (n:=1) [8] (by kernel_rfl) ⟨?_,trivial⟩;refine ⟨_,rfl, ?_⟩;refine Fc [2000009] (Uv _ _ _ _ r452 h486) (by kernel_rfl) (by kernel_rfl) (by kernel_rfl) ?_;refine Kq (by kernel_rfl) ?_;refine Wt [9] 0 (by kernel_rfl) ?_;exact Ij (by kernel_rfl) (.of (by kernel_rfl) (by kernel_rfl))
        refine ⟨_,rfl, ?_⟩;refine Uz (tk:=2000009) (k:=14) (N:=x31) h484 (by kernel_rfl) ?_;refine Kq (by kernel_rfl) ?_;refine Wt [6] 4 (by kernel_rfl) ?_;refine Ue (n:=3) [1,7] (by kernel_rfl) ⟨?_, ?_,trivial⟩
        ·refine ⟨_,rfl, ?_⟩;refine zR 1 (Kq (by kernel_rfl) ?_);refine Ue (n:=2) [7] (by kernel_rfl) ⟨?_,trivial⟩;refine ⟨_,rfl, ?_⟩;refine Vk (L:=x430) (N:=x31) (j:=j450) (y:=x451) (v:=I6 x451.End) h485 false 1 2 (by kernel_rfl) (by kernel_rfl) ?_;refine Kq (by kernel_rfl) ?_;refine Ue (n:=1) [8] (by kernel_rfl) ⟨?_,trivial⟩;refine ⟨_,rfl, ?_⟩;refine Fc [2000009] (Uv _ _ _ _ r452 h486) (by kernel_rfl) (by kernel_rfl) (by kernel_rfl) ?_;refine Kq (by kernel_rfl) ?_;refine Wt [9] 0 (by kernel_rfl) ?_;exact Ij (by kernel_rfl) (.of (by kernel_rfl) (by kernel_rfl))
        refine ⟨_,rfl, ?_⟩;refine Vk (L:=x430) (N:=x31) (j:=j450) (y:=x451) (v:=I6 x451.End) h485 false 1 2 (by kernel_rfl) (by kernel_rfl) ?_;refine Kq (by kernel_rfl) ?_;refine Ue (n:=2) [1] (by kernel_rfl) ⟨?_,trivial⟩;refine ⟨_,rfl, ?_⟩;refine zR 1 (Kq (by kernel_rfl) ?_);refine Ue (n:=1) [8] (by kernel_rfl) ⟨?_,trivial⟩;refine ⟨_,rfl, ?_⟩;refine Fc [2000009] (Uv _ _ _ _ r452 h486) (by kernel_rfl) (by kernel_rfl) (by kernel_rfl) ?_;refine Kq (by kernel_rfl) ?_;refine Wt [9] 0 (by kernel_rfl) ?_;exact Ij (by kernel_rfl) (.of (by kernel_rfl) (by kernel_rfl))
       ·refine ⟨_,rfl, ?_⟩;refine zR 1 (Kq (by kernel_rfl) ?_);refine Ue (n:=5) [0,5] (by kernel_rfl) ⟨?_, ?_,trivial⟩
        ·refine ⟨_,rfl, ?_⟩;refine zR 1 (Kq (by kernel_rfl) ?_);refine Ue (n:=4) [5] (by kernel_rfl) ⟨?_,trivial⟩;refine ⟨_,rfl, ?_⟩;refine Uz (tk:=2000009) (k:=14) (N:=x31) h484 (by kernel_rfl) ?_;refine Kq (by kernel_rfl) ?_;refine Wt [6] 3 (by kernel_rfl) ?_;refine Ue (n:=2) [7] (by kernel_rfl) ⟨?_,trivial⟩;refine ⟨_,rfl, ?_⟩;refine Vk (L:=x430) (N:=x31) (j:=j450) (y:=x451) (v:=I6 x451.End) h485 false 1 2 (by kernel_rfl) (by kernel_rfl) ?_;refine Kq (by kernel_rfl) ?_;refine Ue (n:=1) [8] (by kernel_rfl) ⟨?_,trivial⟩;refine ⟨_,rfl, ?_⟩;refine Fc [2000009] (Uv _ _ _ _ r452 h486) (by kernel_rfl) (by kernel_rfl) (by kernel_rfl) ?_;refine Kq (by kernel_rfl) ?_;refine Wt [9] 0 (by kernel_rfl) ?_;exact Ij (by kernel_rfl) (.of (by kernel_rfl) (by kernel_rfl))
        refine ⟨_,rfl, ?_⟩;refine Uz (tk:=2000009) (k:=14) (N:=x31) h484 (by kernel_rfl) ?_;refine Kq (by kernel_rfl) ?_;refine Wt [6] 4 (by kernel_rfl) ?_;refine Ue (n:=3) [0,7] (by kernel_rfl) ⟨?_, ?_,trivial⟩
        ·refine ⟨_,rfl, ?_⟩;refine zR 1 (Kq (by kernel_rfl) ?_);refine Ue (n:=2) [7] (by kernel_rfl) ⟨?_,trivial⟩;refine ⟨_,rfl, ?_⟩;refine Vk (L:=x430) (N:=x31) (j:=j450) (y:=x451) (v:=I6 x451.End) h485 false 1 2 (by kernel_rfl) (by kernel_rfl) ?_;refine Kq (by kernel_rfl) ?_;refine Ue (n:=1) [8] (by kernel_rfl) ⟨?_,trivial⟩;refine ⟨_,rfl, ?_⟩;refine Fc [2000009] (Uv _ _ _ _ r452 h486) (by kernel_rfl) (by kernel_rfl) (by kernel_rfl) ?_;refine Kq (by kernel_rfl) ?_;refine Wt [9] 0 (by kernel_rfl) ?_;exact Ij (by kernel_rfl) (.of (by kernel_rfl) (by kernel_rfl))
        refine ⟨_,rfl, ?_⟩;refine Vk (L:=x430) (N:=x31) (j:=j450) (y:=x451) (v:=I6 x451.End) h485 false 1 2 (by kernel_rfl) (by kernel_rfl) ?_;refine Kq (by kernel_rfl) ?_;refine Ue (n:=2) [0] (by kernel_rfl) ⟨?_,trivial⟩;refine ⟨_,rfl, ?_⟩;refine zR 1 (Kq (by kernel_rfl) ?_);refine Ue (n:=1) [8] (by kernel_rfl) ⟨?_,trivial⟩;refine ⟨_,rfl, ?_⟩;refine Fc [2000009] (Uv _ _ _ _ r452 h486) (by kernel_rfl) (by kernel_rfl) (by kernel_rfl) ?_;refine Kq (by kernel_rfl) ?_;refine Wt [9] 0 (by kernel_rfl) ?_;exact Ij (by kernel_rfl) (.of (by kernel_rfl) (by kernel_rfl))
       refine ⟨_,rfl, ?_⟩;refine Uz (tk:=2000009) (k:=14) (N:=x31) h484 (by kernel_rfl) ?_;refine Kq (by kernel_rfl) ?_;refine Wt [6] 5 (by kernel_rfl) ?_;refine Ue (n:=4) [0,1,7] (by kernel_rfl) ⟨?_, ?_, ?_,trivial⟩
       ·refine ⟨_,rfl, ?_⟩;refine zR 1 (Kq (by kernel_rfl) ?_);refine Ue (n:=3) [1,7] (by kernel_rfl) ⟨?_, ?_,trivial⟩
        ·refine ⟨_,rfl, ?_⟩;refine zR 1 (Kq (by kernel_rfl) ?_);refine Ue (n:=2) [7] (by kernel_rfl) ⟨?_,trivial⟩;refine ⟨_,rfl, ?_⟩;refine Vk (L:=x430) (N:=x31) (j:=j450) (y:=x451) (v:=I6 x451.End) h485 false 1 2 (by kernel_rfl) (by kernel_rfl) ?_;refine Kq (by kernel_rfl) ?_;refine Ue (n:=1) [8] (by kernel_rfl) ⟨?_,trivial⟩;refine ⟨_,rfl, ?_⟩;refine Fc [2000009] (Uv _ _ _ _ r452 h486) (by kernel_rfl) (by kernel_rfl) (by kernel_rfl) ?_;refine Kq (by kernel_rfl) ?_;refine Wt [9] 0 (by kernel_rfl) ?_;exact Ij (by kernel_rfl) (.of (by kernel_rfl) (by kernel_rfl))
        refine ⟨_,rfl, ?_⟩;refine Vk (L:=x430) (N:=x31) (j:=j450) (y:=x451) (v:=I6 x451.End) h485 false 1 2 (by kernel_rfl) (by kernel_rfl) ?_;refine Kq (by kernel_rfl) ?_;refine Ue (n:=2) [1] (by kernel_rfl) ⟨?_,trivial⟩;refine ⟨_,rfl, ?_⟩;refine zR 1 (Kq (by kernel_rfl) ?_);refine Ue (n:=1) [8] (by kernel_rfl) ⟨?_,trivial⟩;refine ⟨_,rfl, ?_⟩;refine Fc [2000009] (Uv _ _ _ _ r452 h486) (by kernel_rfl) (by kernel_rfl) (by kernel_rfl) ?_;refine Kq (by kernel_rfl) ?_;refine Wt [9] 0 (by kernel_rfl) ?_;exact Ij (by kernel_rfl) (.of (by kernel_rfl) (by kernel_rfl))
       ·refine ⟨_,rfl, ?_⟩;refine zR 1 (Kq (by kernel_rfl) ?_);refine Ue (n:=3) [0,7] (by kernel_rfl) ⟨?_, ?_,trivial⟩
        ·refine ⟨_,rfl, ?_⟩;refine zR 1 (Kq (by kernel_rfl) ?_);refine Ue (n:=2) [7] (by kernel_rfl) ⟨?_,trivial⟩;refine ⟨_,rfl, ?_⟩;refine Vk (L:=x430) (N:=x31) (j:=j450) (y:=x451) (v:=I6 x451.End) h485 false 1 2 (by kernel_rfl) (by kernel_rfl) ?_;refine Kq (by kernel_rfl) ?_;refine Ue (n:=1) [8] (by kernel_rfl) ⟨?_,trivial⟩;refine ⟨_,rfl, ?_⟩;refine Fc [2000009] (Uv _ _ _ _ r452 h486) (by kernel_rfl) (by kernel_rfl) (by kernel_rfl) ?_;refine Kq (by kernel_rfl) ?_;refine Wt [9] 0 (by kernel_rfl) ?_;exact Ij (by kernel_rfl) (.of (by kernel_rfl) (by kernel_rfl))
        refine ⟨_,rfl, ?_⟩;refine Vk (L:=x430) (N:=x31) (j:=j450) (y:=x451) (v:=I6 x451.End) h485 false 1 2 (by kernel_rfl) (by kernel_rfl) ?_;refine Kq (by kernel_rfl) ?_;refine Ue (n:=2) [0] (by kernel_rfl) ⟨?_,trivial⟩;refine ⟨_,rfl, ?_⟩;refine zR 1 (Kq (by kernel_rfl) ?_);refine Ue (n:=1) [8] (by kernel_rfl) ⟨?_,trivial⟩;refine ⟨_,rfl, ?_⟩;refine Fc [2000009] (Uv _ _ _ _ r452 h486) (by kernel_rfl) (by kernel_rfl) (by kernel_rfl) ?_;refine Kq (by kernel_rfl) ?_;refine Wt [9] 0 (by kernel_rfl) ?_;exact Ij (by kernel_rfl) (.of (by kernel_rfl) (by kernel_rfl))
       refine ⟨_,rfl, ?_⟩;refine Vk (L:=x430) (N:=x31) (j:=j450) (y:=x451) (v:=I6 x451.End) h485 false 1 2 (by kernel_rfl) (by kernel_rfl) ?_;refine Kq (by kernel_rfl) ?_;refine Ue (n:=3) [0,1] (by kernel_rfl) ⟨?_, ?_,trivial⟩
       ·refine ⟨_,rfl, ?_⟩;refine zR 1 (Kq (by kernel_rfl) ?_);refine Ue (n:=2) [1] (by kernel_rfl) ⟨?_,trivial⟩;refine ⟨_,rfl, ?_⟩;refine zR 1 (Kq (by kernel_rfl) ?_);refine Ue (n:=1) [8] (by kernel_rfl) ⟨?_,trivial⟩;refine ⟨_,rfl, ?_⟩;refine Fc [2000009] (Uv _ _ _ _ r452 h486) (by kernel_rfl) (by kernel_rfl) (by kernel_rfl) ?_;refine Kq (by kernel_rfl) ?_;refine Wt [9] 0 (by kernel_rfl) ?_;exact Ij (by kernel_rfl) (.of (by kernel_rfl) (by kernel_rfl))
       refine ⟨_,rfl, ?_⟩;refine zR 1 (Kq (by kernel_rfl) ?_);refine Ue (n:=2) [0] (by kernel_rfl) ⟨?_,trivial⟩;refine ⟨_,rfl, ?_⟩;refine zR 1 (Kq (by kernel_rfl) ?_);refine Ue (n:=1) [8] (by kernel_rfl) ⟨?_,trivial⟩;refine ⟨_,rfl, ?_⟩;refine Fc [2000009] (Uv _ _ _ _ r452 h486) (by kernel_rfl) (by kernel_rfl) (by kernel_rfl) ?_;refine Kq (by kernel_rfl) ?_;refine Wt [9] 0 (by kernel_rfl) ?_;exact Ij (by kernel_rfl) (.of (by kernel_rfl) (by kernel_rfl))
      refine Jb (Ja (Ja (Jc (zE (Jb ?_)))));rcases Ji h477 with ⟨hb,h477⟩|⟨hb,h477⟩
      ·refine zT hb (Jm (Jj (Jp ?_)));cases h477;refine Kc fun he=>?_;subst he;have h487:=Km h446;refine Jp ?_;cases h487;exact Jvm (by kernel_rfl) (by kernel_rfl)
      refine zU hb (Jg (Jb (Ja (zD (zR 4 ?_)))));obtain ⟨j453,h488,h477⟩:=Je h477;refine Uz (tk:=2000009) (k:=14) (N:=x31) h488 (by kernel_rfl) ?_;obtain ⟨x454,h489,h477⟩:=Je h477;refine Vk (L:=x430) (N:=x31) (j:=j453) (y:=x454) (v:=Enc.pv x454) h489 true 14 0 (by kernel_rfl) (by kernel_rfl) ?_;refine zR 1 ?_;obtain ⟨r455,h490,h477⟩:=Je h477;refine zP (Jgx _ _ _ _ r455 h490) (zE (Jb (Ja (Ja (Jc (zE (Jb ?_)))))));rcases Ji h477 with ⟨hb,h477⟩|⟨hb,h477⟩
      ·refine zT hb (Jm (Jj (Jp ?_)));cases h477;refine Kc fun he=>?_;subst he;have h491:=Km h446;refine Jp ?_;cases h491;exact Jvm (by kernel_rfl) (by kernel_rfl)
      refine zU hb (Jg (Jb (Jc (zR 3 ?_))));obtain ⟨j456,h492,h477⟩:=Je h477;refine Uz (tk:=2000009) (k:=14) (N:=x31) h492 (by kernel_rfl) ?_;obtain ⟨x457,h493,h477⟩:=Je h477;refine Mr (L:=x430) (tk:=2000009) (N:=x31) (j:=j456) (y:=x457) (y':=r455.1) h493 0 14 [I6 r455.1.Id,I6 r455.1.Origin,I6 r455.1.End,I6 r455.1.At,Jk .frozen r455.1.Steps,Jk .frozen r455.1.Routes,Jk .frozen r455.1.Starts,Jk .frozen r455.1.Ends,Jk .frozen r455.1.Done,I6 r455.1.Min,I6 r455.1.Sent,I6 r455.1.Accepted,I6 r455.1.Cut,I6 r455.1.CutSeq] (by kernel_rfl) (by kernel_rfl) ?_;refine zN (Jx ?_);cases h477;exact zB
     refine zU hb (Jv (Jt ?_));cases h477;exact zX
    rintro x444 s' rfl hs;have h446:=Ka h446;refine Jr ?_;cases h446;exact Kbo hs (by kernel_rfl) (by kernel_rfl)
   generalize o446=x416 at *;refine Jqs (r:=.tup []) (by kernel_rfl) ?_;refine Ez 4 ⟨[(3,Jk .frozen a3),(5,I6 a5),(6,.ref 3006 0),(7,.ref 3007 0),(8,.ref 3008 0),(10,.ref 3010 0),(12,.ref 3012 0),(14,Jk (.own 3100014) x267),(15,I6 x264),(26,I6 ((x31:Nat):Int)),(27,I6 x264)],[(3006,.cells (cellsOf a0)),(3007,.cells (cellsOf a1)),(3008,.cells (cellsOf a2)),(3010,.cells ([.ex 2000009 14 192 x31 0 x31,.ex 2000047 4 32 ((x32.map cellsOf).length) 0 ((x32.map cellsOf).length)])),(3012,.cells ([.nil,.nil]))],[(3100014,(((x267).map cellsOf).length,14)),(2000009,(x31,0)),(2000047,((x32.map cellsOf).length,0))],[(2000009,(14,(192,x416.map cellsOf))),(2000047,(4,(32,x266.map cellsOf)))]⟩ 86 (by kernel_rfl) (by kernel_rfl) (by kernel_rfl) ?_;refine Ez 3 ⟨[(3,Jk .frozen a3),(5,I6 a5),(6,.ref 6 0),(7,.ref 7 0),(8,.ref 8 0),(10,.ref 10 0),(12,.ref 12 0),(14,Jk (.own 100014) x267),(15,I6 x264),(26,I6 ((x31:Nat):Int)),(27,I6 x264)],[(6,.cells (cellsOf a0)),(7,.cells (cellsOf a1)),(8,.cells (cellsOf a2)),(10,.cells ([.ex 2000009 14 192 x31 0 x31,.ex 2000047 4 32 ((x32.map cellsOf).length) 0 ((x32.map cellsOf).length)])),(12,.cells ([.nil,.nil]))],[(100014,(((x267).map cellsOf).length,14)),(2000009,(x31,0)),(2000047,((x32.map cellsOf).length,0))],[(2000009,(14,(192,x416.map cellsOf))),(2000047,(4,(32,x266.map cellsOf)))]⟩ 86 (by kernel_rfl) (by kernel_rfl) (by kernel_rfl) ?_;refine Rw 7 0 (zN (Jkj (Jb (Ja (zD (zR 5 ?_))))));obtain ⟨j458,h494,h392⟩:=Je h392;refine Uz (tk:=2000009) (k:=14) (N:=x31) h494 (by kernel_rfl) ?_;obtain ⟨x459,h495,h392⟩:=Je h392;refine Vk (L:=x416) (N:=x31) (j:=j458) (y:=x459) (v:=Enc.pv x459) h495 true 14 0 (by kernel_rfl) (by kernel_rfl) ?_;obtain ⟨r460,h496,h392⟩:=Je h392;refine zP (Jor _ _ _ r460 h496) (zE (Jb (Ja (Jc (zR 4 ?_)))));obtain ⟨j461,h497,h392⟩:=Je h392;refine Uz (tk:=2000009) (k:=14) (N:=x31) h497 (by kernel_rfl) ?_;obtain ⟨x462,h498,h392⟩:=Je h392;refine Mr (L:=x416) (tk:=2000009) (N:=x31) (j:=j461) (y:=x462) (y':=r460.1) h498 0 14 [I6 r460.1.Id,I6 r460.1.Origin,I6 r460.1.End,I6 r460.1.At,Jk .frozen r460.1.Steps,Jk .frozen r460.1.Routes,Jk .frozen r460.1.Starts,Jk .frozen r460.1.Ends,Jk .frozen r460.1.Done,I6 r460.1.Min,I6 r460.1.Sent,I6 r460.1.Accepted,I6 r460.1.Cut,I6 r460.1.CutSeq] (by kernel_rfl) (by kernel_rfl) ?_;refine zN (Jb (Ja (zD (zR 6 ?_))));obtain ⟨j463,h499,h392⟩:=Je h392;refine Uz (tk:=2000047) (k:=4) (N:=(x32.map cellsOf).length) h499 (by kernel_rfl) ?_;obtain ⟨x464,h500,h392⟩:=Je h392;refine Vk (L:=x266) (N:=(x32.map cellsOf).length) (j:=j463) (y:=x464) (v:=Enc.pv x464) h500 true 4 0 (by kernel_rfl) (by kernel_rfl) ?_;refine zR 2 ?_;obtain ⟨r465,h501,h392⟩:=Je h392;refine zP (Xt _ _ _ r465 h501) (zR 3 ?_);obtain ⟨j466,h502,h392⟩:=Je h392;refine Uz (tk:=2000047) (k:=4) (N:=(x32.map cellsOf).length) h502 (by kernel_rfl) ?_;obtain ⟨x467,h503,h392⟩:=Je h392;refine Mr (L:=x266) (tk:=2000047) (N:=(x32.map cellsOf).length) (j:=j466) (y:=x467) (y':=r465.1) h503 0 4 [I6 r465.1.Peer,I6 r465.1.Out,I6 r465.1.In,I6 r465.1.Heard] (by kernel_rfl) (by kernel_rfl) ?_;refine zE (Jb (Jc (zR 3 ?_)));obtain ⟨x468,h504,h392⟩:=Je h392;refine zW (tk:=100014) h504 ?_;refine zE (Jx (Jb (Jc (zE ?_))));cases h392;exact zB
  refine zU hb (Jv (Jt ?_));cases h392;exact zX
 rintro ⟨x367,x368,x369⟩ s' rfl hs;have h:=Ka h;refine Jr (Jb (Jy hs (Ja (Jc (zE (Jb ?_))))));refine Jy (Gt (xss:=x367.map cellsOf) 2000009 14 192 x31 [] [(10,0),(12,0)] (by kernel_rfl) (by kernel_rfl) (by kernel_rfl) (by kernel_rfl)) ?_;refine Jy (Gt (xss:=x368.map cellsOf) 2000047 4 32 ((x32.map cellsOf).length) [] [(10,1),(12,1)] (by kernel_rfl) (by kernel_rfl) (by kernel_rfl) (by kernel_rfl)) ?_;refine Jm ?_;cases h;exact zQ
def Jdg (a0:(List Jq)):(Int×(List (Int×Int)))→Option ((Int×(List (Int×Int)))⊕((List (Int×Int))⊕(List (Int×Int)))):=fun (x4,x5) =>
 bif decide (x4<((a0.length:Nat):Int)) then (
  onInl (α:=(List (Int×Int))) (β:=((Int×(List (Int×Int)))⊕((List (Int×Int))⊕(List (Int×Int))))) (
   (ixO a0 x4).bind fun x12 =>
   bif (!((Uo (x5:(List (Int×Int))) x12.Id).isSome)) then (
    some (.inl (Dj x12.Id x4 x5))
   ) else (
    some (.inl x5)
   )
  ) fun x11 =>
  some (.inl (w64 (x4+1),x11))
 ) else (
  some (.inr (.inl x5))
 )
def Pd (a0:(List Jq)):Option (List (Int×Int)) :=
 onInl (α:=(List (Int×Int))) (β:=(List (Int×Int))) (Ki (Jdg a0) (0,([]:(List (Int×Int))))) fun x9 =>
 some x9
theorem Jbl (a0:(List Jq)) (r:(List (Int×Int))) (h:Pd a0=some r):Kg Tryz.prog GlS 53 [Enc.pv a0] (Jt2 (r:(List (Int×Int)))):=by
 unfold Pd at h;refine zC Tryz.func53 Tryz.ntmps53 ?_;refine Ja (Jc (zE (Jb (Ja (Jc (zE (Jb (Ja (Ja (Jc (zR 1 ?_)))))))))));refine zL (L:=a0) ?_;refine zE (Jb (Jl ?_));obtain ⟨o8,h8,h⟩:=Kf h;refine zA 31 0 (fun (x4,x5)=>⟨[(3,.mp 8),(9,Jk .frozen a0),(10,I6 ((a0.length:Nat):Int)),(11,I6 x4)],[(8,.map (Wc x5))],[],[]⟩) (fun x9=>⟨[(3,.mp 8)],[(8,.map (Wc x9))],[],[]⟩) h8 ?_ ?_
 ·rintro ⟨x4,x5⟩ oh7 h7;unfold Jdg at h7;refine Ja (Jc (zE (Jb (Ja ?_))));rcases Ji h7 with ⟨hb,h7⟩|⟨hb,h7⟩
  ·refine zT hb (Jg (Jb ?_));obtain ⟨o10,h10,h7⟩:=Kf h7;refine Qm (o:=o10) 31 (fun x11=>⟨[(3,.mp 8),(9,Jk .frozen a0),(10,I6 ((a0.length:Nat):Int)),(11,I6 x4)],[(8,.map (Wc x11))],[],[]⟩) ?_ ?_
   ·refine Jl (Ja (Jc (zR 1 ?_)));obtain ⟨x12,h11,h10⟩:=Je h10;refine zI h11 (zE (Jb (Ja (Jc (zR 3 ?_)))));refine Jjf (m:=x5) (k:=x12.Id) 0 8 (by kernel_rfl) (by kernel_rfl) ?_;refine zE (Jb (Ja (Jc (zE (Jb ?_)))));rcases Ji h10 with ⟨hb,h10⟩|⟨hb,h10⟩
    ·refine zT hb (Jc (zR 4 ?_));refine Jg6 (m:=x5) (k:=x12.Id) (v:=x4) 8 (by kernel_rfl) (by kernel_rfl) (by kernel_rfl) ?_;refine zN (Jx ?_);cases h10;exact zJ
    refine zU hb (Jg (Jx ?_));cases h10;exact zJ
   rintro x11 rfl;have h7:=Ka h7;refine Jc (zE ?_);cases h7;exact zB
  refine zU hb (Jv (Jt ?_));cases h7;exact zX
 rintro x9 s' rfl hs;have h:=Ka h;refine Jr (Jb (Jy hs (Ja (Jc (zE (Jb ?_))))));refine Kb8 8 [] x9 (by kernel_rfl) (by kernel_rfl) (by kernel_rfl) ?_;refine Jm ?_;cases h;exact zQ
def Jdf (a1:Jz) (x35:(List Jq)):(Int×(List Jq))→Option ((Int×(List Jq))⊕((List Jq)⊕((List Jq)×Nat×(List Kb)))):=fun (x44,x45) =>
 bif decide (x44<((a1.Tracks.length:Nat):Int)) then (
  (ixO a1.Tracks x44).bind fun x55 =>
  (Ql x55.Steps).bind fun r56 =>
  (Kw x55.Routes).bind fun r57 =>
  (Kw x55.Starts).bind fun r58 =>
  (Kw x55.Ends).bind fun r59 =>
  (Kw x55.Done).bind fun r60 =>
  (Zp 0 (((x35:(List Jq)).map cellsOf).length) x44).bind fun j61 =>
  (Wl x45 (((x35:(List Jq)).map cellsOf).length) j61).bind fun x62 =>
  some (.inl (w64 (x44+1),(x45.set j61 (Jq.mk x55.Id x55.Origin x55.End x55.At r56 r57 r58 r59 r60 x55.Min x55.Sent x55.Accepted x55.Cut x55.CutSeq))))
 ) else (
  some (.inr (.inl x45))
 )
def Jar (a0:Qo) (a1:Jz) (a2:Int) (a3:Int):Option (Jz×Int) :=
 (Ge a1).bind fun r1 =>
 bif (!r1) then (
  some ((Jz.mk [] []),1)
 ) else (
  (Pd a1.Tracks).bind fun r2 =>
  bif (!((Uo (r2:(List (Int×Int))) a2).isSome)) then (
   some ((Jz.mk [] []),9)
  ) else (
   Option.bind (α:=((List Jq)×Nat×(List Kb))) (
    (Jyb ((a1.Tracks.length:Nat):Int) ((a1.Tracks.length:Nat):Int) 192 ((Jq.mk 0 0 0 0 [] [] [] [] [] 0 0 0 0 0):Jq)).bind fun x35 =>
    onInl (α:=(List Jq)) (β:=((List Jq)×Nat×(List Kb))) (Ki (Jdf a1 x35) (0,x35)) fun x54 =>
    (Zw a1.Sessions).bind fun r63 =>
    some (x54,((x35:(List Jq)).map cellsOf).length,r63)
   ) fun (x32,x33,x34) =>
   (Zp 0 x33 ((Uo (r2:(List (Int×Int))) a2).getD 0)).bind fun j64 =>
   (Wl x32 x33 j64).bind fun x65 =>
   bif (!(decide (x65.CutSeq=0))) then (
    some ((Jz.mk [] []),11)
   ) else (
    ((bif decide (a3<0) then some true else (
     (Wl x32 x33 j64).bind fun x67 =>
     some (decide (((x67.Routes.length:Nat):Int)≤a3))
    )):Option Bool).bind fun b66 =>
    ((bif b66 then some true else (
     (Wl x32 x33 j64).bind fun x69 =>
     some (decide (((x69.Ends.length:Nat):Int)≤a3))
    )):Option Bool).bind fun b68 =>
    bif b68 then (
     some ((Jz.mk [] []),1)
    ) else (
     (Wl x32 x33 j64).bind fun x70 =>
     (ixO x70.Routes a3).bind fun x71 =>
     ((bif decide (x71<0) then some true else (
      some (decide (((a0.Routes.length:Nat):Int)≤x71))
     )):Option Bool).bind fun b72 =>
     bif b72 then (
      some ((Jz.mk [] []),1)
     ) else (
      (Wl x32 x33 j64).bind fun x73 =>
      (ixO x73.Ends a3).bind fun x74 =>
      (ixO a0.Routes x71).bind fun x75 =>
      (Wl x32 x33 j64).bind fun x76 =>
      (Wl (x32.set j64 (Jq.mk x76.Id x76.Origin x76.End x76.At x76.Steps x76.Routes x76.Starts x76.Ends x76.Done x76.Min x76.Sent x76.Accepted (w64 (x74 - x75.Length)) x76.CutSeq)) x33 j64).bind fun x77 =>
      (Wl (x32.set j64 (Jq.mk x76.Id x76.Origin x76.End x76.At x76.Steps x76.Routes x76.Starts x76.Ends x76.Done x76.Min x76.Sent x76.Accepted (w64 (x74 - x75.Length)) x76.CutSeq)) x33 j64).bind fun x78 =>
      some ((Jz.mk ((x32.set j64 (Jq.mk x76.Id x76.Origin x76.End x76.At x76.Steps x76.Routes x76.Starts x76.Ends x76.Done x76.Min x76.Sent x76.Accepted (w64 (x74 - x75.Length)) x76.CutSeq)).set j64 (Jq.mk x78.Id x78.Origin x78.End x78.At x78.Steps x78.Routes x78.Starts x78.Ends x78.Done x78.Min x78.Sent x78.Accepted x78.Cut (w64 (x77.Sent+1)))) x34),0)
     )
    )
   )
  )
 )
set_option maxRecDepth 100000 in
theorem Jjy (a0:Qo) (a1:Jz) (a2:Int) (a3:Int) (r:(Jz×Int)) (h:Jar a0 a1 a2 a3=some r):Kg Tryz.prog GlS 20 [Enc.pv a0,Enc.pv a1,Enc.pv a2,Enc.pv a3] (.tup [Enc.pv r.1,Enc.pv r.2]):=by
 unfold Jar at h;refine zC Tryz.func20 Tryz.ntmps20 ?_;refine Ja (Jc (zE (Jb (Ja (Ja (Jc (zR 1 ?_)))))));obtain ⟨r1,h1,h⟩:=Je h;refine zP (Nk _ r1 h1) (zE (Jb ?_));rcases Ji h with ⟨hb,h⟩|⟨hb,h⟩
 ·refine zT hb (Ja (Jc (zE (Jb (Jm (Jj ?_))))));cases h;exact zQ
 refine zU hb (Jg (Jb (Ja (Jc (zR 2 ?_)))));obtain ⟨r2,h2,h⟩:=Je h;refine zP (Jbl _ r2 h2) (zR 1 ?_);refine Jjw (m:=r2) (k:=a2) 0 true (by kernel_rfl) ?_;refine zE (Jb (Ja (Ja (Jc (zE (Jb ?_))))));rcases Ji h with ⟨hb,h⟩|⟨hb,h⟩
 ·refine zT hb (Ja (Jc (zE (Jb (Jm (Jj ?_))))));cases h;exact zQ
 refine zU hb (Jg (Jb (Ja (Jkf (Rw 0 1 (zE ?_))))));refine Ez 1 ⟨[(3,I6 a3),(4,.ref 1004 0),(5,.ref 1005 0),(8,.ref 1008 0),(10,I6 ((Uo r2 a2).getD 0)),(29,Enc.pv a1)],[(1004,.cells (cellsOf a0)),(1005,.cells (cellsOf a1)),(1008,.cells ([.nil,.nil]))],[],[]⟩ 105 (by kernel_rfl) (by kernel_rfl) (by kernel_rfl) ?_;obtain ⟨o31,h31,h⟩:=Je h;refine Jpv (f:=40) (asx:=[Enc.pv a1]) (by kernel_rfl) Tryz.func40 (by rfl) rfl Tryz.ntmps40 (by rfl) ?_;refine Jfu o31 10500155 (fun (x32,x33,x34)=>⟨[(2,.ref 2 0),(53,I6 a3),(54,.ref 1004 0),(55,.ref 1005 0),(58,.ref 1008 0),(60,I6 ((Uo r2 a2).getD 0))],[(2,.cells ([.ex 9 14 192 x33 0 x33,Jk (.own 47007) x34])),(1004,.cells (cellsOf a0)),(1005,.cells (cellsOf a1)),(1008,.cells ([.nil,.nil]))],[(47007,(((x34).map cellsOf).length,4)),(9,(x33,0))],[(9,(14,(192,x32.map cellsOf)))]⟩) ?_ ?_
 ·refine Ja (Jc (zE (Jb (Ja (Jc (zR 2 ?_))))));refine zL (L:=a1.Tracks) ?_;obtain ⟨x35,h32,h31⟩:=Je h31;refine Jyp (z:=((Jq.mk 0 0 0 0 [] [] [] [] [] 0 0 0 0 0):Jq)) 9 h32 (by kernel_rfl) (by kernel_rfl) ?_;refine zE (Jb (Ja (Ja (Jc (zR 2 ?_)))));refine zL (L:=a1.Tracks) ?_;refine zE (Jb (Jl ?_));obtain ⟨o50,h50,h31⟩:=Kf h31;refine zA 10500155 0 (fun (x44,x45)=>⟨[(1,.ref 1 0),(2,.ref 2 0),(3,.ex 9 14 192 ((x35.map cellsOf).length) 0 ((x35.map cellsOf).length)),(11,Jk .frozen a1.Tracks),(12,I6 ((a1.Tracks.length:Nat):Int)),(13,I6 x44),(53,I6 a3),(54,.ref 1004 0),(55,.ref 1005 0),(58,.ref 1008 0),(60,I6 ((Uo r2 a2).getD 0))],[(1,.cells (cellsOf a1)),(2,.cells ([.nil,.nil])),(1004,.cells (cellsOf a0)),(1005,.cells (cellsOf a1)),(1008,.cells ([.nil,.nil]))],[(9,((x35.map cellsOf).length,0))],[(9,(14,(192,x45.map cellsOf)))]⟩) (fun x54=>⟨[(1,.ref 1 0),(2,.ref 2 0),(3,.ex 9 14 192 ((x35.map cellsOf).length) 0 ((x35.map cellsOf).length)),(53,I6 a3),(54,.ref 1004 0),(55,.ref 1005 0),(58,.ref 1008 0),(60,I6 ((Uo r2 a2).getD 0))],[(1,.cells (cellsOf a1)),(2,.cells ([.nil,.nil])),(1004,.cells (cellsOf a0)),(1005,.cells (cellsOf a1)),(1008,.cells ([.nil,.nil]))],[(9,((x35.map cellsOf).length,0))],[(9,(14,(192,x54.map cellsOf)))]⟩) h50 ?_ ?_
  ·rintro ⟨x44,x45⟩ oh49 h49;unfold Jdf at h49;refine Ja (Jc (zE (Jb (Ja ?_))));rcases Ji h49 with ⟨hb,h49⟩|⟨hb,h49⟩
   ·refine zT hb (Jg (Jb (Ja (Jl (Ja (Jc (zR 1 ?_)))))));obtain ⟨x55,h51,h49⟩:=Je h49;refine zI h51 (zE (Jb (Ja (Jc (zR 2 ?_)))));obtain ⟨r56,h52,h49⟩:=Je h49;refine zP (Uj _ r56 h52) (zE (Jb (Ja (Jc (zR 2 ?_)))));obtain ⟨r57,h53,h49⟩:=Je h49;refine zP (Ku _ r57 h53) (zE (Jb (Ja (Jc (zR 2 ?_)))));obtain ⟨r58,h54,h49⟩:=Je h49;refine zP (Ku _ r58 h54) (zE (Jb (Ja (Jc (zR 2 ?_)))));obtain ⟨r59,h55,h49⟩:=Je h49;refine zP (Ku _ r59 h55) (zE (Jb (Ja (Jc (zR 2 ?_)))));obtain ⟨r60,h56,h49⟩:=Je h49;refine zP (Ku _ r60 h56) (zE (Jb (Jc (zR 3 ?_))));obtain ⟨j61,h57,h49⟩:=Je h49;refine Uz (tk:=9) (k:=14) (N:=(x35.map cellsOf).length) h57 (by kernel_rfl) ?_;obtain ⟨x62,h58,h49⟩:=Je h49;refine Mr (L:=x45) (tk:=9) (N:=(x35.map cellsOf).length) (j:=j61) (y:=x62) (y':=(Jq.mk x55.Id x55.Origin x55.End x55.At r56 r57 r58 r59 r60 x55.Min x55.Sent x55.Accepted x55.Cut x55.CutSeq)) h58 0 14 [I6 x55.Id,I6 x55.Origin,I6 x55.End,I6 x55.At,Jk .frozen r56,Jk .frozen r57,Jk .frozen r58,Jk .frozen r59,Jk .frozen r60,I6 x55.Min,I6 x55.Sent,I6 x55.Accepted,I6 x55.Cut,I6 x55.CutSeq] (by kernel_rfl) (by kernel_rfl) ?_;refine zN (Jx (Jb (Jc (zE ?_))));cases h49;exact zB
   refine zU hb (Jv (Jt ?_));cases h49;exact zX
  rintro x54 s' rfl hs;have h31:=Ka h31;refine Jr (Jb (Jy hs (Ja (Jc (zE (Jb (Ja (Jc (zR 2 ?_)))))))));obtain ⟨r63,h59,h31⟩:=Je h31;refine zP (Po _ r63 h59) (zE (Jb (Ja (Jc (zE (Jb (Jm ?_)))))));cases h31;exact Jvm (by kernel_rfl) (by kernel_rfl)
 obtain ⟨x32,x33,x34⟩:=o31;refine Jqs (r:=.agg [.ex 9 14 192 x33 0 x33,Jk (.own 47007) x34]) (by kernel_rfl) ?_;refine Ez 2 ⟨[(3,I6 a3),(4,.ref 1004 0),(5,.ref 1005 0),(8,.ref 1008 0),(10,I6 ((Uo r2 a2).getD 0)),(30,.agg [.ex 2000009 14 192 x33 0 x33,Jk (.own 2047007) x34])],[(1004,.cells (cellsOf a0)),(1005,.cells (cellsOf a1)),(1008,.cells ([.nil,.nil]))],[(2047007,(((x34).map cellsOf).length,4)),(2000009,(x33,0))],[(2000009,(14,(192,x32.map cellsOf)))]⟩ 105 (by kernel_rfl) (by kernel_rfl) (by kernel_rfl) ?_;refine Ez 1 ⟨[(3,I6 a3),(4,.ref 4 0),(5,.ref 5 0),(8,.ref 8 0),(10,I6 ((Uo r2 a2).getD 0)),(30,.agg [.ex 2000009 14 192 x33 0 x33,Jk (.own 2047007) x34])],[(4,.cells (cellsOf a0)),(5,.cells (cellsOf a1)),(8,.cells ([.nil,.nil]))],[(2047007,(((x34).map cellsOf).length,4)),(2000009,(x33,0))],[(2000009,(14,(192,x32.map cellsOf)))]⟩ 105 (by kernel_rfl) (by kernel_rfl) (by kernel_rfl) ?_;refine Rw 2 1 (zE (Jkj (Jb (Ja (Jc (zR 3 ?_))))));obtain ⟨j64,h60,h⟩:=Je h;refine Uz (tk:=2000009) (k:=14) (N:=x33) h60 (by kernel_rfl) ?_;refine zE (Jb (Ja (Ja (Jc (zR 3 ?_)))));obtain ⟨x65,h61,h⟩:=Je h;refine Vk (L:=x32) (N:=x33) (j:=j64) (y:=x65) (v:=I6 x65.CutSeq) h61 false 1 13 (by kernel_rfl) (by kernel_rfl) ?_;refine zE (Jb ?_);rcases Ji h with ⟨hb,h⟩|⟨hb,h⟩
 ·refine zT hb (Ja (Jc (zE (Jb (Jm (Jj ?_))))));cases h;exact zQ
 refine zU hb (Jg (Jb (Ja (Ja (Jc ?_)))));obtain ⟨b66,h62,h⟩:=Je h;refine zR 3 ?_;refine Ko 8 51 (.bool b66) ?_ ?_
 ·rcases Ji h62 with ⟨hb,h62⟩|⟨hb,h62⟩
  ·refine zS 43 hb ?_;cases h62;exact zF
  refine zS 43 hb (zR 4 ?_);obtain ⟨x67,h63,h62⟩:=Je h62;refine Vk (L:=x32) (N:=x33) (j:=j64) (y:=x67) (v:=Jk .frozen x67.Routes) h63 false 1 5 (by kernel_rfl) (by kernel_rfl) ?_;refine zL (L:=x67.Routes) ?_;cases h62;exact zF
 obtain ⟨b68,h64,h⟩:=Je h;refine zR 1 ?_;refine Ko 8 60 (.bool b68) ?_ ?_
 ·rcases Ji h64 with ⟨hb,h64⟩|⟨hb,h64⟩
  ·refine zS 52 hb ?_;cases h64;exact zF
  refine zS 52 hb (zR 4 ?_);obtain ⟨x69,h65,h64⟩:=Je h64;refine Vk (L:=x32) (N:=x33) (j:=j64) (y:=x69) (v:=Jk .frozen x69.Ends) h65 false 1 7 (by kernel_rfl) (by kernel_rfl) ?_;refine zL (L:=x69.Ends) ?_;cases h64;exact zF
 refine zN (Jb ?_);rcases Ji h with ⟨hb,h⟩|⟨hb,h⟩
 ·refine zT hb (Ja (Jc (zE (Jb (Jm (Jj ?_))))));cases h;exact zQ
 refine zU hb (Jg (Jb (Ja (Jc (zR 3 ?_)))));obtain ⟨x70,h66,h⟩:=Je h;refine Vk (L:=x32) (N:=x33) (j:=j64) (y:=x70) (v:=Jk .frozen x70.Routes) h66 false 1 5 (by kernel_rfl) (by kernel_rfl) ?_;refine zR 1 ?_;obtain ⟨x71,h67,h⟩:=Je h;refine zI h67 (zE (Jb (Ja (Ja (Jc ?_)))));obtain ⟨b72,h68,h⟩:=Je h;refine zR 3 ?_;refine Ko 6 77 (.bool b72) ?_ ?_
 ·rcases Ji h68 with ⟨hb,h68⟩|⟨hb,h68⟩
  ·refine zS 71 hb ?_;cases h68;exact zF
  refine zS 71 hb (zR 3 ?_);refine zL (L:=a0.Routes) ?_;cases h68;exact zF
 refine zN (Jb ?_);rcases Ji h with ⟨hb,h⟩|⟨hb,h⟩
 ·refine zT hb (Ja (Jc (zE (Jb (Jm (Jj ?_))))));cases h;exact zQ
 refine zU hb (Jg (Jb (Ja (zD (zR 4 ?_)))));obtain ⟨x73,h69,h⟩:=Je h;refine Vk (L:=x32) (N:=x33) (j:=j64) (y:=x73) (v:=Jk .frozen x73.Ends) h69 false 1 7 (by kernel_rfl) (by kernel_rfl) ?_;refine zR 1 ?_;obtain ⟨x74,h70,h⟩:=Je h;refine zI h70 (zR 4 ?_);obtain ⟨x75,h71,h⟩:=Je h;refine zI h71 (zR 5 ?_);obtain ⟨x76,h72,h⟩:=Je h;refine Mr (L:=x32) (tk:=2000009) (N:=x33) (j:=j64) (y:=x76) (y':=(Jq.mk x76.Id x76.Origin x76.End x76.At x76.Steps x76.Routes x76.Starts x76.Ends x76.Done x76.Min x76.Sent x76.Accepted (w64 (x74 - x75.Length)) x76.CutSeq)) h72 12 1 [I6 (w64 (x74 - x75.Length))] (by kernel_rfl) (by kernel_rfl) ?_;refine zN (Jb (Ja (Jc (zR 4 ?_))));obtain ⟨x77,h73,h⟩:=Je h;refine Vk (L:=((x32.set j64 (Jq.mk x76.Id x76.Origin x76.End x76.At x76.Steps x76.Routes x76.Starts x76.Ends x76.Done x76.Min x76.Sent x76.Accepted (w64 (x74 - x75.Length)) x76.CutSeq)):(List Jq))) (N:=x33) (j:=j64) (y:=x77) (v:=I6 x77.Sent) h73 false 1 10 (by kernel_rfl) (by kernel_rfl) ?_;refine zR 3 ?_;obtain ⟨x78,h74,h⟩:=Je h;refine Mr (L:=((x32.set j64 (Jq.mk x76.Id x76.Origin x76.End x76.At x76.Steps x76.Routes x76.Starts x76.Ends x76.Done x76.Min x76.Sent x76.Accepted (w64 (x74 - x75.Length)) x76.CutSeq)):(List Jq))) (tk:=2000009) (N:=x33) (j:=j64) (y:=x78) (y':=(Jq.mk x78.Id x78.Origin x78.End x78.At x78.Steps x78.Routes x78.Starts x78.Ends x78.Done x78.Min x78.Sent x78.Accepted x78.Cut (w64 (x77.Sent+1)))) h74 13 1 [I6 (w64 (x77.Sent+1))] (by kernel_rfl) (by kernel_rfl) ?_;refine zN (Jb (Ja (Jc (zE (Jb ?_)))));refine Jy (Gt (xss:=(((x32.set j64 (Jq.mk x76.Id x76.Origin x76.End x76.At x76.Steps x76.Routes x76.Starts x76.Ends x76.Done x76.Min x76.Sent x76.Accepted (w64 (x74 - x75.Length)) x76.CutSeq)).set j64 (Jq.mk x78.Id x78.Origin x78.End x78.At x78.Steps x78.Routes x78.Starts x78.Ends x78.Done x78.Min x78.Sent x78.Accepted x78.Cut (w64 (x77.Sent+1)))):(List Jq)).map cellsOf) 2000009 14 192 x33 [32] [(5,0),(8,0)] (by kernel_rfl) (by kernel_rfl) (by kernel_rfl) (by kernel_rfl)) ?_;refine Jm ?_;cases h;exact zQ
def Ji2 (a0:Jz) (x35:(List Jq)):(Int×(List Jq))→Option ((Int×(List Jq))⊕((List Jq)⊕((List Jq)×Nat×(List Kb)))):=fun (x44,x45) =>
 bif decide (x44<((a0.Tracks.length:Nat):Int)) then (
  (ixO a0.Tracks x44).bind fun x55 =>
  (Ql x55.Steps).bind fun r56 =>
  (Kw x55.Routes).bind fun r57 =>
  (Kw x55.Starts).bind fun r58 =>
  (Kw x55.Ends).bind fun r59 =>
  (Kw x55.Done).bind fun r60 =>
  (Zp 0 (((x35:(List Jq)).map cellsOf).length) x44).bind fun j61 =>
  (Wl x45 (((x35:(List Jq)).map cellsOf).length) j61).bind fun x62 =>
  some (.inl (w64 (x44+1),(x45.set j61 (Jq.mk x55.Id x55.Origin x55.End x55.At r56 r57 r58 r59 r60 x55.Min x55.Sent x55.Accepted x55.Cut x55.CutSeq))))
 ) else (
  some (.inr (.inl x45))
 )
def Jg1 (a0:Jz) (a1:Int) (a2:Int):Option (Jz×Kz×Int) :=
 (Ge a0).bind fun r1 =>
 bif (!r1) then (
  some ((Jz.mk [] []),(Kz.mk 0 0 0 0 0 (Qp.mk 0 0 [] []) (Ca.mk 0 0 0 0 false)),1)
 ) else (
  (Pd a0.Tracks).bind fun r2 =>
  bif (!((Uo (r2:(List (Int×Int))) a1).isSome)) then (
   some ((Jz.mk [] []),(Kz.mk 0 0 0 0 0 (Qp.mk 0 0 [] []) (Ca.mk 0 0 0 0 false)),9)
  ) else (
   Option.bind (α:=((List Jq)×Nat×(List Kb))) (
    (Jyb ((a0.Tracks.length:Nat):Int) ((a0.Tracks.length:Nat):Int) 192 ((Jq.mk 0 0 0 0 [] [] [] [] [] 0 0 0 0 0):Jq)).bind fun x35 =>
    onInl (α:=(List Jq)) (β:=((List Jq)×Nat×(List Kb))) (Ki (Ji2 a0 x35) (0,x35)) fun x54 =>
    (Vq a0.Sessions).bind fun r63 =>
    some (x54,((x35:(List Jq)).map cellsOf).length,r63)
   ) fun (x32,x33,x34) =>
   (Zp 0 (((x34:(List Kb)).map cellsOf).length) ((Uo (r2:(List (Int×Int))) a1).getD 0)).bind fun j64 =>
   (Wl x34 (((x34:(List Kb)).map cellsOf).length) j64).bind fun x65 =>
   (Me x65 (Kz.mk 4 0 0 0 0 (Qp.mk 0 0 [] []) (Ca.mk 0 0 0 0 false)) a2).bind fun r66 =>
   (Zp 0 (((x34:(List Kb)).map cellsOf).length) ((Uo (r2:(List (Int×Int))) a1).getD 0)).bind fun j67 =>
   (Wl x34 (((x34:(List Kb)).map cellsOf).length) j67).bind fun x68 =>
   some ((Jz.mk x32 (x34.set j67 r66.1)),r66.2,0)
  )
 )
set_option maxRecDepth 100000 in
theorem Jph (a0:Jz) (a1:Int) (a2:Int) (r:(Jz×Kz×Int)) (h:Jg1 a0 a1 a2=some r):Kg Tryz.prog GlS 18 [Enc.pv a0,Enc.pv a1,Enc.pv a2] (.tup [Enc.pv r.1,Enc.pv r.2.1,Enc.pv r.2.2]):=by
 unfold Jg1 at h;refine zC Tryz.func18 Tryz.ntmps18 ?_;refine Ja (Jc (zE (Jb (Ja (Ja (Jc (zR 1 ?_)))))));obtain ⟨r1,h1,h⟩:=Je h;refine zP (Nk _ r1 h1) (zE (Jb ?_));rcases Ji h with ⟨hb,h⟩|⟨hb,h⟩
 ·refine zT hb (Ja (Jc (zE (Jb (Jm (Jj ?_))))));cases h;exact zQ
 refine zU hb (Jg (Jb (Ja (Jc (zR 2 ?_)))));obtain ⟨r2,h2,h⟩:=Je h;refine zP (Jbl _ r2 h2) (zR 1 ?_);refine Jjw (m:=r2) (k:=a1) 0 true (by kernel_rfl) ?_;refine zE (Jb (Ja (Ja (Jc (zE (Jb ?_))))));rcases Ji h with ⟨hb,h⟩|⟨hb,h⟩
 ·refine zT hb (Ja (Jc (zE (Jb (Jm (Jj ?_))))));cases h;exact zQ
 refine zU hb (Jg (Jb (Ja (Jkf (Rw 0 1 (zE ?_))))));refine Ez 1 ⟨[(2,I6 a2),(3,.ref 1003 0),(6,.ref 1006 0),(7,.ref 1007 0),(9,I6 ((Uo r2 a1).getD 0)),(30,Enc.pv a0)],[(1003,.cells (cellsOf a0)),(1006,.cells ([.nil,.nil])),(1007,.cells ([I6 0,I6 0,I6 0,I6 0,I6 0,I6 0,I6 0,.nil,.nil,I6 0,I6 0,I6 0,I6 0,.bool false]))],[],[]⟩ 50 (by kernel_rfl) (by kernel_rfl) (by kernel_rfl) ?_;obtain ⟨o31,h31,h⟩:=Je h;refine Jpv (f:=40) (asx:=[Enc.pv a0]) (by kernel_rfl) Tryz.func40 (by rfl) rfl Tryz.ntmps40 (by rfl) ?_;refine Jfu o31 5000100 (fun (x32,x33,x34)=>⟨[(2,.ref 2 0),(52,I6 a2),(53,.ref 1003 0),(56,.ref 1006 0),(57,.ref 1007 0),(59,I6 ((Uo r2 a1).getD 0))],[(2,.cells ([.ex 9 14 192 x33 0 x33,.ex 47 4 32 ((x34.map cellsOf).length) 0 ((x34.map cellsOf).length)])),(1003,.cells (cellsOf a0)),(1006,.cells ([.nil,.nil])),(1007,.cells ([I6 0,I6 0,I6 0,I6 0,I6 0,I6 0,I6 0,.nil,.nil,I6 0,I6 0,I6 0,I6 0,.bool false]))],[(9,(x33,0)),(47,((x34.map cellsOf).length,0))],[(9,(14,(192,x32.map cellsOf))),(47,(4,(32,x34.map cellsOf)))]⟩) ?_ ?_
 ·refine Ja (Jc (zE (Jb (Ja (Jc (zR 2 ?_))))));refine zL (L:=a0.Tracks) ?_;obtain ⟨x35,h32,h31⟩:=Je h31;refine Jyp (z:=((Jq.mk 0 0 0 0 [] [] [] [] [] 0 0 0 0 0):Jq)) 9 h32 (by kernel_rfl) (by kernel_rfl) ?_;refine zE (Jb (Ja (Ja (Jc (zR 2 ?_)))));refine zL (L:=a0.Tracks) ?_;refine zE (Jb (Jl ?_));obtain ⟨o50,h50,h31⟩:=Kf h31;refine zA 5000100 0 (fun (x44,x45)=>⟨[(1,.ref 1 0),(2,.ref 2 0),(3,.ex 9 14 192 ((x35.map cellsOf).length) 0 ((x35.map cellsOf).length)),(11,Jk .frozen a0.Tracks),(12,I6 ((a0.Tracks.length:Nat):Int)),(13,I6 x44),(52,I6 a2),(53,.ref 1003 0),(56,.ref 1006 0),(57,.ref 1007 0),(59,I6 ((Uo r2 a1).getD 0))],[(1,.cells (cellsOf a0)),(2,.cells ([.nil,.nil])),(1003,.cells (cellsOf a0)),(1006,.cells ([.nil,.nil])),(1007,.cells ([I6 0,I6 0,I6 0,I6 0,I6 0,I6 0,I6 0,.nil,.nil,I6 0,I6 0,I6 0,I6 0,.bool false]))],[(9,((x35.map cellsOf).length,0))],[(9,(14,(192,x45.map cellsOf)))]⟩) (fun x54=>⟨[(1,.ref 1 0),(2,.ref 2 0),(3,.ex 9 14 192 ((x35.map cellsOf).length) 0 ((x35.map cellsOf).length)),(52,I6 a2),(53,.ref 1003 0),(56,.ref 1006 0),(57,.ref 1007 0),(59,I6 ((Uo r2 a1).getD 0))],[(1,.cells (cellsOf a0)),(2,.cells ([.nil,.nil])),(1003,.cells (cellsOf a0)),(1006,.cells ([.nil,.nil])),(1007,.cells ([I6 0,I6 0,I6 0,I6 0,I6 0,I6 0,I6 0,.nil,.nil,I6 0,I6 0,I6 0,I6 0,.bool false]))],[(9,((x35.map cellsOf).length,0))],[(9,(14,(192,x54.map cellsOf)))]⟩) h50 ?_ ?_
  ·rintro ⟨x44,x45⟩ oh49 h49;unfold Ji2 at h49;refine Ja (Jc (zE (Jb (Ja ?_))));rcases Ji h49 with ⟨hb,h49⟩|⟨hb,h49⟩
   ·refine zT hb (Jg (Jb (Ja (Jl (Ja (Jc (zR 1 ?_)))))));obtain ⟨x55,h51,h49⟩:=Je h49;refine zI h51 (zE (Jb (Ja (Jc (zR 2 ?_)))));obtain ⟨r56,h52,h49⟩:=Je h49;refine zP (Uj _ r56 h52) (zE (Jb (Ja (Jc (zR 2 ?_)))));obtain ⟨r57,h53,h49⟩:=Je h49;refine zP (Ku _ r57 h53) (zE (Jb (Ja (Jc (zR 2 ?_)))));obtain ⟨r58,h54,h49⟩:=Je h49;refine zP (Ku _ r58 h54) (zE (Jb (Ja (Jc (zR 2 ?_)))));obtain ⟨r59,h55,h49⟩:=Je h49;refine zP (Ku _ r59 h55) (zE (Jb (Ja (Jc (zR 2 ?_)))));obtain ⟨r60,h56,h49⟩:=Je h49;refine zP (Ku _ r60 h56) (zE (Jb (Jc (zR 3 ?_))));obtain ⟨j61,h57,h49⟩:=Je h49;refine Uz (tk:=9) (k:=14) (N:=(x35.map cellsOf).length) h57 (by kernel_rfl) ?_;obtain ⟨x62,h58,h49⟩:=Je h49;refine Mr (L:=x45) (tk:=9) (N:=(x35.map cellsOf).length) (j:=j61) (y:=x62) (y':=(Jq.mk x55.Id x55.Origin x55.End x55.At r56 r57 r58 r59 r60 x55.Min x55.Sent x55.Accepted x55.Cut x55.CutSeq)) h58 0 14 [I6 x55.Id,I6 x55.Origin,I6 x55.End,I6 x55.At,Jk .frozen r56,Jk .frozen r57,Jk .frozen r58,Jk .frozen r59,Jk .frozen r60,I6 x55.Min,I6 x55.Sent,I6 x55.Accepted,I6 x55.Cut,I6 x55.CutSeq] (by kernel_rfl) (by kernel_rfl) ?_;refine zN (Jx (Jb (Jc (zE ?_))));cases h49;exact zB
   refine zU hb (Jv (Jt ?_));cases h49;exact zX
  rintro x54 s' rfl hs;have h31:=Ka h31;refine Jr (Jb (Jy hs (Ja (Jc (zE (Jb (Ja (Jc (zR 2 ?_)))))))));obtain ⟨r63,h59,h31⟩:=Je h31;refine Jmg (α:=Kb) 47 (Cw _ r63 h59) (by kernel_rfl) (by kernel_rfl) ?_;refine zE (Jb (Ja (Jc (zE (Jb (Jm ?_))))));cases h31;exact Jvm (by kernel_rfl) (by kernel_rfl)
 obtain ⟨x32,x33,x34⟩:=o31;refine Jqs (r:=.agg [.ex 9 14 192 x33 0 x33,.ex 47 4 32 ((x34.map cellsOf).length) 0 ((x34.map cellsOf).length)]) (by kernel_rfl) ?_;refine Ez 2 ⟨[(2,I6 a2),(3,.ref 1003 0),(6,.ref 1006 0),(7,.ref 1007 0),(9,I6 ((Uo r2 a1).getD 0)),(31,.agg [.ex 2000009 14 192 x33 0 x33,.ex 2000047 4 32 ((x34.map cellsOf).length) 0 ((x34.map cellsOf).length)])],[(1003,.cells (cellsOf a0)),(1006,.cells ([.nil,.nil])),(1007,.cells ([I6 0,I6 0,I6 0,I6 0,I6 0,I6 0,I6 0,.nil,.nil,I6 0,I6 0,I6 0,I6 0,.bool false]))],[(2000009,(x33,0)),(2000047,((x34.map cellsOf).length,0))],[(2000009,(14,(192,x32.map cellsOf))),(2000047,(4,(32,x34.map cellsOf)))]⟩ 50 (by kernel_rfl) (by kernel_rfl) (by kernel_rfl) ?_;refine Ez 1 ⟨[(2,I6 a2),(3,.ref 3 0),(6,.ref 6 0),(7,.ref 7 0),(9,I6 ((Uo r2 a1).getD 0)),(31,.agg [.ex 2000009 14 192 x33 0 x33,.ex 2000047 4 32 ((x34.map cellsOf).length) 0 ((x34.map cellsOf).length)])],[(3,.cells (cellsOf a0)),(6,.cells ([.nil,.nil])),(7,.cells ([I6 0,I6 0,I6 0,I6 0,I6 0,I6 0,I6 0,.nil,.nil,I6 0,I6 0,I6 0,I6 0,.bool false]))],[(2000009,(x33,0)),(2000047,((x34.map cellsOf).length,0))],[(2000009,(14,(192,x32.map cellsOf))),(2000047,(4,(32,x34.map cellsOf)))]⟩ 50 (by kernel_rfl) (by kernel_rfl) (by kernel_rfl) ?_;refine Rw 2 1 (zE (Jkj (Jb (Ja (Jc (zR 3 ?_))))));obtain ⟨j64,h60,h⟩:=Je h;refine Uz (tk:=2000047) (k:=4) (N:=(x34.map cellsOf).length) h60 (by kernel_rfl) ?_;obtain ⟨x65,h61,h⟩:=Je h;refine Vk (L:=x34) (N:=(x34.map cellsOf).length) (j:=j64) (y:=x65) (v:=Enc.pv x65) h61 true 4 0 (by kernel_rfl) (by kernel_rfl) ?_;refine zR 2 ?_;obtain ⟨r66,h62,h⟩:=Je h;refine zP (Xt _ _ _ r66 h62) (zE (Jb (Ja (Jc (zR 4 ?_)))));obtain ⟨j67,h63,h⟩:=Je h;refine Uz (tk:=2000047) (k:=4) (N:=(x34.map cellsOf).length) h63 (by kernel_rfl) ?_;obtain ⟨x68,h64,h⟩:=Je h;refine Mr (L:=x34) (tk:=2000047) (N:=(x34.map cellsOf).length) (j:=j67) (y:=x68) (y':=r66.1) h64 0 4 [I6 r66.1.Peer,I6 r66.1.Out,I6 r66.1.In,I6 r66.1.Heard] (by kernel_rfl) (by kernel_rfl) ?_;refine zN (Jb (Ja ?_));refine Jzz 50 ⟨[(6,.ref 6 0),(7,.ref 7 0),(8,I6 0)],[(6,.cells ([.ex 2000009 14 192 x33 0 x33,.ex 2000047 4 32 ((x34.map cellsOf).length) 0 ((x34.map cellsOf).length)])),(7,.cells (cellsOf r66.2))],[(2000009,(x33,0)),(2000047,((x34.map cellsOf).length,0))],[(2000009,(14,(192,x32.map cellsOf))),(2000047,(4,(32,((x34.set j67 r66.1):(List Kb)).map cellsOf)))]⟩ (by kernel_rfl) ?_ ?_
 ·refine Ux [0,1] (by kernel_rfl) ⟨?_, ?_,trivial⟩
  ·refine ⟨_,rfl, ?_⟩;refine zR 1 (Ee ?_);refine Ux [1,2] (by kernel_rfl) ⟨?_, ?_,trivial⟩
   ·refine ⟨_,rfl, ?_⟩;refine zR 1 (Ee ?_);refine Ux [2] (by kernel_rfl) ⟨?_,trivial⟩;refine ⟨_,rfl, ?_⟩;refine zR 1 (Ee ?_);refine Ux [3] (by kernel_rfl) ⟨?_,trivial⟩;refine ⟨_,rfl, ?_⟩;refine zR 1 (Ee ?_);refine Ux [4] (by kernel_rfl) ⟨?_,trivial⟩;refine ⟨_,rfl, ?_⟩;refine zR 1 (Ee ?_);exact Ta (by kernel_rfl) (.of (by kernel_rfl) (by kernel_rfl))
   refine ⟨_,rfl, ?_⟩;refine zR 1 (Ee ?_);refine Ux [1] (by kernel_rfl) ⟨?_,trivial⟩;refine ⟨_,rfl, ?_⟩;refine zR 1 (Ee ?_);refine Ux [3] (by kernel_rfl) ⟨?_,trivial⟩;refine ⟨_,rfl, ?_⟩;refine zR 1 (Ee ?_);refine Ux [4] (by kernel_rfl) ⟨?_,trivial⟩;refine ⟨_,rfl, ?_⟩;refine zR 1 (Ee ?_);exact Ta (by kernel_rfl) (.of (by kernel_rfl) (by kernel_rfl))
  refine ⟨_,rfl, ?_⟩;refine zR 1 (Ee ?_);refine Ux [0] (by kernel_rfl) ⟨?_,trivial⟩;refine ⟨_,rfl, ?_⟩;refine zR 1 (Ee ?_);refine Ux [2] (by kernel_rfl) ⟨?_,trivial⟩;refine ⟨_,rfl, ?_⟩;refine zR 1 (Ee ?_);refine Ux [3] (by kernel_rfl) ⟨?_,trivial⟩;refine ⟨_,rfl, ?_⟩;refine zR 1 (Ee ?_);refine Ux [4] (by kernel_rfl) ⟨?_,trivial⟩;refine ⟨_,rfl, ?_⟩;refine zR 1 (Ee ?_);exact Ta (by kernel_rfl) (.of (by kernel_rfl) (by kernel_rfl))
 refine Jb ?_;refine Jy (Gt (xss:=x32.map cellsOf) 2000009 14 192 x33 [] [(6,0)] (by kernel_rfl) (by kernel_rfl) (by kernel_rfl) (by kernel_rfl)) ?_;refine Jy (Gt (xss:=((x34.set j67 r66.1):(List Kb)).map cellsOf) 2000047 4 32 ((x34.map cellsOf).length) [] [(6,1)] (by kernel_rfl) (by kernel_rfl) (by kernel_rfl) (by kernel_rfl)) ?_;refine Jm ?_;cases h;exact zQ
def Ep : Option Bool :=
 (Jb0 ).bind fun r1 =>
 (Jaq r1).bind fun r2 =>
 (Ja3 ).bind fun r3 =>
 (Sx r1 [r3.1] [r3.2]).bind fun r4 =>
 ((bif ((!(decide (r2.2=0)))||(!(decide (r4.2=0)))) then some true else (
  some (!(decide (((r2.1.Routes.length:Nat):Int)=2)))
 )):Option Bool).bind fun b5 =>
 ((bif b5 then some true else (
  some (!(decide (((r4.1.Tracks.length:Nat):Int)=1)))
 )):Option Bool).bind fun b6 =>
 ((bif b6 then some true else (
  (ixO r4.1.Tracks 0).bind fun x8 =>
  some (!(decide (x8.At=5000)))
 )):Option Bool).bind fun b7 =>
 ((bif b7 then some true else (
  (ixO r4.1.Tracks 0).bind fun x10 =>
  some (!(decide (x10.End=0)))
 )):Option Bool).bind fun b9 =>
 bif b9 then (
  some false
 ) else (
  (Xz r1 r2.1 (Qs.mk [(Ww.mk 2 0 0),(Ww.mk 0 0 0)] []) ([]:(List Qa)) r4.1 1).bind fun r11 =>
  (Xz r1 r2.1 (Qs.mk [(Ww.mk 2 0 0),(Ww.mk 2 0 0)] []) ([]:(List Qa)) r11.1 2).bind fun r12 =>
  (Jar r2.1 r12.1 3 0).bind fun r13 =>
  (Jg1 r4.1 3 1).bind fun r14 =>
  ((bif (!(decide (((r11.2.length:Nat):Int)=1))) then some true else (
   some (!(decide (((r12.2.length:Nat):Int)=1)))
  )):Option Bool).bind fun b15 =>
  ((bif b15 then some true else (
   some (!(decide (((r11.1.Tracks.length:Nat):Int)=1)))
  )):Option Bool).bind fun b16 =>
  ((bif b16 then some true else (
   some (!(decide (((r12.1.Tracks.length:Nat):Int)=1)))
  )):Option Bool).bind fun b17 =>
  ((bif b17 then some true else (
   some (!(decide (((r13.1.Tracks.length:Nat):Int)=1)))
  )):Option Bool).bind fun b18 =>
  ((bif b18 then some true else (
   (ixO r11.1.Tracks 0).bind fun x20 =>
   some (!(decide (((x20.Routes.length:Nat):Int)=1)))
  )):Option Bool).bind fun b19 =>
  bif b19 then (
   some false
  ) else (
   (ixO r11.2 0).bind fun x21 =>
   ((bif decide (x21.Kind=2) then (
    (ixO r11.2 0).bind fun x23 =>
    some (decide (x23.Auth.End=25000))
   ) else some false):Option Bool).bind fun b22 =>
   ((bif b22 then (
    (ixO r11.2 0).bind fun x25 =>
    some (decide (x25.To=3))
   ) else some false):Option Bool).bind fun b24 =>
   ((bif b24 then (
    (ixO r12.2 0).bind fun x27 =>
    some (decide (x27.Auth.End=45000))
   ) else some false):Option Bool).bind fun b26 =>
   ((bif b26 then (
    (ixO r12.1.Tracks 0).bind fun x29 =>
    some (decide (x29.End=(-1)))
   ) else some false):Option Bool).bind fun b28 =>
   ((bif (b28&&(decide (r13.2=0))) then (
    (ixO r13.1.Tracks 0).bind fun x31 =>
    some (decide (x31.Cut=5000))
   ) else some false):Option Bool).bind fun b30 =>
   some ((b30&&(decide (r14.2.2=0)))&&(decide (r14.2.1.Kind=4)))
  )
 )
theorem Ou (r:Bool) (h:Ep=some r):Kg Tryz.prog GlS 9 [] (Enc.pv r):=by
 unfold Ep at h;refine zC Tryz.func9 Tryz.ntmps9 ?_;refine Ja (Jc (zE (Jb (Ja (Jc ?_)))));obtain ⟨r1,h1,h⟩:=Je h;refine zP (Jlf  r1 h1) (zE (Jb (Ja (Jc (zR 1 ?_)))));obtain ⟨r2,h2,h⟩:=Je h;refine zP (Jjr _ r2 h2) (zE (Jb (Ja (Jc ?_))));obtain ⟨r3,h3,h⟩:=Je h;refine zP (Jjn  r3 h3) (zE (Jb (Ja (Jc (zR 5 ?_)))));obtain ⟨r4,h4,h⟩:=Je h;refine zP (Jiu _ _ _ r4 h4) (zE (Jb (Ja (Ja (Jc (zR 3 ?_))))));refine Ks 3 42 ((!(decide (r2.2=0)))||(!(decide (r4.2=0)))) (fun x hx=>?_) ?_
 ·rcases Vi hx with ⟨hb,hx⟩|⟨hb,hx⟩
  ·refine zS 39 hb ?_;subst hx;exact zF
  refine zS 39 hb ?_;subst hx;exact zF
 obtain ⟨b5,h5,h⟩:=Je h;refine zR 1 ?_;refine Ko 5 48 (.bool b5) ?_ ?_
 ·rcases Ji h5 with ⟨hb,h5⟩|⟨hb,h5⟩
  ·refine zS 43 hb ?_;cases h5;exact zF
  refine zS 43 hb (zR 2 ?_);refine zL (L:=r2.1.Routes) ?_;cases h5;exact zF
 obtain ⟨b6,h6,h⟩:=Je h;refine zR 1 ?_;refine Ko 5 54 (.bool b6) ?_ ?_
 ·rcases Ji h6 with ⟨hb,h6⟩|⟨hb,h6⟩
  ·refine zS 49 hb ?_;cases h6;exact zF
  refine zS 49 hb (zR 2 ?_);refine zL (L:=r4.1.Tracks) ?_;cases h6;exact zF
 obtain ⟨b7,h7,h⟩:=Je h;refine zR 1 ?_;refine Ko 7 62 (.bool b7) ?_ ?_
 ·rcases Ji h7 with ⟨hb,h7⟩|⟨hb,h7⟩
  ·refine zS 55 hb ?_;cases h7;exact zF
  refine zS 55 hb (zR 2 ?_);obtain ⟨x8,h8,h7⟩:=Je h7;refine zI h8 ?_;cases h7;exact zF
 obtain ⟨b9,h9,h⟩:=Je h;refine zR 1 ?_;refine Ko 7 70 (.bool b9) ?_ ?_
 ·rcases Ji h9 with ⟨hb,h9⟩|⟨hb,h9⟩
  ·refine zS 63 hb ?_;cases h9;exact zF
  refine zS 63 hb (zR 2 ?_);obtain ⟨x10,h10,h9⟩:=Je h9;refine zI h10 ?_;cases h9;exact zF
 refine zN (Jb ?_);rcases Ji h with ⟨hb,h⟩|⟨hb,h⟩
 ·refine zT hb (Ja (Jc (zE (Jb (Jm (Jj ?_))))));cases h;exact zQ
 refine zU hb (Jg (Jb (Ja (Jc (zE (Jb (Ja (Jc (zR 7 ?_)))))))));obtain ⟨r11,h11,h⟩:=Je h;refine zP (Je5 _ _ _ _ _ _ r11 h11) (zE (Jb (Ja (Jc (zR 7 ?_)))));obtain ⟨r12,h12,h⟩:=Je h;refine zP (Je5 _ _ _ _ _ _ r12 h12) (zE (Jb (Ja (Jc (zR 2 ?_)))));obtain ⟨r13,h13,h⟩:=Je h;refine zP (Jjy _ _ _ _ r13 h13) (zE (Jb (Ja (Jc (zR 1 ?_)))));obtain ⟨r14,h14,h⟩:=Je h;refine zP (Jph _ _ _ r14 h14) (zE (Jb (Ja (Ja (Jc (zR 1 ?_))))));refine zL (L:=r11.2) ?_;obtain ⟨b15,h15,h⟩:=Je h;refine zR 2 ?_;refine Ko 4 113 (.bool b15) ?_ ?_
 ·rcases Ji h15 with ⟨hb,h15⟩|⟨hb,h15⟩
  ·refine zS 109 hb ?_;cases h15;exact zF
  refine zS 109 hb (zR 1 ?_);refine zL (L:=r12.2) ?_;cases h15;exact zF
 obtain ⟨b16,h16,h⟩:=Je h;refine zR 1 ?_;refine Ko 5 119 (.bool b16) ?_ ?_
 ·rcases Ji h16 with ⟨hb,h16⟩|⟨hb,h16⟩
  ·refine zS 114 hb ?_;cases h16;exact zF
  refine zS 114 hb (zR 2 ?_);refine zL (L:=r11.1.Tracks) ?_;cases h16;exact zF
 obtain ⟨b17,h17,h⟩:=Je h;refine zR 1 ?_;refine Ko 5 125 (.bool b17) ?_ ?_
 ·rcases Ji h17 with ⟨hb,h17⟩|⟨hb,h17⟩
  ·refine zS 120 hb ?_;cases h17;exact zF
  refine zS 120 hb (zR 2 ?_);refine zL (L:=r12.1.Tracks) ?_;cases h17;exact zF
 obtain ⟨b18,h18,h⟩:=Je h;refine zR 1 ?_;refine Ko 5 131 (.bool b18) ?_ ?_
 ·rcases Ji h18 with ⟨hb,h18⟩|⟨hb,h18⟩
  ·refine zS 126 hb ?_;cases h18;exact zF
  refine zS 126 hb (zR 2 ?_);refine zL (L:=r13.1.Tracks) ?_;cases h18;exact zF
 obtain ⟨b19,h19,h⟩:=Je h;refine zR 1 ?_;refine Ko 8 140 (.bool b19) ?_ ?_
 ·rcases Ji h19 with ⟨hb,h19⟩|⟨hb,h19⟩
  ·refine zS 132 hb ?_;cases h19;exact zF
  refine zS 132 hb (zR 2 ?_);obtain ⟨x20,h20,h19⟩:=Je h19;refine zI h20 (zR 2 ?_);refine zL (L:=x20.Routes) ?_;cases h19;exact zF
 refine zN (Jb ?_);rcases Ji h with ⟨hb,h⟩|⟨hb,h⟩
 ·refine zT hb (Ja (Jc (zE (Jb (Jm (Jj ?_))))));cases h;exact zQ
 refine zU hb (Jg (Jb (Ja (Jc (zR 1 ?_)))));obtain ⟨x21,h21,h⟩:=Je h;refine zI h21 ?_;obtain ⟨b22,h22,h⟩:=Je h;refine zR 4 ?_;refine Ko 7 153 (.bool b22) ?_ ?_
 ·rcases Ji h22 with ⟨hb,h22⟩|⟨hb,h22⟩
  ·refine zS 146 hb (zR 1 ?_);obtain ⟨x23,h23,h22⟩:=Je h22;refine zI h23 ?_;cases h22;exact zF
  refine zS 146 hb ?_;cases h22;exact zF
 obtain ⟨b24,h24,h⟩:=Je h;refine zR 1 ?_;refine Ko 6 160 (.bool b24) ?_ ?_
 ·rcases Ji h24 with ⟨hb,h24⟩|⟨hb,h24⟩
  ·refine zS 154 hb (zR 1 ?_);obtain ⟨x25,h25,h24⟩:=Je h24;refine zI h25 ?_;cases h24;exact zF
  refine zS 154 hb ?_;cases h24;exact zF
 obtain ⟨b26,h26,h⟩:=Je h;refine zR 1 ?_;refine Ko 7 168 (.bool b26) ?_ ?_
 ·rcases Ji h26 with ⟨hb,h26⟩|⟨hb,h26⟩
  ·refine zS 161 hb (zR 1 ?_);obtain ⟨x27,h27,h26⟩:=Je h26;refine zI h27 ?_;cases h26;exact zF
  refine zS 161 hb ?_;cases h26;exact zF
 obtain ⟨b28,h28,h⟩:=Je h;refine zR 1 ?_;refine Ko 7 176 (.bool b28) ?_ ?_
 ·rcases Ji h28 with ⟨hb,h28⟩|⟨hb,h28⟩
  ·refine zS 169 hb (zR 2 ?_);obtain ⟨x29,h29,h28⟩:=Je h28;refine zI h29 ?_;cases h28;exact zF
  refine zS 169 hb ?_;cases h28;exact zF
 refine zR 1 ?_;refine Ks 3 180 (b28&&(decide (r13.2=0))) (fun x hx=>?_) ?_
 ·rcases Vz hx with ⟨hb,hx⟩|⟨hb,hx⟩
  ·refine zS 177 hb ?_;subst hx;exact zF
  refine zS 177 hb ?_;subst hx;exact zF
 obtain ⟨b30,h30,h⟩:=Je h;refine zR 1 ?_;refine Ko 7 188 (.bool b30) ?_ ?_
 ·rcases Ji h30 with ⟨hb,h30⟩|⟨hb,h30⟩
  ·refine zS 181 hb (zR 2 ?_);obtain ⟨x31,h31,h30⟩:=Je h30;refine zI h31 ?_;cases h30;exact zF
  refine zS 181 hb ?_;cases h30;exact zF
 refine zR 1 ?_;refine Ks 3 192 (b30&&(decide (r14.2.2=0))) (fun x hx=>?_) ?_
 ·rcases Vz hx with ⟨hb,hx⟩|⟨hb,hx⟩
  ·refine zS 189 hb ?_;subst hx;exact zF
  refine zS 189 hb ?_;subst hx;exact zF
 refine zR 1 ?_;refine Ks 4 197 ((b30&&(decide (r14.2.2=0)))&&(decide (r14.2.1.Kind=4))) (fun x hx=>?_) ?_
 ·rcases Vz hx with ⟨hb,hx⟩|⟨hb,hx⟩
  ·refine zS 193 hb ?_;subst hx;exact zF
  refine zS 193 hb ?_;subst hx;exact zF
 refine zE (Jb (Jm ?_));cases h;exact zQ
def Yw (a0:Int) (a1:Int) (a2:Int):Option Bool :=
 some ((decide (a1≤a0))&&(decide (a0≤a2)))
theorem Wx (a0:Int) (a1:Int) (a2:Int) (r:Bool) (h:Yw a0 a1 a2=some r):Kg Tryz.prog GlS 89 [Enc.pv a0,Enc.pv a1,Enc.pv a2] (Enc.pv r):=by
 unfold Yw at h;refine zC Tryz.func89 Tryz.ntmps89 ?_;refine Ja (Jc (zE (Jb (Ja (Jc (zR 4 ?_))))));refine Ks 4 14 ((decide (a1≤a0))&&(decide (a0≤a2))) (fun x hx=>?_) ?_
 ·rcases Vz hx with ⟨hb,hx⟩|⟨hb,hx⟩
  ·refine zS 10 hb ?_;subst hx;exact zF
  refine zS 10 hb ?_;subst hx;exact zF
 refine zE (Jb (Jm ?_));cases h;exact zQ
def Er (a0:Kk):Option Int :=
 (Gp a0.Name).bind fun r1 =>
 bif (!r1) then (
  some 3
 ) else (
  (Yw a0.Id 1 99).bind fun r2 =>
  ((bif (!r2) then some true else (
   (Yw a0.Length 1 50000).bind fun r4 =>
   some (!r4)
  )):Option Bool).bind fun b3 =>
  ((bif b3 then some true else (
   (Yw a0.Speed 1 10000).bind fun r6 =>
   some (!r6)
  )):Option Bool).bind fun b5 =>
  ((bif b5 then some true else (
   (Yw a0.Accel 1 200).bind fun r8 =>
   some (!r8)
  )):Option Bool).bind fun b7 =>
  ((bif b7 then some true else (
   (Yw a0.Service 1 200).bind fun r10 =>
   some (!r10)
  )):Option Bool).bind fun b9 =>
  bif b9 then (
   some 1
  ) else (
   (Yw a0.Emergency a0.Service 200).bind fun r11 =>
   ((bif (!r11) then some true else (
    (Yw a0.Delay 0 5).bind fun r13 =>
    some (!r13)
   )):Option Bool).bind fun b12 =>
   ((bif b12 then some true else (
    (Yw a0.Const 0 500).bind fun r15 =>
    some (!r15)
   )):Option Bool).bind fun b14 =>
   ((bif b14 then some true else (
    (Yw a0.Rate 0 100).bind fun r17 =>
    some (!r17)
   )):Option Bool).bind fun b16 =>
   bif b16 then (
    some 1
   ) else (
    some 0
   )
  )
 )
theorem Jjo (a0:Kk) (r:Int) (h:Er a0=some r):Kg Tryz.prog GlS 38 [Enc.pv a0] (Enc.pv r):=by
 unfold Er at h;refine zC Tryz.func38 Tryz.ntmps38 ?_;refine Ja (Jc (zE (Jb (Ja (Ja (Jc (zR 2 ?_)))))));obtain ⟨r1,h1,h⟩:=Je h;refine zP (Jdj _ r1 h1) (zE (Jb ?_));rcases Ji h with ⟨hb,h⟩|⟨hb,h⟩
 ·refine zT hb (Ja (Jc (zE (Jb (Jm (Jj ?_))))));cases h;exact zQ
 refine zU hb (Jg (Jb (Ja (Ja (Jc (zR 2 ?_))))));obtain ⟨r2,h2,h⟩:=Je h;refine zP (Wx _ _ _ r2 h2) ?_;obtain ⟨b3,h3,h⟩:=Je h;refine zR 2 ?_;refine Ko 5 16 (.bool b3) ?_ ?_
 ·rcases Ji h3 with ⟨hb,h3⟩|⟨hb,h3⟩
  ·refine zS 11 hb ?_;cases h3;exact zF
  refine zS 11 hb (zR 2 ?_);obtain ⟨r4,h4,h3⟩:=Je h3;refine zP (Wx _ _ _ r4 h4) ?_;cases h3;exact zF
 obtain ⟨b5,h5,h⟩:=Je h;refine zR 1 ?_;refine Ko 5 22 (.bool b5) ?_ ?_
 ·rcases Ji h5 with ⟨hb,h5⟩|⟨hb,h5⟩
  ·refine zS 17 hb ?_;cases h5;exact zF
  refine zS 17 hb (zR 2 ?_);obtain ⟨r6,h6,h5⟩:=Je h5;refine zP (Wx _ _ _ r6 h6) ?_;cases h5;exact zF
 obtain ⟨b7,h7,h⟩:=Je h;refine zR 1 ?_;refine Ko 5 28 (.bool b7) ?_ ?_
 ·rcases Ji h7 with ⟨hb,h7⟩|⟨hb,h7⟩
  ·refine zS 23 hb ?_;cases h7;exact zF
  refine zS 23 hb (zR 2 ?_);obtain ⟨r8,h8,h7⟩:=Je h7;refine zP (Wx _ _ _ r8 h8) ?_;cases h7;exact zF
 obtain ⟨b9,h9,h⟩:=Je h;refine zR 1 ?_;refine Ko 5 34 (.bool b9) ?_ ?_
 ·rcases Ji h9 with ⟨hb,h9⟩|⟨hb,h9⟩
  ·refine zS 29 hb ?_;cases h9;exact zF
  refine zS 29 hb (zR 2 ?_);obtain ⟨r10,h10,h9⟩:=Je h9;refine zP (Wx _ _ _ r10 h10) ?_;cases h9;exact zF
 refine zN (Jb ?_);rcases Ji h with ⟨hb,h⟩|⟨hb,h⟩
 ·refine zT hb (Ja (Jc (zE (Jb (Jm (Jj ?_))))));cases h;exact zQ
 refine zU hb (Jg (Jb (Ja (Ja (Jc (zR 4 ?_))))));obtain ⟨r11,h11,h⟩:=Je h;refine zP (Wx _ _ _ r11 h11) ?_;obtain ⟨b12,h12,h⟩:=Je h;refine zR 2 ?_;refine Ko 5 46 (.bool b12) ?_ ?_
 ·rcases Ji h12 with ⟨hb,h12⟩|⟨hb,h12⟩
  ·refine zS 41 hb ?_;cases h12;exact zF
  refine zS 41 hb (zR 2 ?_);obtain ⟨r13,h13,h12⟩:=Je h12;refine zP (Wx _ _ _ r13 h13) ?_;cases h12;exact zF
 obtain ⟨b14,h14,h⟩:=Je h;refine zR 1 ?_;refine Ko 5 52 (.bool b14) ?_ ?_
 ·rcases Ji h14 with ⟨hb,h14⟩|⟨hb,h14⟩
  ·refine zS 47 hb ?_;cases h14;exact zF
  refine zS 47 hb (zR 2 ?_);obtain ⟨r15,h15,h14⟩:=Je h14;refine zP (Wx _ _ _ r15 h15) ?_;cases h14;exact zF
 obtain ⟨b16,h16,h⟩:=Je h;refine zR 1 ?_;refine Ko 5 58 (.bool b16) ?_ ?_
 ·rcases Ji h16 with ⟨hb,h16⟩|⟨hb,h16⟩
  ·refine zS 53 hb ?_;cases h16;exact zF
  refine zS 53 hb (zR 2 ?_);obtain ⟨r17,h17,h16⟩:=Je h16;refine zP (Wx _ _ _ r17 h17) ?_;cases h16;exact zF
 refine zN (Jb ?_);rcases Ji h with ⟨hb,h⟩|⟨hb,h⟩
 ·refine zT hb (Ja (Jc (zE (Jb (Jm (Jj ?_))))));cases h;exact zQ
 refine zU hb (Jg (Jb (Ja (Jc (zE (Jb (Jm ?_)))))));cases h;exact zQ
def Dy (a0:Jd) (a1:Jh):Option Int :=
 (ixO a0.Elements a1.El).bind fun x1 =>
 some x1.Length
theorem Rp (a0:Jd) (a1:Jh) (r:Int) (h:Dy a0 a1=some r):Kg Tryz.prog GlS 157 [Enc.pv a0,Enc.pv a1] (Enc.pv r):=by
 unfold Dy at h;refine zC Tryz.func157 Tryz.ntmps157 ?_;refine Ja (Jc (zE (Jb (Ja (Jc (zR 4 ?_))))));obtain ⟨x1,h1,h⟩:=Je h;refine zI h1 (zE (Jb (Jm ?_)));cases h;exact zQ
def Bx (a0:Jd) (a1:Kh):(Int×Int)→Option ((Int×Int)⊕(Int⊕Int)):=fun (x3,x4) =>
 bif decide ((w64 (x4+1))<((a1.Steps.length:Nat):Int)) then (
  (ixO a1.Steps x4).bind fun x8 =>
  (Dy a0 x8).bind fun r9 =>
  some (.inl (w64 (x3+r9),w64 (x4+1)))
 ) else (
  some (.inr (.inl x3))
 )
def Eh (a0:Jd) (a1:Kh):Option Int :=
 onInl (α:=Int) (β:=Int) (Ki (Bx a0 a1) (a1.Head,0)) fun x7 =>
 some x7
theorem Jgu (a0:Jd) (a1:Kh) (r:Int) (h:Eh a0 a1=some r):Kg Tryz.prog GlS 158 [Enc.pv a0,Enc.pv a1] (Enc.pv r):=by
 unfold Eh at h;refine zC Tryz.func158 Tryz.ntmps158 ?_;refine Ja (Jc (zE (Jb (Ja (Jc (zE (Jb (Ja (Ja (Jc (zE (Jb (Jl ?_)))))))))))));obtain ⟨o6,h6,h⟩:=Kf h;refine zA 27 0 (fun (x3,x4)=>⟨[(2,.ref 2 0),(3,.ref 3 0),(5,I6 x3),(6,I6 x4)],[(2,.cells (cellsOf a0)),(3,.cells (cellsOf a1))],[],[]⟩) (fun x7=>⟨[(5,I6 x7)],[],[],[]⟩) h6 ?_ ?_
 ·rintro ⟨x3,x4⟩ oh5 h5;unfold Bx at h5;refine Ja (Ja (Jc (zR 4 ?_)));refine zL (L:=a1.Steps) ?_;refine zE (Jb ?_);rcases Ji h5 with ⟨hb,h5⟩|⟨hb,h5⟩
  ·refine zT hb (Jg (Jb (Ja (Jl (zD (zR 5 ?_))))));obtain ⟨x8,h7,h5⟩:=Je h5;refine zI h7 (zR 1 ?_);obtain ⟨r9,h8,h5⟩:=Je h5;refine zP (Rp _ _ r9 h8) (zE (Jx (Jb (Jc (zE ?_)))));cases h5;exact zB
  refine zU hb (Jv (Jt ?_));cases h5;exact zX
 rintro x7 s' rfl hs;have h:=Ka h;refine Jr (Jb (Jy hs (Ja (Jc (zE (Jb (Jm ?_)))))));cases h;exact zQ
def Ew (a0:Jd) (a1:Kh):Option Int :=
 (Et a0 a1.Steps).bind fun r1 =>
 ((bif ((((!r1)||(decide (a1.Length<1)))||(decide (1000000<a1.Length)))||(decide (a1.Head<1))) then some true else (
  (ixO a1.Steps (w64 (((a1.Steps.length:Nat):Int) - 1))).bind fun x3 =>
  (Dy a0 x3).bind fun r4 =>
  some (decide (r4<a1.Head))
 )):Option Bool).bind fun b2 =>
 bif b2 then (
  some 1
 ) else (
  (Eh a0 a1).bind fun r5 =>
  ((bif decide (r5<a1.Length) then some true else (
   ((bif decide (1<((a1.Steps.length:Nat):Int)) then (
    (ixO a1.Steps 0).bind fun x8 =>
    (Dy a0 x8).bind fun r9 =>
    some (decide (a1.Length≤(w64 (r5 - r9))))
   ) else some false):Option Bool).bind fun b7 =>
   some b7
  )):Option Bool).bind fun b6 =>
  bif b6 then (
   some 10
  ) else (
   some 0
  )
 )
theorem Jkr (a0:Jd) (a1:Kh) (r:Int) (h:Ew a0 a1=some r):Kg Tryz.prog GlS 80 [Enc.pv a0,Enc.pv a1] (Enc.pv r):=by
 unfold Ew at h;refine zC Tryz.func80 Tryz.ntmps80 ?_;refine Ja (Jc (zE (Jb (Ja (Ja (zD (zR 3 ?_)))))));obtain ⟨r1,h1,h⟩:=Je h;refine zP (Jbb _ _ r1 h1) (zR 2 ?_);refine Ks 4 15 ((!r1)||(decide (a1.Length<1))) (fun x hx=>?_) ?_
 ·rcases Vi hx with ⟨hb,hx⟩|⟨hb,hx⟩
  ·refine zS 11 hb ?_;subst hx;exact zF
  refine zS 11 hb ?_;subst hx;exact zF
 refine zR 1 ?_;refine Ks 4 20 (((!r1)||(decide (a1.Length<1)))||(decide (1000000<a1.Length))) (fun x hx=>?_) ?_
 ·rcases Vi hx with ⟨hb,hx⟩|⟨hb,hx⟩
  ·refine zS 16 hb ?_;subst hx;exact zF
  refine zS 16 hb ?_;subst hx;exact zF
 refine zR 1 ?_;refine Ks 4 25 ((((!r1)||(decide (a1.Length<1)))||(decide (1000000<a1.Length)))||(decide (a1.Head<1))) (fun x hx=>?_) ?_
 ·rcases Vi hx with ⟨hb,hx⟩|⟨hb,hx⟩
  ·refine zS 21 hb ?_;subst hx;exact zF
  refine zS 21 hb ?_;subst hx;exact zF
 obtain ⟨b2,h2,h⟩:=Je h;refine zR 1 ?_;refine Ko 14 40 (.bool b2) ?_ ?_
 ·rcases Ji h2 with ⟨hb,h2⟩|⟨hb,h2⟩
  ·refine zS 26 hb ?_;cases h2;exact zF
  refine zS 26 hb (zR 7 ?_);refine zL (L:=a1.Steps) ?_;refine zR 1 ?_;obtain ⟨x3,h3,h2⟩:=Je h2;refine zI h3 (zR 1 ?_);obtain ⟨r4,h4,h2⟩:=Je h2;refine zP (Rp _ _ r4 h4) ?_;cases h2;exact zF
 refine zN (Jb ?_);rcases Ji h with ⟨hb,h⟩|⟨hb,h⟩
 ·refine zT hb (Ja (Jc (zE (Jb (Jm (Jj ?_))))));cases h;exact zQ
 refine zU hb (Jg (Jb (Ja (Jc (zR 2 ?_)))));obtain ⟨r5,h5,h⟩:=Je h;refine zP (Jgu _ _ r5 h5) (zE (Jb (Ja (Ja (zD ?_)))));obtain ⟨b6,h6,h⟩:=Je h;refine zR 5 ?_;refine Ko 18 66 (.bool b6) ?_ ?_
 ·rcases Ji h6 with ⟨hb,h6⟩|⟨hb,h6⟩
  ·refine zS 48 hb ?_;cases h6;exact zF
  refine zS 48 hb (zR 2 ?_);refine zL (L:=a1.Steps) ?_;obtain ⟨b7,h7,h6⟩:=Je h6;refine zR 2 ?_;refine Js8 12 65 (.bool b7) ?_ ?_
  ·rcases Ji h7 with ⟨hb,h7⟩|⟨hb,h7⟩
   ·refine zS 53 hb (zR 4 ?_);obtain ⟨x8,h8,h7⟩:=Je h7;refine zI h8 (zR 1 ?_);obtain ⟨r9,h9,h7⟩:=Je h7;refine zP (Rp _ _ r9 h9) ?_;cases h7;exact zF
   refine zS 53 hb ?_;cases h7;exact zF
  cases h6;exact zF
 refine zN (Jb ?_);rcases Ji h with ⟨hb,h⟩|⟨hb,h⟩
 ·refine zT hb (Ja (Jc (zE (Jb (Jm (Jj ?_))))));cases h;exact zQ
 refine zU hb (Jg (Jb (Ja (Jc (zE (Jb (Jm ?_)))))));cases h;exact zQ
end
end PM
