/-
 Plain functions for the program's functions, and the proofs that the program does them. Printed by den.py.
-/
import Derived.Test.YtfpoeepcomnjhaaGreatDoorDen5
namespace PM
open Go Go.RowKit Go.Proofs
attribute [local irreducible] Kp pwp
/-! session.Send -/
noncomputable def Bc (a0:Jk) (a1:Kc) (a2:Int):Option (Jk×Kc) :=
 onInl (α:=Int) (β:=(Jk×Kc)) (
  bif decide (a0.Out<1073741824) then (
   some (.inl (w64 (a0.Out+1)))
  ) else (
   some (.inl a0.Out)
  )
 ) fun x1 =>
 (Va a1.Auth.Profile).bind fun r2 =>
 (Vf a1.Auth.Links).bind fun r3 =>
 some ((Jk.mk a0.Peer x1 a0.In a0.Heard),(Kc.mk a1.Kind a1.From a0.Peer x1 a2 (Ks.mk a1.Auth.Seq a1.Auth.End r2 r3) a1.Report))
theorem Ru (a0:Jk) (a1:Kc) (a2:Int) (r:(Jk×Kc)) (h:Bc a0 a1 a2=some r):Kj Tryz.prog GlS 45 [Enc.pv a0,Enc.pv a1,Enc.pv a2] (.tup [Enc.pv r.1,Enc.pv r.2]):=by
 unfold Bc at h
 refine zC Tryz.func45 Tryz.ntmps45 ?_
 refine Ja (Jd (zE (Jb ?_)))
 obtain ⟨o1,h1,h⟩:=Kk h
 refine Qp (o:=o1) 37 (fun x1=>⟨[(2,.int .i64 a2),(3,.ref 3 0),(4,.ref 4 0),(6,.ref 6 0),(7,.ref 7 0)],[(3,.cells ([.int .i64 a0.Peer,.int .i64 x1,.int .i64 a0.In,.int .i64 a0.Heard])),(4,.cells (cellsOf a1)),(6,.cells ([.int .i64 0,.int .i64 0,.int .i64 0,.int .i64 0])),(7,.cells ([.int .i64 0,.int .i64 0,.int .i64 0,.int .i64 0,.int .i64 0,.int .i64 0,.int .i64 0,.nil,.nil,.int .i64 0,.int .i64 0,.int .i64 0,.int .i64 0,.bool false]))],[],[]⟩) ?_ ?_
 ·refine Ja (Jd (zE (Jb ?_)))
  rcases Jl h1 with ⟨hb,h1⟩|⟨hb,h1⟩
  ·refine zT hb (Jd (zE ?_))
   cases h1
   exact zJ
  refine zU hb (Jj ?_)
  cases h1
  exact zJ
 rintro x1 rfl
 have h:=Kb h
 refine Ja ?_
 refine Jfd 37 ⟨[(3,.ref 3 0),(4,.ref 4 0),(6,.ref 6 0),(7,.ref 7 0)],[(3,.cells ([.int .i64 a0.Peer,.int .i64 x1,.int .i64 a0.In,.int .i64 a0.Heard])),(4,.cells ([.int .i64 a1.Kind,.int .i64 a1.From,.int .i64 a0.Peer,.int .i64 x1,.int .i64 a2,.int .i64 a1.Auth.Seq,.int .i64 a1.Auth.End,Jn .frozen a1.Auth.Profile,Jn .frozen a1.Auth.Links,.int .i64 a1.Report.Min,.int .i64 a1.Report.Speed,.int .i64 a1.Report.Mode,.int .i64 a1.Report.Accepted,.bool a1.Report.Whole])),(6,.cells ([.int .i64 0,.int .i64 0,.int .i64 0,.int .i64 0])),(7,.cells ([.int .i64 0,.int .i64 0,.int .i64 0,.int .i64 0,.int .i64 0,.int .i64 0,.int .i64 0,.nil,.nil,.int .i64 0,.int .i64 0,.int .i64 0,.int .i64 0,.bool false]))],[],[]⟩ (by kernel_rfl) ?_ ?_
 ·refine Wb [0,1,2,4,5] 6 (by kernel_rfl) ?_
  refine zR 5 (Kt (by kernel_rfl) ?_)
  refine Dq (n:=5) [3,6] (by kernel_rfl) ⟨?_, ?_,trivial⟩
  ·refine ⟨_,rfl, ?_⟩
   refine zR 1 (Kt (by kernel_rfl) ?_)
   refine Wb [6,7,8,9,10] 0 (by kernel_rfl) ?_
   refine zR 5 (Kt (by kernel_rfl) ?_)
   exact Wj (by kernel_rfl) (.of (by kernel_rfl) (by kernel_rfl))
  refine ⟨_,rfl, ?_⟩
  refine zR 1 (Kt (by kernel_rfl) ?_)
  refine Wb [3,7,8,9,10] 0 (by kernel_rfl) ?_
  refine zR 5 (Kt (by kernel_rfl) ?_)
  exact Wj (by kernel_rfl) (.of (by kernel_rfl) (by kernel_rfl))
 refine Jb (Ja (Jd (zR 3 ?_)))
 obtain ⟨r2,h2,h⟩:=Je h
 refine zP (Ig _ r2 h2) (zE (Jb (Ja (Jd (zR 3 ?_)))))
 obtain ⟨r3,h3,h⟩:=Je h
 refine zP (Lg _ r3 h3) (zE (Jb (Ja ?_)))
 refine Jsa 37 ⟨[(6,.ref 6 0),(7,.ref 7 0)],[(6,.cells ([.int .i64 a0.Peer,.int .i64 x1,.int .i64 a0.In,.int .i64 a0.Heard])),(7,.cells ([.int .i64 a1.Kind,.int .i64 a1.From,.int .i64 a0.Peer,.int .i64 x1,.int .i64 a2,.int .i64 a1.Auth.Seq,.int .i64 a1.Auth.End,Jn .frozen (r2:(List Jh)),Jn .frozen (r3:(List Jc)),.int .i64 a1.Report.Min,.int .i64 a1.Report.Speed,.int .i64 a1.Report.Mode,.int .i64 a1.Report.Accepted,.bool a1.Report.Whole]))],[],[]⟩ (by kernel_rfl) ?_ ?_
 ·refine Qr [0,1] (by kernel_rfl) ⟨?_, ?_,trivial⟩
  ·refine ⟨_,rfl, ?_⟩
   refine zR 1 (Wm ?_)
   refine Qr [1,2] (by kernel_rfl) ⟨?_, ?_,trivial⟩
   ·refine ⟨_,rfl, ?_⟩
    refine zR 1 (Wm ?_)
    refine Qr [2] (by kernel_rfl) ⟨?_,trivial⟩
    refine ⟨_,rfl, ?_⟩
    refine zR 1 (Wm ?_)
    refine Qr [3] (by kernel_rfl) ⟨?_,trivial⟩
    refine ⟨_,rfl, ?_⟩
    refine zR 1 (Wm ?_)
    exact Dr (by kernel_rfl) (.of (by kernel_rfl) (by kernel_rfl))
   refine ⟨_,rfl, ?_⟩
   refine zR 1 (Wm ?_)
   refine Qr [1] (by kernel_rfl) ⟨?_,trivial⟩
   refine ⟨_,rfl, ?_⟩
   refine zR 1 (Wm ?_)
   refine Qr [3] (by kernel_rfl) ⟨?_,trivial⟩
   refine ⟨_,rfl, ?_⟩
   refine zR 1 (Wm ?_)
   exact Dr (by kernel_rfl) (.of (by kernel_rfl) (by kernel_rfl))
  refine ⟨_,rfl, ?_⟩
  refine zR 1 (Wm ?_)
  refine Qr [0] (by kernel_rfl) ⟨?_,trivial⟩
  refine ⟨_,rfl, ?_⟩
  refine zR 1 (Wm ?_)
  refine Qr [2] (by kernel_rfl) ⟨?_,trivial⟩
  refine ⟨_,rfl, ?_⟩
  refine zR 1 (Wm ?_)
  refine Qr [3] (by kernel_rfl) ⟨?_,trivial⟩
  refine ⟨_,rfl, ?_⟩
  refine zR 1 (Wm ?_)
  exact Dr (by kernel_rfl) (.of (by kernel_rfl) (by kernel_rfl))
 refine Jb (Jq ?_)
 cases h
 exact zQ
/-! slices.Clone[[]api.Session,api.Session] -/
noncomputable def Ue (a0:(List Jk)):Option (List Jk) :=
 (Ut ([]:(List Jk)) a0).bind fun x1 =>
 some x1
theorem Ba (a0:(List Jk)) (r:(List Jk)) (h:Ue a0=some r):Jlw Tryz.prog GlS 92 [Enc.pv a0] 4 32 (r.map cellsOf):=by
 unfold Ue at h
 refine Tf Tryz.func92 (by rfl) rfl Tryz.ntmps92 (by rfl) rfl ?_
 refine Ja (Jd (zE (Jb (Ja (Ja (Jd (zE (Jb ?_))))))))
 refine Oh (e:=((a0:(List Jk)).map cellsOf).isEmpty) (by kernel_rfl) (fun hub=>?_) ?_
 ·have hN:=Oi (Jhy hub) h
  refine Ja (Jd (zE (Jb (Ka (Jgg 2 100002 4 32 (by kernel_rfl) (by kernel_rfl)) (Jq (Jm ?_))))))
  have hq:=Option.some.inj hN
  subst hq
  exact Jlb 100002 (((([]:(List Jk)):(List Jk)).map cellsOf).length) (by kernel_rfl)
 refine Jj (Jb (Ja (Jd (zR 2 ?_))))
 obtain ⟨x1,h1,h⟩:=Je h
 refine Jjx (tk:=7) (x:=.lst .full 4 32 []) h1 (.inr ⟨_,_,rfl⟩) (by kernel_rfl) (by kernel_rfl) ?_
 refine zE (Jb (Jq ?_))
 have hq:=Option.some.inj h
 subst hq
 exact Jlb 7 (((x1:(List Jk)).map cellsOf).length) (by kernel_rfl)
/-! rbc.Grant -/
noncomputable def Jeq (a4:Jw) (x33:(List Jg)):(Int×(List Jg))→Option ((Int×(List Jg))⊕((List Jg)⊕((List Jg)×Nat×(List Jk)))):=fun (x42,x43) =>
 bif decide (x42<((a4.Tracks.length:Nat):Int)) then (
  (ixO a4.Tracks x42).bind fun x53 =>
  (Qg x53.Steps).bind fun r54 =>
  (Kn x53.Routes).bind fun r55 =>
  (Kn x53.Starts).bind fun r56 =>
  (Kn x53.Ends).bind fun r57 =>
  (Kn x53.Done).bind fun r58 =>
  (Wn 0 (((x33:(List Jg)).map cellsOf).length) x42).bind fun j59 =>
  (Vq x43 (((x33:(List Jg)).map cellsOf).length) j59).bind fun x60 =>
  some (.inl (w64 (x42+1),(x43.set j59 (Jg.mk x53.Id x53.Origin x53.End x53.At r54 r55 r56 r57 r58 x53.Min x53.Sent x53.Accepted x53.Cut x53.CutSeq))))
 ) else (
  some (.inr (.inl x43))
 )
noncomputable def Jek (a0:Ji) (a1:Kz) (a2:Qf) (x31:Nat) (x264:Int):(List Jg)→Option ((List Jg)⊕((List Jg)⊕(List Jg))):=fun x430 =>
 (Wn 0 x31 x264).bind fun j445 =>
 (Vq x430 x31 j445).bind fun x446 =>
 ((bif decide (x446.CutSeq=0) then (
  (Wn 0 x31 x264).bind fun j448 =>
  (Vq x430 x31 j448).bind fun x449 =>
  some (!(decide (x449.End=(-1))))
 ) else some false):Option Bool).bind fun b447 =>
 bif b447 then (
  (Wn 0 x31 x264).bind fun j450 =>
  (Vq x430 x31 j450).bind fun x451 =>
  (Jb8 a1 a2 x430 x451.End).bind fun r452 =>
  bif decide (r452<0) then (
   some (.inr (.inr x430))
  ) else (
   (Wn 0 x31 x264).bind fun j453 =>
   (Vq x430 x31 j453).bind fun x454 =>
   (Ni a0 a1 x454 r452).bind fun r455 =>
   bif (!(decide (r455.2=0))) then (
    some (.inr (.inr x430))
   ) else (
    (Wn 0 x31 x264).bind fun j456 =>
    (Vq x430 x31 j456).bind fun x457 =>
    some (.inl (x430.set j456 r455.1))
   )
  )
 ) else (
  some (.inr (.inl x430))
 )
noncomputable def Jew (a0:Ji) (a1:Kz) (a2:Qf) (a3:(List Kf)) (a5:Int) (x31:Nat) (x32:(List Jk)):(Int×(List Jg)×(List Jk)×(List Kc))→Option ((Int×(List Jg)×(List Jk)×(List Kc))⊕(((List Jg)×(List Jk)×(List Kc))⊕(Jw×(List Kc)))):=fun (x264,x265,x266,x267) =>
 bif decide (x264<((x31:Nat):Int)) then (
  (Wn 0 x31 x264).bind fun j370 =>
  (Vq x265 x31 j370).bind fun x371 =>
  (Ng x371 a2).bind fun r372 =>
  (Wn 0 x31 x264).bind fun j373 =>
  (Vq x265 x31 j373).bind fun x374 =>
  Option.bind (α:=(List Jg)) (
   onInl (α:=(List Jg)) (β:=(List Jg)) (Ko (Jek a0 a1 a2 x31 x264) (x265.set j373 r372)) fun x444 =>
   some x444
  ) fun x416 =>
  (Wn 0 x31 x264).bind fun j458 =>
  (Vq x416 x31 j458).bind fun x459 =>
  (Jdf a0 a3 x459).bind fun r460 =>
  (Wn 0 x31 x264).bind fun j461 =>
  (Vq x416 x31 j461).bind fun x462 =>
  (Wn 0 (((x32:(List Jk)).map cellsOf).length) x264).bind fun j463 =>
  (Vq x266 (((x32:(List Jk)).map cellsOf).length) j463).bind fun x464 =>
  (Bc x464 r460.2 a5).bind fun r465 =>
  (Wn 0 (((x32:(List Jk)).map cellsOf).length) x264).bind fun j466 =>
  (Vq x266 (((x32:(List Jk)).map cellsOf).length) j466).bind fun x467 =>
  (Ut x267 [r465.2]).bind fun x468 =>
  some (.inl (w64 (x264+1),(x416.set j461 r460.1),(x266.set j466 r465.1),x468))
 ) else (
  some (.inr (.inl (x265,x266,x267)))
 )
noncomputable def Ro (a0:Ji) (a1:Kz) (a2:Qf) (a3:(List Kf)) (a4:Jw) (a5:Int):Option (Jw×(List Kc)) :=
 Option.bind (α:=((List Jg)×Nat×(List Jk))) (
  (Jrl ((a4.Tracks.length:Nat):Int) ((a4.Tracks.length:Nat):Int) 192 ((Jg.mk 0 0 0 0 [] [] [] [] [] 0 0 0 0 0):Jg)).bind fun x33 =>
  onInl (α:=(List Jg)) (β:=((List Jg)×Nat×(List Jk))) (Ko (Jeq a4 x33) (0,x33)) fun x52 =>
  (Ue a4.Sessions).bind fun r61 =>
  some (x52,((x33:(List Jg)).map cellsOf).length,r61)
 ) fun (x30,x31,x32) =>
 (Yy (Jw.mk x30 x32)).bind fun r62 =>
 bif (!r62) then (
  some ((Jw.mk x30 x32),([]:(List Kc)))
 ) else (
  onInl (α:=((List Jg)×(List Jk)×(List Kc))) (β:=(Jw×(List Kc))) (Ko (Jew a0 a1 a2 a3 a5 x31 x32) (0,x30,x32,([]:(List Kc)))) fun (x367,x368,x369) =>
  some ((Jw.mk x367 x368),x369)
 )
set_option maxRecDepth 100000 in
theorem Jdk (a0:Ji) (a1:Kz) (a2:Qf) (a3:(List Kf)) (a4:Jw) (a5:Int) (r:(Jw×(List Kc))) (h:Ro a0 a1 a2 a3 a4 a5=some r):Kj Tryz.prog GlS 14 [Enc.pv a0,Enc.pv a1,Enc.pv a2,Enc.pv a3,Enc.pv a4,Enc.pv a5] (.tup [Enc.pv r.1,Jn (.own 100014) r.2]):=by
 unfold Ro at h
 refine zC Tryz.func14 Tryz.ntmps14 ?_
 refine Ja (Jd (zE (Jb (Ja (Jhg (Nf 0 1 (zE ?_)))))))
 refine Ci 1 ⟨[(3,Jn .frozen (a3:(List Kf))),(5,.int .i64 a5),(6,.ref 1006 0),(7,.ref 1007 0),(8,.ref 1008 0),(10,.ref 1010 0),(12,.ref 1012 0),(18,Enc.pv a4)],[(1006,.cells (cellsOf a0)),(1007,.cells (cellsOf a1)),(1008,.cells (cellsOf a2)),(1010,.cells (cellsOf a4)),(1012,.cells ([.nil,.nil]))],[],[]⟩ 86 (by kernel_rfl) (by kernel_rfl) (by kernel_rfl) ?_
 obtain ⟨o29,h29,h⟩:=Je h
 refine Jm3 (f:=40) (asx:=[Enc.pv a4]) (by kernel_rfl) Tryz.func40 (by rfl) rfl Tryz.ntmps40 (by rfl) ?_
 refine Jd4 o29 8600136 (fun (x30,x31,x32)=>⟨[(2,.ref 2 0),(53,Jn .frozen (a3:(List Kf))),(55,.int .i64 a5),(56,.ref 1006 0),(57,.ref 1007 0),(58,.ref 1008 0),(60,.ref 1010 0),(62,.ref 1012 0)],[(2,.cells ([.ex 9 14 192 x31 0 x31,.ex 47 4 32 (((x32:(List Jk)).map cellsOf).length) 0 (((x32:(List Jk)).map cellsOf).length)])),(1006,.cells (cellsOf a0)),(1007,.cells (cellsOf a1)),(1008,.cells (cellsOf a2)),(1010,.cells (cellsOf a4)),(1012,.cells ([.nil,.nil]))],[(9,(x31,0)),(47,(((x32:(List Jk)).map cellsOf).length,0))],[(9,(14,(192,(x30:(List Jg)).map cellsOf))),(47,(4,(32,(x32:(List Jk)).map cellsOf)))]⟩) ?_ ?_
 ·refine Ja (Jd (zE (Jb (Ja (Jd (zR 2 ?_))))))
  refine zL (L:=(a4.Tracks:(List Jg))) ?_
  obtain ⟨x33,h30,h29⟩:=Je h29
  refine Juu (z:=((Jg.mk 0 0 0 0 [] [] [] [] [] 0 0 0 0 0):Jg)) 9 h30 (by kernel_rfl) (by kernel_rfl) ?_
  refine zE (Jb (Ja (Ja (Jd (zR 2 ?_)))))
  refine zL (L:=(a4.Tracks:(List Jg))) ?_
  refine zE (Jb (Jp ?_))
  obtain ⟨o48,h48,h29⟩:=Kk h29
  refine zA 8600136 0 (fun (x42,x43)=>⟨[(1,.ref 1 0),(2,.ref 2 0),(3,.ex 9 14 192 (((x33:(List Jg)).map cellsOf).length) 0 (((x33:(List Jg)).map cellsOf).length)),(11,Jn .frozen (a4.Tracks:(List Jg))),(12,.int .i64 ((a4.Tracks.length:Nat):Int)),(13,.int .i64 x42),(53,Jn .frozen (a3:(List Kf))),(55,.int .i64 a5),(56,.ref 1006 0),(57,.ref 1007 0),(58,.ref 1008 0),(60,.ref 1010 0),(62,.ref 1012 0)],[(1,.cells (cellsOf a4)),(2,.cells ([.nil,.nil])),(1006,.cells (cellsOf a0)),(1007,.cells (cellsOf a1)),(1008,.cells (cellsOf a2)),(1010,.cells (cellsOf a4)),(1012,.cells ([.nil,.nil]))],[(9,(((x33:(List Jg)).map cellsOf).length,0))],[(9,(14,(192,(x43:(List Jg)).map cellsOf)))]⟩) (fun x52=>⟨[(1,.ref 1 0),(2,.ref 2 0),(3,.ex 9 14 192 (((x33:(List Jg)).map cellsOf).length) 0 (((x33:(List Jg)).map cellsOf).length)),(53,Jn .frozen (a3:(List Kf))),(55,.int .i64 a5),(56,.ref 1006 0),(57,.ref 1007 0),(58,.ref 1008 0),(60,.ref 1010 0),(62,.ref 1012 0)],[(1,.cells (cellsOf a4)),(2,.cells ([.nil,.nil])),(1006,.cells (cellsOf a0)),(1007,.cells (cellsOf a1)),(1008,.cells (cellsOf a2)),(1010,.cells (cellsOf a4)),(1012,.cells ([.nil,.nil]))],[(9,(((x33:(List Jg)).map cellsOf).length,0))],[(9,(14,(192,(x52:(List Jg)).map cellsOf)))]⟩) h48 ?_ ?_
  ·rintro ⟨x42,x43⟩ oh47 h47
   unfold Jeq at h47
   refine Ja (Jd (zE (Jb (Ja ?_))))
   rcases Jl h47 with ⟨hb,h47⟩|⟨hb,h47⟩
   ·refine zT hb (Jj (Jb (Ja (Jp (Ja (Jd (zR 1 ?_)))))))
    obtain ⟨x53,h49,h47⟩:=Je h47
    refine zI h49 (zE (Jb (Ja (Jd (zR 2 ?_)))))
    obtain ⟨r54,h50,h47⟩:=Je h47
    refine zP (Ul _ r54 h50) (zE (Jb (Ja (Jd (zR 2 ?_)))))
    obtain ⟨r55,h51,h47⟩:=Je h47
    refine zP (Ky _ r55 h51) (zE (Jb (Ja (Jd (zR 2 ?_)))))
    obtain ⟨r56,h52,h47⟩:=Je h47
    refine zP (Ky _ r56 h52) (zE (Jb (Ja (Jd (zR 2 ?_)))))
    obtain ⟨r57,h53,h47⟩:=Je h47
    refine zP (Ky _ r57 h53) (zE (Jb (Ja (Jd (zR 2 ?_)))))
    obtain ⟨r58,h54,h47⟩:=Je h47
    refine zP (Ky _ r58 h54) (zE (Jb (Jd (zR 3 ?_))))
    obtain ⟨j59,h55,h47⟩:=Je h47
    refine Uv (tk:=9) (k:=14) (N:=((x33:(List Jg)).map cellsOf).length) h55 (by kernel_rfl) ?_
    obtain ⟨x60,h56,h47⟩:=Je h47
    refine Ev (L:=(x43:(List Jg))) (tk:=9) (N:=((x33:(List Jg)).map cellsOf).length) (j:=j59) (y:=x60) (y':=(Jg.mk x53.Id x53.Origin x53.End x53.At r54 r55 r56 r57 r58 x53.Min x53.Sent x53.Accepted x53.Cut x53.CutSeq)) h56 0 14 [.int .i64 x53.Id,.int .i64 x53.Origin,.int .i64 x53.End,.int .i64 x53.At,Jn .frozen (r54:(List Jf)),Jn .frozen (r55:(List Int)),Jn .frozen (r56:(List Int)),Jn .frozen (r57:(List Int)),Jn .frozen (r58:(List Int)),.int .i64 x53.Min,.int .i64 x53.Sent,.int .i64 x53.Accepted,.int .i64 x53.Cut,.int .i64 x53.CutSeq] (by kernel_rfl) (by kernel_rfl) ?_
    refine zN (Jz (Jb (Jd (zE ?_))))
    cases h47
    exact zB
   refine zU hb (Jy (Jv ?_))
   cases h47
   exact zX
  rintro x52 s' rfl hs
  have h29:=Kb h29
  refine Jt (Jb (Ka hs (Ja (Jd (zE (Jb (Ja (Jd (zR 2 ?_)))))))))
  obtain ⟨r61,h57,h29⟩:=Je h29
  refine Jjv (α:=Jk) 47 (Ba _ r61 h57) (by kernel_rfl) (by kernel_rfl) ?_
  refine zE (Jb (Ja (Jd (zE (Jb (Jq ?_))))))
  cases h29
  exact Jrf (by kernel_rfl) (by kernel_rfl)
 obtain ⟨x30,x31,x32⟩:=o29
 refine Jm8 (r:=.agg [.ex 9 14 192 x31 0 x31,.ex 47 4 32 (((x32:(List Jk)).map cellsOf).length) 0 (((x32:(List Jk)).map cellsOf).length)]) (by kernel_rfl) ?_
 refine Ci 2 ⟨[(3,Jn .frozen (a3:(List Kf))),(5,.int .i64 a5),(6,.ref 1006 0),(7,.ref 1007 0),(8,.ref 1008 0),(10,.ref 1010 0),(12,.ref 1012 0),(19,.agg [.ex 2000009 14 192 x31 0 x31,.ex 2000047 4 32 (((x32:(List Jk)).map cellsOf).length) 0 (((x32:(List Jk)).map cellsOf).length)])],[(1006,.cells (cellsOf a0)),(1007,.cells (cellsOf a1)),(1008,.cells (cellsOf a2)),(1010,.cells (cellsOf a4)),(1012,.cells ([.nil,.nil]))],[(2000009,(x31,0)),(2000047,(((x32:(List Jk)).map cellsOf).length,0))],[(2000009,(14,(192,(x30:(List Jg)).map cellsOf))),(2000047,(4,(32,(x32:(List Jk)).map cellsOf)))]⟩ 86 (by kernel_rfl) (by kernel_rfl) (by kernel_rfl) ?_
 refine Ci 1 ⟨[(3,Jn .frozen (a3:(List Kf))),(5,.int .i64 a5),(6,.ref 6 0),(7,.ref 7 0),(8,.ref 8 0),(10,.ref 10 0),(12,.ref 12 0),(19,.agg [.ex 2000009 14 192 x31 0 x31,.ex 2000047 4 32 (((x32:(List Jk)).map cellsOf).length) 0 (((x32:(List Jk)).map cellsOf).length)])],[(6,.cells (cellsOf a0)),(7,.cells (cellsOf a1)),(8,.cells (cellsOf a2)),(10,.cells (cellsOf a4)),(12,.cells ([.nil,.nil]))],[(2000009,(x31,0)),(2000047,(((x32:(List Jk)).map cellsOf).length,0))],[(2000009,(14,(192,(x30:(List Jg)).map cellsOf))),(2000047,(4,(32,(x32:(List Jk)).map cellsOf)))]⟩ 86 (by kernel_rfl) (by kernel_rfl) (by kernel_rfl) ?_
 refine Nf 2 1 (zE (Jg8 (Jb (Ja (Ja (Jd (zR 1 ?_)))))))
 obtain ⟨r62,h58,h⟩:=Je h
 refine Co [2000009,2000047] (Hx _ r62 h58) (by kernel_rfl) (by kernel_rfl) (by kernel_rfl) ?_
 refine zE (Jb ?_)
 rcases Jl h with ⟨hb,h⟩|⟨hb,h⟩
 ·refine zT hb (Ja (Jd (zE (Jb ?_))))
  refine Ka (Bd (xss:=(x30:(List Jg)).map cellsOf) 2000009 14 192 x31 [] [(10,0),(12,0)] (by kernel_rfl) (by kernel_rfl) (by kernel_rfl) (by kernel_rfl)) ?_
  refine Ka (Bd (xss:=(x32:(List Jk)).map cellsOf) 2000047 4 32 (((x32:(List Jk)).map cellsOf).length) [] [(10,1),(12,1)] (by kernel_rfl) (by kernel_rfl) (by kernel_rfl) (by kernel_rfl)) ?_
  refine Yn 13 100014 14 144 (by kernel_rfl) (by kernel_rfl) (Jq (Jm ?_))
  cases h
  exact zQ
 refine zU hb (Jj (Jb (Ja (Jd (zE (Jb (Ja (Ja (Jd (zE (Jb (Jp (Yn 14 100014 14 144 (by kernel_rfl) (by kernel_rfl) ?_)))))))))))))
 obtain ⟨o393,h393,h⟩:=Kk h
 refine zA 86 0 (fun (x264,x265,x266,x267)=>⟨[(3,Jn .frozen (a3:(List Kf))),(5,.int .i64 a5),(6,.ref 6 0),(7,.ref 7 0),(8,.ref 8 0),(10,.ref 10 0),(12,.ref 12 0),(14,Jn (.own 100014) (x267:(List Kc))),(26,.int .i64 ((x31:Nat):Int)),(27,.int .i64 x264)],[(6,.cells (cellsOf a0)),(7,.cells (cellsOf a1)),(8,.cells (cellsOf a2)),(10,.cells ([.ex 2000009 14 192 x31 0 x31,.ex 2000047 4 32 (((x32:(List Jk)).map cellsOf).length) 0 (((x32:(List Jk)).map cellsOf).length)])),(12,.cells ([.nil,.nil]))],[(100014,(((x267).map cellsOf).length,14)),(2000009,(x31,0)),(2000047,(((x32:(List Jk)).map cellsOf).length,0))],[(2000009,(14,(192,(x265:(List Jg)).map cellsOf))),(2000047,(4,(32,(x266:(List Jk)).map cellsOf)))]⟩) (fun (x367,x368,x369)=>⟨[(10,.ref 10 0),(12,.ref 12 0),(14,Jn (.own 100014) (x369:(List Kc)))],[(10,.cells ([.ex 2000009 14 192 x31 0 x31,.ex 2000047 4 32 (((x32:(List Jk)).map cellsOf).length) 0 (((x32:(List Jk)).map cellsOf).length)])),(12,.cells ([.nil,.nil]))],[(100014,(((x369).map cellsOf).length,14)),(2000009,(x31,0)),(2000047,(((x32:(List Jk)).map cellsOf).length,0))],[(2000009,(14,(192,(x367:(List Jg)).map cellsOf))),(2000047,(4,(32,(x368:(List Jk)).map cellsOf)))]⟩) h393 ?_ ?_
 ·rintro ⟨x264,x265,x266,x267⟩ oh392 h392
  unfold Jew at h392
  refine Ja (Jd (zE (Jb (Ja ?_))))
  rcases Jl h392 with ⟨hb,h392⟩|⟨hb,h392⟩
  ·refine zT hb (Jj (Jb (Ja (Jp (Ja (Jd (zE (Jb (Ja (zD (zR 6 ?_)))))))))))
   obtain ⟨j370,h394,h392⟩:=Je h392
   refine Uv (tk:=2000009) (k:=14) (N:=x31) h394 (by kernel_rfl) ?_
   obtain ⟨x371,h395,h392⟩:=Je h392
   refine Vo (L:=(x265:(List Jg))) (N:=x31) (j:=j370) (y:=x371) (v:=Enc.pv x371) h395 true 14 0 (by kernel_rfl) (by kernel_rfl) ?_
   refine zR 1 ?_
   obtain ⟨r372,h396,h392⟩:=Je h392
   refine zP (Jfr _ _ r372 h396) ?_
   obtain ⟨j373,h397,h392⟩:=Je h392
   refine Uv (tk:=2000009) (k:=14) (N:=x31) h397 (by kernel_rfl) ?_
   obtain ⟨x374,h398,h392⟩:=Je h392
   refine Ev (L:=(x265:(List Jg))) (tk:=2000009) (N:=x31) (j:=j373) (y:=x374) (y':=r372) h398 0 14 [.int .i64 r372.Id,.int .i64 r372.Origin,.int .i64 r372.End,.int .i64 r372.At,Jn .frozen r372.Steps,Jn .frozen r372.Routes,Jn .frozen r372.Starts,Jn .frozen r372.Ends,Jn .frozen r372.Done,.int .i64 r372.Min,.int .i64 r372.Sent,.int .i64 r372.Accepted,.int .i64 r372.Cut,.int .i64 r372.CutSeq] (by kernel_rfl) (by kernel_rfl) ?_
   refine zN (Jb (Ja (Jhg (Nf 0 6 (zE ?_)))))
   refine Ci 3 ⟨[(3,Jn .frozen (a3:(List Kf))),(5,.int .i64 a5),(6,.ref 3006 0),(7,.ref 3007 0),(8,.ref 3008 0),(10,.ref 3010 0),(12,.ref 3012 0),(14,Jn (.own 3100014) (x267:(List Kc))),(15,.int .i64 x264),(26,.int .i64 ((x31:Nat):Int)),(27,.int .i64 x264),(41,Enc.pv a0),(42,Enc.pv a1),(43,Enc.pv a2),(45,.ex 2000009 14 192 x31 0 x31),(46,.int .i64 x264)],[(3006,.cells (cellsOf a0)),(3007,.cells (cellsOf a1)),(3008,.cells (cellsOf a2)),(3010,.cells ([.ex 2000009 14 192 x31 0 x31,.ex 2000047 4 32 (((x32:(List Jk)).map cellsOf).length) 0 (((x32:(List Jk)).map cellsOf).length)])),(3012,.cells ([.nil,.nil]))],[(3100014,(((x267).map cellsOf).length,14)),(2000009,(x31,0)),(2000047,(((x32:(List Jk)).map cellsOf).length,0))],[(2000009,(14,(192,((x265.set j373 r372):(List Jg)).map cellsOf))),(2000047,(4,(32,(x266:(List Jk)).map cellsOf)))]⟩ 86 (by kernel_rfl) (by kernel_rfl) (by kernel_rfl) ?_
   obtain ⟨o446,h446,h392⟩:=Je h392
   refine Jm3 (f:=43) (asx:=[Enc.pv a0,Enc.pv a1,Enc.pv a2,.ex 2000009 14 192 x31 0 x31,.int .i64 x264]) (by kernel_rfl) Tryz.func43 (by rfl) rfl Tryz.ntmps43 (by rfl) ?_
   refine Jd4 o446 8600141 (fun x416=>⟨[(58,Jn .frozen (a3:(List Kf))),(60,.int .i64 a5),(61,.ref 3006 0),(62,.ref 3007 0),(63,.ref 3008 0),(65,.ref 3010 0),(67,.ref 3012 0),(69,Jn (.own 3100014) (x267:(List Kc))),(70,.int .i64 x264),(81,.int .i64 ((x31:Nat):Int)),(82,.int .i64 x264)],[(3006,.cells (cellsOf a0)),(3007,.cells (cellsOf a1)),(3008,.cells (cellsOf a2)),(3010,.cells ([.ex 2000009 14 192 x31 0 x31,.ex 2000047 4 32 (((x32:(List Jk)).map cellsOf).length) 0 (((x32:(List Jk)).map cellsOf).length)])),(3012,.cells ([.nil,.nil]))],[(3100014,(((x267).map cellsOf).length,14)),(2000009,(x31,0)),(2000047,(((x32:(List Jk)).map cellsOf).length,0))],[(2000009,(14,(192,(x416:(List Jg)).map cellsOf))),(2000047,(4,(32,(x266:(List Jk)).map cellsOf)))]⟩) ?_ ?_
   ·refine Ja (Jd (zE (Jb (Jp ?_))))
    obtain ⟨o478,h478,h446⟩:=Kk h446
    refine zA 8600141 0 (fun x430=>⟨[(3,.ex 2000009 14 192 x31 0 x31),(4,.int .i64 x264),(5,.ref 5 0),(6,.ref 6 0),(7,.ref 7 0),(58,Jn .frozen (a3:(List Kf))),(60,.int .i64 a5),(61,.ref 3006 0),(62,.ref 3007 0),(63,.ref 3008 0),(65,.ref 3010 0),(67,.ref 3012 0),(69,Jn (.own 3100014) (x267:(List Kc))),(70,.int .i64 x264),(81,.int .i64 ((x31:Nat):Int)),(82,.int .i64 x264)],[(5,.cells (cellsOf a0)),(6,.cells (cellsOf a1)),(7,.cells (cellsOf a2)),(3006,.cells (cellsOf a0)),(3007,.cells (cellsOf a1)),(3008,.cells (cellsOf a2)),(3010,.cells ([.ex 2000009 14 192 x31 0 x31,.ex 2000047 4 32 (((x32:(List Jk)).map cellsOf).length) 0 (((x32:(List Jk)).map cellsOf).length)])),(3012,.cells ([.nil,.nil]))],[(3100014,(((x267).map cellsOf).length,14)),(2000009,(x31,0)),(2000047,(((x32:(List Jk)).map cellsOf).length,0))],[(2000009,(14,(192,(x430:(List Jg)).map cellsOf))),(2000047,(4,(32,(x266:(List Jk)).map cellsOf)))]⟩) (fun x444=>⟨[(58,Jn .frozen (a3:(List Kf))),(60,.int .i64 a5),(61,.ref 3006 0),(62,.ref 3007 0),(63,.ref 3008 0),(65,.ref 3010 0),(67,.ref 3012 0),(69,Jn (.own 3100014) (x267:(List Kc))),(70,.int .i64 x264),(81,.int .i64 ((x31:Nat):Int)),(82,.int .i64 x264)],[(3006,.cells (cellsOf a0)),(3007,.cells (cellsOf a1)),(3008,.cells (cellsOf a2)),(3010,.cells ([.ex 2000009 14 192 x31 0 x31,.ex 2000047 4 32 (((x32:(List Jk)).map cellsOf).length) 0 (((x32:(List Jk)).map cellsOf).length)])),(3012,.cells ([.nil,.nil]))],[(3100014,(((x267).map cellsOf).length,14)),(2000009,(x31,0)),(2000047,(((x32:(List Jk)).map cellsOf).length,0))],[(2000009,(14,(192,(x444:(List Jg)).map cellsOf))),(2000047,(4,(32,(x266:(List Jk)).map cellsOf)))]⟩) h478 ?_ ?_
    ·rintro x430 oh477 h477
     unfold Jek at h477
     refine Ja (Ja (Jd (zR 2 ?_)))
     obtain ⟨j445,h479,h477⟩:=Je h477
     refine Uv (tk:=2000009) (k:=14) (N:=x31) h479 (by kernel_rfl) ?_
     refine zR 1 ?_
     obtain ⟨x446,h480,h477⟩:=Je h477
     refine Vo (L:=(x430:(List Jg))) (N:=x31) (j:=j445) (y:=x446) (v:=.int .i64 x446.CutSeq) h480 false 1 13 (by kernel_rfl) (by kernel_rfl) ?_
     obtain ⟨b447,h481,h477⟩:=Je h477
     refine zR 2 ?_
     refine Km 7 26 (.bool b447) ?_ ?_
     ·rcases Jl h481 with ⟨hb,h481⟩|⟨hb,h481⟩
      ·refine zS 19 hb (zR 2 ?_)
       obtain ⟨j448,h482,h481⟩:=Je h481
       refine Uv (tk:=2000009) (k:=14) (N:=x31) h482 (by kernel_rfl) ?_
       refine zR 1 ?_
       obtain ⟨x449,h483,h481⟩:=Je h481
       refine Vo (L:=(x430:(List Jg))) (N:=x31) (j:=j448) (y:=x449) (v:=.int .i64 x449.End) h483 false 1 2 (by kernel_rfl) (by kernel_rfl) ?_
       cases h481
       exact zF
      refine zS 19 hb ?_
      cases h481
      exact zF
     refine zN (Jb ?_)
     rcases Jl h477 with ⟨hb,h477⟩|⟨hb,h477⟩
     ·refine zT hb (Jj (Jb (Jp (Ja ?_))))
      obtain ⟨j450,h484,h477⟩:=Je h477
      obtain ⟨x451,h485,h477⟩:=Je h477
      obtain ⟨r452,h486,h477⟩:=Je h477
      refine Jza 8600141 ⟨[(3,.ex 2000009 14 192 x31 0 x31),(4,.int .i64 x264),(5,.ref 5 0),(6,.ref 6 0),(7,.ref 7 0),(10,.int .i64 r452),(58,Jn .frozen (a3:(List Kf))),(60,.int .i64 a5),(61,.ref 3006 0),(62,.ref 3007 0),(63,.ref 3008 0),(65,.ref 3010 0),(67,.ref 3012 0),(69,Jn (.own 3100014) (x267:(List Kc))),(70,.int .i64 x264),(81,.int .i64 ((x31:Nat):Int)),(82,.int .i64 x264)],[(5,.cells (cellsOf a0)),(6,.cells (cellsOf a1)),(7,.cells (cellsOf a2)),(3006,.cells (cellsOf a0)),(3007,.cells (cellsOf a1)),(3008,.cells (cellsOf a2)),(3010,.cells ([.ex 2000009 14 192 x31 0 x31,.ex 2000047 4 32 (((x32:(List Jk)).map cellsOf).length) 0 (((x32:(List Jk)).map cellsOf).length)])),(3012,.cells ([.nil,.nil]))],[(3100014,(((x267).map cellsOf).length,14)),(2000009,(x31,0)),(2000047,(((x32:(List Jk)).map cellsOf).length,0))],[(2000009,(14,(192,(x430:(List Jg)).map cellsOf))),(2000047,(4,(32,(x266:(List Jk)).map cellsOf)))]⟩ (by kernel_rfl) ?_ ?_
      ·refine Wl [2,3,4] 7 (by kernel_rfl) ?_
       refine Uf (n:=6) [0,1,5] (by kernel_rfl) ⟨?_, ?_, ?_,trivial⟩
       ·refine ⟨_,rfl, ?_⟩
        refine zR 1 (Kt (by kernel_rfl) ?_)
        refine Uf (n:=5) [1,5] (by kernel_rfl) ⟨?_, ?_,trivial⟩
        ·refine ⟨_,rfl, ?_⟩
         refine zR 1 (Kt (by kernel_rfl) ?_)
         refine Uf (n:=4) [5] (by kernel_rfl) ⟨?_,trivial⟩
         refine ⟨_,rfl, ?_⟩
         refine Uv (tk:=2000009) (k:=14) (N:=x31) h484 (by kernel_rfl) ?_
         refine Kt (by kernel_rfl) ?_
         refine Wl [6] 3 (by kernel_rfl) ?_
         refine Uf (n:=2) [7] (by kernel_rfl) ⟨?_,trivial⟩
         refine ⟨_,rfl, ?_⟩
         refine Vo (L:=(x430:(List Jg))) (N:=x31) (j:=j450) (y:=x451) (v:=.int .i64 x451.End) h485 false 1 2 (by kernel_rfl) (by kernel_rfl) ?_
         refine Kt (by kernel_rfl) ?_
         refine Uf (n:=1) [8] (by kernel_rfl) ⟨?_,trivial⟩
         refine ⟨_,rfl, ?_⟩
         refine Co [2000009] (Uy _ _ _ _ r452 h486) (by kernel_rfl) (by kernel_rfl) (by kernel_rfl) ?_
         refine Kt (by kernel_rfl) ?_
         refine Wl [9] 0 (by kernel_rfl) ?_
         exact Fb (by kernel_rfl) (.of (by kernel_rfl) (by kernel_rfl))
        refine ⟨_,rfl, ?_⟩
        refine Uv (tk:=2000009) (k:=14) (N:=x31) h484 (by kernel_rfl) ?_
        refine Kt (by kernel_rfl) ?_
        refine Wl [6] 4 (by kernel_rfl) ?_
        refine Uf (n:=3) [1,7] (by kernel_rfl) ⟨?_, ?_,trivial⟩
        ·refine ⟨_,rfl, ?_⟩
         refine zR 1 (Kt (by kernel_rfl) ?_)
         refine Uf (n:=2) [7] (by kernel_rfl) ⟨?_,trivial⟩
         refine ⟨_,rfl, ?_⟩
         refine Vo (L:=(x430:(List Jg))) (N:=x31) (j:=j450) (y:=x451) (v:=.int .i64 x451.End) h485 false 1 2 (by kernel_rfl) (by kernel_rfl) ?_
         refine Kt (by kernel_rfl) ?_
         refine Uf (n:=1) [8] (by kernel_rfl) ⟨?_,trivial⟩
         refine ⟨_,rfl, ?_⟩
         refine Co [2000009] (Uy _ _ _ _ r452 h486) (by kernel_rfl) (by kernel_rfl) (by kernel_rfl) ?_
         refine Kt (by kernel_rfl) ?_
         refine Wl [9] 0 (by kernel_rfl) ?_
         exact Fb (by kernel_rfl) (.of (by kernel_rfl) (by kernel_rfl))
        refine ⟨_,rfl, ?_⟩
        refine Vo (L:=(x430:(List Jg))) (N:=x31) (j:=j450) (y:=x451) (v:=.int .i64 x451.End) h485 false 1 2 (by kernel_rfl) (by kernel_rfl) ?_
        refine Kt (by kernel_rfl) ?_
        refine Uf (n:=2) [1] (by kernel_rfl) ⟨?_,trivial⟩
        refine ⟨_,rfl, ?_⟩
        refine zR 1 (Kt (by kernel_rfl) ?_)
        refine Uf (n:=1) [8] (by kernel_rfl) ⟨?_,trivial⟩
        refine ⟨_,rfl, ?_⟩
        refine Co [2000009] (Uy _ _ _ _ r452 h486) (by kernel_rfl) (by kernel_rfl) (by kernel_rfl) ?_
        refine Kt (by kernel_rfl) ?_
        refine Wl [9] 0 (by kernel_rfl) ?_
        exact Fb (by kernel_rfl) (.of (by kernel_rfl) (by kernel_rfl))
       ·refine ⟨_,rfl, ?_⟩
        refine zR 1 (Kt (by kernel_rfl) ?_)
        refine Uf (n:=5) [0,5] (by kernel_rfl) ⟨?_, ?_,trivial⟩
        ·refine ⟨_,rfl, ?_⟩
         refine zR 1 (Kt (by kernel_rfl) ?_)
         refine Uf (n:=4) [5] (by kernel_rfl) ⟨?_,trivial⟩
         refine ⟨_,rfl, ?_⟩
         refine Uv (tk:=2000009) (k:=14) (N:=x31) h484 (by kernel_rfl) ?_
         refine Kt (by kernel_rfl) ?_
         refine Wl [6] 3 (by kernel_rfl) ?_
         refine Uf (n:=2) [7] (by kernel_rfl) ⟨?_,trivial⟩
         refine ⟨_,rfl, ?_⟩
         refine Vo (L:=(x430:(List Jg))) (N:=x31) (j:=j450) (y:=x451) (v:=.int .i64 x451.End) h485 false 1 2 (by kernel_rfl) (by kernel_rfl) ?_
         refine Kt (by kernel_rfl) ?_
         refine Uf (n:=1) [8] (by kernel_rfl) ⟨?_,trivial⟩
         refine ⟨_,rfl, ?_⟩
         refine Co [2000009] (Uy _ _ _ _ r452 h486) (by kernel_rfl) (by kernel_rfl) (by kernel_rfl) ?_
         refine Kt (by kernel_rfl) ?_
         refine Wl [9] 0 (by kernel_rfl) ?_
         exact Fb (by kernel_rfl) (.of (by kernel_rfl) (by kernel_rfl))
        refine ⟨_,rfl, ?_⟩
        refine Uv (tk:=2000009) (k:=14) (N:=x31) h484 (by kernel_rfl) ?_
        refine Kt (by kernel_rfl) ?_
        refine Wl [6] 4 (by kernel_rfl) ?_
        refine Uf (n:=3) [0,7] (by kernel_rfl) ⟨?_, ?_,trivial⟩
        ·refine ⟨_,rfl, ?_⟩
         refine zR 1 (Kt (by kernel_rfl) ?_)
         refine Uf (n:=2) [7] (by kernel_rfl) ⟨?_,trivial⟩
         refine ⟨_,rfl, ?_⟩
         refine Vo (L:=(x430:(List Jg))) (N:=x31) (j:=j450) (y:=x451) (v:=.int .i64 x451.End) h485 false 1 2 (by kernel_rfl) (by kernel_rfl) ?_
         refine Kt (by kernel_rfl) ?_
         refine Uf (n:=1) [8] (by kernel_rfl) ⟨?_,trivial⟩
         refine ⟨_,rfl, ?_⟩
         refine Co [2000009] (Uy _ _ _ _ r452 h486) (by kernel_rfl) (by kernel_rfl) (by kernel_rfl) ?_
         refine Kt (by kernel_rfl) ?_
         refine Wl [9] 0 (by kernel_rfl) ?_
         exact Fb (by kernel_rfl) (.of (by kernel_rfl) (by kernel_rfl))
        refine ⟨_,rfl, ?_⟩
        refine Vo (L:=(x430:(List Jg))) (N:=x31) (j:=j450) (y:=x451) (v:=.int .i64 x451.End) h485 false 1 2 (by kernel_rfl) (by kernel_rfl) ?_
        refine Kt (by kernel_rfl) ?_
        refine Uf (n:=2) [0] (by kernel_rfl) ⟨?_,trivial⟩
        refine ⟨_,rfl, ?_⟩
        refine zR 1 (Kt (by kernel_rfl) ?_)
        refine Uf (n:=1) [8] (by kernel_rfl) ⟨?_,trivial⟩
        refine ⟨_,rfl, ?_⟩
        refine Co [2000009] (Uy _ _ _ _ r452 h486) (by kernel_rfl) (by kernel_rfl) (by kernel_rfl) ?_
        refine Kt (by kernel_rfl) ?_
        refine Wl [9] 0 (by kernel_rfl) ?_
        exact Fb (by kernel_rfl) (.of (by kernel_rfl) (by kernel_rfl))
       refine ⟨_,rfl, ?_⟩
       refine Uv (tk:=2000009) (k:=14) (N:=x31) h484 (by kernel_rfl) ?_
       refine Kt (by kernel_rfl) ?_
       refine Wl [6] 5 (by kernel_rfl) ?_
       refine Uf (n:=4) [0,1,7] (by kernel_rfl) ⟨?_, ?_, ?_,trivial⟩
       ·refine ⟨_,rfl, ?_⟩
        refine zR 1 (Kt (by kernel_rfl) ?_)
        refine Uf (n:=3) [1,7] (by kernel_rfl) ⟨?_, ?_,trivial⟩
        ·refine ⟨_,rfl, ?_⟩
         refine zR 1 (Kt (by kernel_rfl) ?_)
         refine Uf (n:=2) [7] (by kernel_rfl) ⟨?_,trivial⟩
         refine ⟨_,rfl, ?_⟩
         refine Vo (L:=(x430:(List Jg))) (N:=x31) (j:=j450) (y:=x451) (v:=.int .i64 x451.End) h485 false 1 2 (by kernel_rfl) (by kernel_rfl) ?_
         refine Kt (by kernel_rfl) ?_
         refine Uf (n:=1) [8] (by kernel_rfl) ⟨?_,trivial⟩
         refine ⟨_,rfl, ?_⟩
         refine Co [2000009] (Uy _ _ _ _ r452 h486) (by kernel_rfl) (by kernel_rfl) (by kernel_rfl) ?_
         refine Kt (by kernel_rfl) ?_
         refine Wl [9] 0 (by kernel_rfl) ?_
         exact Fb (by kernel_rfl) (.of (by kernel_rfl) (by kernel_rfl))
        refine ⟨_,rfl, ?_⟩
        refine Vo (L:=(x430:(List Jg))) (N:=x31) (j:=j450) (y:=x451) (v:=.int .i64 x451.End) h485 false 1 2 (by kernel_rfl) (by kernel_rfl) ?_
        refine Kt (by kernel_rfl) ?_
        refine Uf (n:=2) [1] (by kernel_rfl) ⟨?_,trivial⟩
        refine ⟨_,rfl, ?_⟩
        refine zR 1 (Kt (by kernel_rfl) ?_)
        refine Uf (n:=1) [8] (by kernel_rfl) ⟨?_,trivial⟩
        refine ⟨_,rfl, ?_⟩
        refine Co [2000009] (Uy _ _ _ _ r452 h486) (by kernel_rfl) (by kernel_rfl) (by kernel_rfl) ?_
        refine Kt (by kernel_rfl) ?_
        refine Wl [9] 0 (by kernel_rfl) ?_
        exact Fb (by kernel_rfl) (.of (by kernel_rfl) (by kernel_rfl))
       ·refine ⟨_,rfl, ?_⟩
        refine zR 1 (Kt (by kernel_rfl) ?_)
        refine Uf (n:=3) [0,7] (by kernel_rfl) ⟨?_, ?_,trivial⟩
        ·refine ⟨_,rfl, ?_⟩
         refine zR 1 (Kt (by kernel_rfl) ?_)
         refine Uf (n:=2) [7] (by kernel_rfl) ⟨?_,trivial⟩
         refine ⟨_,rfl, ?_⟩
         refine Vo (L:=(x430:(List Jg))) (N:=x31) (j:=j450) (y:=x451) (v:=.int .i64 x451.End) h485 false 1 2 (by kernel_rfl) (by kernel_rfl) ?_
         refine Kt (by kernel_rfl) ?_
         refine Uf (n:=1) [8] (by kernel_rfl) ⟨?_,trivial⟩
         refine ⟨_,rfl, ?_⟩
         refine Co [2000009] (Uy _ _ _ _ r452 h486) (by kernel_rfl) (by kernel_rfl) (by kernel_rfl) ?_
         refine Kt (by kernel_rfl) ?_
         refine Wl [9] 0 (by kernel_rfl) ?_
         exact Fb (by kernel_rfl) (.of (by kernel_rfl) (by kernel_rfl))
        refine ⟨_,rfl, ?_⟩
        refine Vo (L:=(x430:(List Jg))) (N:=x31) (j:=j450) (y:=x451) (v:=.int .i64 x451.End) h485 false 1 2 (by kernel_rfl) (by kernel_rfl) ?_
        refine Kt (by kernel_rfl) ?_
        refine Uf (n:=2) [0] (by kernel_rfl) ⟨?_,trivial⟩
        refine ⟨_,rfl, ?_⟩
        refine zR 1 (Kt (by kernel_rfl) ?_)
        refine Uf (n:=1) [8] (by kernel_rfl) ⟨?_,trivial⟩
        refine ⟨_,rfl, ?_⟩
        refine Co [2000009] (Uy _ _ _ _ r452 h486) (by kernel_rfl) (by kernel_rfl) (by kernel_rfl) ?_
        refine Kt (by kernel_rfl) ?_
        refine Wl [9] 0 (by kernel_rfl) ?_
        exact Fb (by kernel_rfl) (.of (by kernel_rfl) (by kernel_rfl))
       refine ⟨_,rfl, ?_⟩
       refine Vo (L:=(x430:(List Jg))) (N:=x31) (j:=j450) (y:=x451) (v:=.int .i64 x451.End) h485 false 1 2 (by kernel_rfl) (by kernel_rfl) ?_
       refine Kt (by kernel_rfl) ?_
       refine Uf (n:=3) [0,1] (by kernel_rfl) ⟨?_, ?_,trivial⟩
       ·refine ⟨_,rfl, ?_⟩
        refine zR 1 (Kt (by kernel_rfl) ?_)
        refine Uf (n:=2) [1] (by kernel_rfl) ⟨?_,trivial⟩
        refine ⟨_,rfl, ?_⟩
        refine zR 1 (Kt (by kernel_rfl) ?_)
        refine Uf (n:=1) [8] (by kernel_rfl) ⟨?_,trivial⟩
        refine ⟨_,rfl, ?_⟩
        refine Co [2000009] (Uy _ _ _ _ r452 h486) (by kernel_rfl) (by kernel_rfl) (by kernel_rfl) ?_
        refine Kt (by kernel_rfl) ?_
        refine Wl [9] 0 (by kernel_rfl) ?_
        exact Fb (by kernel_rfl) (.of (by kernel_rfl) (by kernel_rfl))
       refine ⟨_,rfl, ?_⟩
       refine zR 1 (Kt (by kernel_rfl) ?_)
       refine Uf (n:=2) [0] (by kernel_rfl) ⟨?_,trivial⟩
       refine ⟨_,rfl, ?_⟩
       refine zR 1 (Kt (by kernel_rfl) ?_)
       refine Uf (n:=1) [8] (by kernel_rfl) ⟨?_,trivial⟩
       refine ⟨_,rfl, ?_⟩
       refine Co [2000009] (Uy _ _ _ _ r452 h486) (by kernel_rfl) (by kernel_rfl) (by kernel_rfl) ?_
       refine Kt (by kernel_rfl) ?_
       refine Wl [9] 0 (by kernel_rfl) ?_
       exact Fb (by kernel_rfl) (.of (by kernel_rfl) (by kernel_rfl))
      refine Jb (Ja (Ja (Jd (zE (Jb ?_)))))
      rcases Jl h477 with ⟨hb,h477⟩|⟨hb,h477⟩
      ·refine zT hb (Jq (Jm (Js ?_)))
       cases h477
       refine Kd fun he=>?_
       subst he
       have h487:=Kq h446
       refine Js ?_
       cases h487
       exact Jrf (by kernel_rfl) (by kernel_rfl)
      refine zU hb (Jj (Jb (Ja (zD (zR 4 ?_)))))
      obtain ⟨j453,h488,h477⟩:=Je h477
      refine Uv (tk:=2000009) (k:=14) (N:=x31) h488 (by kernel_rfl) ?_
      obtain ⟨x454,h489,h477⟩:=Je h477
      refine Vo (L:=(x430:(List Jg))) (N:=x31) (j:=j453) (y:=x454) (v:=Enc.pv x454) h489 true 14 0 (by kernel_rfl) (by kernel_rfl) ?_
      refine zR 1 ?_
      obtain ⟨r455,h490,h477⟩:=Je h477
      refine zP (Je6 _ _ _ _ r455 h490) (zE (Jb (Ja (Ja (Jd (zE (Jb ?_)))))))
      rcases Jl h477 with ⟨hb,h477⟩|⟨hb,h477⟩
      ·refine zT hb (Jq (Jm (Js ?_)))
       cases h477
       refine Kd fun he=>?_
       subst he
       have h491:=Kq h446
       refine Js ?_
       cases h491
       exact Jrf (by kernel_rfl) (by kernel_rfl)
      refine zU hb (Jj (Jb (Jd (zR 3 ?_))))
      obtain ⟨j456,h492,h477⟩:=Je h477
      refine Uv (tk:=2000009) (k:=14) (N:=x31) h492 (by kernel_rfl) ?_
      obtain ⟨x457,h493,h477⟩:=Je h477
      refine Ev (L:=(x430:(List Jg))) (tk:=2000009) (N:=x31) (j:=j456) (y:=x457) (y':=r455.1) h493 0 14 [.int .i64 r455.1.Id,.int .i64 r455.1.Origin,.int .i64 r455.1.End,.int .i64 r455.1.At,Jn .frozen r455.1.Steps,Jn .frozen r455.1.Routes,Jn .frozen r455.1.Starts,Jn .frozen r455.1.Ends,Jn .frozen r455.1.Done,.int .i64 r455.1.Min,.int .i64 r455.1.Sent,.int .i64 r455.1.Accepted,.int .i64 r455.1.Cut,.int .i64 r455.1.CutSeq] (by kernel_rfl) (by kernel_rfl) ?_
      refine zN (Jz ?_)
      cases h477
      exact zB
     refine zU hb (Jy (Jv ?_))
     cases h477
     exact zX
    rintro x444 s' rfl hs
    have h446:=Kb h446
    refine Jt ?_
    cases h446
    exact Jw9 hs (by kernel_rfl) (by kernel_rfl)
   generalize o446=x416 at *
   refine Jm8 (r:=.tup []) (by kernel_rfl) ?_
   refine Ci 4 ⟨[(3,Jn .frozen (a3:(List Kf))),(5,.int .i64 a5),(6,.ref 3006 0),(7,.ref 3007 0),(8,.ref 3008 0),(10,.ref 3010 0),(12,.ref 3012 0),(14,Jn (.own 3100014) (x267:(List Kc))),(15,.int .i64 x264),(26,.int .i64 ((x31:Nat):Int)),(27,.int .i64 x264)],[(3006,.cells (cellsOf a0)),(3007,.cells (cellsOf a1)),(3008,.cells (cellsOf a2)),(3010,.cells ([.ex 2000009 14 192 x31 0 x31,.ex 2000047 4 32 (((x32:(List Jk)).map cellsOf).length) 0 (((x32:(List Jk)).map cellsOf).length)])),(3012,.cells ([.nil,.nil]))],[(3100014,(((x267).map cellsOf).length,14)),(2000009,(x31,0)),(2000047,(((x32:(List Jk)).map cellsOf).length,0))],[(2000009,(14,(192,(x416:(List Jg)).map cellsOf))),(2000047,(4,(32,(x266:(List Jk)).map cellsOf)))]⟩ 86 (by kernel_rfl) (by kernel_rfl) (by kernel_rfl) ?_
   refine Ci 3 ⟨[(3,Jn .frozen (a3:(List Kf))),(5,.int .i64 a5),(6,.ref 6 0),(7,.ref 7 0),(8,.ref 8 0),(10,.ref 10 0),(12,.ref 12 0),(14,Jn (.own 100014) (x267:(List Kc))),(15,.int .i64 x264),(26,.int .i64 ((x31:Nat):Int)),(27,.int .i64 x264)],[(6,.cells (cellsOf a0)),(7,.cells (cellsOf a1)),(8,.cells (cellsOf a2)),(10,.cells ([.ex 2000009 14 192 x31 0 x31,.ex 2000047 4 32 (((x32:(List Jk)).map cellsOf).length) 0 (((x32:(List Jk)).map cellsOf).length)])),(12,.cells ([.nil,.nil]))],[(100014,(((x267).map cellsOf).length,14)),(2000009,(x31,0)),(2000047,(((x32:(List Jk)).map cellsOf).length,0))],[(2000009,(14,(192,(x416:(List Jg)).map cellsOf))),(2000047,(4,(32,(x266:(List Jk)).map cellsOf)))]⟩ 86 (by kernel_rfl) (by kernel_rfl) (by kernel_rfl) ?_
   refine Nf 7 0 (zN (Jg8 (Jb (Ja (zD (zR 5 ?_))))))
   obtain ⟨j458,h494,h392⟩:=Je h392
   refine Uv (tk:=2000009) (k:=14) (N:=x31) h494 (by kernel_rfl) ?_
   obtain ⟨x459,h495,h392⟩:=Je h392
   refine Vo (L:=(x416:(List Jg))) (N:=x31) (j:=j458) (y:=x459) (v:=Enc.pv x459) h495 true 14 0 (by kernel_rfl) (by kernel_rfl) ?_
   obtain ⟨r460,h496,h392⟩:=Je h392
   refine zP (Jlm _ _ _ r460 h496) (zE (Jb (Ja (Jd (zR 4 ?_)))))
   obtain ⟨j461,h497,h392⟩:=Je h392
   refine Uv (tk:=2000009) (k:=14) (N:=x31) h497 (by kernel_rfl) ?_
   obtain ⟨x462,h498,h392⟩:=Je h392
   refine Ev (L:=(x416:(List Jg))) (tk:=2000009) (N:=x31) (j:=j461) (y:=x462) (y':=r460.1) h498 0 14 [.int .i64 r460.1.Id,.int .i64 r460.1.Origin,.int .i64 r460.1.End,.int .i64 r460.1.At,Jn .frozen r460.1.Steps,Jn .frozen r460.1.Routes,Jn .frozen r460.1.Starts,Jn .frozen r460.1.Ends,Jn .frozen r460.1.Done,.int .i64 r460.1.Min,.int .i64 r460.1.Sent,.int .i64 r460.1.Accepted,.int .i64 r460.1.Cut,.int .i64 r460.1.CutSeq] (by kernel_rfl) (by kernel_rfl) ?_
   refine zN (Jb (Ja (zD (zR 6 ?_))))
   obtain ⟨j463,h499,h392⟩:=Je h392
   refine Uv (tk:=2000047) (k:=4) (N:=((x32:(List Jk)).map cellsOf).length) h499 (by kernel_rfl) ?_
   obtain ⟨x464,h500,h392⟩:=Je h392
   refine Vo (L:=(x266:(List Jk))) (N:=((x32:(List Jk)).map cellsOf).length) (j:=j463) (y:=x464) (v:=Enc.pv x464) h500 true 4 0 (by kernel_rfl) (by kernel_rfl) ?_
   refine zR 2 ?_
   obtain ⟨r465,h501,h392⟩:=Je h392
   refine zP (Ru _ _ _ r465 h501) (zR 3 ?_)
   obtain ⟨j466,h502,h392⟩:=Je h392
   refine Uv (tk:=2000047) (k:=4) (N:=((x32:(List Jk)).map cellsOf).length) h502 (by kernel_rfl) ?_
   obtain ⟨x467,h503,h392⟩:=Je h392
   refine Ev (L:=(x266:(List Jk))) (tk:=2000047) (N:=((x32:(List Jk)).map cellsOf).length) (j:=j466) (y:=x467) (y':=r465.1) h503 0 4 [.int .i64 r465.1.Peer,.int .i64 r465.1.Out,.int .i64 r465.1.In,.int .i64 r465.1.Heard] (by kernel_rfl) (by kernel_rfl) ?_
   refine zE (Jb (Jd (zR 3 ?_)))
   obtain ⟨x468,h504,h392⟩:=Je h392
   refine zW (tk:=100014) h504 ?_
   refine zE (Jz (Jb (Jd (zE ?_))))
   cases h392
   exact zB
  refine zU hb (Jy (Jv ?_))
  cases h392
  exact zX
 rintro ⟨x367,x368,x369⟩ s' rfl hs
 have h:=Kb h
 refine Jt (Jb (Ka hs (Ja (Jd (zE (Jb ?_))))))
 refine Ka (Bd (xss:=(x367:(List Jg)).map cellsOf) 2000009 14 192 x31 [] [(10,0),(12,0)] (by kernel_rfl) (by kernel_rfl) (by kernel_rfl) (by kernel_rfl)) ?_
 refine Ka (Bd (xss:=(x368:(List Jk)).map cellsOf) 2000047 4 32 (((x32:(List Jk)).map cellsOf).length) [] [(10,1),(12,1)] (by kernel_rfl) (by kernel_rfl) (by kernel_rfl) (by kernel_rfl)) ?_
 refine Jq ?_
 cases h
 exact zQ
/-! rbc.numbers -/
noncomputable def Ez (a0:(List Jg)):(Int×(List (Int×Int)))→Option ((Int×(List (Int×Int)))⊕((List (Int×Int))⊕(List (Int×Int)))):=fun (x4,x5) =>
 bif decide (x4<((a0.length:Nat):Int)) then (
  onInl (α:=(List (Int×Int))) (β:=((Int×(List (Int×Int)))⊕((List (Int×Int))⊕(List (Int×Int))))) (
   (ixO a0 x4).bind fun x12 =>
   bif (!((Vy (x5:(List (Int×Int))) x12.Id).isSome)) then (
    some (.inl (Cq x12.Id x4 x5))
   ) else (
    some (.inl x5)
   )
  ) fun x11 =>
  some (.inl (w64 (x4+1),x11))
 ) else (
  some (.inr (.inl x5))
 )
noncomputable def Cc (a0:(List Jg)):Option (List (Int×Int)) :=
 onInl (α:=(List (Int×Int))) (β:=(List (Int×Int))) (Ko (Ez a0) (0,([]:(List (Int×Int))))) fun x9 =>
 some x9
theorem Tz (a0:(List Jg)) (r:(List (Int×Int))) (h:Cc a0=some r):Kj Tryz.prog GlS 53 [Enc.pv a0] (Jo4 (r:(List (Int×Int)))):=by
 unfold Cc at h
 refine zC Tryz.func53 Tryz.ntmps53 ?_
 refine Ja (Jd (zE (Jb (Ja (Jd (zE (Jb (Ja (Ja (Jd (zR 1 ?_)))))))))))
 refine zL (L:=(a0:(List Jg))) ?_
 refine zE (Jb (Jp ?_))
 obtain ⟨o8,h8,h⟩:=Kk h
 refine zA 31 0 (fun (x4,x5)=>⟨[(3,.mp 8),(9,Jn .frozen (a0:(List Jg))),(10,.int .i64 ((a0.length:Nat):Int)),(11,.int .i64 x4)],[(8,.map (Wg (x5:(List (Int×Int)))))],[],[]⟩) (fun x9=>⟨[(3,.mp 8)],[(8,.map (Wg (x9:(List (Int×Int)))))],[],[]⟩) h8 ?_ ?_
 ·rintro ⟨x4,x5⟩ oh7 h7
  unfold Ez at h7
  refine Ja (Jd (zE (Jb (Ja ?_))))
  rcases Jl h7 with ⟨hb,h7⟩|⟨hb,h7⟩
  ·refine zT hb (Jj (Jb ?_))
   obtain ⟨o10,h10,h7⟩:=Kk h7
   refine Qp (o:=o10) 31 (fun x11=>⟨[(3,.mp 8),(9,Jn .frozen (a0:(List Jg))),(10,.int .i64 ((a0.length:Nat):Int)),(11,.int .i64 x4)],[(8,.map (Wg (x11:(List (Int×Int)))))],[],[]⟩) ?_ ?_
   ·refine Jp (Ja (Jd (zR 1 ?_)))
    obtain ⟨x12,h11,h10⟩:=Je h10
    refine zI h11 (zE (Jb (Ja (Jd (zR 3 ?_)))))
    refine Jh8 (m:=(x5:(List (Int×Int)))) (k:=x12.Id) 0 8 (by kernel_rfl) (by kernel_rfl) ?_
    refine zE (Jb (Ja (Jd (zE (Jb ?_)))))
    rcases Jl h10 with ⟨hb,h10⟩|⟨hb,h10⟩
    ·refine zT hb (Jd (zR 4 ?_))
     refine Je3 (m:=(x5:(List (Int×Int)))) (k:=x12.Id) (v:=x4) 8 (by kernel_rfl) (by kernel_rfl) (by kernel_rfl) ?_
     refine zN (Jz ?_)
     cases h10
     exact zJ
    refine zU hb (Jj (Jz ?_))
    cases h10
    exact zJ
   rintro x11 rfl
   have h7:=Kb h7
   refine Jd (zE ?_)
   cases h7
   exact zB
  refine zU hb (Jy (Jv ?_))
  cases h7
  exact zX
 rintro x9 s' rfl hs
 have h:=Kb h
 refine Jt (Jb (Ka hs (Ja (Jd (zE (Jb ?_))))))
 refine Jxh 8 [] (x9:(List (Int×Int))) (by kernel_rfl) (by kernel_rfl) (by kernel_rfl) ?_
 refine Jq ?_
 cases h
 exact zQ
/-! rbc.Shorten -/
noncomputable def Jbq (a1:Jw) (x35:(List Jg)):(Int×(List Jg))→Option ((Int×(List Jg))⊕((List Jg)⊕((List Jg)×Nat×(List Jk)))):=fun (x44,x45) =>
 bif decide (x44<((a1.Tracks.length:Nat):Int)) then (
  (ixO a1.Tracks x44).bind fun x55 =>
  (Qg x55.Steps).bind fun r56 =>
  (Kn x55.Routes).bind fun r57 =>
  (Kn x55.Starts).bind fun r58 =>
  (Kn x55.Ends).bind fun r59 =>
  (Kn x55.Done).bind fun r60 =>
  (Wn 0 (((x35:(List Jg)).map cellsOf).length) x44).bind fun j61 =>
  (Vq x45 (((x35:(List Jg)).map cellsOf).length) j61).bind fun x62 =>
  some (.inl (w64 (x44+1),(x45.set j61 (Jg.mk x55.Id x55.Origin x55.End x55.At r56 r57 r58 r59 r60 x55.Min x55.Sent x55.Accepted x55.Cut x55.CutSeq))))
 ) else (
  some (.inr (.inl x45))
 )
noncomputable def Zs (a0:Kz) (a1:Jw) (a2:Int) (a3:Int):Option (Jw×Int) :=
 (Yy a1).bind fun r1 =>
 bif (!r1) then (
  some ((Jw.mk [] []),1)
 ) else (
  (Cc a1.Tracks).bind fun r2 =>
  bif (!((Vy (r2:(List (Int×Int))) a2).isSome)) then (
   some ((Jw.mk [] []),9)
  ) else (
   Option.bind (α:=((List Jg)×Nat×(List Jk))) (
    (Jrl ((a1.Tracks.length:Nat):Int) ((a1.Tracks.length:Nat):Int) 192 ((Jg.mk 0 0 0 0 [] [] [] [] [] 0 0 0 0 0):Jg)).bind fun x35 =>
    onInl (α:=(List Jg)) (β:=((List Jg)×Nat×(List Jk))) (Ko (Jbq a1 x35) (0,x35)) fun x54 =>
    (Vh a1.Sessions).bind fun r63 =>
    some (x54,((x35:(List Jg)).map cellsOf).length,r63)
   ) fun (x32,x33,x34) =>
   (Wn 0 x33 ((Vy (r2:(List (Int×Int))) a2).getD 0)).bind fun j64 =>
   (Vq x32 x33 j64).bind fun x65 =>
   bif (!(decide (x65.CutSeq=0))) then (
    some ((Jw.mk [] []),11)
   ) else (
    ((bif decide (a3<0) then some true else (
     (Vq x32 x33 j64).bind fun x67 =>
     some (decide (((x67.Routes.length:Nat):Int)≤a3))
    )):Option Bool).bind fun b66 =>
    ((bif b66 then some true else (
     (Vq x32 x33 j64).bind fun x69 =>
     some (decide (((x69.Ends.length:Nat):Int)≤a3))
    )):Option Bool).bind fun b68 =>
    bif b68 then (
     some ((Jw.mk [] []),1)
    ) else (
     (Vq x32 x33 j64).bind fun x70 =>
     (ixO x70.Routes a3).bind fun x71 =>
     ((bif decide (x71<0) then some true else (
      some (decide (((a0.Routes.length:Nat):Int)≤x71))
     )):Option Bool).bind fun b72 =>
     bif b72 then (
      some ((Jw.mk [] []),1)
     ) else (
      (Vq x32 x33 j64).bind fun x73 =>
      (ixO x73.Ends a3).bind fun x74 =>
      (ixO a0.Routes x71).bind fun x75 =>
      (Vq x32 x33 j64).bind fun x76 =>
      (Vq (x32.set j64 (Jg.mk x76.Id x76.Origin x76.End x76.At x76.Steps x76.Routes x76.Starts x76.Ends x76.Done x76.Min x76.Sent x76.Accepted (w64 (x74 - x75.Length)) x76.CutSeq)) x33 j64).bind fun x77 =>
      (Vq (x32.set j64 (Jg.mk x76.Id x76.Origin x76.End x76.At x76.Steps x76.Routes x76.Starts x76.Ends x76.Done x76.Min x76.Sent x76.Accepted (w64 (x74 - x75.Length)) x76.CutSeq)) x33 j64).bind fun x78 =>
      some ((Jw.mk ((x32.set j64 (Jg.mk x76.Id x76.Origin x76.End x76.At x76.Steps x76.Routes x76.Starts x76.Ends x76.Done x76.Min x76.Sent x76.Accepted (w64 (x74 - x75.Length)) x76.CutSeq)).set j64 (Jg.mk x78.Id x78.Origin x78.End x78.At x78.Steps x78.Routes x78.Starts x78.Ends x78.Done x78.Min x78.Sent x78.Accepted x78.Cut (w64 (x77.Sent+1)))) x34),0)
     )
    )
   )
  )
 )
set_option maxRecDepth 100000 in
theorem Tl (a0:Kz) (a1:Jw) (a2:Int) (a3:Int) (r:(Jw×Int)) (h:Zs a0 a1 a2 a3=some r):Kj Tryz.prog GlS 20 [Enc.pv a0,Enc.pv a1,Enc.pv a2,Enc.pv a3] (.tup [Enc.pv r.1,Enc.pv r.2]):=by
 unfold Zs at h
 refine zC Tryz.func20 Tryz.ntmps20 ?_
 refine Ja (Jd (zE (Jb (Ja (Ja (Jd (zR 1 ?_)))))))
 obtain ⟨r1,h1,h⟩:=Je h
 refine zP (Hx _ r1 h1) (zE (Jb ?_))
 rcases Jl h with ⟨hb,h⟩|⟨hb,h⟩
 ·refine zT hb (Ja (Jd (zE (Jb (Jq (Jm ?_))))))
  cases h
  exact zQ
 refine zU hb (Jj (Jb (Ja (Jd (zR 2 ?_)))))
 obtain ⟨r2,h2,h⟩:=Je h
 refine zP (Tz _ r2 h2) (zR 1 ?_)
 refine Jha (m:=(r2:(List (Int×Int)))) (k:=a2) 0 true (by kernel_rfl) ?_
 refine zE (Jb (Ja (Ja (Jd (zE (Jb ?_))))))
 rcases Jl h with ⟨hb,h⟩|⟨hb,h⟩
 ·refine zT hb (Ja (Jd (zE (Jb (Jq (Jm ?_))))))
  cases h
  exact zQ
 refine zU hb (Jj (Jb (Ja (Jhg (Nf 0 1 (zE ?_))))))
 refine Ci 1 ⟨[(3,.int .i64 a3),(4,.ref 1004 0),(5,.ref 1005 0),(8,.ref 1008 0),(10,.int .i64 ((Vy (r2:(List (Int×Int))) a2).getD 0)),(29,Enc.pv a1)],[(1004,.cells (cellsOf a0)),(1005,.cells (cellsOf a1)),(1008,.cells ([.nil,.nil]))],[],[]⟩ 105 (by kernel_rfl) (by kernel_rfl) (by kernel_rfl) ?_
 obtain ⟨o31,h31,h⟩:=Je h
 refine Jm3 (f:=40) (asx:=[Enc.pv a1]) (by kernel_rfl) Tryz.func40 (by rfl) rfl Tryz.ntmps40 (by rfl) ?_
 refine Jd4 o31 10500155 (fun (x32,x33,x34)=>⟨[(2,.ref 2 0),(53,.int .i64 a3),(54,.ref 1004 0),(55,.ref 1005 0),(58,.ref 1008 0),(60,.int .i64 ((Vy (r2:(List (Int×Int))) a2).getD 0))],[(2,.cells ([.ex 9 14 192 x33 0 x33,Jn (.own 47007) (x34:(List Jk))])),(1004,.cells (cellsOf a0)),(1005,.cells (cellsOf a1)),(1008,.cells ([.nil,.nil]))],[(47007,(((x34).map cellsOf).length,4)),(9,(x33,0))],[(9,(14,(192,(x32:(List Jg)).map cellsOf)))]⟩) ?_ ?_
 ·refine Ja (Jd (zE (Jb (Ja (Jd (zR 2 ?_))))))
  refine zL (L:=(a1.Tracks:(List Jg))) ?_
  obtain ⟨x35,h32,h31⟩:=Je h31
  refine Juu (z:=((Jg.mk 0 0 0 0 [] [] [] [] [] 0 0 0 0 0):Jg)) 9 h32 (by kernel_rfl) (by kernel_rfl) ?_
  refine zE (Jb (Ja (Ja (Jd (zR 2 ?_)))))
  refine zL (L:=(a1.Tracks:(List Jg))) ?_
  refine zE (Jb (Jp ?_))
  obtain ⟨o50,h50,h31⟩:=Kk h31
  refine zA 10500155 0 (fun (x44,x45)=>⟨[(1,.ref 1 0),(2,.ref 2 0),(3,.ex 9 14 192 (((x35:(List Jg)).map cellsOf).length) 0 (((x35:(List Jg)).map cellsOf).length)),(11,Jn .frozen (a1.Tracks:(List Jg))),(12,.int .i64 ((a1.Tracks.length:Nat):Int)),(13,.int .i64 x44),(53,.int .i64 a3),(54,.ref 1004 0),(55,.ref 1005 0),(58,.ref 1008 0),(60,.int .i64 ((Vy (r2:(List (Int×Int))) a2).getD 0))],[(1,.cells (cellsOf a1)),(2,.cells ([.nil,.nil])),(1004,.cells (cellsOf a0)),(1005,.cells (cellsOf a1)),(1008,.cells ([.nil,.nil]))],[(9,(((x35:(List Jg)).map cellsOf).length,0))],[(9,(14,(192,(x45:(List Jg)).map cellsOf)))]⟩) (fun x54=>⟨[(1,.ref 1 0),(2,.ref 2 0),(3,.ex 9 14 192 (((x35:(List Jg)).map cellsOf).length) 0 (((x35:(List Jg)).map cellsOf).length)),(53,.int .i64 a3),(54,.ref 1004 0),(55,.ref 1005 0),(58,.ref 1008 0),(60,.int .i64 ((Vy (r2:(List (Int×Int))) a2).getD 0))],[(1,.cells (cellsOf a1)),(2,.cells ([.nil,.nil])),(1004,.cells (cellsOf a0)),(1005,.cells (cellsOf a1)),(1008,.cells ([.nil,.nil]))],[(9,(((x35:(List Jg)).map cellsOf).length,0))],[(9,(14,(192,(x54:(List Jg)).map cellsOf)))]⟩) h50 ?_ ?_
  ·rintro ⟨x44,x45⟩ oh49 h49
   unfold Jbq at h49
   refine Ja (Jd (zE (Jb (Ja ?_))))
   rcases Jl h49 with ⟨hb,h49⟩|⟨hb,h49⟩
   ·refine zT hb (Jj (Jb (Ja (Jp (Ja (Jd (zR 1 ?_)))))))
    obtain ⟨x55,h51,h49⟩:=Je h49
    refine zI h51 (zE (Jb (Ja (Jd (zR 2 ?_)))))
    obtain ⟨r56,h52,h49⟩:=Je h49
    refine zP (Ul _ r56 h52) (zE (Jb (Ja (Jd (zR 2 ?_)))))
    obtain ⟨r57,h53,h49⟩:=Je h49
    refine zP (Ky _ r57 h53) (zE (Jb (Ja (Jd (zR 2 ?_)))))
    obtain ⟨r58,h54,h49⟩:=Je h49
    refine zP (Ky _ r58 h54) (zE (Jb (Ja (Jd (zR 2 ?_)))))
    obtain ⟨r59,h55,h49⟩:=Je h49
    refine zP (Ky _ r59 h55) (zE (Jb (Ja (Jd (zR 2 ?_)))))
    obtain ⟨r60,h56,h49⟩:=Je h49
    refine zP (Ky _ r60 h56) (zE (Jb (Jd (zR 3 ?_))))
    obtain ⟨j61,h57,h49⟩:=Je h49
    refine Uv (tk:=9) (k:=14) (N:=((x35:(List Jg)).map cellsOf).length) h57 (by kernel_rfl) ?_
    obtain ⟨x62,h58,h49⟩:=Je h49
    refine Ev (L:=(x45:(List Jg))) (tk:=9) (N:=((x35:(List Jg)).map cellsOf).length) (j:=j61) (y:=x62) (y':=(Jg.mk x55.Id x55.Origin x55.End x55.At r56 r57 r58 r59 r60 x55.Min x55.Sent x55.Accepted x55.Cut x55.CutSeq)) h58 0 14 [.int .i64 x55.Id,.int .i64 x55.Origin,.int .i64 x55.End,.int .i64 x55.At,Jn .frozen (r56:(List Jf)),Jn .frozen (r57:(List Int)),Jn .frozen (r58:(List Int)),Jn .frozen (r59:(List Int)),Jn .frozen (r60:(List Int)),.int .i64 x55.Min,.int .i64 x55.Sent,.int .i64 x55.Accepted,.int .i64 x55.Cut,.int .i64 x55.CutSeq] (by kernel_rfl) (by kernel_rfl) ?_
    refine zN (Jz (Jb (Jd (zE ?_))))
    cases h49
    exact zB
   refine zU hb (Jy (Jv ?_))
   cases h49
   exact zX
  rintro x54 s' rfl hs
  have h31:=Kb h31
  refine Jt (Jb (Ka hs (Ja (Jd (zE (Jb (Ja (Jd (zR 2 ?_)))))))))
  obtain ⟨r63,h59,h31⟩:=Je h31
  refine zP (Lw _ r63 h59) (zE (Jb (Ja (Jd (zE (Jb (Jq ?_)))))))
  cases h31
  exact Jrf (by kernel_rfl) (by kernel_rfl)
 obtain ⟨x32,x33,x34⟩:=o31
 refine Jm8 (r:=.agg [.ex 9 14 192 x33 0 x33,Jn (.own 47007) (x34:(List Jk))]) (by kernel_rfl) ?_
 refine Ci 2 ⟨[(3,.int .i64 a3),(4,.ref 1004 0),(5,.ref 1005 0),(8,.ref 1008 0),(10,.int .i64 ((Vy (r2:(List (Int×Int))) a2).getD 0)),(30,.agg [.ex 2000009 14 192 x33 0 x33,Jn (.own 2047007) (x34:(List Jk))])],[(1004,.cells (cellsOf a0)),(1005,.cells (cellsOf a1)),(1008,.cells ([.nil,.nil]))],[(2047007,(((x34).map cellsOf).length,4)),(2000009,(x33,0))],[(2000009,(14,(192,(x32:(List Jg)).map cellsOf)))]⟩ 105 (by kernel_rfl) (by kernel_rfl) (by kernel_rfl) ?_
 refine Ci 1 ⟨[(3,.int .i64 a3),(4,.ref 4 0),(5,.ref 5 0),(8,.ref 8 0),(10,.int .i64 ((Vy (r2:(List (Int×Int))) a2).getD 0)),(30,.agg [.ex 2000009 14 192 x33 0 x33,Jn (.own 2047007) (x34:(List Jk))])],[(4,.cells (cellsOf a0)),(5,.cells (cellsOf a1)),(8,.cells ([.nil,.nil]))],[(2047007,(((x34).map cellsOf).length,4)),(2000009,(x33,0))],[(2000009,(14,(192,(x32:(List Jg)).map cellsOf)))]⟩ 105 (by kernel_rfl) (by kernel_rfl) (by kernel_rfl) ?_
 refine Nf 2 1 (zE (Jg8 (Jb (Ja (Jd (zR 3 ?_))))))
 obtain ⟨j64,h60,h⟩:=Je h
 refine Uv (tk:=2000009) (k:=14) (N:=x33) h60 (by kernel_rfl) ?_
 refine zE (Jb (Ja (Ja (Jd (zR 3 ?_)))))
 obtain ⟨x65,h61,h⟩:=Je h
 refine Vo (L:=(x32:(List Jg))) (N:=x33) (j:=j64) (y:=x65) (v:=.int .i64 x65.CutSeq) h61 false 1 13 (by kernel_rfl) (by kernel_rfl) ?_
 refine zE (Jb ?_)
 rcases Jl h with ⟨hb,h⟩|⟨hb,h⟩
 ·refine zT hb (Ja (Jd (zE (Jb (Jq (Jm ?_))))))
  cases h
  exact zQ
 refine zU hb (Jj (Jb (Ja (Ja (Jd ?_)))))
 obtain ⟨b66,h62,h⟩:=Je h
 refine zR 3 ?_
 refine Km 8 51 (.bool b66) ?_ ?_
 ·rcases Jl h62 with ⟨hb,h62⟩|⟨hb,h62⟩
  ·refine zS 43 hb ?_
   cases h62
   exact zF
  refine zS 43 hb (zR 4 ?_)
  obtain ⟨x67,h63,h62⟩:=Je h62
  refine Vo (L:=(x32:(List Jg))) (N:=x33) (j:=j64) (y:=x67) (v:=Jn .frozen (x67.Routes:(List Int))) h63 false 1 5 (by kernel_rfl) (by kernel_rfl) ?_
  refine zL (L:=(x67.Routes:(List Int))) ?_
  cases h62
  exact zF
 obtain ⟨b68,h64,h⟩:=Je h
 refine zR 1 ?_
 refine Km 8 60 (.bool b68) ?_ ?_
 ·rcases Jl h64 with ⟨hb,h64⟩|⟨hb,h64⟩
  ·refine zS 52 hb ?_
   cases h64
   exact zF
  refine zS 52 hb (zR 4 ?_)
  obtain ⟨x69,h65,h64⟩:=Je h64
  refine Vo (L:=(x32:(List Jg))) (N:=x33) (j:=j64) (y:=x69) (v:=Jn .frozen (x69.Ends:(List Int))) h65 false 1 7 (by kernel_rfl) (by kernel_rfl) ?_
  refine zL (L:=(x69.Ends:(List Int))) ?_
  cases h64
  exact zF
 refine zN (Jb ?_)
 rcases Jl h with ⟨hb,h⟩|⟨hb,h⟩
 ·refine zT hb (Ja (Jd (zE (Jb (Jq (Jm ?_))))))
  cases h
  exact zQ
 refine zU hb (Jj (Jb (Ja (Jd (zR 3 ?_)))))
 obtain ⟨x70,h66,h⟩:=Je h
 refine Vo (L:=(x32:(List Jg))) (N:=x33) (j:=j64) (y:=x70) (v:=Jn .frozen (x70.Routes:(List Int))) h66 false 1 5 (by kernel_rfl) (by kernel_rfl) ?_
 refine zR 1 ?_
 obtain ⟨x71,h67,h⟩:=Je h
 refine zI h67 (zE (Jb (Ja (Ja (Jd ?_)))))
 obtain ⟨b72,h68,h⟩:=Je h
 refine zR 3 ?_
 refine Km 6 77 (.bool b72) ?_ ?_
 ·rcases Jl h68 with ⟨hb,h68⟩|⟨hb,h68⟩
  ·refine zS 71 hb ?_
   cases h68
   exact zF
  refine zS 71 hb (zR 3 ?_)
  refine zL (L:=(a0.Routes:(List Ju))) ?_
  cases h68
  exact zF
 refine zN (Jb ?_)
 rcases Jl h with ⟨hb,h⟩|⟨hb,h⟩
 ·refine zT hb (Ja (Jd (zE (Jb (Jq (Jm ?_))))))
  cases h
  exact zQ
 refine zU hb (Jj (Jb (Ja (zD (zR 4 ?_)))))
 obtain ⟨x73,h69,h⟩:=Je h
 refine Vo (L:=(x32:(List Jg))) (N:=x33) (j:=j64) (y:=x73) (v:=Jn .frozen (x73.Ends:(List Int))) h69 false 1 7 (by kernel_rfl) (by kernel_rfl) ?_
 refine zR 1 ?_
 obtain ⟨x74,h70,h⟩:=Je h
 refine zI h70 (zR 4 ?_)
 obtain ⟨x75,h71,h⟩:=Je h
 refine zI h71 (zR 5 ?_)
 obtain ⟨x76,h72,h⟩:=Je h
 refine Ev (L:=(x32:(List Jg))) (tk:=2000009) (N:=x33) (j:=j64) (y:=x76) (y':=(Jg.mk x76.Id x76.Origin x76.End x76.At x76.Steps x76.Routes x76.Starts x76.Ends x76.Done x76.Min x76.Sent x76.Accepted (w64 (x74 - x75.Length)) x76.CutSeq)) h72 12 1 [.int .i64 (w64 (x74 - x75.Length))] (by kernel_rfl) (by kernel_rfl) ?_
 refine zN (Jb (Ja (Jd (zR 4 ?_))))
 obtain ⟨x77,h73,h⟩:=Je h
 refine Vo (L:=((x32.set j64 (Jg.mk x76.Id x76.Origin x76.End x76.At x76.Steps x76.Routes x76.Starts x76.Ends x76.Done x76.Min x76.Sent x76.Accepted (w64 (x74 - x75.Length)) x76.CutSeq)):(List Jg))) (N:=x33) (j:=j64) (y:=x77) (v:=.int .i64 x77.Sent) h73 false 1 10 (by kernel_rfl) (by kernel_rfl) ?_
 refine zR 3 ?_
 obtain ⟨x78,h74,h⟩:=Je h
 refine Ev (L:=((x32.set j64 (Jg.mk x76.Id x76.Origin x76.End x76.At x76.Steps x76.Routes x76.Starts x76.Ends x76.Done x76.Min x76.Sent x76.Accepted (w64 (x74 - x75.Length)) x76.CutSeq)):(List Jg))) (tk:=2000009) (N:=x33) (j:=j64) (y:=x78) (y':=(Jg.mk x78.Id x78.Origin x78.End x78.At x78.Steps x78.Routes x78.Starts x78.Ends x78.Done x78.Min x78.Sent x78.Accepted x78.Cut (w64 (x77.Sent+1)))) h74 13 1 [.int .i64 (w64 (x77.Sent+1))] (by kernel_rfl) (by kernel_rfl) ?_
 refine zN (Jb (Ja (Jd (zE (Jb ?_)))))
 refine Ka (Bd (xss:=(((x32.set j64 (Jg.mk x76.Id x76.Origin x76.End x76.At x76.Steps x76.Routes x76.Starts x76.Ends x76.Done x76.Min x76.Sent x76.Accepted (w64 (x74 - x75.Length)) x76.CutSeq)).set j64 (Jg.mk x78.Id x78.Origin x78.End x78.At x78.Steps x78.Routes x78.Starts x78.Ends x78.Done x78.Min x78.Sent x78.Accepted x78.Cut (w64 (x77.Sent+1)))):(List Jg)).map cellsOf) 2000009 14 192 x33 [32] [(5,0),(8,0)] (by kernel_rfl) (by kernel_rfl) (by kernel_rfl) (by kernel_rfl)) ?_
 refine Jq ?_
 cases h
 exact zQ
/-! rbc.Stop -/
noncomputable def Jgt (a0:Jw) (x35:(List Jg)):(Int×(List Jg))→Option ((Int×(List Jg))⊕((List Jg)⊕((List Jg)×Nat×(List Jk)))):=fun (x44,x45) =>
 bif decide (x44<((a0.Tracks.length:Nat):Int)) then (
  (ixO a0.Tracks x44).bind fun x55 =>
  (Qg x55.Steps).bind fun r56 =>
  (Kn x55.Routes).bind fun r57 =>
  (Kn x55.Starts).bind fun r58 =>
  (Kn x55.Ends).bind fun r59 =>
  (Kn x55.Done).bind fun r60 =>
  (Wn 0 (((x35:(List Jg)).map cellsOf).length) x44).bind fun j61 =>
  (Vq x45 (((x35:(List Jg)).map cellsOf).length) j61).bind fun x62 =>
  some (.inl (w64 (x44+1),(x45.set j61 (Jg.mk x55.Id x55.Origin x55.End x55.At r56 r57 r58 r59 r60 x55.Min x55.Sent x55.Accepted x55.Cut x55.CutSeq))))
 ) else (
  some (.inr (.inl x45))
 )
noncomputable def Ft (a0:Jw) (a1:Int) (a2:Int):Option (Jw×Kc×Int) :=
 (Yy a0).bind fun r1 =>
 bif (!r1) then (
  some ((Jw.mk [] []),(Kc.mk 0 0 0 0 0 (Ks.mk 0 0 [] []) (Uh.mk 0 0 0 0 false)),1)
 ) else (
  (Cc a0.Tracks).bind fun r2 =>
  bif (!((Vy (r2:(List (Int×Int))) a1).isSome)) then (
   some ((Jw.mk [] []),(Kc.mk 0 0 0 0 0 (Ks.mk 0 0 [] []) (Uh.mk 0 0 0 0 false)),9)
  ) else (
   Option.bind (α:=((List Jg)×Nat×(List Jk))) (
    (Jrl ((a0.Tracks.length:Nat):Int) ((a0.Tracks.length:Nat):Int) 192 ((Jg.mk 0 0 0 0 [] [] [] [] [] 0 0 0 0 0):Jg)).bind fun x35 =>
    onInl (α:=(List Jg)) (β:=((List Jg)×Nat×(List Jk))) (Ko (Jgt a0 x35) (0,x35)) fun x54 =>
    (Ue a0.Sessions).bind fun r63 =>
    some (x54,((x35:(List Jg)).map cellsOf).length,r63)
   ) fun (x32,x33,x34) =>
   (Wn 0 (((x34:(List Jk)).map cellsOf).length) ((Vy (r2:(List (Int×Int))) a1).getD 0)).bind fun j64 =>
   (Vq x34 (((x34:(List Jk)).map cellsOf).length) j64).bind fun x65 =>
   (Bc x65 (Kc.mk 4 0 0 0 0 (Ks.mk 0 0 [] []) (Uh.mk 0 0 0 0 false)) a2).bind fun r66 =>
   (Wn 0 (((x34:(List Jk)).map cellsOf).length) ((Vy (r2:(List (Int×Int))) a1).getD 0)).bind fun j67 =>
   (Vq x34 (((x34:(List Jk)).map cellsOf).length) j67).bind fun x68 =>
   some ((Jw.mk x32 (x34.set j67 r66.1)),r66.2,0)
  )
 )
set_option maxRecDepth 100000 in
theorem Jeu (a0:Jw) (a1:Int) (a2:Int) (r:(Jw×Kc×Int)) (h:Ft a0 a1 a2=some r):Kj Tryz.prog GlS 18 [Enc.pv a0,Enc.pv a1,Enc.pv a2] (.tup [Enc.pv r.1,Enc.pv r.2.1,Enc.pv r.2.2]):=by
 unfold Ft at h
 refine zC Tryz.func18 Tryz.ntmps18 ?_
 refine Ja (Jd (zE (Jb (Ja (Ja (Jd (zR 1 ?_)))))))
 obtain ⟨r1,h1,h⟩:=Je h
 refine zP (Hx _ r1 h1) (zE (Jb ?_))
 rcases Jl h with ⟨hb,h⟩|⟨hb,h⟩
 ·refine zT hb (Ja (Jd (zE (Jb (Jq (Jm ?_))))))
  cases h
  exact zQ
 refine zU hb (Jj (Jb (Ja (Jd (zR 2 ?_)))))
 obtain ⟨r2,h2,h⟩:=Je h
 refine zP (Tz _ r2 h2) (zR 1 ?_)
 refine Jha (m:=(r2:(List (Int×Int)))) (k:=a1) 0 true (by kernel_rfl) ?_
 refine zE (Jb (Ja (Ja (Jd (zE (Jb ?_))))))
 rcases Jl h with ⟨hb,h⟩|⟨hb,h⟩
 ·refine zT hb (Ja (Jd (zE (Jb (Jq (Jm ?_))))))
  cases h
  exact zQ
 refine zU hb (Jj (Jb (Ja (Jhg (Nf 0 1 (zE ?_))))))
 refine Ci 1 ⟨[(2,.int .i64 a2),(3,.ref 1003 0),(6,.ref 1006 0),(7,.ref 1007 0),(9,.int .i64 ((Vy (r2:(List (Int×Int))) a1).getD 0)),(30,Enc.pv a0)],[(1003,.cells (cellsOf a0)),(1006,.cells ([.nil,.nil])),(1007,.cells ([.int .i64 0,.int .i64 0,.int .i64 0,.int .i64 0,.int .i64 0,.int .i64 0,.int .i64 0,.nil,.nil,.int .i64 0,.int .i64 0,.int .i64 0,.int .i64 0,.bool false]))],[],[]⟩ 50 (by kernel_rfl) (by kernel_rfl) (by kernel_rfl) ?_
 obtain ⟨o31,h31,h⟩:=Je h
 refine Jm3 (f:=40) (asx:=[Enc.pv a0]) (by kernel_rfl) Tryz.func40 (by rfl) rfl Tryz.ntmps40 (by rfl) ?_
 refine Jd4 o31 5000100 (fun (x32,x33,x34)=>⟨[(2,.ref 2 0),(52,.int .i64 a2),(53,.ref 1003 0),(56,.ref 1006 0),(57,.ref 1007 0),(59,.int .i64 ((Vy (r2:(List (Int×Int))) a1).getD 0))],[(2,.cells ([.ex 9 14 192 x33 0 x33,.ex 47 4 32 (((x34:(List Jk)).map cellsOf).length) 0 (((x34:(List Jk)).map cellsOf).length)])),(1003,.cells (cellsOf a0)),(1006,.cells ([.nil,.nil])),(1007,.cells ([.int .i64 0,.int .i64 0,.int .i64 0,.int .i64 0,.int .i64 0,.int .i64 0,.int .i64 0,.nil,.nil,.int .i64 0,.int .i64 0,.int .i64 0,.int .i64 0,.bool false]))],[(9,(x33,0)),(47,(((x34:(List Jk)).map cellsOf).length,0))],[(9,(14,(192,(x32:(List Jg)).map cellsOf))),(47,(4,(32,(x34:(List Jk)).map cellsOf)))]⟩) ?_ ?_
 ·refine Ja (Jd (zE (Jb (Ja (Jd (zR 2 ?_))))))
  refine zL (L:=(a0.Tracks:(List Jg))) ?_
  obtain ⟨x35,h32,h31⟩:=Je h31
  refine Juu (z:=((Jg.mk 0 0 0 0 [] [] [] [] [] 0 0 0 0 0):Jg)) 9 h32 (by kernel_rfl) (by kernel_rfl) ?_
  refine zE (Jb (Ja (Ja (Jd (zR 2 ?_)))))
  refine zL (L:=(a0.Tracks:(List Jg))) ?_
  refine zE (Jb (Jp ?_))
  obtain ⟨o50,h50,h31⟩:=Kk h31
  refine zA 5000100 0 (fun (x44,x45)=>⟨[(1,.ref 1 0),(2,.ref 2 0),(3,.ex 9 14 192 (((x35:(List Jg)).map cellsOf).length) 0 (((x35:(List Jg)).map cellsOf).length)),(11,Jn .frozen (a0.Tracks:(List Jg))),(12,.int .i64 ((a0.Tracks.length:Nat):Int)),(13,.int .i64 x44),(52,.int .i64 a2),(53,.ref 1003 0),(56,.ref 1006 0),(57,.ref 1007 0),(59,.int .i64 ((Vy (r2:(List (Int×Int))) a1).getD 0))],[(1,.cells (cellsOf a0)),(2,.cells ([.nil,.nil])),(1003,.cells (cellsOf a0)),(1006,.cells ([.nil,.nil])),(1007,.cells ([.int .i64 0,.int .i64 0,.int .i64 0,.int .i64 0,.int .i64 0,.int .i64 0,.int .i64 0,.nil,.nil,.int .i64 0,.int .i64 0,.int .i64 0,.int .i64 0,.bool false]))],[(9,(((x35:(List Jg)).map cellsOf).length,0))],[(9,(14,(192,(x45:(List Jg)).map cellsOf)))]⟩) (fun x54=>⟨[(1,.ref 1 0),(2,.ref 2 0),(3,.ex 9 14 192 (((x35:(List Jg)).map cellsOf).length) 0 (((x35:(List Jg)).map cellsOf).length)),(52,.int .i64 a2),(53,.ref 1003 0),(56,.ref 1006 0),(57,.ref 1007 0),(59,.int .i64 ((Vy (r2:(List (Int×Int))) a1).getD 0))],[(1,.cells (cellsOf a0)),(2,.cells ([.nil,.nil])),(1003,.cells (cellsOf a0)),(1006,.cells ([.nil,.nil])),(1007,.cells ([.int .i64 0,.int .i64 0,.int .i64 0,.int .i64 0,.int .i64 0,.int .i64 0,.int .i64 0,.nil,.nil,.int .i64 0,.int .i64 0,.int .i64 0,.int .i64 0,.bool false]))],[(9,(((x35:(List Jg)).map cellsOf).length,0))],[(9,(14,(192,(x54:(List Jg)).map cellsOf)))]⟩) h50 ?_ ?_
  ·rintro ⟨x44,x45⟩ oh49 h49
   unfold Jgt at h49
   refine Ja (Jd (zE (Jb (Ja ?_))))
   rcases Jl h49 with ⟨hb,h49⟩|⟨hb,h49⟩
   ·refine zT hb (Jj (Jb (Ja (Jp (Ja (Jd (zR 1 ?_)))))))
    obtain ⟨x55,h51,h49⟩:=Je h49
    refine zI h51 (zE (Jb (Ja (Jd (zR 2 ?_)))))
    obtain ⟨r56,h52,h49⟩:=Je h49
    refine zP (Ul _ r56 h52) (zE (Jb (Ja (Jd (zR 2 ?_)))))
    obtain ⟨r57,h53,h49⟩:=Je h49
    refine zP (Ky _ r57 h53) (zE (Jb (Ja (Jd (zR 2 ?_)))))
    obtain ⟨r58,h54,h49⟩:=Je h49
    refine zP (Ky _ r58 h54) (zE (Jb (Ja (Jd (zR 2 ?_)))))
    obtain ⟨r59,h55,h49⟩:=Je h49
    refine zP (Ky _ r59 h55) (zE (Jb (Ja (Jd (zR 2 ?_)))))
    obtain ⟨r60,h56,h49⟩:=Je h49
    refine zP (Ky _ r60 h56) (zE (Jb (Jd (zR 3 ?_))))
    obtain ⟨j61,h57,h49⟩:=Je h49
    refine Uv (tk:=9) (k:=14) (N:=((x35:(List Jg)).map cellsOf).length) h57 (by kernel_rfl) ?_
    obtain ⟨x62,h58,h49⟩:=Je h49
    refine Ev (L:=(x45:(List Jg))) (tk:=9) (N:=((x35:(List Jg)).map cellsOf).length) (j:=j61) (y:=x62) (y':=(Jg.mk x55.Id x55.Origin x55.End x55.At r56 r57 r58 r59 r60 x55.Min x55.Sent x55.Accepted x55.Cut x55.CutSeq)) h58 0 14 [.int .i64 x55.Id,.int .i64 x55.Origin,.int .i64 x55.End,.int .i64 x55.At,Jn .frozen (r56:(List Jf)),Jn .frozen (r57:(List Int)),Jn .frozen (r58:(List Int)),Jn .frozen (r59:(List Int)),Jn .frozen (r60:(List Int)),.int .i64 x55.Min,.int .i64 x55.Sent,.int .i64 x55.Accepted,.int .i64 x55.Cut,.int .i64 x55.CutSeq] (by kernel_rfl) (by kernel_rfl) ?_
    refine zN (Jz (Jb (Jd (zE ?_))))
    cases h49
    exact zB
   refine zU hb (Jy (Jv ?_))
   cases h49
   exact zX
  rintro x54 s' rfl hs
  have h31:=Kb h31
  refine Jt (Jb (Ka hs (Ja (Jd (zE (Jb (Ja (Jd (zR 2 ?_)))))))))
  obtain ⟨r63,h59,h31⟩:=Je h31
  refine Jjv (α:=Jk) 47 (Ba _ r63 h59) (by kernel_rfl) (by kernel_rfl) ?_
  refine zE (Jb (Ja (Jd (zE (Jb (Jq ?_))))))
  cases h31
  exact Jrf (by kernel_rfl) (by kernel_rfl)
 obtain ⟨x32,x33,x34⟩:=o31
 refine Jm8 (r:=.agg [.ex 9 14 192 x33 0 x33,.ex 47 4 32 (((x34:(List Jk)).map cellsOf).length) 0 (((x34:(List Jk)).map cellsOf).length)]) (by kernel_rfl) ?_
 refine Ci 2 ⟨[(2,.int .i64 a2),(3,.ref 1003 0),(6,.ref 1006 0),(7,.ref 1007 0),(9,.int .i64 ((Vy (r2:(List (Int×Int))) a1).getD 0)),(31,.agg [.ex 2000009 14 192 x33 0 x33,.ex 2000047 4 32 (((x34:(List Jk)).map cellsOf).length) 0 (((x34:(List Jk)).map cellsOf).length)])],[(1003,.cells (cellsOf a0)),(1006,.cells ([.nil,.nil])),(1007,.cells ([.int .i64 0,.int .i64 0,.int .i64 0,.int .i64 0,.int .i64 0,.int .i64 0,.int .i64 0,.nil,.nil,.int .i64 0,.int .i64 0,.int .i64 0,.int .i64 0,.bool false]))],[(2000009,(x33,0)),(2000047,(((x34:(List Jk)).map cellsOf).length,0))],[(2000009,(14,(192,(x32:(List Jg)).map cellsOf))),(2000047,(4,(32,(x34:(List Jk)).map cellsOf)))]⟩ 50 (by kernel_rfl) (by kernel_rfl) (by kernel_rfl) ?_
 refine Ci 1 ⟨[(2,.int .i64 a2),(3,.ref 3 0),(6,.ref 6 0),(7,.ref 7 0),(9,.int .i64 ((Vy (r2:(List (Int×Int))) a1).getD 0)),(31,.agg [.ex 2000009 14 192 x33 0 x33,.ex 2000047 4 32 (((x34:(List Jk)).map cellsOf).length) 0 (((x34:(List Jk)).map cellsOf).length)])],[(3,.cells (cellsOf a0)),(6,.cells ([.nil,.nil])),(7,.cells ([.int .i64 0,.int .i64 0,.int .i64 0,.int .i64 0,.int .i64 0,.int .i64 0,.int .i64 0,.nil,.nil,.int .i64 0,.int .i64 0,.int .i64 0,.int .i64 0,.bool false]))],[(2000009,(x33,0)),(2000047,(((x34:(List Jk)).map cellsOf).length,0))],[(2000009,(14,(192,(x32:(List Jg)).map cellsOf))),(2000047,(4,(32,(x34:(List Jk)).map cellsOf)))]⟩ 50 (by kernel_rfl) (by kernel_rfl) (by kernel_rfl) ?_
 refine Nf 2 1 (zE (Jg8 (Jb (Ja (Jd (zR 3 ?_))))))
 obtain ⟨j64,h60,h⟩:=Je h
 refine Uv (tk:=2000047) (k:=4) (N:=((x34:(List Jk)).map cellsOf).length) h60 (by kernel_rfl) ?_
 obtain ⟨x65,h61,h⟩:=Je h
 refine Vo (L:=(x34:(List Jk))) (N:=((x34:(List Jk)).map cellsOf).length) (j:=j64) (y:=x65) (v:=Enc.pv x65) h61 true 4 0 (by kernel_rfl) (by kernel_rfl) ?_
 refine zR 2 ?_
 obtain ⟨r66,h62,h⟩:=Je h
 refine zP (Ru _ _ _ r66 h62) (zE (Jb (Ja (Jd (zR 4 ?_)))))
 obtain ⟨j67,h63,h⟩:=Je h
 refine Uv (tk:=2000047) (k:=4) (N:=((x34:(List Jk)).map cellsOf).length) h63 (by kernel_rfl) ?_
 obtain ⟨x68,h64,h⟩:=Je h
 refine Ev (L:=(x34:(List Jk))) (tk:=2000047) (N:=((x34:(List Jk)).map cellsOf).length) (j:=j67) (y:=x68) (y':=r66.1) h64 0 4 [.int .i64 r66.1.Peer,.int .i64 r66.1.Out,.int .i64 r66.1.In,.int .i64 r66.1.Heard] (by kernel_rfl) (by kernel_rfl) ?_
 refine zN (Jb (Ja ?_))
 refine Jsa 50 ⟨[(6,.ref 6 0),(7,.ref 7 0),(8,.int .i64 0)],[(6,.cells ([.ex 2000009 14 192 x33 0 x33,.ex 2000047 4 32 (((x34:(List Jk)).map cellsOf).length) 0 (((x34:(List Jk)).map cellsOf).length)])),(7,.cells (cellsOf r66.2))],[(2000009,(x33,0)),(2000047,(((x34:(List Jk)).map cellsOf).length,0))],[(2000009,(14,(192,(x32:(List Jg)).map cellsOf))),(2000047,(4,(32,((x34.set j67 r66.1):(List Jk)).map cellsOf)))]⟩ (by kernel_rfl) ?_ ?_
 ·refine Qr [0,1] (by kernel_rfl) ⟨?_, ?_,trivial⟩
  ·refine ⟨_,rfl, ?_⟩
   refine zR 1 (Wm ?_)
   refine Qr [1,2] (by kernel_rfl) ⟨?_, ?_,trivial⟩
   ·refine ⟨_,rfl, ?_⟩
    refine zR 1 (Wm ?_)
    refine Qr [2] (by kernel_rfl) ⟨?_,trivial⟩
    refine ⟨_,rfl, ?_⟩
    refine zR 1 (Wm ?_)
    refine Qr [3] (by kernel_rfl) ⟨?_,trivial⟩
    refine ⟨_,rfl, ?_⟩
    refine zR 1 (Wm ?_)
    refine Qr [4] (by kernel_rfl) ⟨?_,trivial⟩
    refine ⟨_,rfl, ?_⟩
    refine zR 1 (Wm ?_)
    exact Dr (by kernel_rfl) (.of (by kernel_rfl) (by kernel_rfl))
   refine ⟨_,rfl, ?_⟩
   refine zR 1 (Wm ?_)
   refine Qr [1] (by kernel_rfl) ⟨?_,trivial⟩
   refine ⟨_,rfl, ?_⟩
   refine zR 1 (Wm ?_)
   refine Qr [3] (by kernel_rfl) ⟨?_,trivial⟩
   refine ⟨_,rfl, ?_⟩
   refine zR 1 (Wm ?_)
   refine Qr [4] (by kernel_rfl) ⟨?_,trivial⟩
   refine ⟨_,rfl, ?_⟩
   refine zR 1 (Wm ?_)
   exact Dr (by kernel_rfl) (.of (by kernel_rfl) (by kernel_rfl))
  refine ⟨_,rfl, ?_⟩
  refine zR 1 (Wm ?_)
  refine Qr [0] (by kernel_rfl) ⟨?_,trivial⟩
  refine ⟨_,rfl, ?_⟩
  refine zR 1 (Wm ?_)
  refine Qr [2] (by kernel_rfl) ⟨?_,trivial⟩
  refine ⟨_,rfl, ?_⟩
  refine zR 1 (Wm ?_)
  refine Qr [3] (by kernel_rfl) ⟨?_,trivial⟩
  refine ⟨_,rfl, ?_⟩
  refine zR 1 (Wm ?_)
  refine Qr [4] (by kernel_rfl) ⟨?_,trivial⟩
  refine ⟨_,rfl, ?_⟩
  refine zR 1 (Wm ?_)
  exact Dr (by kernel_rfl) (.of (by kernel_rfl) (by kernel_rfl))
 refine Jb ?_
 refine Ka (Bd (xss:=(x32:(List Jg)).map cellsOf) 2000009 14 192 x33 [] [(6,0)] (by kernel_rfl) (by kernel_rfl) (by kernel_rfl) (by kernel_rfl)) ?_
 refine Ka (Bd (xss:=((x34.set j67 r66.1):(List Jk)).map cellsOf) 2000047 4 32 (((x34:(List Jk)).map cellsOf).length) [] [(6,1)] (by kernel_rfl) (by kernel_rfl) (by kernel_rfl) (by kernel_rfl)) ?_
 refine Jq ?_
 cases h
 exact zQ
/-! signallinglaw47.alive -/
noncomputable def Ee : Option Bool :=
 (Jaw ).bind fun r1 =>
 (Te r1).bind fun r2 =>
 (Sm ).bind fun r3 =>
 (Jhx r1 [r3.1] [r3.2]).bind fun r4 =>
 ((bif ((!(decide (r2.2=0)))||(!(decide (r4.2=0)))) then some true else (
  some (!(decide (((r2.1.Routes.length:Nat):Int)=2)))
 )):Option Bool).bind fun b5 =>
 ((bif b5 then some true else (
  some (!(decide (((r4.1.Tracks.length:Nat):Int)=1)))
 )):Option Bool).bind fun b6 =>
 ((bif b6 then some true else (
  (ixO r4.1.Tracks 0).bind fun x8 =>
  some (!(decide (x8.At=5000)))
 )):Option Bool).bind fun b7 =>
 ((bif b7 then some true else (
  (ixO r4.1.Tracks 0).bind fun x10 =>
  some (!(decide (x10.End=0)))
 )):Option Bool).bind fun b9 =>
 bif b9 then (
  some false
 ) else (
  (Ro r1 r2.1 (Qf.mk [(Qn.mk 2 0 0),(Qn.mk 0 0 0)] []) ([]:(List Kf)) r4.1 1).bind fun r11 =>
  (Ro r1 r2.1 (Qf.mk [(Qn.mk 2 0 0),(Qn.mk 2 0 0)] []) ([]:(List Kf)) r11.1 2).bind fun r12 =>
  (Zs r2.1 r12.1 3 0).bind fun r13 =>
  (Ft r4.1 3 1).bind fun r14 =>
  ((bif (!(decide (((r11.2.length:Nat):Int)=1))) then some true else (
   some (!(decide (((r12.2.length:Nat):Int)=1)))
  )):Option Bool).bind fun b15 =>
  ((bif b15 then some true else (
   some (!(decide (((r11.1.Tracks.length:Nat):Int)=1)))
  )):Option Bool).bind fun b16 =>
  ((bif b16 then some true else (
   some (!(decide (((r12.1.Tracks.length:Nat):Int)=1)))
  )):Option Bool).bind fun b17 =>
  ((bif b17 then some true else (
   some (!(decide (((r13.1.Tracks.length:Nat):Int)=1)))
  )):Option Bool).bind fun b18 =>
  ((bif b18 then some true else (
   (ixO r11.1.Tracks 0).bind fun x20 =>
   some (!(decide (((x20.Routes.length:Nat):Int)=1)))
  )):Option Bool).bind fun b19 =>
  bif b19 then (
   some false
  ) else (
   (ixO r11.2 0).bind fun x21 =>
   ((bif decide (x21.Kind=2) then (
    (ixO r11.2 0).bind fun x23 =>
    some (decide (x23.Auth.End=25000))
   ) else some false):Option Bool).bind fun b22 =>
   ((bif b22 then (
    (ixO r11.2 0).bind fun x25 =>
    some (decide (x25.To=3))
   ) else some false):Option Bool).bind fun b24 =>
   ((bif b24 then (
    (ixO r12.2 0).bind fun x27 =>
    some (decide (x27.Auth.End=45000))
   ) else some false):Option Bool).bind fun b26 =>
   ((bif b26 then (
    (ixO r12.1.Tracks 0).bind fun x29 =>
    some (decide (x29.End=(-1)))
   ) else some false):Option Bool).bind fun b28 =>
   ((bif (b28&&(decide (r13.2=0))) then (
    (ixO r13.1.Tracks 0).bind fun x31 =>
    some (decide (x31.Cut=5000))
   ) else some false):Option Bool).bind fun b30 =>
   some ((b30&&(decide (r14.2.2=0)))&&(decide (r14.2.1.Kind=4)))
  )
 )
theorem Tr (r:Bool) (h:Ee=some r):Kj Tryz.prog GlS 9 [] (Enc.pv r):=by
 unfold Ee at h
 refine zC Tryz.func9 Tryz.ntmps9 ?_
 refine Ja (Jd (zE (Jb (Ja (Jd ?_)))))
 obtain ⟨r1,h1,h⟩:=Je h
 refine zP (Jjg  r1 h1) (zE (Jb (Ja (Jd (zR 1 ?_)))))
 obtain ⟨r2,h2,h⟩:=Je h
 refine zP (Jg2 _ r2 h2) (zE (Jb (Ja (Jd ?_))))
 obtain ⟨r3,h3,h⟩:=Je h
 refine zP (Jhq  r3 h3) (zE (Jb (Ja (Jd (zR 5 ?_)))))
 obtain ⟨r4,h4,h⟩:=Je h
 refine zP (Jn0 _ _ _ r4 h4) (zE (Jb (Ja (Ja (Jd (zR 3 ?_))))))
 refine Ku 3 42 ((!(decide (r2.2=0)))||(!(decide (r4.2=0)))) (fun x hx=>?_) ?_
 ·rcases Vs hx with ⟨hb,hx⟩|⟨hb,hx⟩
  ·refine zS 39 hb ?_
   subst hx
   exact zF
  refine zS 39 hb ?_
  subst hx
  exact zF
 obtain ⟨b5,h5,h⟩:=Je h
 refine zR 1 ?_
 refine Km 5 48 (.bool b5) ?_ ?_
 ·rcases Jl h5 with ⟨hb,h5⟩|⟨hb,h5⟩
  ·refine zS 43 hb ?_
   cases h5
   exact zF
  refine zS 43 hb (zR 2 ?_)
  refine zL (L:=(r2.1.Routes:(List Ju))) ?_
  cases h5
  exact zF
 obtain ⟨b6,h6,h⟩:=Je h
 refine zR 1 ?_
 refine Km 5 54 (.bool b6) ?_ ?_
 ·rcases Jl h6 with ⟨hb,h6⟩|⟨hb,h6⟩
  ·refine zS 49 hb ?_
   cases h6
   exact zF
  refine zS 49 hb (zR 2 ?_)
  refine zL (L:=(r4.1.Tracks:(List Jg))) ?_
  cases h6
  exact zF
 obtain ⟨b7,h7,h⟩:=Je h
 refine zR 1 ?_
 refine Km 7 62 (.bool b7) ?_ ?_
 ·rcases Jl h7 with ⟨hb,h7⟩|⟨hb,h7⟩
  ·refine zS 55 hb ?_
   cases h7
   exact zF
  refine zS 55 hb (zR 2 ?_)
  obtain ⟨x8,h8,h7⟩:=Je h7
  refine zI h8 ?_
  cases h7
  exact zF
 obtain ⟨b9,h9,h⟩:=Je h
 refine zR 1 ?_
 refine Km 7 70 (.bool b9) ?_ ?_
 ·rcases Jl h9 with ⟨hb,h9⟩|⟨hb,h9⟩
  ·refine zS 63 hb ?_
   cases h9
   exact zF
  refine zS 63 hb (zR 2 ?_)
  obtain ⟨x10,h10,h9⟩:=Je h9
  refine zI h10 ?_
  cases h9
  exact zF
 refine zN (Jb ?_)
 rcases Jl h with ⟨hb,h⟩|⟨hb,h⟩
 ·refine zT hb (Ja (Jd (zE (Jb (Jq (Jm ?_))))))
  cases h
  exact zQ
 refine zU hb (Jj (Jb (Ja (Jd (zE (Jb (Ja (Jd (zR 7 ?_)))))))))
 obtain ⟨r11,h11,h⟩:=Je h
 refine zP (Jdk _ _ _ _ _ _ r11 h11) (zE (Jb (Ja (Jd (zR 7 ?_)))))
 obtain ⟨r12,h12,h⟩:=Je h
 refine zP (Jdk _ _ _ _ _ _ r12 h12) (zE (Jb (Ja (Jd (zR 2 ?_)))))
 obtain ⟨r13,h13,h⟩:=Je h
 refine zP (Tl _ _ _ _ r13 h13) (zE (Jb (Ja (Jd (zR 1 ?_)))))
 obtain ⟨r14,h14,h⟩:=Je h
 refine zP (Jeu _ _ _ r14 h14) (zE (Jb (Ja (Ja (Jd (zR 1 ?_))))))
 refine zL (L:=(r11.2:(List Kc))) ?_
 obtain ⟨b15,h15,h⟩:=Je h
 refine zR 2 ?_
 refine Km 4 113 (.bool b15) ?_ ?_
 ·rcases Jl h15 with ⟨hb,h15⟩|⟨hb,h15⟩
  ·refine zS 109 hb ?_
   cases h15
   exact zF
  refine zS 109 hb (zR 1 ?_)
  refine zL (L:=(r12.2:(List Kc))) ?_
  cases h15
  exact zF
 obtain ⟨b16,h16,h⟩:=Je h
 refine zR 1 ?_
 refine Km 5 119 (.bool b16) ?_ ?_
 ·rcases Jl h16 with ⟨hb,h16⟩|⟨hb,h16⟩
  ·refine zS 114 hb ?_
   cases h16
   exact zF
  refine zS 114 hb (zR 2 ?_)
  refine zL (L:=(r11.1.Tracks:(List Jg))) ?_
  cases h16
  exact zF
 obtain ⟨b17,h17,h⟩:=Je h
 refine zR 1 ?_
 refine Km 5 125 (.bool b17) ?_ ?_
 ·rcases Jl h17 with ⟨hb,h17⟩|⟨hb,h17⟩
  ·refine zS 120 hb ?_
   cases h17
   exact zF
  refine zS 120 hb (zR 2 ?_)
  refine zL (L:=(r12.1.Tracks:(List Jg))) ?_
  cases h17
  exact zF
 obtain ⟨b18,h18,h⟩:=Je h
 refine zR 1 ?_
 refine Km 5 131 (.bool b18) ?_ ?_
 ·rcases Jl h18 with ⟨hb,h18⟩|⟨hb,h18⟩
  ·refine zS 126 hb ?_
   cases h18
   exact zF
  refine zS 126 hb (zR 2 ?_)
  refine zL (L:=(r13.1.Tracks:(List Jg))) ?_
  cases h18
  exact zF
 obtain ⟨b19,h19,h⟩:=Je h
 refine zR 1 ?_
 refine Km 8 140 (.bool b19) ?_ ?_
 ·rcases Jl h19 with ⟨hb,h19⟩|⟨hb,h19⟩
  ·refine zS 132 hb ?_
   cases h19
   exact zF
  refine zS 132 hb (zR 2 ?_)
  obtain ⟨x20,h20,h19⟩:=Je h19
  refine zI h20 (zR 2 ?_)
  refine zL (L:=(x20.Routes:(List Int))) ?_
  cases h19
  exact zF
 refine zN (Jb ?_)
 rcases Jl h with ⟨hb,h⟩|⟨hb,h⟩
 ·refine zT hb (Ja (Jd (zE (Jb (Jq (Jm ?_))))))
  cases h
  exact zQ
 refine zU hb (Jj (Jb (Ja (Jd (zR 1 ?_)))))
 obtain ⟨x21,h21,h⟩:=Je h
 refine zI h21 ?_
 obtain ⟨b22,h22,h⟩:=Je h
 refine zR 4 ?_
 refine Km 7 153 (.bool b22) ?_ ?_
 ·rcases Jl h22 with ⟨hb,h22⟩|⟨hb,h22⟩
  ·refine zS 146 hb (zR 1 ?_)
   obtain ⟨x23,h23,h22⟩:=Je h22
   refine zI h23 ?_
   cases h22
   exact zF
  refine zS 146 hb ?_
  cases h22
  exact zF
 obtain ⟨b24,h24,h⟩:=Je h
 refine zR 1 ?_
 refine Km 6 160 (.bool b24) ?_ ?_
 ·rcases Jl h24 with ⟨hb,h24⟩|⟨hb,h24⟩
  ·refine zS 154 hb (zR 1 ?_)
   obtain ⟨x25,h25,h24⟩:=Je h24
   refine zI h25 ?_
   cases h24
   exact zF
  refine zS 154 hb ?_
  cases h24
  exact zF
 obtain ⟨b26,h26,h⟩:=Je h
 refine zR 1 ?_
 refine Km 7 168 (.bool b26) ?_ ?_
 ·rcases Jl h26 with ⟨hb,h26⟩|⟨hb,h26⟩
  ·refine zS 161 hb (zR 1 ?_)
   obtain ⟨x27,h27,h26⟩:=Je h26
   refine zI h27 ?_
   cases h26
   exact zF
  refine zS 161 hb ?_
  cases h26
  exact zF
 obtain ⟨b28,h28,h⟩:=Je h
 refine zR 1 ?_
 refine Km 7 176 (.bool b28) ?_ ?_
 ·rcases Jl h28 with ⟨hb,h28⟩|⟨hb,h28⟩
  ·refine zS 169 hb (zR 2 ?_)
   obtain ⟨x29,h29,h28⟩:=Je h28
   refine zI h29 ?_
   cases h28
   exact zF
  refine zS 169 hb ?_
  cases h28
  exact zF
 refine zR 1 ?_
 refine Ku 3 180 (b28&&(decide (r13.2=0))) (fun x hx=>?_) ?_
 ·rcases Vm hx with ⟨hb,hx⟩|⟨hb,hx⟩
  ·refine zS 177 hb ?_
   subst hx
   exact zF
  refine zS 177 hb ?_
  subst hx
  exact zF
 obtain ⟨b30,h30,h⟩:=Je h
 refine zR 1 ?_
 refine Km 7 188 (.bool b30) ?_ ?_
 ·rcases Jl h30 with ⟨hb,h30⟩|⟨hb,h30⟩
  ·refine zS 181 hb (zR 2 ?_)
   obtain ⟨x31,h31,h30⟩:=Je h30
   refine zI h31 ?_
   cases h30
   exact zF
  refine zS 181 hb ?_
  cases h30
  exact zF
 refine zR 1 ?_
 refine Ku 3 192 (b30&&(decide (r14.2.2=0))) (fun x hx=>?_) ?_
 ·rcases Vm hx with ⟨hb,hx⟩|⟨hb,hx⟩
  ·refine zS 189 hb ?_
   subst hx
   exact zF
  refine zS 189 hb ?_
  subst hx
  exact zF
 refine zR 1 ?_
 refine Ku 4 197 ((b30&&(decide (r14.2.2=0)))&&(decide (r14.2.1.Kind=4))) (fun x hx=>?_) ?_
 ·rcases Vm hx with ⟨hb,hx⟩|⟨hb,hx⟩
  ·refine zS 193 hb ?_
   subst hx
   exact zF
  refine zS 193 hb ?_
  subst hx
  exact zF
 refine zE (Jb (Jq ?_))
 cases h
 exact zQ
/-! signallingref30.in -/
/-! signallingref30.Check -/
/-! signallingref11.long -/
/-! signallingref11.Stretch -/
/-! signallingref11.Check -/
end PM
