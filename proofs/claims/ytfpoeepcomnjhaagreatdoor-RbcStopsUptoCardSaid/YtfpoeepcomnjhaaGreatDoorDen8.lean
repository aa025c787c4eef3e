/-
 Plain functions for the program's functions, and the proofs that the program does them. Printed by den.py.
-/
import Derived.Test.YtfpoeepcomnjhaaGreatDoorDen7
namespace PM
open Go Go.RowKit Go.Proofs
attribute [local irreducible] Kp pwp
/-! signallinglaw47.sound -/
/-! signallingref47.Complete -/
noncomputable def Yx (a0:Jw):Option Bool :=
 some (decide (((a0.Tracks.length:Nat):Int)=((a0.Sessions.length:Nat):Int)))
theorem Nn (a0:Jw) (r:Bool) (h:Yx a0=some r):Kj Tryz.prog GlS 23 [Enc.pv a0] (Enc.pv r):=by
 unfold Yx at h
 refine zC Tryz.func23 Tryz.ntmps23 ?_
 refine Ja (Jd (zE (Jb (Ja (Jd (zR 2 ?_))))))
 refine zL (L:=(a0.Tracks:(List Jg))) ?_
 refine zR 2 ?_
 refine zL (L:=(a0.Sessions:(List Jk))) ?_
 refine zE (Jb (Jq ?_))
 cases h
 exact zQ
/-! signallingref40.copied -/
/-! signallingref40.Settle -/
/-! signallingref47.with -/
noncomputable def Df (a0:Jw) (a1:Int) (a2:Jg) (a3:Jk):Option Jw :=
 (Ut ([]:(List Jg)) a0.Tracks).bind fun x1 =>
 (Ut ([]:(List Jk)) a0.Sessions).bind fun x2 =>
 (Wn 0 (((x1:(List Jg)).map cellsOf).length) a1).bind fun j3 =>
 (Vq x1 (((x1:(List Jg)).map cellsOf).length) j3).bind fun x4 =>
 (Wn 0 (((x2:(List Jk)).map cellsOf).length) a1).bind fun j5 =>
 (Vq x2 (((x2:(List Jk)).map cellsOf).length) j5).bind fun x6 =>
 some (Jw.mk (x1.set j3 a2) (x2.set j5 a3))
theorem Ja5 (a0:Jw) (a1:Int) (a2:Jg) (a3:Jk) (r:Jw) (h:Df a0 a1 a2 a3=some r):Kj Tryz.prog GlS 47 [Enc.pv a0,Enc.pv a1,Enc.pv a2,Enc.pv a3] (Enc.pv r):=by
 unfold Df at h
 refine zC Tryz.func47 Tryz.ntmps47 ?_
 refine Ja (Jd (zE (Jb (Ja (Jd (zR 3 ?_))))))
 obtain ⟨x1,h1,h⟩:=Je h
 refine Jjx (tk:=14) (x:=.lst .full 14 192 []) h1 (.inr ⟨_,_,rfl⟩) (by kernel_rfl) (by kernel_rfl) ?_
 refine zE (Jb (Ja (Jd (zR 3 ?_))))
 obtain ⟨x2,h2,h⟩:=Je h
 refine Jjx (tk:=18) (x:=.lst .full 4 32 []) h2 (.inr ⟨_,_,rfl⟩) (by kernel_rfl) (by kernel_rfl) ?_
 refine zE (Jb (Ja (Jd (zR 3 ?_))))
 obtain ⟨j3,h3,h⟩:=Je h
 refine Uv (tk:=14) (k:=14) (N:=((x1:(List Jg)).map cellsOf).length) h3 (by kernel_rfl) ?_
 obtain ⟨x4,h4,h⟩:=Je h
 refine Ev (L:=(x1:(List Jg))) (tk:=14) (N:=((x1:(List Jg)).map cellsOf).length) (j:=j3) (y:=x4) (y':=a2) h4 0 14 [.int .i64 a2.Id,.int .i64 a2.Origin,.int .i64 a2.End,.int .i64 a2.At,Jn .frozen a2.Steps,Jn .frozen a2.Routes,Jn .frozen a2.Starts,Jn .frozen a2.Ends,Jn .frozen a2.Done,.int .i64 a2.Min,.int .i64 a2.Sent,.int .i64 a2.Accepted,.int .i64 a2.Cut,.int .i64 a2.CutSeq] (by kernel_rfl) (by kernel_rfl) ?_
 refine zN (Jb (Ja (Jd (zR 3 ?_))))
 obtain ⟨j5,h5,h⟩:=Je h
 refine Uv (tk:=18) (k:=4) (N:=((x2:(List Jk)).map cellsOf).length) h5 (by kernel_rfl) ?_
 obtain ⟨x6,h6,h⟩:=Je h
 refine Ev (L:=(x2:(List Jk))) (tk:=18) (N:=((x2:(List Jk)).map cellsOf).length) (j:=j5) (y:=x6) (y':=a3) h6 0 4 [.int .i64 a3.Peer,.int .i64 a3.Out,.int .i64 a3.In,.int .i64 a3.Heard] (by kernel_rfl) (by kernel_rfl) ?_
 refine zN (Jb (Ja (Jd (zE (Jb ?_)))))
 refine Ka (Bd (xss:=((x1.set j3 a2):(List Jg)).map cellsOf) 14 14 192 (((x1:(List Jg)).map cellsOf).length) [9,14,19,27] [(8,0)] (by kernel_rfl) (by kernel_rfl) (by kernel_rfl) (by kernel_rfl)) ?_
 refine Ka (Bd (xss:=((x2.set j5 a3):(List Jk)).map cellsOf) 18 4 32 (((x2:(List Jk)).map cellsOf).length) [10,18,23,28] [(8,1)] (by kernel_rfl) (by kernel_rfl) (by kernel_rfl) (by kernel_rfl)) ?_
 refine Jq ?_
 cases h
 exact zQ
/-! signallingref47.claimed -/
/-! signallingref47.next -/
/-! signallingref40.Has -/
/-! signallingref40.Extend -/
/-! signallingref47.extended -/
/-! signallingref47.Cut -/
/-! signallingref10.Valid -/
/-! signallingref10.Of -/
/-! signallingref43.Check -/
/-! signallingref43.Part -/
/-! signallingref10.Cut -/
/-! signallingref10.Cut -/
/-! signallingref10.Limit -/
/-! signallingref43.Apply -/
end PM
