/-
 Plain functions for the program's functions, and the proofs that the program does them. Printed by den.py.
-/
import Derived.Test.YtfpoeepcomnjhaaGreatDoorDen3
namespace PM
noncomputable section
open Go Go.RowKit Go.Proofs Go.Proofs.Tryz
attribute [local irreducible] Ju pwp
def Jgm(a0:Jw)(a1:Ko)(a2:(List Jd))(a3:Int):Int->Option (Int⊕(Unit⊕Int)):=fun x9=>
 bif decide (x9<((a0.Routes.length:Nat):Int)) then (
  onInl (α:=Unit) (β:=(Int⊕(Unit⊕Int))) (
   (ixO a0.Routes x9).bind fun x22=>
   bif decide (((a1.Routes.length:Nat):Int)<=x9) then (
    some (.inr (.inr (.inr (-1))))
   ) else (
    ((bif (!(decide (x22.Entry=a3))) then some true else (
     (ixO a1.Routes x9).bind fun x24=>
     some (!(decide (x24.State=2)))
    ))).bind fun b23=>
    bif b23 then (
     some (.inl ())
    ) else (
     (Ub a2 x9).bind fun r25=>
     bif (!r25) then (
      some (.inr (.inr (.inr x9)))
     ) else (
      some (.inl ())
     )
    )
   )
  ) fun _=>
  some (.inl (w64 (x9+1)))
 ) else (
  some (.inr (.inl ()))
 )
def Jel(a0:Jw)(a1:Ko)(a2:(List Jd))(a3:Int):Option Int :=
 onInl (Jq (Jgm a0 a1 a2 a3) 0) fun _=>
 some (-1)
instance Um(a0:Jw)(a1:Ko)(a2:(List Jd))(a3:Int):Cp (Jel a0 a1 a2 a3) 96 [Enc.pv a0,Enc.pv a1,Enc.pv a2,Enc.pv a3] Enc.pv:=⟨fun r h=>by
 unfold Jel at h;refine zG f96 ?_;refine w1 a0.Routes (el 2 s1) ?_;intro h;refine uN 45 0 [15] (fun s x9=>⟨(15,I6 x9)::gt s [2,3,5,13,14],gh s [5],[],[]⟩) h ?_ ?_
 ·intro x9 _ h;unfold Jgm at h;refine w1 n0 (ec .s .z) ?_;intro h;refine uJ 45 (fun s (_:Unit)=>⟨gt s [2,3,5,13,14,15],gh s [5],[],[]⟩) h ?_ ?_
  ·intro _ h;refine w1 a1.Routes (.i 1 (el 3 (ec z1 (.b 5 8 37 (.g 0 .z (.i 3 .z)) (ec .z .S))))) ?_;intro _ _ h;exact Qv (Jm (Kb (Jpy 9 [5,10] (cs:=[I6 x9]) (cs':=[I6 x9]) kr kr kr kr (w1 n0 (.p 2 (ee (.c z1 .z))) t0))))
  intro _ h;exact w1 n0 z1 t0
 intro _ s' h hs;exact w1 n0 z1 t0⟩
def Fe(a0:Jb)(c0:Jb):Option Bool :=
 some (decide (a0.El=c0.El))
instance (a0:Jb)(c0:Jb):Cp (Fe a0 c0) 235 [Enc.pv a0,.cptr (cellsOf c0)] Enc.pv:=⟨fun r h=>by
 unfold Fe at h;refine zG f235 ?_;exact w1 n0 z2 t0⟩
def Ds(a0:(List Jb))(a1_0:Jb):Int->Option (Int⊕(Unit⊕Int)):=fun x3=>
 bif decide (x3<((a0.length:Nat):Int)) then (
  (ixO a0 x3).bind fun x6=>
  (Fe x6 a1_0).bind fun r7=>
  bif r7 then (
   some (.inr (.inr x3))
  ) else (
   some (.inl (w64 (x3+1)))
  )
 ) else (
  some (.inr (.inl ()))
 )
def Qt(a0:(List Jb))(a1_0:Jb):Option Int :=
 onInl (Jq (Ds a0 a1_0) 0) fun _=>
 some (-1)
instance (a0:(List Jb))(a1_0:Jb):Cp (Qt a0 a1_0) 271 [Enc.pv a0,.fn 235 [.cptr (cellsOf a1_0)]] Enc.pv:=⟨fun r h=>by
 unfold Qt at h;refine zG f271 ?_;refine w1 a0 (el 1 s1) ?_;intro h;refine uN 19 0 [8] (fun s x3=>⟨(8,I6 x3)::gt s [0,1,7],[],[],[]⟩) h ?_ ?_
 ·intro x3 _ h;unfold Ds at h;exact w1 n0 (ec (ei 3 (.p 1 (ec z1 z1))) .z) t0
 intro _ s' h hs;exact w1 n0 z1 t0⟩
def Qi(a0:(List Jb))(a1_0:Jb):Option Bool :=
 (Qt a0 a1_0).bind fun r1=>
 some (decide (0<=r1))
instance (a0:(List Jb))(a1_0:Jb):Cp (Qi a0 a1_0) 234 [Enc.pv a0,.fn 235 [.cptr (cellsOf a1_0)]] Enc.pv:=⟨fun r h=>by
 unfold Qi at h;refine zG f234 ?_;exact w1 n0 (ep 2 z1) t0⟩
def Ml(a0:Jb)(c0:Jd):Option Bool :=
 (Qi c0.Steps a0).bind fun r1=>
 some r1
instance (a0:Jb)(c0:Jd):Cp (Ml a0 c0) 233 [Enc.pv a0,.cptr (cellsOf c0)] Enc.pv:=⟨fun r h=>by
 unfold Ml at h;refine zG f233 ?_;refine w1 n0 S1 ?_;intro h;refine Jm (Kb (Jpy 2 [] (cs:=cellsOf a0) (cs':=cellsOf a0) kr kr kr kr ?_));exact w1 n0 (.p 3 z1) t0⟩
def Vp(a0:(List Jb))(a1_0:Jd):Int->Option (Int⊕(Unit⊕Int)):=fun x3=>
 bif decide (x3<((a0.length:Nat):Int)) then (
  (ixO a0 x3).bind fun x6=>
  (Ml x6 a1_0).bind fun r7=>
  bif r7 then (
   some (.inr (.inr x3))
  ) else (
   some (.inl (w64 (x3+1)))
  )
 ) else (
  some (.inr (.inl ()))
 )
def Uc(a0:(List Jb))(a1_0:Jd):Option Int :=
 onInl (Jq (Vp a0 a1_0) 0) fun _=>
 some (-1)
instance (a0:(List Jb))(a1_0:Jd):Cp (Uc a0 a1_0) 271 [Enc.pv a0,.fn 233 [.cptr (cellsOf a1_0)]] Enc.pv:=⟨fun r h=>by
 unfold Uc at h;refine zG f271 ?_;refine w1 a0 (el 1 s1) ?_;intro h;refine uN 19 0 [8] (fun s x3=>⟨(8,I6 x3)::gt s [0,1,7],[],[],[]⟩) h ?_ ?_
 ·intro x3 _ h;unfold Vp at h;exact w1 n0 (ec (ei 3 (.p 1 (ec z1 z1))) .z) t0
 intro _ s' h hs;exact w1 n0 z1 t0⟩
def Qr(a0:(List Jb))(a1_0:Jd):Option Bool :=
 (Uc a0 a1_0).bind fun r1=>
 some (decide (0<=r1))
instance (a0:(List Jb))(a1_0:Jd):Cp (Qr a0 a1_0) 234 [Enc.pv a0,.fn 233 [.cptr (cellsOf a1_0)]] Enc.pv:=⟨fun r h=>by
 unfold Qr at h;refine zG f234 ?_;exact w1 n0 (ep 2 z1) t0⟩
def Sw(a0:Jw)(a1:Jd)(a2:Int):Option (Int⊕Ji) :=
 onInl (α:=Unit) (β:=(Int⊕Ji)) (
  ((bif decide (a2<0) then some true else (
   some (decide (((a0.Routes.length:Nat):Int)<=a2))
  ))).bind fun b2=>
  bif b2 then (
   some (.inr (.inl 1))
  ) else (
   some (.inl ())
  )
 ) fun _=>
 (ixO a0.Routes a2).bind fun x3=>
 onInl (α:=Unit) (β:=(Int⊕Ji)) (
  bif (!(decide (a1.CutSeq=0))) then (
   some (.inr (.inl 11))
  ) else (
   some (.inl ())
  )
 ) fun _=>
 onInl (α:=Unit) (β:=(Int⊕Ji)) (
  bif ((decide (a1.End=(-1)))||(!(decide (a1.End=x3.Entry)))) then (
   some (.inr (.inl 10))
  ) else (
   some (.inl ())
  )
 ) fun _=>
 onInl (α:=Unit) (β:=(Int⊕Ji)) (
  (Qr x3.Path a1).bind fun r7=>
  ((bif r7 then some true else (
   (Ud a1.Routes a2).bind fun r9=>
   some r9
  ))).bind fun b8=>
  bif b8 then (
   some (.inr (.inl 8))
  ) else (
   some (.inl ())
  )
 ) fun _=>
 onInl (α:=Unit) (β:=(Int⊕Ji)) (
  bif ((decide (64<(w64 (((a1.Steps.length:Nat):Int)+((x3.Path.length:Nat):Int)))))||(decide (1073741824<(w64 (a1.At+x3.Length))))) then (
   some (.inr (.inl 2))
  ) else (
   some (.inl ())
  )
 ) fun _=>
 some (.inr x3)
theorem Xk(a0:Jw)(a1:Jd)(a2:Int)(r:(Int⊕Ji))(h:Sw a0 a1 a2=some r):Jn5 prog GlS 170 [Enc.pv a0,Enc.pv a1,Enc.pv a2] (panR 218 (fun r=>Enc.pv r) r):=by
 unfold Sw at h;refine Jon func170 (by rfl) rfl ntmps170 (by rfl) rfl ?_;refine w1 n0 S1 ?_;intro h;refine Jm ?_;refine uJ 74 (fun _ (_:Unit)=>⟨[(2,I6 a2),(3,.ref 3 0),(4,.ref 4 0),(6,.ref 6 0)],[(3,.cells (cellsOf a0)),(4,.cells (cellsOf a1)),(6,.cells ([.str ByteArray.empty,I6 0,I6 0,.nil,.nil,.nil,I6 0,I6 0,.nil,.nil,.nil,.nil,.nil,.nil]))],[],[]⟩) h ?_ ?_
 ·intro _ h;refine w1 a0.Routes (.b 3 6 17 (.g 0 .z (.l 3 .z)) (ec .S .z)) ?_;intro _ h;refine Je1 (Rn 0 1 (w1 n0 S1 ?_));intro h;refine Jin (d:=19) (y:=(218,[(.i64,1)])) kr fun ch hpan=>?_;refine vJp h ?_;clear h;intro h;cases h;exact Jlt hpan
 intro _ h;refine w1 n0 (.i 3 S1) ?_;intro x3 h;refine Jm ?_;refine uJ 74 (fun _ (_:Unit)=>⟨[(2,I6 a2),(4,.ref 4 0),(6,.ref 6 0),(7,.ref 7 0)],[(4,.cells (cellsOf a1)),(6,.cells ([.str ByteArray.empty,I6 0,I6 0,.nil,.nil,.nil,I6 0,I6 0,.nil,.nil,.nil,.nil,.nil,.nil])),(7,.cells (cellsOf x3))],[],[]⟩) h ?_ ?_
 ·intro _ h;refine w1 n0 (ec .S .z) ?_;intro h;refine Je1 (Rn 0 1 (w1 n0 S1 ?_));intro h;refine Jin (d:=29) (y:=(218,[(.i64,11)])) kr fun ch hpan=>?_;refine vJp h ?_;clear h;intro h;cases h;exact Jlt hpan
 intro _ h;refine uJ 74 (fun _ (_:Unit)=>⟨[(2,I6 a2),(4,.ref 4 0),(6,.ref 6 0),(7,.ref 7 0)],[(4,.cells (cellsOf a1)),(6,.cells ([.str ByteArray.empty,I6 0,I6 0,.nil,.nil,.nil,I6 0,I6 0,.nil,.nil,.nil,.nil,.nil,.nil])),(7,.cells (cellsOf x3))],[],[]⟩) h ?_ ?_
 ·intro _ h;refine w1 n0 (.o 4 6 39 0 (ec .S .z)) ?_;intro h;refine Je1 (Rn 0 1 (w1 n0 S1 ?_));intro h;refine Jin (d:=41) (y:=(218,[(.i64,10)])) kr fun ch hpan=>?_;refine vJp h ?_;clear h;intro h;cases h;exact Jlt hpan
 intro _ h;refine w1 n0 S1 ?_;intro h;refine Jm ?_;refine uJ 74 (fun _ (_:Unit)=>⟨[(4,.cptr (cellsOf a1)),(6,.ref 6 0),(7,.ref 7 0)],[(6,.cells ([.str ByteArray.empty,I6 0,I6 0,.nil,.nil,.nil,I6 0,I6 0,.nil,.nil,.nil,.nil,.nil,.nil])),(7,.cells (cellsOf x3))],[],[]⟩) h ?_ ?_
 ·intro _ h;refine Kb (Jpy 4 [6,7] (cs:=cellsOf a1) (cs':=cellsOf a1) kr kr kr kr (w1 n0 (.p 3 (.b 1 5 52 (.g 0 .z (.p 3 .z)) (ec .S .z))) ?_));intro _ _ h;refine Je1 (Rn 0 1 (w1 n0 S1 ?_));intro h;refine Jin (d:=54) (y:=(218,[(.i64,8)])) kr fun ch hpan=>?_;refine vJp h ?_;clear h;intro h;cases h;exact Jlt hpan
 intro _ h;refine uJ 74 (fun _ (_:Unit)=>⟨[(6,.ref 6 0),(7,.ref 7 0)],[(6,.cells ([.str ByteArray.empty,I6 0,I6 0,.nil,.nil,.nil,I6 0,I6 0,.nil,.nil,.nil,.nil,.nil,.nil])),(7,.cells (cellsOf x3))],[],[]⟩) h ?_ ?_
 ·intro _ h;refine w1 a1.Steps (.l 2 .s) ?_;intro h;refine yl 2 x3.Path (w1 n0 (.o 3 7 70 0 (ec .S .z)) ?_);intro h;refine Je1 (Rn 0 1 (w1 n0 S1 ?_));intro h;refine Jin (d:=72) (y:=(218,[(.i64,2)])) kr fun ch hpan=>?_;refine vJp h ?_;clear h;intro h;cases h;exact Jlt hpan
 intro _ h;refine w1 n0 s1 ?_;intro h;cases h;exact ⟨_,rfl,Jvw kr kr kr⟩
def Jax(a0:Ja)(a1:Ji)(x1:Int):(Int×Int)->Option ((Int×Int)⊕(Int⊕Int)):=fun (x9,x10)=>
 bif decide (x10<((a1.Path.length:Nat):Int)) then (
  onInl (α:=Int) (β:=((Int×Int)⊕(Int⊕Int))) (
   (ixO a1.Path x10).bind fun x23=>
   (De a0 x23.El).bind fun r24=>
   bif decide (r24=x1) then (
    (Va a0 x23).bind fun r25=>
    some (.inl (w64 (x9+r25)))
   ) else (
    some (.inl x9)
   )
  ) fun x22=>
  some (.inl (x22,w64 (x10+1)))
 ) else (
  some (.inr (.inl x9))
 )
def Sv(a0:Ja)(a1:Ji):Option Int :=
 bif decide (((a1.Sections.length:Nat):Int)=0) then (
  some 0
 ) else (
  (ixO a1.Sections (w64 (((a1.Sections.length:Nat):Int) - 1))).bind fun x1=>
  onInl (Jq (Jax a0 a1 x1) (0,0)) fun x18=>
  some x18
 )
instance (a0:Ja)(a1:Ji):Cp (Sv a0 a1) 171 [Enc.pv a0,Enc.pv a1] Enc.pv:=⟨fun r h=>by
 unfold Sv at h;refine zG f171 ?_;refine w1 a1.Sections (el 2 (ec z1 (.l 4 (.i 1 s2)))) ?_;intro _ h;refine yl 2 a1.Path (w1 n0 s1 ?_);intro h;refine uL 41 0 (fun s (x9,x10)=>⟨(6,I6 x9)::(24,I6 x10)::gt s [2,5,22,23],gh s [2],[],[]⟩) (fun _ x18=>⟨[(6,I6 x18)],[],[],[]⟩) h ?_ ?_
 ·rintro ⟨x9,x10⟩ _ h;unfold Jax at h;refine w1 n0 (ec .s .z) ?_;intro h;refine uJ 41 (fun s x22=>⟨(6,I6 x22)::gt s [2,5,22,23,24],gh s [2],[],[]⟩) h ?_ ?_
  ·intro _ h;exact w1 n0 (.i 0 (ep 3 (ec (.p 3 z1) .z))) t0
  intro x22 h;exact w1 n0 z1 t0
 intro x18 s' h hs;exact w1 n0 z1 t0⟩
def Ta(a0:Ja)(a1:Jw)(a2:Jd)(a3:Int):Option (Jd×Int) :=
 Kam (Sw a1 a2 a3) (fun e2=>
  some ((Jd.mk 0 0 0 0 [] [] [] [] [] 0 0 0 0 0),e2)
 ) fun r1=>
 Option.bind (α:=((List Jb)×(List Int)×(List Int)×(List Int)×(List Int))) (
  (Kl a2.Steps).bind fun r13=>
  (Jt a2.Routes).bind fun r14=>
  (Jt a2.Starts).bind fun r15=>
  (Jt a2.Ends).bind fun r16=>
  (Jt a2.Done).bind fun r17=>
  some (r13,r14,r15,r16,r17)
 ) fun (x8,x9,x10,x11,x12)=>
 (Qd x8 r1.Path).bind fun x18=>
 (Qd x9 [a3]).bind fun x19=>
 (Sv a0 r1).bind fun r20=>
 (Qd x10 [w64 ((w64 (a2.At+r1.Length)) - r20)]).bind fun x21=>
 (Qd x11 [w64 (a2.At+r1.Length)]).bind fun x22=>
 some ((Jd.mk a2.Id a2.Origin r1.Exit (w64 (a2.At+r1.Length)) x18 x19 x21 x22 x12 a2.Min a2.Sent a2.Accepted a2.Cut a2.CutSeq),0)
set_option maxRecDepth 100000 in
instance (a0:Ja)(a1:Jw)(a2:Jd)(a3:Int):Cp (Ta a0 a1 a2 a3) 97 [Enc.pv a0,Enc.pv a1,Enc.pv a2,Enc.pv a3] (fun r=>.tup [Enc.pv r.1,Enc.pv r.2]):=⟨fun r h=>by
 unfold Ta at h;refine Joc func97 (by rfl) rfl ntmps97 (by rfl) rfl ?_;refine Jil (Vn (w1 n0 S1 ?_));intro h;refine Jle ?_;refine Jha 1 169 [.ref 8 0,.ref 9 0] (by rfl) ?_;refine w1 n0 S1 ?_;intro h;refine ⟨by kernel_rfl,by kernel_rfl,by kernel_rfl, ?_⟩;refine Kb (Je1 (Rn 0 3 (w1 n0 S1 ?_)));intro h;rcases Kep h with ⟨e2,h1,h⟩|⟨r1,h1,h⟩
 ·refine Jzk (Xk _ _ _ (.inl e2) h1) kr fun ch hpan=>?_;refine Ji4 ?_;refine Kem hpan (Jwo (x:=some (218,[(.i64,e2)])) (caps:=[.ref 8 0,.ref 9 0]) kr func169 (by rfl) rfl ntmps169 (by rfl) ?_);refine Jso ((Jct 1 kr).trans (.of (j:=⟨[(0,.ref 1008 0),(1,.ref 1009 0),(25,.ref 1008 0),(26,.ref 1009 0),(75,.fn 169 [.ref 1008 0,.ref 1009 0])],[(1008,.cells ([I6 0,I6 0,I6 0,I6 0,.nil,.nil,.nil,.nil,.nil,I6 0,I6 0,I6 0,I6 0,I6 0])),(1009,.cells ([I6 0]))],[],[]⟩) (n:=5900076) kr kr)) (Jml ⟨rfl,rfl,rfl,rfl,fun _ _=>rfl,fun _ _=>rfl⟩ kr (Kb (Vn (zR 1 (Kda (t:=20) (b:=true) kr kr (w1 n0 S1 ?_))))));intro h;refine Jm (Jad (b:=true) rfl kr (w1 n0 s1 ?_));intro h;refine zR 1 (Kgk (cs:=[(.i64,e2)]) kr (w1 n0 S2 ?_));intro h;refine Jm (Jad (b:=true) rfl kr (w1 n0 s1 ?_));intro h;cases h;exact Jgs kr kr kr
 refine Kbc (Xk _ _ _ (.inr r1) h1) kr kr (Rn 4 2 (w1 n0 S1 ?_));intro h;refine Jwh (Jm (Kb (Jaj (Bx 0 1 (w1 n0 S1 ?_)))));intro h;refine Vm 3 ⟨[(3,I6 a3),(4,.ref 3004 0),(8,.ref 3008 0),(9,.ref 3009 0),(10,.ref 3010 0),(16,Enc.pv a2),(58,.fn 169 [.ref 3008 0,.ref 3009 0])],[(3004,.cells (cellsOf a0)),(3008,.cells ([I6 0,I6 0,I6 0,I6 0,.nil,.nil,.nil,.nil,.nil,I6 0,I6 0,I6 0,I6 0,I6 0])),(3009,.cells ([I6 0])),(3010,.cells (cellsOf r1))],[],[]⟩ 100059 kr kr kr ?_;obtain ⟨o7,h7,h⟩:=Qp h;refine Jfa (f:=93) (asx:=[Enc.pv a2]) kr func93 (by rfl) rfl ntmps93 (by rfl) ?_;refine Og o7 5900083 (fun (x8,x9,x10,x11,x12)=>⟨[(2,.ref 2 0),(27,I6 a3),(28,.ref 3004 0),(32,.ref 3008 0),(33,.ref 3009 0),(34,.ref 3010 0),(82,.fn 169 [.ref 3008 0,.ref 3009 0])],[(2,.cells ([I6 a2.Id,I6 a2.Origin,I6 a2.End,I6 a2.At,Jg (.own 5007) x8,Jg (.own 9007) x9,Jg (.own 13007) x10,Jg (.own 17007) x11,Jg (.own 21007) x12,I6 a2.Min,I6 a2.Sent,I6 a2.Accepted,I6 a2.Cut,I6 a2.CutSeq])),(3004,.cells (cellsOf a0)),(3008,.cells ([I6 0,I6 0,I6 0,I6 0,.nil,.nil,.nil,.nil,.nil,I6 0,I6 0,I6 0,I6 0,I6 0])),(3009,.cells ([I6 0])),(3010,.cells (cellsOf r1))],[(5007,(((x8).map cellsOf).length,3)),(9007,(((x9).map cellsOf).length,1)),(13007,(((x10).map cellsOf).length,1)),(17007,(((x11).map cellsOf).length,1)),(21007,(((x12).map cellsOf).length,1))],[]⟩) ?_ ?_
 ·have h:=h7;refine w1 n0 (ep 2 (ep 2 (ep 2 (ep 2 (ep 2 s2))))) ?_;intro _ _ _ _ _ h;cases h;exact Jkw kr kr
 obtain ⟨x8,x9,x10,x11,x12⟩:=o7;refine Jfe (r:=.agg [I6 a2.Id,I6 a2.Origin,I6 a2.End,I6 a2.At,Jg (.own 5007) x8,Jg (.own 9007) x9,Jg (.own 13007) x10,Jg (.own 17007) x11,Jg (.own 21007) x12,I6 a2.Min,I6 a2.Sent,I6 a2.Accepted,I6 a2.Cut,I6 a2.CutSeq]) kr (Vm 4 ⟨[(3,I6 a3),(4,.ref 3004 0),(8,.ref 3008 0),(9,.ref 3009 0),(10,.ref 3010 0),(17,.agg [I6 a2.Id,I6 a2.Origin,I6 a2.End,I6 a2.At,Jg (.own 4005007) x8,Jg (.own 4009007) x9,Jg (.own 4013007) x10,Jg (.own 4017007) x11,Jg (.own 4021007) x12,I6 a2.Min,I6 a2.Sent,I6 a2.Accepted,I6 a2.Cut,I6 a2.CutSeq]),(58,.fn 169 [.ref 3008 0,.ref 3009 0])],[(3004,.cells (cellsOf a0)),(3008,.cells ([I6 0,I6 0,I6 0,I6 0,.nil,.nil,.nil,.nil,.nil,I6 0,I6 0,I6 0,I6 0,I6 0])),(3009,.cells ([I6 0])),(3010,.cells (cellsOf r1))],[(4005007,(((x8).map cellsOf).length,3)),(4009007,(((x9).map cellsOf).length,1)),(4013007,(((x10).map cellsOf).length,1)),(4017007,(((x11).map cellsOf).length,1)),(4021007,(((x12).map cellsOf).length,1))],[]⟩ 100059 kr kr kr ?_);refine Vm 3 ⟨[(3,I6 a3),(4,.ref 4 0),(8,.ref 8 0),(9,.ref 9 0),(10,.ref 10 0),(17,.agg [I6 a2.Id,I6 a2.Origin,I6 a2.End,I6 a2.At,Jg (.own 4005007) x8,Jg (.own 4009007) x9,Jg (.own 4013007) x10,Jg (.own 4017007) x11,Jg (.own 4021007) x12,I6 a2.Min,I6 a2.Sent,I6 a2.Accepted,I6 a2.Cut,I6 a2.CutSeq]),(58,.fn 169 [.ref 8 0,.ref 9 0])],[(4,.cells (cellsOf a0)),(8,.cells ([I6 0,I6 0,I6 0,I6 0,.nil,.nil,.nil,.nil,.nil,I6 0,I6 0,I6 0,I6 0,I6 0])),(9,.cells ([I6 0])),(10,.cells (cellsOf r1))],[(4005007,(((x8).map cellsOf).length,3)),(4009007,(((x9).map cellsOf).length,1)),(4013007,(((x10).map cellsOf).length,1)),(4017007,(((x11).map cellsOf).length,1)),(4021007,(((x12).map cellsOf).length,1))],[]⟩ 100059 kr kr kr (Bx 2 1 (w1 n0 S1 ?_));intro h;refine Jac (Jm (Kb (Vn (w1 n0 (ee (.w 4 (ew 4 (ep 6 (.w 2 (ew 5 S2)))))) ?_))));intro x18 x19 _ x21 x22 h;refine Jm (Vw ?_);refine Ke4 (Jwo (x:=none) (caps:=[.ref 8 0,.ref 9 0]) kr func169 (by rfl) rfl ntmps169 (by rfl) ?_);refine Jso ((Jct 5 kr).trans (.of (j:=⟨[(0,.ref 5008 0),(1,.ref 5009 0),(25,.ref 5008 0),(26,.ref 5009 0),(75,.fn 169 [.ref 5008 0,.ref 5009 0])],[(5008,.cells ([I6 a2.Id,I6 a2.Origin,I6 r1.Exit,I6 (w64 (a2.At+r1.Length)),Jg (.own 4005007) x18,Jg (.own 4009007) x19,Jg (.own 4013007) x21,Jg (.own 4017007) x22,Jg (.own 4021007) x12,I6 a2.Min,I6 a2.Sent,I6 a2.Accepted,I6 a2.Cut,I6 a2.CutSeq])),(5009,.cells ([I6 0]))],[(4005007,(((x18).map cellsOf).length,3)),(4009007,(((x19).map cellsOf).length,1)),(4013007,(((x21).map cellsOf).length,1)),(4017007,(((x22).map cellsOf).length,1)),(4021007,(((x12).map cellsOf).length,1))],[]⟩) (n:=5900076) kr kr)) (Jml ⟨rfl,rfl,rfl,rfl,fun _ _=>rfl,fun _ _=>rfl⟩ kr (Kb (Vn (zR 1 (Kda (t:=20) (b:=false) kr kr (w1 n0 S1 ?_))))));intro h;refine Jm (Jap (b:=false) rfl kr (Qv ?_));cases h;exact Jgs kr kr kr⟩
def Me(a0:Int)(c0:Jd):Option Bool :=
 some (decide (c0.Cut<a0))
instance (a0:Int)(c0:Jd):Cp (Me a0 c0) 173 [Enc.pv a0,.cptr (cellsOf c0)] Enc.pv:=⟨fun r h=>by
 unfold Me at h;refine zG f173 ?_;exact w1 n0 z2 t0⟩
def Wm(a0:(List Int))(a1_0:Jd):Int->Option (Int⊕(Unit⊕Int)):=fun x3=>
 bif decide (x3<((a0.length:Nat):Int)) then (
  (ixO a0 x3).bind fun x6=>
  (Me x6 a1_0).bind fun r7=>
  bif r7 then (
   some (.inr (.inr x3))
  ) else (
   some (.inl (w64 (x3+1)))
  )
 ) else (
  some (.inr (.inl ()))
 )
def Uv(a0:(List Int))(a1_0:Jd):Option Int :=
 onInl (Jq (Wm a0 a1_0) 0) fun _=>
 some (-1)
instance (a0:(List Int))(a1_0:Jd):Cp (Uv a0 a1_0) 166 [Enc.pv a0,.fn 173 [.cptr (cellsOf a1_0)]] Enc.pv:=⟨fun r h=>by
 unfold Uv at h;refine zG f166 ?_;refine w1 a0 (el 1 s1) ?_;intro h;refine uN 19 0 [8] (fun s x3=>⟨(8,I6 x3)::gt s [0,1,7],[],[],[]⟩) h ?_ ?_
 ·intro x3 _ h;unfold Wm at h;exact w1 n0 (ec (ei 3 (.p 1 (ec z1 z1))) .z) t0
 intro _ s' h hs;exact w1 n0 z1 t0⟩
def Ui(a0:(List Int))(a1_0:Jd):Option Bool :=
 (Uv a0 a1_0).bind fun r1=>
 some (decide (0<=r1))
instance Cs(a0:(List Int))(a1_0:Jd):Cp (Ui a0 a1_0) 172 [Enc.pv a0,.fn 173 [.cptr (cellsOf a1_0)]] Enc.pv:=⟨fun r h=>by
 unfold Ui at h;refine zG f172 ?_;exact w1 n0 (ep 2 z1) t0⟩
def Ja1(a0:Ja)(a1:Jd):(Int×Int×(List Jb))->Option ((Int×Int×(List Jb))⊕((List Jb)⊕Jd)):=fun (x32,x33,x34)=>
 bif decide (x33<((a1.Steps.length:Nat):Int)) then (
  onInl (α:=((List Jb)×Int)) (β:=((Int×Int×(List Jb))⊕((List Jb)⊕Jd))) (
   (ixO a1.Steps x33).bind fun x58=>
   onInl (α:=(List Jb)) (β:=(((List Jb)×Int)⊕((Int×Int×(List Jb))⊕((List Jb)⊕Jd)))) (
    bif decide (x32<a1.Cut) then (
     (Qd x34 [x58]).bind fun x61=>
     some (.inl x61)
    ) else (
     some (.inl x34)
    )
   ) fun x60=>
   ((bif decide (0<=x58.El) then (
    some (decide (x58.El<((a0.Elements.length:Nat):Int)))
   ) else some false)).bind fun b62=>
   bif b62 then (
    (ixO a0.Elements x58.El).bind fun x63=>
    some (.inl (x60,w64 (x32+x63.Length)))
   ) else (
    some (.inl (x60,x32))
   )
  ) fun (x56,x57)=>
  some (.inl (x57,w64 (x33+1),x56))
 ) else (
  some (.inr (.inl x34))
 )
def Sr(a0:Ja)(a1:Jd):Option Jd :=
 (Ui a1.Ends a1).bind fun r1=>
 bif (!r1) then (
  some a1
 ) else (
  onInl (Jq (Ja1 a0 a1) (a1.Origin,0,[])) fun x49=>
  some (Jd.mk a1.Id a1.Origin a1.End a1.Cut x49 a1.Routes a1.Starts a1.Ends a1.Done a1.Min a1.Sent a1.Accepted a1.Cut a1.CutSeq)
 )
instance (a0:Ja)(a1:Jd):Cp (Sr a0 a1) 98 [Enc.pv a0,Enc.pv a1] Enc.pv:=⟨fun r h=>by
 unfold Sr at h;refine zG f98 ?_;refine w1 n0 X1 ?_;intro r1 h1 h;refine zR 3 (Kco [] ((Cs _ _).ok r1 h1) kr kr kr (w1 a1.Steps (ee (.c z1 (ee (.l 2 S1)))) ?_));intro h;refine Jm (Kk (Wh 6 100006 3 24 kr kr ?_));refine uL 61 0 (fun s (x32,x33,x34)=>⟨(6,Jg (.own 100006) x34)::(7,I6 x32)::(22,I6 x33)::gt s [2,3,4,20,21],gh s [2,3,4],[(100006,(((x34).map cellsOf).length,3))],[]⟩) (fun s x49=>⟨(6,Jg (.own 100006) x49)::gt s [3,4],gh s [3,4],[(100006,(((x49).map cellsOf).length,3))],[]⟩) h ?_ ?_
 ·rintro ⟨x32,x33,x34⟩ _ h;unfold Ja1 at h;refine w1 n0 (ec .s .z) ?_;intro h;refine uJ 61 (fun s (x56,x57)=>⟨(6,Jg (.own 100006) x56)::(7,I6 x57)::gt s [2,3,4,20,21,22],gh s [2,3,4],[(100006,(((x56).map cellsOf).length,3))],[]⟩) h ?_ ?_
  ·intro _ h;refine w1 n0 (.i 0 S1) ?_;intro _ h;refine Jm ?_;refine uJ 61 (fun s x60=>⟨(6,Jg (.own 100006) x60)::gt s [2,3,4,7,9,20,21,22],gh s [2,3,4,9],[(100006,(((x60).map cellsOf).length,3))],[]⟩) h ?_ ?_
   ·intro _ h;exact w1 n0 (ec (.w 3 z1) .z) t0
   intro x60 h;exact w1 a0.Elements (.b 4 7 44 (.g 0 (.l 4 .z) .z) (ec (.i 5 z1) .z)) t0
  rintro ⟨x56,x57⟩ h;exact w1 n0 z1 t0
 intro x49 s' h hs;exact w1 n0 (ee z1) t0⟩
def Yj(a0:Int):Option Bool :=
 some ((decide ((-1073741824)<=a0))&&(decide (a0<=1073741824)))
instance (a0:Int):Cp (Yj a0) 242 [Enc.pv a0] Enc.pv:=⟨fun r h=>by
 unfold Yj at h;refine zG f242 ?_;exact w1 n0 (.e (.o 3 3 8 0 z1)) t0⟩
def Mf(a0:Kg)(a1:Jb):Option Int :=
 bif ((decide (a1.In=0))||((decide (a1.In=2))&&(decide (a0.Kind=3)))) then (
  some a0.Grade
 ) else (
  some (w64 (0 - a0.Grade))
 )
instance (a0:Kg)(a1:Jb):Cp (Mf a0 a1) 243 [Enc.pv a0,Enc.pv a1] Enc.pv:=⟨fun r h=>by
 unfold Mf at h;refine zG f243 ?_;exact w1 n0 (.e (.o 4 9 17 0 (ec z1 z1))) t0⟩
def Tf(a0:Kg)(a1:Jb):Option Int :=
 bif ((decide (a0.Kind=2))&&((decide (a1.In=2))||(decide (a1.Out=2)))) then (
  some a0.Slow
 ) else (
  some a0.Speed
 )
instance (a0:Kg)(a1:Jb):Cp (Tf a0 a1) 244 [Enc.pv a0,Enc.pv a1] Enc.pv:=⟨fun r h=>by
 unfold Tf at h;refine zG f244 ?_;exact w1 n0 (.e (.o 4 9 17 0 (ec z1 z1))) t0⟩
def Jbl(a0:(List Jh)):Int->Option (Int⊕(Unit⊕Bool)):=fun x7=>
 bif decide (x7<((a0.length:Nat):Int)) then (
  (ixO a0 x7).bind fun x14=>
  (Yj x14.From).bind fun r15=>
  ((bif (!r15) then some true else (
   (Yj x14.To).bind fun r17=>
   some (!r17)
  ))).bind fun b16=>
  bif (((((b16||(decide (x14.To<=x14.From)))||(decide (x14.Grade<(-50))))||(decide (50<x14.Grade)))||(decide (x14.Speed<1)))||(decide (10000<x14.Speed))) then (
   some (.inr (.inr false))
  ) else (
   ((bif decide (0<x7) then (
    (ixO a0 (w64 (x7 - 1))).bind fun x19=>
    some (!(decide (x14.From=x19.To)))
   ) else some false)).bind fun b18=>
   bif b18 then (
    some (.inr (.inr false))
   ) else (
    some (.inl (w64 (x7+1)))
   )
  )
 ) else (
  some (.inr (.inl ()))
 )
def Ww(a0:(List Jh)):Option Bool :=
 bif decide (128<((a0.length:Nat):Int)) then (
  some false
 ) else (
  onInl (Jq (Jbl a0) 0) fun _=>
  some true
 )
instance (a0:(List Jh)):Cp (Ww a0) 188 [Enc.pv a0] Enc.pv:=⟨fun r h=>by
 unfold Ww at h;refine zG f188 ?_;refine w1 a0 (el 1 (ec z1 (.l 1 s1))) ?_;intro h;refine uN 66 0 [10] (fun s x7=>⟨(10,I6 x7)::gt s [0,8,9],[],[],[]⟩) h ?_ ?_
 ·intro x7 _ h;unfold Jbl at h;exact w1 n0 (ec (.i 1 (ep 2 (.b 2 5 24 (.g 0 .z (.p 2 .z)) (.o 1 6 31 4 (.o 1 4 36 3 (.o 1 4 41 2 (.o 1 4 46 1 (.o 1 4 51 0 (ec z1 (.b 3 10 64 (.g 0 (.i 5 .z) .z) (ec z1 z1))))))))))) .z) t0
 intro _ s' h hs;exact w1 n0 z1 t0⟩
def Jfg(a0:Ja)(a1:(List Jb)):(Int×Int×(List Jh))->Option ((Int×Int×(List Jh))⊕((List Jh)⊕(List Jh))):=fun (x21,x22,x23)=>
 bif decide (x22<((a1.length:Nat):Int)) then (
  (ixO a1 x22).bind fun x34=>
  ((bif decide (x34.El<0) then some true else (
   some (decide (((a0.Elements.length:Nat):Int)<=x34.El))
  ))).bind fun b35=>
  bif b35 then (
   some (.inr (.inr ([]:(List Jh))))
  ) else (
   (ixO a0.Elements x34.El).bind fun x36=>
   (Jbc x36.Kind x34.In x34.Out).bind fun r37=>
   ((bif (!r37.2) then some true else (
    (Yj x21).bind fun r39=>
    some (!r39)
   ))).bind fun b38=>
   bif b38 then (
    some (.inr (.inr ([]:(List Jh))))
   ) else (
    (Mf x36 x34).bind fun r40=>
    (Tf x36 x34).bind fun r41=>
    (Qd x23 [(Jh.mk x21 (w64 (x21+x36.Length)) r40 r41)]).bind fun x42=>
    some (.inl (w64 (x21+x36.Length),w64 (x22+1),x42))
   )
  )
 ) else (
  some (.inr (.inl x23))
 )
def Jco(a0:Ja)(a1:(List Jb))(a2:Int):Option (List Jh) :=
 bif decide (128<((a1.length:Nat):Int)) then (
  some ([]:(List Jh))
 ) else (
  onInl (Jq (Jfg a0 a1) (a2,0,[])) fun x33=>
  (Ww x33).bind fun r43=>
  bif (!r43) then (
   some ([]:(List Jh))
  ) else (
   some x33
  )
 )
instance (a0:Ja)(a1:(List Jb))(a2:Int):Cp (Jco a0 a1 a2) 177 [Enc.pv a0,Enc.pv a1,Enc.pv a2] Enc.pv:=⟨fun r h=>by
 unfold Jco at h;refine zG f177 ?_;refine w1 a1 (el 1 (ec z1 (ee (.l 1 S1)))) ?_;intro h;refine Jm (Kk (Wh 7 100007 4 32 kr kr ?_));refine uL 81 0 (fun s (x21,x22,x23)=>⟨(7,Jg (.own 100007) x23)::(8,I6 x21)::(21,I6 x22)::gt s [3,19,20],gh s [3],[(100007,(((x23).map cellsOf).length,4))],[]⟩) (fun _ x33=>⟨[(7,Jg (.own 100007) x33)],[],[(100007,(((x33).map cellsOf).length,4))],[]⟩) h ?_ ?_
 ·rintro ⟨x21,x22,x23⟩ _ h;unfold Jfg at h;exact w1 a0.Elements (ec (.i 0 (.e (.b 4 7 35 (.g 0 .z (.l 4 .z)) (ec z1 (.i 4 (ep 6 (.e (.b 3 4 58 (.g 0 .z (.p 1 .z)) (ec z1 (ep 5 (.p 2 (.w 2 (ee z1))))))))))))) .z) t0
 intro x33 s' h hs;exact w1 n0 (.p 1 (ec z1 z1)) t0⟩
def Bf(a0:(List Jh)):Option (List Jh) :=
 (Qd ([]:(List Jh)) a0).bind fun x1=>
 some x1
instance (a0:(List Jh)):Cp (Bf a0) 238 [Enc.pv a0] (fun r=>Jg (.own 7) r):=⟨fun r h=>by
 unfold Bf at h;refine zG f238 ?_;refine w1 n0 S2 ?_;intro h;refine Jm ?_;refine Tw (e:=(a0.map cellsOf).isEmpty) kr (fun hub=>?_) ?_
 ·have hN:=Xb (Ji7 hub) h;refine w1 n0 S1 ?_;intro h;refine Jm (Wh 2 7 4 32 kr kr (Vw (Yw ?_)));cases hN;exact zQ
 obtain ⟨x1,h1,h⟩:=Qp h;refine Qv (Jm (Kb (Vn (zR 2 (Md (tk:=7) h1 kr ?_)))));exact w1 n0 z1 t0⟩
def Ie(a0:Ja)(a1:Jy):Option Int :=
 ((bif (((decide (a1.Id<1))||(decide (1073741824<a1.Id)))||(decide (a1.El<0))) then some true else (
  some (decide (((a0.Elements.length:Nat):Int)<=a1.El))
 ))).bind fun b1=>
 bif b1 then (
  some 1
 ) else (
  ((bif ((decide (a1.From<0))||(decide (a1.To<=a1.From))) then some true else (
   (ixO a0.Elements a1.El).bind fun x3=>
   some (decide (x3.Length<a1.To))
  ))).bind fun b2=>
  bif ((b2||(decide (a1.Speed<100)))||(decide (10000<a1.Speed))) then (
   some 1
  ) else (
   some 0
  )
 )
instance (a0:Ja)(a1:Jy):Cp (Ie a0 a1) 239 [Enc.pv a0,Enc.pv a1] Enc.pv:=⟨fun r h=>by
 unfold Ie at h;refine zG f239 ?_;exact w1 a0.Elements (.e (.o 4 4 12 1 (.o 1 4 17 0 (.b 1 7 25 (.g 0 .z (.l 4 .z)) (ec z1 (.o 4 6 35 0 (.b 1 11 47 (.g 0 .z (.i 6 .z)) (.o 1 4 52 1 (.o 1 4 57 0 (ec z1 z1)))))))))) t0⟩
def Cz(a0:Dp)(a1:Jh):Option (Jh×Bool) :=
 some ((Jh.mk (max a1.From a0.from_) (min a1.To a0.to_) a1.Grade a1.Speed),decide ((max a1.From a0.from_)<(min a1.To a0.to_)))
instance (a0:Dp)(a1:Jh):Cp (Cz a0 a1) 245 [Enc.pv a0,Enc.pv a1] (fun r=>.tup [Enc.pv r.1,Enc.pv r.2]):=⟨fun r h=>by
 unfold Cz at h;refine zG f245 ?_;refine w1 n0 S1 ?_;intro h;refine Jm (Kb ?_);refine Jjg 24 ⟨[(3,.ref 3 0),(4,.ref 4 0)],[(3,.cells ([I6 (max a1.From a0.from_),I6 (min a1.To a0.to_),I6 a1.Grade,I6 a1.Speed])),(4,.cells ([I6 0,I6 0,I6 0,I6 0]))],[],[]⟩ kr ?_ ?_
 ·refine Yp [0,1,2,3,4,5,6,7,10] 5 kr (zR 9 (Kf kr ?_));refine Lu (n:=4) [8,11] kr ⟨?_, ?_,trivial⟩
  ·exact ⟨_,rfl,(zR 1 (Kf kr (Yp [9,11,12,13] 0 kr (zR 4 (Kf kr (Za kr (.of kr kr)))))))⟩
  exact ⟨_,rfl,(zR 1 (Kf kr (Yp [8,9,12,13] 0 kr (zR 4 (Kf kr (Za kr (.of kr kr)))))))⟩
 refine Jm (Kb ?_);refine Jjg 24 ⟨[(4,.ref 4 0),(5,.bool (decide ((max a1.From a0.from_)<(min a1.To a0.to_))))],[(4,.cells ([I6 (max a1.From a0.from_),I6 (min a1.To a0.to_),I6 a1.Grade,I6 a1.Speed]))],[],[]⟩ kr ?_ ?_
 ·refine Yp [0,1,3] 5 kr (zR 3 (Kf kr ?_));refine Lu (n:=4) [2,4,6] kr ⟨?_, ?_, ?_,trivial⟩
  ·refine ⟨_,rfl,(zR 1 (Kf kr ?_))⟩;refine Lu (n:=3) [4,6] kr ⟨?_, ?_,trivial⟩
   ·exact ⟨_,rfl,(zR 1 (Kf kr (Yp [5,6,7] 0 kr (zR 3 (Kf kr (Za kr (.of kr kr)))))))⟩
   exact ⟨_,rfl,(zR 1 (Kf kr (Yp [4,5,7] 0 kr (zR 3 (Kf kr (Za kr (.of kr kr)))))))⟩
  ·refine ⟨_,rfl,(zR 1 (Kf kr ?_))⟩;refine Lu (n:=3) [2,6] kr ⟨?_, ?_,trivial⟩
   ·exact ⟨_,rfl,(zR 1 (Kf kr (Yp [5,6,7] 0 kr (zR 3 (Kf kr (Za kr (.of kr kr)))))))⟩
   exact ⟨_,rfl,(zR 1 (Kf kr (Yp [2,5,7] 0 kr (zR 3 (Kf kr (Za kr (.of kr kr)))))))⟩
  exact ⟨_,rfl,(zR 1 (Kf kr (Yp [2,4,5,7] 0 kr (zR 4 (Kf kr (Za kr (.of kr kr)))))))⟩
 exact w1 n0 .z t0⟩
def Ja3(a3:Int)(x169:Jh)(r170:(Jh×Bool)):((List Jh)×Int)->Option (((List Jh)×Int)⊕((List Jh)⊕((List Jh)⊕((Int×(List Jh))⊕((List Jh)⊕(List Jh)))))):=fun (x177,x178)=>
 bif decide (x178<(([(Jh.mk x169.From r170.1.From x169.Grade x169.Speed),(Jh.mk r170.1.From r170.1.To r170.1.Grade (min r170.1.Speed a3)),(Jh.mk r170.1.To x169.To x169.Grade x169.Speed)].length:Nat):Int)) then (
  onInl (α:=(List Jh)) (β:=(((List Jh)×Int)⊕((List Jh)⊕((List Jh)⊕((Int×(List Jh))⊕((List Jh)⊕(List Jh))))))) (
   (ixO [(Jh.mk x169.From r170.1.From x169.Grade x169.Speed),(Jh.mk r170.1.From r170.1.To r170.1.Grade (min r170.1.Speed a3)),(Jh.mk r170.1.To x169.To x169.Grade x169.Speed)] x178).bind fun x188=>
   bif decide (x188.From<x188.To) then (
    (Qd x177 [x188]).bind fun x189=>
    some (.inl x189)
   ) else (
    some (.inl x177)
   )
  ) fun x187=>
  some (.inl (x187,w64 (x178+1)))
 ) else (
  some (.inr (.inl x177))
 )
def Jbd(a0:(List Jh))(a1:Int)(a2:Int)(a3:Int):(Int×(List Jh))->Option ((Int×(List Jh))⊕((List Jh)⊕(List Jh))):=fun (x101,x102)=>
 bif decide (x101<((a0.length:Nat):Int)) then (
  onInl (α:=(List Jh)) (β:=((Int×(List Jh))⊕((List Jh)⊕(List Jh)))) (
   (ixO a0 x101).bind fun x169=>
   (Cz (Dp.mk a1 a2) x169).bind fun r170=>
   bif (!r170.2) then (
    (Qd x102 [x169]).bind fun x171=>
    some (.inl x171)
   ) else (
    onInl (Jq (Ja3 a3 x169 r170) (x102,0)) fun x184=>
    some (.inl x184)
   )
  ) fun x168=>
  some (.inl (w64 (x101+1),x168))
 ) else (
  some (.inr (.inl x102))
 )
def Su(a0:(List Jh))(a1:Int)(a2:Int)(a3:Int):Option (List Jh) :=
 (Ww a0).bind fun r1=>
 bif ((!r1)||(decide (a3<1))) then (
  some ([]:(List Jh))
 ) else (
  onInl (Jq (Jbd a0 a1 a2 a3) (0,[])) fun x146=>
  bif decide (128<((x146.length:Nat):Int)) then (
   some ([]:(List Jh))
  ) else (
   some x146
  )
 )
instance (a0:(List Jh))(a1:Int)(a2:Int)(a3:Int):Cp (Su a0 a1 a2 a3) 273 [Enc.pv a0,Enc.pv a1,Enc.pv a2,Enc.pv a3] Enc.pv:=⟨fun r h=>by
 unfold Su at h;refine zG f273 ?_;refine w1 a0 (ep 1 (.o 2 3 24 0 (ec z1 (el 1 S1)))) ?_;intro _ h;refine Jm (Kk (Wh 9 100009 4 32 kr kr ?_));refine uM 82 0 [27] (fun s (x101,x102)=>⟨(9,Jg (.own 100009) x102)::(27,I6 x101)::gt s [1,2,3,25,26],[],[(100009,(((x102).map cellsOf).length,4))],[]⟩) h ?_ ?_
 ·rintro ⟨x101,x102⟩ _ h;unfold Jbd at h;refine w1 n0 (ec .s .z) ?_;intro h;refine uJ 82 (fun s x168=>⟨(9,Jg (.own 100009) x168)::gt s [1,2,3,25,26,27],[],[(100009,(((x168).map cellsOf).length,4))],[]⟩) h ?_ ?_
  ·intro _ h;refine w1 n0 (.i 0 (ep 4 (ee (.c (.w 3 z1) .S)))) ?_;intro x169 r170 h;refine Qv (Jm (Kb ?_));refine Jjg 82 ⟨[(1,I6 a1),(2,I6 a2),(3,I6 a3),(9,Jg (.own 100009) x102),(12,.ref 12 0),(14,.ref 14 0),(15,.ref 15 0),(25,Jg .frozen a0),(26,I6 ((a0.length:Nat):Int)),(27,I6 x101)],[(12,.cells (cellsOf r170.1)),(14,.cells (cellsOf x169)),(15,.cells (cellsOf x169))],[(100009,(((x102).map cellsOf).length,4))],[]⟩ kr ?_ ?_
   ·refine Yp [0] 5 kr (zR 1 (Kf kr ?_));refine Lu (n:=4) [1,2,3] kr ⟨?_, ?_, ?_,trivial⟩
    ·exact ⟨_,rfl,(zR 1 (Kf kr (Yp [2,3,4,5] 0 kr (zR 4 (Kf kr (Za kr (.of kr kr)))))))⟩
    ·refine ⟨_,rfl,(zR 1 (Kf kr ?_))⟩;refine Lu (n:=3) [1,3] kr ⟨?_, ?_,trivial⟩
     ·exact ⟨_,rfl,(zR 1 (Kf kr (Yp [3,4,5] 0 kr (zR 3 (Kf kr (Za kr (.of kr kr)))))))⟩
     refine ⟨_,rfl,(zR 1 (Kf kr ?_))⟩;refine Lu (n:=2) [1,4] kr ⟨?_, ?_,trivial⟩
     ·exact ⟨_,rfl,(zR 1 (Kf kr (Yp [4,5] 0 kr (zR 2 (Kf kr (Za kr (.of kr kr)))))))⟩
     exact ⟨_,rfl,(zR 1 (Kf kr (Yp [1,5] 0 kr (zR 2 (Kf kr (Za kr (.of kr kr)))))))⟩
    refine ⟨_,rfl,(zR 1 (Kf kr ?_))⟩;refine Lu (n:=3) [1,2] kr ⟨?_, ?_,trivial⟩
    ·exact ⟨_,rfl,(zR 1 (Kf kr (Yp [2,4,5] 0 kr (zR 3 (Kf kr (Za kr (.of kr kr)))))))⟩
    refine ⟨_,rfl,(zR 1 (Kf kr ?_))⟩;refine Lu (n:=2) [1,4] kr ⟨?_, ?_,trivial⟩
    ·exact ⟨_,rfl,(zR 1 (Kf kr (Yp [4,5] 0 kr (zR 2 (Kf kr (Za kr (.of kr kr)))))))⟩
    exact ⟨_,rfl,(zR 1 (Kf kr (Yp [1,5] 0 kr (zR 2 (Kf kr (Za kr (.of kr kr)))))))⟩
   refine Jm (Kb ?_);refine Jjg 82 ⟨[(1,I6 a1),(2,I6 a2),(3,I6 a3),(9,Jg (.own 100009) x102),(12,.ref 12 0),(14,.ref 14 0),(15,.ref 15 0),(25,Jg .frozen a0),(26,I6 ((a0.length:Nat):Int)),(27,I6 x101)],[(12,.cells (cellsOf r170.1)),(14,.cells ([I6 x169.From,I6 r170.1.From,I6 x169.Grade,I6 x169.Speed])),(15,.cells ([I6 r170.1.To,I6 x169.To,I6 x169.Grade,I6 x169.Speed]))],[(100009,(((x102).map cellsOf).length,4))],[]⟩ kr ?_ ?_
   ·refine Yp [0,1,2,4] 4 kr (zR 4 (Kf kr ?_));refine Lu (n:=3) [3,5] kr ⟨?_, ?_,trivial⟩
    ·exact ⟨_,rfl,(zR 1 (Kf kr (Yp [5,6,7] 0 kr (zR 3 (Kf kr (Za kr (.of kr kr)))))))⟩
    exact ⟨_,rfl,(zR 1 (Kf kr (Yp [3,6,7] 0 kr (zR 3 (Kf kr (Za kr (.of kr kr)))))))⟩
   refine w1 (([(Jh.mk x169.From r170.1.From x169.Grade x169.Speed),(Jh.mk r170.1.From r170.1.To r170.1.Grade (min r170.1.Speed a3)),(Jh.mk r170.1.To x169.To x169.Grade x169.Speed)]:(List Jh))) (el 4 s1) ?_;intro h;refine uL 82 2 (fun s (x177,x178)=>⟨(9,Jg (.own 100009) x177)::(63,I6 x178)::gt s [1,2,3,25,26,27,61,62],[],[(100009,(((x177).map cellsOf).length,4))],[]⟩) (fun s x184=>⟨(9,Jg (.own 100009) x184)::gt s [1,2,3,25,26,27],[],[(100009,(((x184).map cellsOf).length,4))],[]⟩) h ?_ ?_
   ·rintro ⟨x177,x178⟩ _ h;unfold Ja3 at h;refine w1 n0 (ec .s .z) ?_;intro h;refine uJ 82 (fun s x187=>⟨(9,Jg (.own 100009) x187)::gt s [1,2,3,25,26,27,61,62,63],[],[(100009,(((x187).map cellsOf).length,4))],[]⟩) h ?_ ?_
    ·intro _ h;exact w1 n0 (.i 0 (ee (.c (.w 3 z1) .z))) t0
    intro x187 h;exact w1 n0 z1 t0
   intro x184 s' h hs;exact Qa (Jf3 (vJw h hs kr kr))
  intro x168 h;exact w1 n0 z1 t0
 intro x146 s' h hs;exact w1 x146 (.l 1 (ec z1 z1)) t0⟩
def Mt(a0:Ja)(a1:(List Jb))(a4:Jy):((List Jh)×Int×Int)->Option (((List Jh)×Int×Int)⊕((List Jh)⊕(Option (List Jh)))):=fun (x31,x32,x33)=>
 bif decide (x33<((a1.length:Nat):Int)) then (
  onInl (α:=((List Jh)×Int)) (β:=(((List Jh)×Int×Int)⊕((List Jh)⊕(Option (List Jh))))) (
   (ixO a1 x33).bind fun x81=>
   ((bif decide (x81.El<0) then some true else (
    some (decide (((a0.Elements.length:Nat):Int)<=x81.El))
   ))).bind fun b82=>
   bif b82 then (
    some (.inl (x31,x32))
   ) else (
    (ixO a0.Elements x81.El).bind fun x83=>
    onInl (α:=(List Jh)) (β:=(((List Jh)×Int)⊕(((List Jh)×Int×Int)⊕((List Jh)⊕(Option (List Jh)))))) (
     bif decide (x81.El=a4.El) then (
      onInl (α:=(Int×Int)) (β:=((List Jh)⊕(((List Jh)×Int)⊕(((List Jh)×Int×Int)⊕((List Jh)⊕(Option (List Jh))))))) (
       bif ((decide (x81.In=0))||((decide (x81.In=2))&&(decide (x83.Kind=3)))) then (
        some (.inl (w64 (x32+a4.From),w64 (x32+a4.To)))
       ) else (
        some (.inl (w64 ((w64 (x32+x83.Length)) - a4.To),w64 ((w64 (x32+x83.Length)) - a4.From)))
       )
      ) fun (x90,x91)=>
      (Su x31 x90 x91 a4.Speed).bind fun r92=>
      onInl (α:=Unit) (β:=((List Jh)⊕(((List Jh)×Int)⊕(((List Jh)×Int×Int)⊕((List Jh)⊕(Option (List Jh))))))) (
       ((bif decide (((r92.length:Nat):Int)=0) then (
        some (decide (0<((x31.length:Nat):Int)))
       ) else some false)).bind fun b94=>
       bif b94 then (
        some (.inr (.inr (.inr (.inr (.inr none)))))
       ) else (
        some (.inl ())
       )
      ) fun _=>
      some (.inl r92)
     ) else (
      some (.inl x31)
     )
    ) fun x89=>
    some (.inl (x89,w64 (x32+x83.Length)))
   )
  ) fun (x79,x80)=>
  some (.inl (x79,x80,w64 (x33+1)))
 ) else (
  some (.inr (.inl x31))
 )
def Fd(a0:Ja)(a1:(List Jb))(a2:Int)(a3:(List Jh))(a4:Jy):Option (Option (List Jh)) :=
 onInl (Jq (Mt a0 a1 a4) (a3,a2,0)) fun x64=>
 some (some x64)
theorem Le(a0:Ja)(a1:(List Jb))(a2:Int)(a3:(List Jh))(a4:Jy)(r:(Option (List Jh)))(h:Fd a0 a1 a2 a3 a4=some r):Jnd prog GlS 240 [Enc.pv a0,Enc.pv a1,Enc.pv a2,Enc.pv a3,Enc.pv a4] (r.map fun r=>Enc.pv r):=by
 unfold Fd at h;refine Jn7 func240 (by rfl) rfl ntmps240 (by rfl) rfl ?_;refine w1 a1 (ee (.l 1 s1)) ?_;intro h;refine uL 101 0 (fun s (x31,x32,x33)=>⟨(3,Jg .frozen x31)::(11,I6 x32)::(22,I6 x33)::gt s [5,9,20,21],gh s [5,9],[],[]⟩) (fun _ x64=>⟨[(3,Jg .frozen x64)],[],[],[]⟩) h ?_ ?_
 ·rintro ⟨x31,x32,x33⟩ _ h;unfold Mt at h;refine w1 n0 (ec .s .z) ?_;intro h;refine uJ 101 (fun s (x79,x80)=>⟨(3,Jg .frozen x79)::(11,I6 x80)::gt s [5,9,20,21,22],gh s [5,9],[],[]⟩) h ?_ ?_
  ·intro _ h;refine w1 a0.Elements (.i 0 (.e (.b 4 7 36 (.g 0 .z (.l 4 .z)) (ec .z (.i 4 S2))))) ?_;intro _ _ _ h;refine Jm ?_;refine uJ 101 (fun s x89=>⟨(3,Jg .frozen x89)::gt s [5,9,15,20,21,22],gh s [5,9],[],[]⟩) h ?_ ?_
   ·intro _ h;refine w1 n0 (ec S1 .z) ?_;intro h;refine Jm ?_;refine uJ 101 (fun s (x90,x91)=>⟨(16,I6 x90)::(17,I6 x91)::gt s [3,5,9,15,20,21,22],gh s [5,9],[],[]⟩) h ?_ ?_
    ·intro _ h;exact w1 n0 (.o 4 9 72 0 (ec z1 .z)) t0
    rintro ⟨x90,x91⟩ h;refine w1 n0 (.p 5 S1) ?_;intro r92 h;refine Jm ?_;refine uJ 101 (fun s (_:Unit)=>⟨gt s [5,9,15,18,20,21,22],gh s [5,9],[],[]⟩) h ?_ ?_
    ·intro _ h;refine w6 r92 (.l 1 (.b 2 4 94 (.g 0 .s .z) (ec .S .z))) ?_ ?_ t0 t0 t0 t0
     ·intro _ h;exact yl 1 x31 (w1 n0 .z t0)
     intro _ h;refine Je1 (Rn 0 1 (w1 n0 S1 ?_));intro h;refine Keb (d:=96) kr fun ch hpan=>?_;refine vJp h ?_;clear h;intro h;refine vJp h ?_;clear h;intro h;refine Ja4 (vJp h ?_);clear h;intro h;refine vLp h ?_;clear h;intro h;refine Ja4 (Ji4 ?_);cases h;exact Keg hpan
    intro _ h;exact w1 n0 z1 t0
   intro x89 h;exact w1 n0 z1 t0
  rintro ⟨x79,x80⟩ h;exact w1 n0 z1 t0
 intro x64 s' h hs;refine w1 n0 s1 ?_;intro h;cases h;exact ⟨_,rfl,Jvw kr kr kr⟩
def Pd(a0:(List Jy))(a1:(List Jb))(a2:Int)(a3:Ja):(Int×(List Jh))->Option ((Int×(List Jh))⊕((List Jh)⊕(List Jh))):=fun (x24,x25)=>
 bif decide (x24<((a0.length:Nat):Int)) then (
  onInl (α:=(List Jh)) (β:=((Int×(List Jh))⊕((List Jh)⊕(List Jh)))) (
   (ixO a0 x24).bind fun x41=>
   ((bif x41.Active then (
    (Ie a3 x41).bind fun r43=>
    some (decide (r43=0))
   ) else some false)).bind fun b42=>
   bif b42 then (
    Ker (Fd a3 a1 a2 x25 x41) (
     some (.inr (.inr (.inr ([]:(List Jh)))))
    ) fun r44=>
    some (.inl r44)
   ) else (
    some (.inl x25)
   )
  ) fun x40=>
  some (.inl (w64 (x24+1),x40))
 ) else (
  some (.inr (.inl x25))
 )
def Ic(a0:(List Jy))(a1:(List Jb))(a2:Int)(a3:Ja)(a4:(List Jh)):Option (List Jh) :=
 (Bf a4).bind fun r1=>
 (Ww a4).bind fun r2=>
 ((bif (!r2) then some true else (
  (Hb a3 a1).bind fun r4=>
  some (!r4)
 ))).bind fun b3=>
 bif ((b3||(decide (a2<(-1073741824))))||(decide (1073741824<a2))) then (
  some r1
 ) else (
  onInl (Jq (Pd a0 a1 a2 a3) (0,r1)) fun x35=>
  some x35
 )
set_option maxRecDepth 100000 in
instance (a0:(List Jy))(a1:(List Jb))(a2:Int)(a3:Ja)(a4:(List Jh)):Cp (Ic a0 a1 a2 a3 a4) 176 [Enc.pv a0,Enc.pv a1,Enc.pv a2,Enc.pv a3,Enc.pv a4] Enc.pv:=⟨fun r h=>by
 unfold Ic at h;refine Jn6 func176 (by rfl) rfl ntmps176 (by rfl) rfl ?_;refine Jil (Vn (w1 n0 S1 ?_));intro h;refine Jle ?_;refine Jha 1 237 [.ref 10 0] (by rfl) ?_;refine w1 n0 S1 ?_;intro h;refine ⟨by kernel_rfl,by kernel_rfl,by kernel_rfl, ?_⟩;refine w6 a0 (.p 1 (ep 1 (.b 2 5 24 (.g 0 .z (.p 2 .z)) (.o 1 3 28 1 (.o 1 3 32 0 (ec S1 (.l 1 s1))))))) ?_ ?_ t0 t0 t0 t0
 ·intro r1 _ _ h;refine Jm (Vw (Yw ?_));refine Kas (Jp3 (pan:=false) (caps:=[.ref 10 0]) kr func237 (by rfl) rfl ntmps237 (by rfl) ?_);refine Jnt ((Jct 1 kr).trans (.of (j:=⟨[(0,.ref 1010 0),(13,.ref 1010 0),(59,.fn 237 [.ref 1010 0])],[(1010,.cells ([Jg (.own 1015007) r1]))],[(1015007,(((r1).map cellsOf).length,4))],[]⟩) (n:=5700060) kr kr)) ?_;refine Ji1 ⟨rfl,rfl,rfl,rfl,fun _ _=>rfl,(fun a _ _ _ h=>by simp [Act.eval] at h; simp [go_sem,h]),(fun a _ h=>by simp [Act.eval] at h; simp [go_sem,h])⟩ kr ?_;refine Jap (b:=false) rfl kr (Qv ?_);cases h;exact Jgs kr kr kr
 intro _ _ _ h;refine uM 100057 0 [36] (fun s (x24,x25)=>⟨(36,I6 x24)::gt s [1,2,8,10,34,35,56],(10,.cells ([Jg .frozen x25]))::gh s [8],[],[]⟩) h ?_ ?_
 ·rintro ⟨x24,x25⟩ _ h;unfold Pd at h;refine w1 n0 (ec .s .z) ?_;intro h;refine uJ 100057 (fun s x40=>⟨gt s [1,2,8,10,34,35,36,56],(10,.cells ([Jg .frozen x40]))::gh s [8],[],[]⟩) h ?_ ?_
  ·intro _ h;refine w1 n0 (.i 0 (.e (.b 3 5 47 (.g 0 (.p 2 .z) .z) (ec .S .z)))) ?_;intro _ _ h;refine Je1 (Rn 0 5 (w1 n0 S1 ?_));intro h;rcases Kgh h with ⟨h56,h⟩|⟨r44,h56,h⟩
   ·refine Kbz (Le _ _ _ _ _ none h56) kr fun ch hpan=>?_;refine Ja4 (vJp h ?_);clear h;intro h;refine vLp h ?_;clear h;intro h;refine Ja4 (Ji4 ?_);refine Ken hpan (Jp3 (pan:=true) (caps:=[.ref 10 0]) kr func237 (by rfl) rfl ntmps237 (by rfl) ?_);refine Jnt ((Jct 17 kr).trans (.of (j:=⟨[(0,.ref 17010 0),(13,.ref 17010 0),(59,.fn 237 [.ref 17010 0])],[(17010,.cells ([Jg .frozen x25]))],[],[]⟩) (n:=5700060) kr kr)) ?_;refine Ji1 ⟨rfl,rfl,rfl,rfl,fun _ _=>rfl,(fun a _ _ _ h=>by simp [Act.eval] at h; simp [go_sem,h]),(fun a _ h=>by simp [Act.eval] at h; simp [go_sem,h])⟩ kr ?_;refine Jad (b:=true) rfl kr (w1 n0 s1 ?_);intro h;cases h;exact Jgs kr kr kr
   refine Kb5 (Le _ _ _ _ _ (some r44) h56) kr kr (Rn 6 1 (w1 n0 S1 ?_));intro h;exact Jwh (Jf3 (w1 n0 .z t0))
  intro x40 h;exact w1 n0 z1 t0
 intro x35 s' h hs;refine w1 n0 S1 ?_;intro h;refine Jm (Vw ?_);refine Kas (Jp3 (pan:=false) (caps:=[.ref 10 0]) kr func237 (by rfl) rfl ntmps237 (by rfl) ?_);refine Jnt ((Jct 19 kr).trans (.of (j:=⟨[(0,.ref 19010 0),(13,.ref 19010 0),(59,.fn 237 [.ref 19010 0])],[(19010,.cells ([Jg .frozen x35]))],[],[]⟩) (n:=5700060) kr kr)) ?_;refine Ji1 ⟨rfl,rfl,rfl,rfl,fun _ _=>rfl,(fun a _ _ _ h=>by simp [Act.eval] at h; simp [go_sem,h]),(fun a _ h=>by simp [Act.eval] at h; simp [go_sem,h])⟩ kr ?_;refine Jap (b:=false) rfl kr (Qv ?_);cases h;exact Jgs kr kr kr⟩
end
end PM
