/-
 Plain functions for the program's functions, and the proofs that the program does them. Printed by den.py.
-/
import Derived.Test.YtfpoeepcomnjhaaGreatDoorDen9
namespace PM
noncomputable section
open Go Go.RowKit Go.Proofs
attribute [local irreducible] Ju pwp
def Cb(a0:Jo):Option Bool :=
 (Ky a0.Kind 1 5).bind fun r1=>
 ((bif (!r1) then some true else (
  (Ky a0.From 0 99).bind fun r3=>
  some (!r3)
 ))).bind fun b2=>
 ((bif b2 then some true else (
  (Ky a0.To 0 99).bind fun r5=>
  some (!r5)
 ))).bind fun b4=>
 bif b4 then (
  some false
 ) else (
  (Ky a0.Seq 0 1073741824).bind fun r6=>
  ((bif (!r6) then some true else (
   (Ky a0.Time 0 1073741824).bind fun r8=>
   some (!r8)
  ))).bind fun b7=>
  bif b7 then (
   some false
  ) else (
   (Yi a0).bind fun r9=>
   ((bif r9 then (
    (Br a0).bind fun r11=>
    some r11
   ) else some false)).bind fun b10=>
   some b10
  )
 )
instance (a0:Jo):Cp (Cb a0) 57 [Enc.pv a0] Enc.pv:=⟨fun r h=>by
 unfold Cb at h;refine zG Tryz.f57 ?_;exact w1 n0 (ep 2 (.b 2 5 12 (.g 0 .z (.p 2 .z)) (.b 1 5 18 (.g 0 .z (.p 2 .z)) (ec z1 (.p 2 (.b 2 5 28 (.g 0 .z (.p 2 .z)) (ec z1 (.p 1 (.b 1 3 34 (.g 0 (.p 1 .z) .z) z1))))))))) t0⟩
def Ht(a0:Jr)(c0:Jo):Option Bool :=
 some (decide (a0.Id=c0.From))
instance (a0:Jr)(c0:Jo):Cp (Ht a0 c0) 59 [Enc.pv a0,.cptr (cellsOf c0)] Enc.pv:=⟨fun r h=>by
 unfold Ht at h;refine zG Tryz.f59 ?_;exact w1 n0 z2 t0⟩
def Vh(a0:(List Jr))(a1_0:Jo):Int->Option (Int⊕(Unit⊕Int)):=fun x3=>
 bif decide (x3<((a0.length:Nat):Int)) then (
  (ixO a0 x3).bind fun x6=>
  (Ht x6 a1_0).bind fun r7=>
  bif r7 then (
   some (.inr (.inr x3))
  ) else (
   some (.inl (w64 (x3+1)))
  )
 ) else (
  some (.inr (.inl ()))
 )
def Kt(a0:(List Jr))(a1_0:Jo):Option Int :=
 onInl (Jq (Vh a0 a1_0) 0) fun _=>
 some (-1)
instance (a0:(List Jr))(a1_0:Jo):Cp (Kt a0 a1_0) 58 [Enc.pv a0,.fn 59 [.cptr (cellsOf a1_0)]] Enc.pv:=⟨fun r h=>by
 unfold Kt at h;refine zG Tryz.f58 ?_;refine w1 a0 (el 1 s1) ?_;intro h;refine uN 19 0 [8] (fun s x3=>⟨(8,I6 x3)::gt s [0,1,7],[],[],[]⟩) h ?_ ?_
 ·intro x3 _ h;unfold Vh at h;exact w1 n0 (ec (ei 3 (.p 1 (ec z1 z1))) .z) t0
 intro _ s' h hs;exact w1 n0 z1 t0⟩
def Gx(a0:Int)(a1:Int)(a2:Int):Option Bool :=
 some ((decide (a0<=a1))&&(decide ((IntKind.u64.wrap ((IntKind.u64.wrap a1) - (IntKind.u64.wrap a0)))<=(IntKind.u64.wrap a2))))
instance (a0:Int)(a1:Int)(a2:Int):Cp (Gx a0 a1 a2) 112 [Enc.pv a0,Enc.pv a1,Enc.pv a2] Enc.pv:=⟨fun r h=>by
 unfold Gx at h;refine zG Tryz.f112 ?_;exact w1 n0 (.e (.o 4 9 19 0 z1)) t0⟩
def Dg(a0:Jk)(a1:Jo)(a2:Int):Option (Jk×Int) :=
 bif (!(decide (a1.From=a0.Peer))) then (
  some (a0,1)
 ) else (
  (Gx a1.Time a2 4).bind fun r1=>
  bif (!r1) then (
   some (a0,15)
  ) else (
   bif decide (a1.Seq<=a0.In) then (
    some (a0,7)
   ) else (
    some ((Jk.mk a0.Peer a0.Out a1.Seq a2),0)
   )
  )
 )
instance (a0:Jk)(a1:Jo)(a2:Int):Cp (Dg a0 a1 a2) 60 [Enc.pv a0,Enc.pv a1,Enc.pv a2] (fun r=>.tup [Enc.pv r.1,Enc.pv r.2]):=⟨fun r h=>by
 unfold Dg at h;refine zG Tryz.f60 ?_;exact w1 n0 (ee (.c z1 (.p 3 (ec z1 (ec z1 z2))))) t0⟩
def Hc(a0:Ja)(a1:(List Jb))(a3:Int):(Int×Int×(List Jb))->Option ((Int×Int×(List Jb))⊕((List Jb)⊕(List Jb))):=fun (x13,x14,x15)=>
 bif decide (x14<((a1.length:Nat):Int)) then (
  (ixO a1 x14).bind fun x22=>
  onInl (α:=(List Jb)) (β:=((Int×Int×(List Jb))⊕((List Jb)⊕(List Jb)))) (
   bif decide (x13<a3) then (
    (Qd x15 [x22]).bind fun x25=>
    some (.inl x25)
   ) else (
    some (.inl x15)
   )
  ) fun x24=>
  (Va a0 x22).bind fun r26=>
  some (.inl (w64 (x13+r26),w64 (x14+1),x24))
 ) else (
  some (.inr (.inl x15))
 )
def Dm(a0:Ja)(a1:(List Jb))(a2:Int)(a3:Int):Option (List Jb) :=
 onInl (Jq (Hc a0 a1 a3) (a2,0,[])) fun x21=>
 some x21
instance (a0:Ja)(a1:(List Jb))(a2:Int)(a3:Int):Cp (Dm a0 a1 a2 a3) 189 [Enc.pv a0,Enc.pv a1,Enc.pv a2,Enc.pv a3] (fun r=>Jg (.own 100009) r):=⟨fun r h=>by
 unfold Dm at h;refine zG Tryz.f189 ?_;refine w1 a1 (ee (el 1 S1)) ?_;intro h;refine Jm (Kk (Wh 9 100009 3 24 kr kr ?_));refine uL 34 0 (fun s (x13,x14,x15)=>⟨(9,Jg (.own 100009) x15)::(10,I6 x13)::(16,I6 x14)::gt s [3,4,14,15],gh s [4],[(100009,(((x15).map cellsOf).length,3))],[]⟩) (fun _ x21=>⟨[(9,Jg (.own 100009) x21)],[],[(100009,(((x21).map cellsOf).length,3))],[]⟩) h ?_ ?_
 ·rintro ⟨x13,x14,x15⟩ _ h;unfold Hc at h;refine w1 n0 (ec (.i 0 S1) .z) ?_;intro _ h;refine Jm ?_;refine uJ 34 (fun s x24=>⟨(9,Jg (.own 100009) x24)::gt s [3,4,10,12,14,15,16],gh s [4,12],[(100009,(((x24).map cellsOf).length,3))],[]⟩) h ?_ ?_
  ·intro _ h;exact w1 n0 (ec (.w 3 z1) .z) t0
  intro x24 h;exact w1 n0 (.p 3 z2) t0
 intro x21 s' h hs;exact w1 n0 z1 t0⟩
def Yd(a0:Jr)(a1:Int):Option Int :=
 bif ((decide (a1<(-2147483648)))||(decide ((w64 (a1 - a0.Length))<(-2147483648)))) then (
  some (-2147483648)
 ) else (
  some (w64 (a1 - a0.Length))
 )
instance (a0:Jr)(a1:Int):Cp (Yd a0 a1) 116 [Enc.pv a0,Enc.pv a1] Enc.pv:=⟨fun r h=>by
 unfold Yd at h;refine zG Tryz.f116 ?_;exact w1 n0 (.e (.o 3 6 13 0 (ec z1 z1))) t0⟩
def Bg(a0:Jr)(a1:Ki)(a2:Int):Option Bool :=
 ((bif a1.Whole then (
  (Yd a0 a1.Min).bind fun r2=>
  some (decide (a2<=r2))
 ) else some false)).bind fun b1=>
 some b1
instance (a0:Jr)(a1:Ki)(a2:Int):Cp (Bg a0 a1 a2) 114 [Enc.pv a0,Enc.pv a1,Enc.pv a2] Enc.pv:=⟨fun r h=>by
 unfold Bg at h;refine zG Tryz.f114 ?_;exact w1 n0 (.e (.b 3 7 16 (.g 0 (.p 3 .z) .z) z1)) t0⟩
def Ux(a1:Jw)(a3:Jd)(x7:(List Int))(x8:(List Int))(x9:(List Int)):(Bool×Int×Int×(List Int)×(List Int)×(List Int))->Option ((Bool×Int×Int×(List Int)×(List Int)×(List Int))⊕(((List Int)×(List Int)×(List Int)×Bool×Int)⊕(Int×Int×(List Jb)×(List Int)×(List Int)×(List Int)))):=fun (x558,x559,x560,x561,x562,x563)=>
 bif decide (x559<((x7.length:Nat):Int)) then (
  onInl (α:=((List Int)×(List Int)×(List Int)×Bool×Int)) (β:=((Bool×Int×Int×(List Int)×(List Int)×(List Int))⊕(((List Int)×(List Int)×(List Int)×Bool×Int)⊕(Int×Int×(List Jb)×(List Int)×(List Int)×(List Int))))) (
   (ixO x7 x559).bind fun x620=>
   ((bif decide (((x8.length:Nat):Int)<=x559) then some true else (
    some (decide (((x9.length:Nat):Int)<=x559))
   ))).bind fun b621=>
   bif b621 then (
    some (.inr (.inr (.inl (x561,x562,x563,x558,x560))))
   ) else (
    (ixO x9 x559).bind fun x622=>
    bif decide (x622<=a3.Cut) then (
     (Qd x561 [x620]).bind fun x623=>
     (ixO x8 x559).bind fun x624=>
     (Qd x562 [x624]).bind fun x625=>
     (ixO x9 x559).bind fun x626=>
     (Qd x563 [x626]).bind fun x627=>
     some (.inl (x623,x625,x627,x558,x560))
    ) else (
     onInl (α:=Int) (β:=(((List Int)×(List Int)×(List Int)×Bool×Int)⊕((Bool×Int×Int×(List Int)×(List Int)×(List Int))⊕(((List Int)×(List Int)×(List Int)×Bool×Int)⊕(Int×Int×(List Jb)×(List Int)×(List Int)×(List Int)))))) (
      ((bif ((!x558)&&(decide (0<=x620))) then (
       some (decide (x620<((a1.Routes.length:Nat):Int)))
      ) else some false)).bind fun b631=>
      bif b631 then (
       (ixO a1.Routes x620).bind fun x632=>
       some (.inl x632.Entry)
      ) else (
       some (.inl x560)
      )
     ) fun x630=>
     some (.inl (x561,x562,x563,true,x630))
    )
   )
  ) fun (x615,x616,x617,x618,x619)=>
  some (.inl (x618,w64 (x559+1),x619,x615,x616,x617))
 ) else (
  some (.inr (.inl (x561,x562,x563,x558,x560)))
 )
def Ws(a2:Jr)(a4:Ki):((List Int)×(List Int)×(List Int)×(List Int))->Option (((List Int)×(List Int)×(List Int)×(List Int))⊕(((List Int)×(List Int)×(List Int)×(List Int))⊕Jd)):=fun (x657,x658,x659,x660)=>
 ((bif decide (0<((x657.length:Nat):Int)) then (
  some (decide (0<((x658.length:Nat):Int)))
 ) else some false)).bind fun b682=>
 ((bif b682 then (
  some (decide (0<((x659.length:Nat):Int)))
 ) else some false)).bind fun b683=>
 ((bif b683 then (
  (ixO x658 0).bind fun x685=>
  (Bg a2 a4 x685).bind fun r686=>
  some r686
 ) else some false)).bind fun b684=>
 bif b684 then (
  onInl (α:=(List Int)) (β:=(((List Int)×(List Int)×(List Int)×(List Int))⊕(((List Int)×(List Int)×(List Int)×(List Int))⊕Jd))) (
   (ixO x657 0).bind fun x692=>
   (Ud x660 x692).bind fun r693=>
   bif (!r693) then (
    (ixO x657 0).bind fun x694=>
    (Qd x660 [x694]).bind fun x695=>
    some (.inl x695)
   ) else (
    some (.inl x660)
   )
  ) fun x691=>
  (slO x657 (some 1) none none).bind fun x696=>
  (slO x658 (some 1) none none).bind fun x697=>
  (slO x659 (some 1) none none).bind fun x698=>
  some (.inl (x696,x697,x698,x691))
 ) else (
  some (.inr (.inl (x657,x658,x659,x660)))
 )
def Wq(a0:Ja)(r724:Int):(Int×(List Jb))->Option ((Int×(List Jb))⊕((Int×(List Jb))⊕((Int×(List Jb))⊕Jd))):=fun (x731,x732)=>
 ((bif decide (2<=((x732.length:Nat):Int)) then (
  (ixO x732 0).bind fun x742=>
  (Va a0 x742).bind fun r743=>
  some (decide ((w64 (x731+r743))<=r724))
 ) else some false)).bind fun b741=>
 bif b741 then (
  (ixO x732 0).bind fun x744=>
  (Va a0 x744).bind fun r745=>
  (slO x732 (some 1) none none).bind fun x746=>
  some (.inl (w64 (x731+r745),x746))
 ) else (
  some (.inr (.inl (x731,x732)))
 )
def En(a0:Ja)(a1:Jw)(a2:Jr)(a3:Jd)(a4:Ki):Option Jd :=
 Option.bind (α:=((List Jb)×(List Int)×(List Int)×(List Int)×(List Int))) (
  (Kl a3.Steps).bind fun r11=>
  (Jt a3.Routes).bind fun r12=>
  (Jt a3.Starts).bind fun r13=>
  (Jt a3.Ends).bind fun r14=>
  (Jt a3.Done).bind fun r15=>
  some (r11,r12,r13,r14,r15)
 ) fun (x6,x7,x8,x9,x10)=>
 onInl (α:=(Int×Int×(List Jb)×(List Int)×(List Int)×(List Int)×Int×Int)) (β:=Jd) (
  bif ((!(decide (a3.CutSeq=0)))&&(decide (a3.CutSeq<=(max a3.Accepted (min a3.Sent a4.Accepted))))) then (
   Option.bind (α:=(Int×Int×(List Jb)×(List Int)×(List Int)×(List Int))) (
    onInl (Jq (Ux a1 a3 x7 x8 x9) (false,0,a3.End,[],[],[])) fun (x597,x598,x599,x600,x601)=>
    onInl (α:=(Int×(List Jb)×(List Int)×(List Int)×(List Int))) (β:=(Int×Int×(List Jb)×(List Int)×(List Int)×(List Int))) (
     bif x600 then (
      (Dm a0 x6 a3.Origin a3.Cut).bind fun r639=>
      some (.inl (a3.Cut,r639,x597,x598,x599))
     ) else (
      some (.inl (a3.At,x6,x7,x8,x9))
     )
    ) fun (x634,x635,x636,x637,x638)=>
    some (x601,x634,x635,x636,x637,x638)
   ) fun (x483,x484,x485,x486,x487,x488)=>
   some (.inl (x483,x484,x485,x486,x487,x488,0,0))
  ) else (
   some (.inl (a3.End,a3.At,x6,x7,x8,x9,a3.Cut,a3.CutSeq))
  )
 ) fun (x324,x325,x326,x327,x328,x329,x330,x331)=>
 onInl (Jq (Ws a2 a4) (x327,x328,x329,x10)) fun (x678,x679,x680,x681)=>
 onInl (α:=(Int×(List Jb))) (β:=Jd) (
  bif a4.Whole then (
   (Yd a2 (max a3.Min a4.Min)).bind fun r724=>
   onInl (Jq (Wq a0 r724) (a3.Origin,x326)) fun (x739,x740)=>
   some (.inl (x739,x740))
  ) else (
   some (.inl (a3.Origin,x326))
  )
 ) fun (x722,x723)=>
 some (Jd.mk a3.Id x722 x324 x325 x723 x678 x679 x680 x681 (max a3.Min a4.Min) a3.Sent (max a3.Accepted (min a3.Sent a4.Accepted)) x330 x331)
set_option maxRecDepth 100000 in
instance (a0:Ja)(a1:Jw)(a2:Jr)(a3:Jd)(a4:Ki):Cp (En a0 a1 a2 a3 a4) 61 [Enc.pv a0,Enc.pv a1,Enc.pv a2,Enc.pv a3,Enc.pv a4] Enc.pv:=⟨fun r h=>by
 unfold En at h;refine zG Tryz.f61 ?_;refine w1 n0 S1 ?_;intro h;refine Jm (Kb (Jaj (Bx 0 1 (w1 n0 S1 ?_))));intro h;refine Vm 1 ⟨[(5,.ref 1005 0),(6,.ref 1006 0),(7,.ref 1007 0),(8,.ref 1008 0),(9,.ref 1009 0),(10,.ref 1010 0),(12,Enc.pv a3)],[(1005,.cells (cellsOf a0)),(1006,.cells (cellsOf a1)),(1007,.cells (cellsOf a2)),(1008,.cells (cellsOf a3)),(1009,.cells (cellsOf a4)),(1010,.cells ([I6 0,I6 0,I6 0,I6 0,.nil,.nil,.nil,.nil,.nil,I6 0,I6 0,I6 0,I6 0,I6 0]))],[],[]⟩ 135 kr kr kr ?_;obtain ⟨o6,h6,h⟩:=Qp h;refine Jfa (f:=93) (asx:=[Enc.pv a3]) kr Tryz.func93 (by rfl) rfl Tryz.ntmps93 (by rfl) ?_;refine Og o6 13500159 (fun (x6,x7,x8,x9,x10)=>⟨[(2,.ref 2 0),(29,.ref 1005 0),(30,.ref 1006 0),(31,.ref 1007 0),(32,.ref 1008 0),(33,.ref 1009 0),(34,.ref 1010 0)],[(2,.cells ([I6 a3.Id,I6 a3.Origin,I6 a3.End,I6 a3.At,Jg (.own 5007) x6,Jg (.own 9007) x7,Jg (.own 13007) x8,Jg (.own 17007) x9,Jg (.own 21007) x10,I6 a3.Min,I6 a3.Sent,I6 a3.Accepted,I6 a3.Cut,I6 a3.CutSeq])),(1005,.cells (cellsOf a0)),(1006,.cells (cellsOf a1)),(1007,.cells (cellsOf a2)),(1008,.cells (cellsOf a3)),(1009,.cells (cellsOf a4)),(1010,.cells ([I6 0,I6 0,I6 0,I6 0,.nil,.nil,.nil,.nil,.nil,I6 0,I6 0,I6 0,I6 0,I6 0]))],[(5007,(((x6).map cellsOf).length,3)),(9007,(((x7).map cellsOf).length,1)),(13007,(((x8).map cellsOf).length,1)),(17007,(((x9).map cellsOf).length,1)),(21007,(((x10).map cellsOf).length,1))],[]⟩) ?_ ?_
 ·have h:=h6;refine w1 n0 (ep 2 (ep 2 (ep 2 (ep 2 (ep 2 s2))))) ?_;intro _ _ _ _ _ h;cases h;exact Jkw kr kr
 obtain ⟨x6,x7,x8,x9,x10⟩:=o6;refine Jfe (r:=.agg [I6 a3.Id,I6 a3.Origin,I6 a3.End,I6 a3.At,Jg (.own 5007) x6,Jg (.own 9007) x7,Jg (.own 13007) x8,Jg (.own 17007) x9,Jg (.own 21007) x10,I6 a3.Min,I6 a3.Sent,I6 a3.Accepted,I6 a3.Cut,I6 a3.CutSeq]) kr (Vm 2 ⟨[(5,.ref 1005 0),(6,.ref 1006 0),(7,.ref 1007 0),(8,.ref 1008 0),(9,.ref 1009 0),(10,.ref 1010 0),(13,.agg [I6 a3.Id,I6 a3.Origin,I6 a3.End,I6 a3.At,Jg (.own 2005007) x6,Jg (.own 2009007) x7,Jg (.own 2013007) x8,Jg (.own 2017007) x9,Jg (.own 2021007) x10,I6 a3.Min,I6 a3.Sent,I6 a3.Accepted,I6 a3.Cut,I6 a3.CutSeq])],[(1005,.cells (cellsOf a0)),(1006,.cells (cellsOf a1)),(1007,.cells (cellsOf a2)),(1008,.cells (cellsOf a3)),(1009,.cells (cellsOf a4)),(1010,.cells ([I6 0,I6 0,I6 0,I6 0,.nil,.nil,.nil,.nil,.nil,I6 0,I6 0,I6 0,I6 0,I6 0]))],[(2005007,(((x6).map cellsOf).length,3)),(2009007,(((x7).map cellsOf).length,1)),(2013007,(((x8).map cellsOf).length,1)),(2017007,(((x9).map cellsOf).length,1)),(2021007,(((x10).map cellsOf).length,1))],[]⟩ 135 kr kr kr ?_);refine Vm 1 ⟨[(5,.ref 5 0),(6,.ref 6 0),(7,.ref 7 0),(8,.ref 8 0),(9,.ref 9 0),(10,.ref 10 0),(13,.agg [I6 a3.Id,I6 a3.Origin,I6 a3.End,I6 a3.At,Jg (.own 2005007) x6,Jg (.own 2009007) x7,Jg (.own 2013007) x8,Jg (.own 2017007) x9,Jg (.own 2021007) x10,I6 a3.Min,I6 a3.Sent,I6 a3.Accepted,I6 a3.Cut,I6 a3.CutSeq])],[(5,.cells (cellsOf a0)),(6,.cells (cellsOf a1)),(7,.cells (cellsOf a2)),(8,.cells (cellsOf a3)),(9,.cells (cellsOf a4)),(10,.cells ([I6 0,I6 0,I6 0,I6 0,.nil,.nil,.nil,.nil,.nil,I6 0,I6 0,I6 0,I6 0,I6 0]))],[(2005007,(((x6).map cellsOf).length,3)),(2009007,(((x7).map cellsOf).length,1)),(2013007,(((x8).map cellsOf).length,1)),(2017007,(((x9).map cellsOf).length,1)),(2021007,(((x10).map cellsOf).length,1))],[]⟩ 135 kr kr kr (Bx 2 1 (w1 n0 S1 ?_));intro h;refine Jac (Jm (Kb (Vn (w1 n0 S2 ?_))));intro h;refine Jm ?_;refine uJ 135 (fun s (x324,x325,x326,x327,x328,x329,x330,x331)=>⟨gt s [5,7,8,9,10],(8,.cells ([I6 a3.Id,I6 a3.Origin,I6 x324,I6 x325,Jg .frozen x326,Jg .frozen x327,Jg .frozen x328,Jg .frozen x329,Jg (.own 2021007) x10,I6 (max a3.Min a4.Min),I6 a3.Sent,I6 (max a3.Accepted (min a3.Sent a4.Accepted)),I6 x330,I6 x331]))::gh s [5,7,9,10],gT s [2021007],[]⟩) h ?_ ?_
 ·intro _ h;refine w1 n0 (.o 4 6 38 0 (ec .S .z)) ?_;intro h;refine Jaj (Bx 0 3 (w1 n0 S1 ?_));intro h;refine Vm 3 ⟨[(5,.ref 3005 0),(7,.ref 3007 0),(8,.ref 3008 0),(9,.ref 3009 0),(10,.ref 3010 0),(39,Enc.pv a0),(40,Enc.pv a1),(41,.agg [I6 a3.Id,I6 a3.Origin,I6 a3.End,I6 a3.At,Jg (.own 2005007) x6,Jg (.own 2009007) x7,Jg (.own 2013007) x8,Jg (.own 2017007) x9,Jg (.own 2021007) x10,I6 (max a3.Min a4.Min),I6 a3.Sent,I6 (max a3.Accepted (min a3.Sent a4.Accepted)),I6 a3.Cut,I6 a3.CutSeq])],[(3005,.cells (cellsOf a0)),(3007,.cells (cellsOf a2)),(3008,.cells ([I6 a3.Id,I6 a3.Origin,I6 a3.End,I6 a3.At,Jg (.own 2005007) x6,Jg (.own 2009007) x7,Jg (.own 2013007) x8,Jg (.own 2017007) x9,Jg (.own 2021007) x10,I6 (max a3.Min a4.Min),I6 a3.Sent,I6 (max a3.Accepted (min a3.Sent a4.Accepted)),I6 a3.Cut,I6 a3.CutSeq])),(3009,.cells (cellsOf a4)),(3010,.cells ([I6 0,I6 0,I6 0,I6 0,.nil,.nil,.nil,.nil,.nil,I6 0,I6 0,I6 0,I6 0,I6 0]))],[(2005007,(((x6).map cellsOf).length,3)),(2009007,(((x7).map cellsOf).length,1)),(2013007,(((x8).map cellsOf).length,1)),(2017007,(((x9).map cellsOf).length,1)),(2021007,(((x10).map cellsOf).length,1))],[]⟩ 135 kr kr kr ?_;obtain ⟨o377,h377,h⟩:=Qp h;refine Jfa (f:=113) (asx:=[Enc.pv a0,Enc.pv a1,.agg [I6 a3.Id,I6 a3.Origin,I6 a3.End,I6 a3.At,Jg (.own 2005007) x6,Jg (.own 2009007) x7,Jg (.own 2013007) x8,Jg (.own 2017007) x9,Jg (.own 2021007) x10,I6 (max a3.Min a4.Min),I6 a3.Sent,I6 (max a3.Accepted (min a3.Sent a4.Accepted)),I6 a3.Cut,I6 a3.CutSeq]]) kr Tryz.func113 (by rfl) rfl Tryz.ntmps113 (by rfl) ?_;refine Og o377 13500239 (fun (x483,x484,x485,x486,x487,x488)=>⟨[(6,.ref 6 0),(109,.ref 3005 0),(111,.ref 3007 0),(112,.ref 3008 0),(113,.ref 3009 0),(114,.ref 3010 0)],[(6,.cells ([I6 a3.Id,I6 a3.Origin,I6 x483,I6 x484,Jg .frozen x485,Jg .frozen x486,Jg .frozen x487,Jg .frozen x488,Jg (.own 2021007) x10,I6 (max a3.Min a4.Min),I6 a3.Sent,I6 (max a3.Accepted (min a3.Sent a4.Accepted)),I6 0,I6 0])),(3005,.cells (cellsOf a0)),(3007,.cells (cellsOf a2)),(3008,.cells ([I6 a3.Id,I6 a3.Origin,I6 a3.End,I6 a3.At,Jg (.own 2005007) x6,Jg (.own 2009007) x7,Jg (.own 2013007) x8,Jg (.own 2017007) x9,Jg (.own 2021007) x10,I6 (max a3.Min a4.Min),I6 a3.Sent,I6 (max a3.Accepted (min a3.Sent a4.Accepted)),I6 a3.Cut,I6 a3.CutSeq])),(3009,.cells (cellsOf a4)),(3010,.cells ([I6 0,I6 0,I6 0,I6 0,.nil,.nil,.nil,.nil,.nil,I6 0,I6 0,I6 0,I6 0,I6 0]))],[(2005007,(((x6).map cellsOf).length,3)),(2009007,(((x7).map cellsOf).length,1)),(2013007,(((x8).map cellsOf).length,1)),(2017007,(((x9).map cellsOf).length,1)),(2021007,(((x10).map cellsOf).length,1))],[]⟩) ?_ ?_
  ·have h:=h377;refine w1 x7 (ee (el 2 S1)) ?_;intro h;refine Jm (Kk (Wh 7 100007 1 8 kr kr (Wh 8 100008 1 8 kr kr (Wh 9 100009 1 8 kr kr ?_))));refine uL 13500239 0 (fun s (x558,x559,x560,x561,x562,x563)=>⟨(7,Jg (.own 100007) x561)::(8,Jg (.own 100008) x562)::(9,Jg (.own 100009) x563)::(10,.bool x558)::(16,I6 x559)::gt s [3,4,5,6,14,15,109,111,112,113,114],(5,.cells ([I6 a3.Id,I6 a3.Origin,I6 x560,I6 a3.At,Jg (.own 2005007) x6,Jg (.own 2009007) x7,Jg (.own 2013007) x8,Jg (.own 2017007) x9,Jg (.own 2021007) x10,I6 (max a3.Min a4.Min),I6 a3.Sent,I6 (max a3.Accepted (min a3.Sent a4.Accepted)),I6 a3.Cut,I6 a3.CutSeq]))::gh s [3,4,6,3005,3007,3008,3009,3010],(100007,(((x561).map cellsOf).length,1))::(100008,(((x562).map cellsOf).length,1))::(100009,(((x563).map cellsOf).length,1))::gT s [2005007,2009007,2013007,2017007,2021007],[]⟩) (fun s (x597,x598,x599,x600,x601)=>⟨(7,Jg (.own 100007) x597)::(8,Jg (.own 100008) x598)::(9,Jg (.own 100009) x599)::(10,.bool x600)::gt s [3,5,6,109,111,112,113,114],(5,.cells ([I6 a3.Id,I6 a3.Origin,I6 x601,I6 a3.At,Jg (.own 2005007) x6,Jg (.own 2009007) x7,Jg (.own 2013007) x8,Jg (.own 2017007) x9,Jg (.own 2021007) x10,I6 (max a3.Min a4.Min),I6 a3.Sent,I6 (max a3.Accepted (min a3.Sent a4.Accepted)),I6 a3.Cut,I6 a3.CutSeq]))::gh s [3,6,3005,3007,3008,3009,3010],(100007,(((x597).map cellsOf).length,1))::(100008,(((x598).map cellsOf).length,1))::(100009,(((x599).map cellsOf).length,1))::gT s [2005007,2009007,2013007,2017007,2021007],[]⟩) h ?_ ?_
   ·rintro ⟨x558,x559,x560,x561,x562,x563⟩ _ h;unfold Ux at h;refine w1 n0 (ec .s .z) ?_;intro h;refine uJ 13500239 (fun s (x615,x616,x617,x618,x619)=>⟨(7,Jg (.own 100007) x615)::(8,Jg (.own 100008) x616)::(9,Jg (.own 100009) x617)::(10,.bool x618)::gt s [3,4,5,6,14,15,16,109,111,112,113,114],(5,.cells ([I6 a3.Id,I6 a3.Origin,I6 x619,I6 a3.At,Jg (.own 2005007) x6,Jg (.own 2009007) x7,Jg (.own 2013007) x8,Jg (.own 2017007) x9,Jg (.own 2021007) x10,I6 (max a3.Min a4.Min),I6 a3.Sent,I6 (max a3.Accepted (min a3.Sent a4.Accepted)),I6 a3.Cut,I6 a3.CutSeq]))::gh s [3,4,6,3005,3007,3008,3009,3010],(100007,(((x615).map cellsOf).length,1))::(100008,(((x616).map cellsOf).length,1))::(100009,(((x617).map cellsOf).length,1))::gT s [2005007,2009007,2013007,2017007,2021007],[]⟩) h ?_ ?_
    ·intro _ h;refine w6 x8 (.i 1 (el 3 (.b 2 6 32 (.g 0 .z .s) (ec .S (.i 3 (ec (.w 3 (.i 4 (.w 2 (.i 4 (.w 2 z1))))) .S)))))) ?_ ?_ ?_ t0 t0 t0
     ·intro _ _ h;exact yl 3 x9 (w1 n0 .z t0)
     ·intro _ _ h;refine Jd9 (Jai (Jh3 rfl (vJx h ?_)));clear h;intro h;exact w1 n0 .z t0
     intro _ _ _ h;refine Qv (Jm ?_);refine uJ 13500239 (fun s x630=>⟨gt s [3,4,5,6,7,8,9,14,15,16,109,111,112,113,114],(5,.cells ([I6 a3.Id,I6 a3.Origin,I6 x630,I6 a3.At,Jg (.own 2005007) x6,Jg (.own 2009007) x7,Jg (.own 2013007) x8,Jg (.own 2017007) x9,Jg (.own 2021007) x10,I6 (max a3.Min a4.Min),I6 a3.Sent,I6 (max a3.Accepted (min a3.Sent a4.Accepted)),I6 a3.Cut,I6 a3.CutSeq]))::gh s [3,4,6,3005,3007,3008,3009,3010],gT s [100007,100008,100009,2005007,2009007,2013007,2017007,2021007],[]⟩) h ?_ ?_
     ·intro _ h;exact w1 a1.Routes (.o 3 3 66 0 (.b 1 6 73 (.g 0 (.l 3 .z) .z) (ec (.i 3 z1) .z))) t0
     intro x630 h;exact w1 n0 z1 t0
    rintro ⟨x615,x616,x617,x618,x619⟩ h;exact w1 n0 z1 t0
   rintro ⟨x597,x598,x599,x600,x601⟩ s' h hs;refine Qa (Jm (Kw hs ?_));refine uJ 13500239 (fun s (x634,x635,x636,x637,x638)=>⟨gt s [5,6,109,111,112,113,114],(5,.cells ([I6 a3.Id,I6 a3.Origin,I6 x601,I6 x634,Jg .frozen x635,Jg .frozen x636,Jg .frozen x637,Jg .frozen x638,Jg (.own 2021007) x10,I6 (max a3.Min a4.Min),I6 a3.Sent,I6 (max a3.Accepted (min a3.Sent a4.Accepted)),I6 a3.Cut,I6 a3.CutSeq]))::gh s [6,3005,3007,3008,3009,3010],gT s [2005007,2009007,2013007,2017007,2021007],[]⟩) h ?_ ?_
   ·intro _ h;exact w1 n0 (ec (ee (.p 7 z1)) .z) t0
   rintro ⟨x634,x635,x636,x637,x638⟩ h;refine w1 n0 s2 ?_;intro h;cases h;exact Jkw kr kr
  obtain ⟨x483,x484,x485,x486,x487,x488⟩:=o377;refine Jfe (r:=.agg [I6 a3.Id,I6 a3.Origin,I6 x483,I6 x484,Jg .frozen x485,Jg .frozen x486,Jg .frozen x487,Jg .frozen x488,Jg (.own 2021007) x10,I6 (max a3.Min a4.Min),I6 a3.Sent,I6 (max a3.Accepted (min a3.Sent a4.Accepted)),I6 0,I6 0]) kr (Vm 4 ⟨[(5,.ref 3005 0),(7,.ref 3007 0),(8,.ref 3008 0),(9,.ref 3009 0),(10,.ref 3010 0),(42,.agg [I6 a3.Id,I6 a3.Origin,I6 x483,I6 x484,Jg .frozen x485,Jg .frozen x486,Jg .frozen x487,Jg .frozen x488,Jg (.own 2021007) x10,I6 (max a3.Min a4.Min),I6 a3.Sent,I6 (max a3.Accepted (min a3.Sent a4.Accepted)),I6 0,I6 0])],[(3005,.cells (cellsOf a0)),(3007,.cells (cellsOf a2)),(3008,.cells ([I6 a3.Id,I6 a3.Origin,I6 a3.End,I6 a3.At,Jg (.own 2005007) x6,Jg (.own 2009007) x7,Jg (.own 2013007) x8,Jg (.own 2017007) x9,Jg (.own 2021007) x10,I6 (max a3.Min a4.Min),I6 a3.Sent,I6 (max a3.Accepted (min a3.Sent a4.Accepted)),I6 a3.Cut,I6 a3.CutSeq])),(3009,.cells (cellsOf a4)),(3010,.cells ([I6 0,I6 0,I6 0,I6 0,.nil,.nil,.nil,.nil,.nil,I6 0,I6 0,I6 0,I6 0,I6 0]))],[(2005007,(((x6).map cellsOf).length,3)),(2009007,(((x7).map cellsOf).length,1)),(2013007,(((x8).map cellsOf).length,1)),(2017007,(((x9).map cellsOf).length,1)),(2021007,(((x10).map cellsOf).length,1))],[]⟩ 135 kr kr kr ?_);refine Vm 3 ⟨[(5,.ref 5 0),(7,.ref 7 0),(8,.ref 8 0),(9,.ref 9 0),(10,.ref 10 0),(42,.agg [I6 a3.Id,I6 a3.Origin,I6 x483,I6 x484,Jg .frozen x485,Jg .frozen x486,Jg .frozen x487,Jg .frozen x488,Jg (.own 2021007) x10,I6 (max a3.Min a4.Min),I6 a3.Sent,I6 (max a3.Accepted (min a3.Sent a4.Accepted)),I6 0,I6 0])],[(5,.cells (cellsOf a0)),(7,.cells (cellsOf a2)),(8,.cells ([I6 a3.Id,I6 a3.Origin,I6 a3.End,I6 a3.At,Jg (.own 2005007) x6,Jg (.own 2009007) x7,Jg (.own 2013007) x8,Jg (.own 2017007) x9,Jg (.own 2021007) x10,I6 (max a3.Min a4.Min),I6 a3.Sent,I6 (max a3.Accepted (min a3.Sent a4.Accepted)),I6 a3.Cut,I6 a3.CutSeq])),(9,.cells (cellsOf a4)),(10,.cells ([I6 0,I6 0,I6 0,I6 0,.nil,.nil,.nil,.nil,.nil,I6 0,I6 0,I6 0,I6 0,I6 0]))],[(2005007,(((x6).map cellsOf).length,3)),(2009007,(((x7).map cellsOf).length,1)),(2013007,(((x8).map cellsOf).length,1)),(2017007,(((x9).map cellsOf).length,1)),(2021007,(((x10).map cellsOf).length,1))],[]⟩ 135 kr kr kr (Bx 4 1 (w1 n0 S1 ?_));intro h;exact Jac (w1 n0 .z t0)
 rintro ⟨x324,x325,x326,x327,x328,x329,x330,x331⟩ h;refine Kb (Kk ?_);refine uK 135 0 [] (fun s (x657,x658,x659,x660)=>⟨gt s [5,7,8,9,10],(8,.cells ([I6 a3.Id,I6 a3.Origin,I6 x324,I6 x325,Jg .frozen x326,Jg .frozen x657,Jg .frozen x658,Jg .frozen x659,Jg (.own 2021007) x660,I6 (max a3.Min a4.Min),I6 a3.Sent,I6 (max a3.Accepted (min a3.Sent a4.Accepted)),I6 x330,I6 x331]))::gh s [5,7,9,10],[(2021007,(((x660).map cellsOf).length,1))],[]⟩) h ?_ ?_
 ·rintro ⟨x657,x658,x659,x660⟩ _ h;unfold Ws at h;refine w6 x657 (.l 2 (.b 2 5 52 (.g 0 .s .z) (.b 1 5 58 (.g 0 .s .z) (.b 1 8 67 (.g 0 (.i 4 (.p 1 .z)) .z) (ec .S .z))))) ?_ ?_ ?_ t0 t0 t0
  ·intro _ h;exact yl 2 x658 (w1 n0 .z t0)
  ·intro _ _ h;exact yl 2 x659 (w1 n0 .z t0)
  intro _ _ _ h;refine Qv (Jm (Kk ?_));refine uJ 135 (fun s x691=>⟨gt s [5,7,8,9,10],(8,.cells ([I6 a3.Id,I6 a3.Origin,I6 x324,I6 x325,Jg .frozen x326,Jg .frozen x657,Jg .frozen x658,Jg .frozen x659,Jg (.own 2021007) x691,I6 (max a3.Min a4.Min),I6 a3.Sent,I6 (max a3.Accepted (min a3.Sent a4.Accepted)),I6 x330,I6 x331]))::gh s [5,7,9,10],[(2021007,(((x691).map cellsOf).length,1))],[]⟩) h ?_ ?_
  ·intro _ h;exact w1 n0 (.i 4 (.p 1 (ec (.i 4 (.w 2 z1)) .z))) t0
  intro x691 h;obtain ⟨x696,h549,h⟩:=Qp h;refine zD (zR 2 (Jju h549 .frozen kr kr kr ?_));obtain ⟨x697,h550,h⟩:=Qp h;refine zR 2 (Jju h550 .frozen kr kr kr ?_);obtain ⟨x698,h551,h⟩:=Qp h;exact zR 2 (Jju h551 .frozen kr kr kr (w1 n0 z1 t0))
 rintro ⟨x678,x679,x680,x681⟩ s' h hs;refine Qa (Jm (Kw hs ?_));refine uJ 135 (fun s (x722,x723)=>⟨gt s [8,10],(8,.cells ([I6 a3.Id,I6 x722,I6 x324,I6 x325,Jg .frozen x723,Jg .frozen x678,Jg .frozen x679,Jg .frozen x680,Jg (.own 2021007) x681,I6 (max a3.Min a4.Min),I6 a3.Sent,I6 (max a3.Accepted (min a3.Sent a4.Accepted)),I6 x330,I6 x331]))::gh s [10],gT s [2021007],[]⟩) h ?_ ?_
 ·intro _ h;refine w1 n0 (ec (.p 3 s1) .z) ?_;intro _ h;refine uK 135 2 [] (fun s (x731,x732)=>⟨gt s [5,8,10,11],(8,.cells ([I6 a3.Id,I6 x731,I6 x324,I6 x325,Jg .frozen x732,Jg .frozen x678,Jg .frozen x679,Jg .frozen x680,Jg (.own 2021007) x681,I6 (max a3.Min a4.Min),I6 a3.Sent,I6 (max a3.Accepted (min a3.Sent a4.Accepted)),I6 x330,I6 x331]))::gh s [5,10],gT s [2021007],[]⟩) h ?_ ?_
  ·rintro ⟨x731,x732⟩ _ h;unfold Wq at h;refine w1 x732 (.l 2 (.b 2 12 119 (.g 0 (.i 5 (.p 1 .z)) .z) (ec (.i 5 (.p 1 X1)) .z))) ?_;intro _ _ _ _ h594 h;exact zR 2 (Jju h594 .frozen kr kr kr (w1 n0 z1 t0))
  rintro ⟨x739,x740⟩ s' h hs;exact Qa (vJw h hs kr kr)
 rintro ⟨x722,x723⟩ h;exact w1 n0 z1 t0⟩
def Jdg(a3:Jj)(x40:(List Jd)):(Int×(List Jd))->Option ((Int×(List Jd))⊕((List Jd)⊕((List Jd)×Nat×(List Jk)))):=fun (x49,x50)=>
 bif decide (x49<((a3.Tracks.length:Nat):Int)) then (
  (ixO a3.Tracks x49).bind fun x60=>
  (Kl x60.Steps).bind fun r61=>
  (Jt x60.Routes).bind fun r62=>
  (Jt x60.Starts).bind fun r63=>
  (Jt x60.Ends).bind fun r64=>
  (Jt x60.Done).bind fun r65=>
  (Vz 0 (((x40:(List Jd)).map cellsOf).length) x49).bind fun j66=>
  (Uy x50 (((x40:(List Jd)).map cellsOf).length) j66).bind fun x67=>
  some (.inl (w64 (x49+1),(x50.set j66 (Jd.mk x60.Id x60.Origin x60.End x60.At r61 r62 r63 r64 r65 x60.Min x60.Sent x60.Accepted x60.Cut x60.CutSeq))))
 ) else (
  some (.inr (.inl x50))
 )
def Zp(a0:Ja)(a1:Jw)(a2:(List Jr))(a3:Jj)(a4:Jo)(a5:Int):Option (Jj×Int) :=
 (Vt a3).bind fun r1=>
 ((bif ((!r1)||(!(decide (a4.Kind=1)))) then some true else (
  (Cb a4).bind fun r3=>
  some (!r3)
 ))).bind fun b2=>
 bif b2 then (
  some ((Jj.mk [] []),1)
 ) else (
  (Cu a3.Tracks).bind fun r4=>
  bif (!((Wx (r4:(List (Int×Int))) a4.From).isSome)) then (
   some ((Jj.mk [] []),9)
  ) else (
   (Kt a2 a4).bind fun r5=>
   bif decide (r5<0) then (
    some ((Jj.mk [] []),9)
   ) else (
    (ixO a3.Sessions ((Wx (r4:(List (Int×Int))) a4.From).getD 0)).bind fun x6=>
    (Dg x6 a4 a5).bind fun r7=>
    bif (!(decide (r7.2=0))) then (
     some ((Jj.mk [] []),r7.2)
    ) else (
     Option.bind (α:=((List Jd)×Nat×(List Jk))) (
      (Jtv ((a3.Tracks.length:Nat):Int) ((a3.Tracks.length:Nat):Int) 192 ((Jd.mk 0 0 0 0 [] [] [] [] [] 0 0 0 0 0):Jd)).bind fun x40=>
      onInl (Jq (Jdg a3 x40) (0,x40)) fun x59=>
      (Qf a3.Sessions).bind fun r68=>
      some (x59,((x40:(List Jd)).map cellsOf).length,r68)
     ) fun (x37,x38,x39)=>
     (Vz 0 (((x39:(List Jk)).map cellsOf).length) ((Wx (r4:(List (Int×Int))) a4.From).getD 0)).bind fun j69=>
     (Uy x39 (((x39:(List Jk)).map cellsOf).length) j69).bind fun x70=>
     (ixO a2 r5).bind fun x71=>
     (Vz 0 x38 ((Wx (r4:(List (Int×Int))) a4.From).getD 0)).bind fun j72=>
     (Uy x37 x38 j72).bind fun x73=>
     (En a0 a1 x71 x73 a4.Report).bind fun r74=>
     (Vz 0 x38 ((Wx (r4:(List (Int×Int))) a4.From).getD 0)).bind fun j75=>
     (Uy x37 x38 j75).bind fun x76=>
     some ((Jj.mk (x37.set j75 r74) (x39.set j69 r7.1)),0)
    )
   )
  )
 )
set_option maxRecDepth 100000 in
instance (a0:Ja)(a1:Jw)(a2:(List Jr))(a3:Jj)(a4:Jo)(a5:Int):Cp (Zp a0 a1 a2 a3 a4 a5) 25 [Enc.pv a0,Enc.pv a1,Enc.pv a2,Enc.pv a3,Enc.pv a4,Enc.pv a5] (fun r=>.tup [Enc.pv r.1,Enc.pv r.2]):=⟨fun r h=>by
 unfold Zp at h;refine zG Tryz.f25 ?_;refine w1 n0 (ep 1 (.o 2 4 26 0 (.b 1 4 31 (.g 0 .z (.p 1 .z)) (ec z1 .x)))) ?_;intro _ _ r4 h4 h;refine zR 2 (zP (Pr _ r4 h4) (zR 2 (Jf2 (m:=r4) (k:=a4.From) 0 true kr (w1 n0 (ee (.c z1 .S)) ?_))));intro h;refine Qv (Jm (Kb (Jpy 10 [6,7,9,12] (cs:=cellsOf a4) (cs':=cellsOf a4) kr kr kr kr (w1 n0 (.p 2 (ee (.c z1 (.i 3 (.p 3 (ee (.c z1 .S))))))) ?_))));intro r5 _ r7 h;refine Qv (Jm (Kb (Jaj (Bx 0 1 (w1 n0 S1 ?_)))));intro h;refine Vm 1 ⟨[(2,Jg .frozen a2),(6,.ref 1006 0),(7,.ref 1007 0),(9,.ref 1009 0),(10,.cptr (cellsOf a4)),(12,.ref 1012 0),(14,I6 ((Wx r4 a4.From).getD 0)),(16,I6 r5),(17,.ref 1017 0),(66,Enc.pv a3)],[(1006,.cells (cellsOf a0)),(1007,.cells (cellsOf a1)),(1009,.cells (cellsOf a3)),(1012,.cells ([.nil,.nil])),(1017,.cells (cellsOf r7.1))],[],[]⟩ 92 kr kr kr ?_;obtain ⟨o36,h36,h⟩:=Qp h;refine Jfa (f:=40) (asx:=[Enc.pv a3]) kr Tryz.func40 (by rfl) rfl Tryz.ntmps40 (by rfl) ?_;refine Og o36 9200142 (fun (x37,x38,x39)=>⟨[(2,.ref 2 0),(52,Jg .frozen a2),(56,.ref 1006 0),(57,.ref 1007 0),(59,.ref 1009 0),(60,.cptr (cellsOf a4)),(62,.ref 1012 0),(64,I6 ((Wx r4 a4.From).getD 0)),(66,I6 r5),(67,.ref 1017 0)],[(2,.cells ([.ex 9 14 192 x38 0 x38,.ex 47 4 32 ((x39.map cellsOf).length) 0 ((x39.map cellsOf).length)])),(1006,.cells (cellsOf a0)),(1007,.cells (cellsOf a1)),(1009,.cells (cellsOf a3)),(1012,.cells ([.nil,.nil])),(1017,.cells (cellsOf r7.1))],[(9,(x38,0)),(47,((x39.map cellsOf).length,0))],[(9,(14,(192,x37.map cellsOf))),(47,(4,(32,x39.map cellsOf)))]⟩) ?_ ?_
 ·have h:=h36;refine w1 a3.Tracks (el 2 .x) ?_;intro _ h37 h;refine Jv3 (z:=((Jd.mk 0 0 0 0 [] [] [] [] [] 0 0 0 0 0):Jd)) 9 h37 kr kr (w1 a3.Tracks (el 2 s1) ?_);intro h;refine uM 9200142 0 [13] (fun s (x49,x50)=>⟨(13,I6 x49)::gt s [1,2,3,11,12,52,56,57,59,60,62,64,66,67],gh s [1,2,1006,1007,1009,1012,1017],gT s [9],[(9,(14,(192,x50.map cellsOf)))]⟩) h ?_ ?_
  ·rintro ⟨x49,x50⟩ _ h;unfold Jdg at h;refine w1 n0 (ec (.i 1 (ep 2 (ep 2 (ep 2 (ep 2 (ep 2 (.e (.j 3 .x)))))))) .z) ?_;intro x60 r61 r62 r63 r64 r65 _ _ h63 h;exact yst 0 9 (Jd.mk x60.Id x60.Origin x60.End x60.At r61 r62 r63 r64 r65 x60.Min x60.Sent x60.Accepted x60.Cut x60.CutSeq) 0 14 h63 (w1 n0 z2 t0)
  intro x59 s' h hs;refine w1 n0 X1 ?_;intro r68 h64 h;refine zR 2 (Jh1 (α:=Jk) 47 (Yf _ r68 h64) kr kr (w1 n0 s2 ?_));intro h;cases h;exact Jkw kr kr
 obtain ⟨x37,x38,x39⟩:=o36;refine Jfe (r:=.agg [.ex 9 14 192 x38 0 x38,.ex 47 4 32 ((x39.map cellsOf).length) 0 ((x39.map cellsOf).length)]) kr (Vm 2 ⟨[(2,Jg .frozen a2),(6,.ref 1006 0),(7,.ref 1007 0),(9,.ref 1009 0),(10,.cptr (cellsOf a4)),(12,.ref 1012 0),(14,I6 ((Wx r4 a4.From).getD 0)),(16,I6 r5),(17,.ref 1017 0),(67,.agg [.ex 2000009 14 192 x38 0 x38,.ex 2000047 4 32 ((x39.map cellsOf).length) 0 ((x39.map cellsOf).length)])],[(1006,.cells (cellsOf a0)),(1007,.cells (cellsOf a1)),(1009,.cells (cellsOf a3)),(1012,.cells ([.nil,.nil])),(1017,.cells (cellsOf r7.1))],[(2000009,(x38,0)),(2000047,((x39.map cellsOf).length,0))],[(2000009,(14,(192,x37.map cellsOf))),(2000047,(4,(32,x39.map cellsOf)))]⟩ 92 kr kr kr ?_);refine Vm 1 ⟨[(2,Jg .frozen a2),(6,.ref 6 0),(7,.ref 7 0),(9,.ref 9 0),(10,.cptr (cellsOf a4)),(12,.ref 12 0),(14,I6 ((Wx r4 a4.From).getD 0)),(16,I6 r5),(17,.ref 17 0),(67,.agg [.ex 2000009 14 192 x38 0 x38,.ex 2000047 4 32 ((x39.map cellsOf).length) 0 ((x39.map cellsOf).length)])],[(6,.cells (cellsOf a0)),(7,.cells (cellsOf a1)),(9,.cells (cellsOf a3)),(12,.cells ([.nil,.nil])),(17,.cells (cellsOf r7.1))],[(2000009,(x38,0)),(2000047,((x39.map cellsOf).length,0))],[(2000009,(14,(192,x37.map cellsOf))),(2000047,(4,(32,x39.map cellsOf)))]⟩ 92 kr kr kr (Bx 2 1 (w1 n0 S1 ?_));intro h;refine Jac (Jm (Kb (Vn (w1 n0 (.j 4 .x) ?_))));intro j69 _ h66 h;refine yst 0 2000047 r7.1 0 4 h66 (w1 n0 (ei 7 (.j 4 (.d 0 true 14 0 (.p 2 (.j 0 .x))))) ?_);intro _ _ _ r74 j75 _ h72 h;refine yst 0 2000009 r74 0 14 h72 (w1 n0 S2 ?_);intro h;refine Jm (Kw (Zy (xss:=((x37.set j75 r74):(List Jd)).map cellsOf) 2000009 14 192 x38 [74,83] [(9,0),(12,0)] kr kr kr kr) (Kw (Zy (xss:=((x39.set j69 r7.1):(List Jk)).map cellsOf) 2000047 4 32 ((x39.map cellsOf).length) [69] [(9,1),(12,1)] kr kr kr kr) ?_));exact w1 n0 .z t0⟩
def Vk(a0:Int)(a1:Int)(a2:Int):Option Bool :=
 some ((decide (a1<=a0))&&(decide (a0<=a2)))
instance (a0:Int)(a1:Int)(a2:Int):Cp (Vk a0 a1 a2) 117 [Enc.pv a0,Enc.pv a1,Enc.pv a2] Enc.pv:=⟨fun r h=>by
 unfold Vk at h;refine zG Tryz.f117 ?_;exact w1 n0 (.e (.o 4 4 14 0 z1)) t0⟩
def Jbb(a0:Jz):Int->Option (Int⊕(Unit⊕Bool)):=fun x5=>
 bif decide (x5<((a0.Links.length:Nat):Int)) then (
  (ixO a0.Links x5).bind fun x10=>
  (Vk x10.Id 1 1073741824).bind fun r11=>
  ((bif (!r11) then some true else (
   (Vk x10.At (-1073741824) 1073741824).bind fun r13=>
   some (!r13)
  ))).bind fun b12=>
  bif b12 then (
   some (.inr (.inr false))
  ) else (
   some (.inl (w64 (x5+1)))
  )
 ) else (
  some (.inr (.inl ()))
 )
def Te(a0:Jz):Option Bool :=
 onInl (Jq (Jbb a0) 0) fun _=>
 (Vk a0.Seq 1 1073741824).bind fun r14=>
 ((bif r14 then (
  (Vk a0.End (-1073741824) 1073741824).bind fun r16=>
  some r16
 ) else some false)).bind fun b15=>
 ((bif b15 then (
  (Jbu a0.Profile).bind fun r18=>
  some r18
 ) else some false)).bind fun b17=>
 ((bif b17 then (
  some (decide (((a0.Links.length:Nat):Int)<=24))
 ) else some false)).bind fun b19=>
 some b19
instance (a0:Jz):Cp (Te a0) 118 [Enc.pv a0] Enc.pv:=⟨fun r h=>by
 unfold Te at h;refine zG Tryz.f118 ?_;refine w1 a0.Links (el 2 s1) ?_;intro h;refine uN 42 0 [8] (fun s x5=>⟨(8,I6 x5)::gt s [1,6,7],gh s [1],[],[]⟩) h ?_ ?_
 ·intro x5 _ h;unfold Jbb at h;exact w1 n0 (ec (.i 0 (ep 2 (.b 2 5 21 (.g 0 .z (.p 2 .z)) (ec z1 z1)))) .z) t0
 intro _ s' h hs;exact w1 a0.Links (.p 2 (.b 1 4 30 (.g 0 (.p 2 .z) .z) (.b 1 4 35 (.g 0 (.p 2 .z) .z) (.b 1 5 41 (.g 0 (.l 2 .z) .z) z1)))) t0⟩
def Ho(a0:Ki):Option Bool :=
 (Vk a0.Min (-1073741824) 1073741824).bind fun r1=>
 ((bif r1 then (
  (Vk a0.Speed 0 1073741824).bind fun r3=>
  some r3
 ) else some false)).bind fun b2=>
 ((bif b2 then (
  (Vk a0.Mode 1 7).bind fun r5=>
  some r5
 ) else some false)).bind fun b4=>
 ((bif b4 then (
  (Vk a0.Accepted 0 1073741824).bind fun r7=>
  some r7
 ) else some false)).bind fun b6=>
 some b6
instance (a0:Ki):Cp (Ho a0) 119 [Enc.pv a0] Enc.pv:=⟨fun r h=>by
 unfold Ho at h;refine zG Tryz.f119 ?_;exact w1 n0 (ep 2 (.b 1 4 10 (.g 0 (.p 2 .z) .z) (.b 1 4 15 (.g 0 (.p 2 .z) .z) (.b 1 4 20 (.g 0 (.p 2 .z) .z) z1)))) t0⟩
def Ez(a0:Jo):Option Bool :=
 (Vk a0.Kind 1 5).bind fun r1=>
 ((bif (!r1) then some true else (
  (Vk a0.From 0 99).bind fun r3=>
  some (!r3)
 ))).bind fun b2=>
 ((bif b2 then some true else (
  (Vk a0.To 0 99).bind fun r5=>
  some (!r5)
 ))).bind fun b4=>
 ((bif b4 then some true else (
  (Vk a0.Seq 0 1073741824).bind fun r7=>
  some (!r7)
 ))).bind fun b6=>
 ((bif b6 then some true else (
  (Vk a0.Time 0 1073741824).bind fun r9=>
  some (!r9)
 ))).bind fun b8=>
 bif b8 then (
  some false
 ) else (
  bif ((decide (a0.Kind=2))||(decide (a0.Kind=3))) then (
   (Te a0.Auth).bind fun r10=>
   some (r10&&(Lw a0.Report (Ki.mk 0 0 0 0 false)))
  ) else (
   (Yc a0.Auth (Jz.mk 0 0 [] [])).bind fun r11=>
   ((bif r11 then (
    ((bif ((Lw a0.Report (Ki.mk 0 0 0 0 false))&&(!(decide (a0.Kind=1)))) then some true else (
     ((bif decide (a0.Kind=1) then (
      (Ho a0.Report).bind fun r15=>
      some r15
     ) else some false)).bind fun b14=>
     some b14
    ))).bind fun b13=>
    some b13
   ) else some false)).bind fun b12=>
   some b12
  )
 )
instance (a0:Jo):Cp (Ez a0) 62 [Enc.pv a0] Enc.pv:=⟨fun r h=>by
 unfold Ez at h;refine zG Tryz.f62 ?_;refine w1 n0 (ep 2 (.b 2 5 12 (.g 0 .z (.p 2 .z)) (.b 1 5 18 (.g 0 .z (.p 2 .z)) (.b 1 5 24 (.g 0 .z (.p 2 .z)) (.b 1 5 30 (.g 0 .z (.p 2 .z)) (ec z1 (.o 4 4 38 0 (ec (.p 2 (.o 1 5 47 0 z1)) (.p 3 (.b 1 20 72 (.g 0 .s .z) z1)))))))))) ?_;intro _ _ _ _ _ _ _ h;refine zR 5 ?_;refine Jud 4 61 ((Lw a0.Report (Ki.mk 0 0 0 0 false))&&(!(decide (a0.Kind=1)))) (fun x hx=>?_) ?_
 ·rcases Jh8 hx with ⟨hb,hx⟩|⟨hb,hx⟩
  ·refine zS 57 hb ?_;subst hx;exact zF
  refine zS 57 hb ?_;subst hx;exact zF
 exact w1 n0 (.b 1 9 71 (.g 0 .z (.b 4 4 70 (.g 0 (.p 2 .z) .z) .z)) .z) t0⟩
def Xo(a0:Int)(a1:Int)(a2:Int):Option Bool :=
 some ((decide (a0<=a1))&&(decide ((IntKind.u64.wrap ((IntKind.u64.wrap a1) - (IntKind.u64.wrap a0)))<=(IntKind.u64.wrap a2))))
instance (a0:Int)(a1:Int)(a2:Int):Cp (Xo a0 a1 a2) 120 [Enc.pv a0,Enc.pv a1,Enc.pv a2] Enc.pv:=⟨fun r h=>by
 unfold Xo at h;refine zG Tryz.f120 ?_;exact w1 n0 (.e (.o 4 9 19 0 z1)) t0⟩
def Tu(a0:Jk)(a1:Jo)(a2:Int):Option (Jk×Int) :=
 bif (!(decide (a1.From=a0.Peer))) then (
  some (a0,1)
 ) else (
  (Xo a1.Time a2 4).bind fun r1=>
  bif (!r1) then (
   some (a0,15)
  ) else (
   bif decide (a1.Seq<=a0.In) then (
    some (a0,7)
   ) else (
    some ((Jk.mk a0.Peer a0.Out a1.Seq a2),0)
   )
  )
 )
instance (a0:Jk)(a1:Jo)(a2:Int):Cp (Tu a0 a1 a2) 63 [Enc.pv a0,Enc.pv a1,Enc.pv a2] (fun r=>.tup [Enc.pv r.1,Enc.pv r.2]):=⟨fun r h=>by
 unfold Tu at h;refine zG Tryz.f63 ?_;exact w1 n0 (ee (.c z1 (.p 3 (ec z1 (ec z1 (ee z1)))))) t0⟩
def Dx(a0:Jr)(a1:Int):Option Int :=
 some (max (w64 ((max a1 (-2147483648)) - a0.Length)) (-2147483648))
instance (a0:Jr)(a1:Int):Cp (Dx a0 a1) 124 [Enc.pv a0,Enc.pv a1] Enc.pv:=⟨fun r h=>by
 unfold Dx at h;refine zG Tryz.f124 ?_;exact w1 n0 z2 t0⟩
def Gu(a0:Jr)(a1:Ki)(a2:Int):Option Bool :=
 ((bif a1.Whole then (
  (Dx a0 a1.Min).bind fun r2=>
  some (decide (a2<=r2))
 ) else some false)).bind fun b1=>
 some b1
instance (a0:Jr)(a1:Ki)(a2:Int):Cp (Gu a0 a1 a2) 122 [Enc.pv a0,Enc.pv a1,Enc.pv a2] Enc.pv:=⟨fun r h=>by
 unfold Gu at h;refine zG Tryz.f122 ?_;exact w1 n0 (.e (.b 3 7 16 (.g 0 (.p 3 .z) .z) z1)) t0⟩
end
end PM
