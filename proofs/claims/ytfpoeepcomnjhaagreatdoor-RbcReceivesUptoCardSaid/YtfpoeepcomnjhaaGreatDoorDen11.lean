/-
 Plain functions for the program's functions, and the proofs that the program does them. Printed by den.py.
-/
import Derived.Test.YtfpoeepcomnjhaaGreatDoorDen10
namespace PM
noncomputable section
open Go Go.RowKit Go.Proofs Go.Proofs.Tryz
attribute [local irreducible] Ju pwp
def Vc(a3:Jd)(x7:(List Int))(x8:(List Int))(x9:(List Int)):(Int×Int×(List Int)×(List Int)×(List Int))->Option ((Int×Int×(List Int)×(List Int)×(List Int))⊕(((List Int)×(List Int)×(List Int)×Int)⊕(Int×Int×(List Jb)×(List Int)×(List Int)×(List Int)))):=fun (x494,x495,x496,x497,x498)=>
 bif decide (x495<((x9.length:Nat):Int)) then (
  onInl (α:=((List Int)×(List Int)×(List Int)×Int)) (β:=((Int×Int×(List Int)×(List Int)×(List Int))⊕(((List Int)×(List Int)×(List Int)×Int)⊕(Int×Int×(List Jb)×(List Int)×(List Int)×(List Int))))) (
   (ixO x9 x495).bind fun x532=>
   bif decide (x532<=a3.Cut) then (
    (ixO x7 x495).bind fun x533=>
    (Qd x496 [x533]).bind fun x534=>
    (ixO x8 x495).bind fun x535=>
    (Qd x497 [x535]).bind fun x536=>
    (Qd x498 [x532]).bind fun x537=>
    some (.inl (x534,x536,x537,x494))
   ) else (
    bif decide (x494<0) then (
     (ixO x7 x495).bind fun x538=>
     some (.inl (x496,x497,x498,x538))
    ) else (
     some (.inl (x496,x497,x498,x494))
    )
   )
  ) fun (x528,x529,x530,x531)=>
  some (.inl (x531,w64 (x495+1),x528,x529,x530))
 ) else (
  some (.inr (.inl (x496,x497,x498,x494)))
 )
def Ba(a0:Ja)(a3:Jd)(x6:(List Jb)):(Int×Int×(List Jb))->Option ((Int×Int×(List Jb))⊕((List Jb)⊕((Int×Int×(List Jb))⊕(Int×Int×(List Jb)×(List Int)×(List Int)×(List Int))))):=fun (x581,x582,x583)=>
 bif decide (x582<((x6.length:Nat):Int)) then (
  (ixO x6 x582).bind fun x590=>
  onInl (α:=(List Jb)) (β:=((Int×Int×(List Jb))⊕((List Jb)⊕((Int×Int×(List Jb))⊕(Int×Int×(List Jb)×(List Int)×(List Int)×(List Int)))))) (
   bif decide (x581<a3.Cut) then (
    (Qd x583 [x590]).bind fun x593=>
    some (.inl x593)
   ) else (
    some (.inl x583)
   )
  ) fun x592=>
  (ixO a0.Elements x590.El).bind fun x594=>
  some (.inl (w64 (x581+x594.Length),w64 (x582+1),x592))
 ) else (
  some (.inr (.inl x583))
 )
def Yh(a2:Jr)(a4:Ki):((List Int)×(List Int)×(List Int)×(List Int))->Option (((List Int)×(List Int)×(List Int)×(List Int))⊕(((List Int)×(List Int)×(List Int)×(List Int))⊕Jd)):=fun (x611,x612,x613,x614)=>
 ((bif decide (0<((x611.length:Nat):Int)) then (
  (ixO x612 0).bind fun x635=>
  (Gu a2 a4 x635).bind fun r636=>
  some r636
 ) else some false)).bind fun b634=>
 bif b634 then (
  onInl (α:=(List Int)) (β:=(((List Int)×(List Int)×(List Int)×(List Int))⊕(((List Int)×(List Int)×(List Int)×(List Int))⊕Jd))) (
   (ixO x611 0).bind fun x642=>
   (Jay x614 x642).bind fun r643=>
   bif (!r643) then (
    (ixO x611 0).bind fun x644=>
    (Qd x614 [x644]).bind fun x645=>
    some (.inl x645)
   ) else (
    some (.inl x614)
   )
  ) fun x641=>
  (slO x611 (some 1) none none).bind fun x646=>
  (slO x612 (some 1) none none).bind fun x647=>
  (slO x613 (some 1) none none).bind fun x648=>
  some (.inl (x646,x647,x648,x641))
 ) else (
  some (.inr (.inl (x611,x612,x613,x614)))
 )
def Uq(a0:Ja)(a2:Jr)(a3:Jd)(a4:Ki):(Int×(List Jb))->Option ((Int×(List Jb))⊕((Int×(List Jb))⊕Jd)):=fun (x657,x658)=>
 ((bif a4.Whole then (
  some (decide (1<((x658.length:Nat):Int)))
 ) else some false)).bind fun b669=>
 ((bif b669 then (
  (ixO x658 0).bind fun x671=>
  (ixO a0.Elements x671.El).bind fun x672=>
  (Dx a2 (max a3.Min a4.Min)).bind fun r673=>
  some (decide ((w64 (x657+x672.Length))<=r673))
 ) else some false)).bind fun b670=>
 bif b670 then (
  (ixO x658 0).bind fun x674=>
  (ixO a0.Elements x674.El).bind fun x675=>
  (slO x658 (some 1) none none).bind fun x676=>
  some (.inl (w64 (x657+x675.Length),x676))
 ) else (
  some (.inr (.inl (x657,x658)))
 )
def Gh(a0:Ja)(a1:Jw)(a2:Jr)(a3:Jd)(a4:Ki):Option Jd :=
 Option.bind (α:=((List Jb)×(List Int)×(List Int)×(List Int)×(List Int))) (
  (Qd ([]:(List Jb)) a3.Steps).bind fun x11=>
  (Qd ([]:(List Int)) a3.Routes).bind fun x12=>
  (Qd ([]:(List Int)) a3.Starts).bind fun x13=>
  (Qd ([]:(List Int)) a3.Ends).bind fun x14=>
  (Qd ([]:(List Int)) a3.Done).bind fun x15=>
  some (x11,x12,x13,x14,x15)
 ) fun (x6,x7,x8,x9,x10)=>
 onInl (α:=(Int×Int×(List Jb)×(List Int)×(List Int)×(List Int)×Int×Int)) (β:=Jd) (
  bif ((!(decide (a3.CutSeq=0)))&&(decide (a3.CutSeq<=(max a3.Accepted (min a3.Sent a4.Accepted))))) then (
   Option.bind (α:=(Int×Int×(List Jb)×(List Int)×(List Int)×(List Int))) (
    onInl (Jq (Vc a3 x7 x8 x9) ((-1),0,[],[],[])) fun (x517,x518,x519,x520)=>
    onInl (α:=(Int×Int×(List Jb))) (β:=(Int×Int×(List Jb)×(List Int)×(List Int)×(List Int))) (
     bif decide (0<=x520) then (
      onInl (Jq (Ba a0 a3 x6) (a3.Origin,0,[])) fun x589=>
      (ixO a1.Routes x520).bind fun x595=>
      some (.inl (x595.Entry,a3.Cut,x589))
     ) else (
      some (.inl (a3.End,a3.At,x6))
     )
    ) fun (x566,x567,x568)=>
    some (x566,x567,x568,x517,x518,x519)
   ) fun (x450,x451,x452,x453,x454,x455)=>
   some (.inl (x450,x451,x452,x453,x454,x455,0,0))
  ) else (
   some (.inl (a3.End,a3.At,x6,x7,x8,x9,a3.Cut,a3.CutSeq))
  )
 ) fun (x302,x303,x304,x305,x306,x307,x308,x309)=>
 onInl (Jq (Yh a2 a4) (x305,x306,x307,x10)) fun (x630,x631,x632,x633)=>
 onInl (Jq (Uq a0 a2 a3 a4) (a3.Origin,x304)) fun (x667,x668)=>
 some (Jd.mk a3.Id x667 x302 x303 x668 x630 x631 x632 x633 (max a3.Min a4.Min) a3.Sent (max a3.Accepted (min a3.Sent a4.Accepted)) x308 x309)
set_option maxRecDepth 100000 in
instance (a0:Ja)(a1:Jw)(a2:Jr)(a3:Jd)(a4:Ki):Cp (Gh a0 a1 a2 a3 a4) 64 [Enc.pv a0,Enc.pv a1,Enc.pv a2,Enc.pv a3,Enc.pv a4] Enc.pv:=⟨fun r h=>by
 unfold Gh at h;refine zG f64 ?_;refine w1 n0 S1 ?_;intro h;refine Jm (Kb (Jaj (Bx 0 1 (w1 n0 S1 ?_))));intro h;refine Vm 1 ⟨[(5,.ref 1005 0),(6,.ref 1006 0),(7,.ref 1007 0),(8,.ref 1008 0),(9,.ref 1009 0),(10,.ref 1010 0),(11,Enc.pv a3)],[(1005,.cells (cellsOf a0)),(1006,.cells (cellsOf a1)),(1007,.cells (cellsOf a2)),(1008,.cells (cellsOf a3)),(1009,.cells (cellsOf a4)),(1010,.cells ([I6 0,I6 0,I6 0,I6 0,.nil,.nil,.nil,.nil,.nil,I6 0,I6 0,I6 0,I6 0,I6 0]))],[],[]⟩ 131 kr kr kr ?_;obtain ⟨o6,h6,h⟩:=Qp h;refine Jfa (f:=104) (asx:=[Enc.pv a3]) kr func104 (by rfl) rfl ntmps104 (by rfl) ?_;refine Og o6 13100160 (fun (x6,x7,x8,x9,x10)=>⟨[(2,.ref 2 0),(34,.ref 1005 0),(35,.ref 1006 0),(36,.ref 1007 0),(37,.ref 1008 0),(38,.ref 1009 0),(39,.ref 1010 0)],[(2,.cells ([I6 a3.Id,I6 a3.Origin,I6 a3.End,I6 a3.At,Jg (.own 6) x6,Jg (.own 11) x7,Jg (.own 16) x8,Jg (.own 21) x9,Jg (.own 26) x10,I6 a3.Min,I6 a3.Sent,I6 a3.Accepted,I6 a3.Cut,I6 a3.CutSeq])),(1005,.cells (cellsOf a0)),(1006,.cells (cellsOf a1)),(1007,.cells (cellsOf a2)),(1008,.cells (cellsOf a3)),(1009,.cells (cellsOf a4)),(1010,.cells ([I6 0,I6 0,I6 0,I6 0,.nil,.nil,.nil,.nil,.nil,I6 0,I6 0,I6 0,I6 0,I6 0]))],[(6,(((x6).map cellsOf).length,3)),(11,(((x7).map cellsOf).length,1)),(16,(((x8).map cellsOf).length,1)),(21,(((x9).map cellsOf).length,1)),(26,(((x10).map cellsOf).length,1))],[]⟩) ?_ ?_
 ·have h:=h6;refine w1 n0 X1 ?_;intro _ h7 h;refine zR 3 (Md (tk:=6) h7 kr (w1 n0 X1 ?_));intro _ h8 h;refine zR 3 (Md (tk:=11) h8 kr (w1 n0 X1 ?_));intro _ h9 h;refine zR 3 (Md (tk:=16) h9 kr (w1 n0 X1 ?_));intro _ h10 h;refine zR 3 (Md (tk:=21) h10 kr (w1 n0 X1 ?_));intro _ h11 h;refine zR 3 (Md (tk:=26) h11 kr (w1 n0 s2 ?_));intro h;cases h;exact Jkw kr kr
 obtain ⟨x6,x7,x8,x9,x10⟩:=o6;refine Jfe (r:=.agg [I6 a3.Id,I6 a3.Origin,I6 a3.End,I6 a3.At,Jg (.own 6) x6,Jg (.own 11) x7,Jg (.own 16) x8,Jg (.own 21) x9,Jg (.own 26) x10,I6 a3.Min,I6 a3.Sent,I6 a3.Accepted,I6 a3.Cut,I6 a3.CutSeq]) kr (Vm 2 ⟨[(5,.ref 1005 0),(6,.ref 1006 0),(7,.ref 1007 0),(8,.ref 1008 0),(9,.ref 1009 0),(10,.ref 1010 0),(12,.agg [I6 a3.Id,I6 a3.Origin,I6 a3.End,I6 a3.At,Jg (.own 2000006) x6,Jg (.own 2000011) x7,Jg (.own 2000016) x8,Jg (.own 2000021) x9,Jg (.own 2000026) x10,I6 a3.Min,I6 a3.Sent,I6 a3.Accepted,I6 a3.Cut,I6 a3.CutSeq])],[(1005,.cells (cellsOf a0)),(1006,.cells (cellsOf a1)),(1007,.cells (cellsOf a2)),(1008,.cells (cellsOf a3)),(1009,.cells (cellsOf a4)),(1010,.cells ([I6 0,I6 0,I6 0,I6 0,.nil,.nil,.nil,.nil,.nil,I6 0,I6 0,I6 0,I6 0,I6 0]))],[(2000006,(((x6).map cellsOf).length,3)),(2000011,(((x7).map cellsOf).length,1)),(2000016,(((x8).map cellsOf).length,1)),(2000021,(((x9).map cellsOf).length,1)),(2000026,(((x10).map cellsOf).length,1))],[]⟩ 131 kr kr kr ?_);refine Vm 1 ⟨[(5,.ref 5 0),(6,.ref 6 0),(7,.ref 7 0),(8,.ref 8 0),(9,.ref 9 0),(10,.ref 10 0),(12,.agg [I6 a3.Id,I6 a3.Origin,I6 a3.End,I6 a3.At,Jg (.own 2000006) x6,Jg (.own 2000011) x7,Jg (.own 2000016) x8,Jg (.own 2000021) x9,Jg (.own 2000026) x10,I6 a3.Min,I6 a3.Sent,I6 a3.Accepted,I6 a3.Cut,I6 a3.CutSeq])],[(5,.cells (cellsOf a0)),(6,.cells (cellsOf a1)),(7,.cells (cellsOf a2)),(8,.cells (cellsOf a3)),(9,.cells (cellsOf a4)),(10,.cells ([I6 0,I6 0,I6 0,I6 0,.nil,.nil,.nil,.nil,.nil,I6 0,I6 0,I6 0,I6 0,I6 0]))],[(2000006,(((x6).map cellsOf).length,3)),(2000011,(((x7).map cellsOf).length,1)),(2000016,(((x8).map cellsOf).length,1)),(2000021,(((x9).map cellsOf).length,1)),(2000026,(((x10).map cellsOf).length,1))],[]⟩ 131 kr kr kr (Bx 2 1 (w1 n0 S1 ?_));intro h;refine Jac (Jm (Kb (Vn (w1 n0 S2 ?_))));intro h;refine Jm ?_;refine uJ 131 (fun s (x302,x303,x304,x305,x306,x307,x308,x309)=>⟨gt s [5,7,8,9,10],(8,.cells ([I6 a3.Id,I6 a3.Origin,I6 x302,I6 x303,Jg .frozen x304,Jg .frozen x305,Jg .frozen x306,Jg .frozen x307,Jg (.own 2000026) x10,I6 (max a3.Min a4.Min),I6 a3.Sent,I6 (max a3.Accepted (min a3.Sent a4.Accepted)),I6 x308,I6 x309]))::gh s [5,7,9,10],gT s [2000026],[]⟩) h ?_ ?_
 ·intro _ h;refine w1 n0 (.o 4 6 37 0 (ec .S .z)) ?_;intro h;refine Jaj (Bx 0 3 (w1 n0 S1 ?_));intro h;refine Vm 3 ⟨[(5,.ref 3005 0),(7,.ref 3007 0),(8,.ref 3008 0),(9,.ref 3009 0),(10,.ref 3010 0),(38,Enc.pv a0),(39,Enc.pv a1),(40,.agg [I6 a3.Id,I6 a3.Origin,I6 a3.End,I6 a3.At,Jg (.own 2000006) x6,Jg (.own 2000011) x7,Jg (.own 2000016) x8,Jg (.own 2000021) x9,Jg (.own 2000026) x10,I6 (max a3.Min a4.Min),I6 a3.Sent,I6 (max a3.Accepted (min a3.Sent a4.Accepted)),I6 a3.Cut,I6 a3.CutSeq])],[(3005,.cells (cellsOf a0)),(3007,.cells (cellsOf a2)),(3008,.cells ([I6 a3.Id,I6 a3.Origin,I6 a3.End,I6 a3.At,Jg (.own 2000006) x6,Jg (.own 2000011) x7,Jg (.own 2000016) x8,Jg (.own 2000021) x9,Jg (.own 2000026) x10,I6 (max a3.Min a4.Min),I6 a3.Sent,I6 (max a3.Accepted (min a3.Sent a4.Accepted)),I6 a3.Cut,I6 a3.CutSeq])),(3009,.cells (cellsOf a4)),(3010,.cells ([I6 0,I6 0,I6 0,I6 0,.nil,.nil,.nil,.nil,.nil,I6 0,I6 0,I6 0,I6 0,I6 0]))],[(2000006,(((x6).map cellsOf).length,3)),(2000011,(((x7).map cellsOf).length,1)),(2000016,(((x8).map cellsOf).length,1)),(2000021,(((x9).map cellsOf).length,1)),(2000026,(((x10).map cellsOf).length,1))],[]⟩ 131 kr kr kr ?_;obtain ⟨o341,h341,h⟩:=Qp h;refine Jfa (f:=121) (asx:=[Enc.pv a0,Enc.pv a1,.agg [I6 a3.Id,I6 a3.Origin,I6 a3.End,I6 a3.At,Jg (.own 2000006) x6,Jg (.own 2000011) x7,Jg (.own 2000016) x8,Jg (.own 2000021) x9,Jg (.own 2000026) x10,I6 (max a3.Min a4.Min),I6 a3.Sent,I6 (max a3.Accepted (min a3.Sent a4.Accepted)),I6 a3.Cut,I6 a3.CutSeq]]) kr func121 (by rfl) rfl ntmps121 (by rfl) ?_;refine Og o341 13100238 (fun (x450,x451,x452,x453,x454,x455)=>⟨[(6,.ref 6 0),(112,.ref 3005 0),(114,.ref 3007 0),(115,.ref 3008 0),(116,.ref 3009 0),(117,.ref 3010 0)],[(6,.cells ([I6 a3.Id,I6 a3.Origin,I6 x450,I6 x451,Jg .frozen x452,Jg (.own 100007) x453,Jg (.own 100008) x454,Jg (.own 100009) x455,Jg (.own 2000026) x10,I6 (max a3.Min a4.Min),I6 a3.Sent,I6 (max a3.Accepted (min a3.Sent a4.Accepted)),I6 0,I6 0])),(3005,.cells (cellsOf a0)),(3007,.cells (cellsOf a2)),(3008,.cells ([I6 a3.Id,I6 a3.Origin,I6 a3.End,I6 a3.At,Jg (.own 2000006) x6,Jg (.own 2000011) x7,Jg (.own 2000016) x8,Jg (.own 2000021) x9,Jg (.own 2000026) x10,I6 (max a3.Min a4.Min),I6 a3.Sent,I6 (max a3.Accepted (min a3.Sent a4.Accepted)),I6 a3.Cut,I6 a3.CutSeq])),(3009,.cells (cellsOf a4)),(3010,.cells ([I6 0,I6 0,I6 0,I6 0,.nil,.nil,.nil,.nil,.nil,I6 0,I6 0,I6 0,I6 0,I6 0]))],[(100007,(((x453).map cellsOf).length,1)),(100008,(((x454).map cellsOf).length,1)),(100009,(((x455).map cellsOf).length,1)),(2000006,(((x6).map cellsOf).length,3)),(2000011,(((x7).map cellsOf).length,1)),(2000016,(((x8).map cellsOf).length,1)),(2000021,(((x9).map cellsOf).length,1)),(2000026,(((x10).map cellsOf).length,1))],[]⟩) ?_ ?_
  ·have h:=h341;refine w1 x9 (ee (el 2 S1)) ?_;intro h;refine Jm (Kk (Wh 7 100007 1 8 kr kr (Wh 8 100008 1 8 kr kr (Wh 9 100009 1 8 kr kr ?_))));refine uL 13100238 0 (fun s (x494,x495,x496,x497,x498)=>⟨(7,Jg (.own 100007) x496)::(8,Jg (.own 100008) x497)::(9,Jg (.own 100009) x498)::(10,I6 x494)::(20,I6 x495)::gt s [3,4,5,6,18,19,112,114,115,116,117],gh s [3,4,5,6,3005,3007,3008,3009,3010],(100007,(((x496).map cellsOf).length,1))::(100008,(((x497).map cellsOf).length,1))::(100009,(((x498).map cellsOf).length,1))::gT s [2000006,2000011,2000016,2000021,2000026],[]⟩) (fun s (x517,x518,x519,x520)=>⟨(7,Jg (.own 100007) x517)::(8,Jg (.own 100008) x518)::(9,Jg (.own 100009) x519)::(10,I6 x520)::gt s [3,4,5,6,112,114,115,116,117],gh s [3,4,5,6,3005,3007,3008,3009,3010],(100007,(((x517).map cellsOf).length,1))::(100008,(((x518).map cellsOf).length,1))::(100009,(((x519).map cellsOf).length,1))::gT s [2000006,2000011,2000016,2000021,2000026],[]⟩) h ?_ ?_
   ·rintro ⟨x494,x495,x496,x497,x498⟩ _ h;unfold Vc at h;refine w1 n0 (ec .s .z) ?_;intro h;refine uJ 13100238 (fun s (x528,x529,x530,x531)=>⟨(7,Jg (.own 100007) x528)::(8,Jg (.own 100008) x529)::(9,Jg (.own 100009) x530)::(10,I6 x531)::gt s [3,4,5,6,18,19,20,112,114,115,116,117],gh s [3,4,5,6,3005,3007,3008,3009,3010],(100007,(((x528).map cellsOf).length,1))::(100008,(((x529).map cellsOf).length,1))::(100009,(((x530).map cellsOf).length,1))::gT s [2000006,2000011,2000016,2000021,2000026],[]⟩) h ?_ ?_
    ·intro _ h;exact w1 n0 (.i 1 (ee (.c (.i 4 (.w 2 (ei 4 (.w 2 (ew 3 z1))))) (ec (.i 3 z1) .z)))) t0
    rintro ⟨x528,x529,x530,x531⟩ h;exact w1 n0 z1 t0
   rintro ⟨x517,x518,x519,x520⟩ s' h hs;refine Qa (Jm (Kw hs ?_));refine uJ 13100238 (fun s (x566,x567,x568)=>⟨gt s [5,6,7,8,9,112,114,115,116,117],(5,.cells ([I6 a3.Id,I6 a3.Origin,I6 x566,I6 x567,Jg .frozen x568,Jg (.own 2000011) x7,Jg (.own 2000016) x8,Jg (.own 2000021) x9,Jg (.own 2000026) x10,I6 (max a3.Min a4.Min),I6 a3.Sent,I6 (max a3.Accepted (min a3.Sent a4.Accepted)),I6 a3.Cut,I6 a3.CutSeq]))::gh s [6,3005,3007,3008,3009,3010],gT s [100007,100008,100009,2000006,2000011,2000016,2000021,2000026],[]⟩) h ?_ ?_
   ·intro _ h;refine w1 x6 (ec (ee (.l 2 S1)) .z) ?_;intro h;refine Jm (Kk (Wh 13 100013 3 24 kr kr ?_));refine uL 13100238 2 (fun s (x581,x582,x583)=>⟨(13,Jg (.own 100013) x583)::(14,I6 x581)::(64,I6 x582)::gt s [3,4,5,6,7,8,9,10,62,63,112,114,115,116,117],gh s [3,4,5,6,3005,3007,3008,3009,3010],(100013,(((x583).map cellsOf).length,3))::gT s [100007,100008,100009,2000006,2000011,2000016,2000021,2000026],[]⟩) (fun s x589=>⟨(13,Jg (.own 100013) x589)::gt s [4,5,6,7,8,9,10,112,114,115,116,117],gh s [4,5,6,3005,3007,3008,3009,3010],(100013,(((x589).map cellsOf).length,3))::gT s [100007,100008,100009,2000006,2000011,2000016,2000021,2000026],[]⟩) h ?_ ?_
    ·rintro ⟨x581,x582,x583⟩ _ h;unfold Ba at h;refine w1 n0 (ec (.i 0 S1) .z) ?_;intro _ h;refine Jm ?_;refine uJ 13100238 (fun s x592=>⟨(13,Jg (.own 100013) x592)::gt s [3,4,5,6,7,8,9,10,14,16,62,63,64,112,114,115,116,117],gh s [3,4,5,6,16,3005,3007,3008,3009,3010],(100013,(((x592).map cellsOf).length,3))::gT s [100007,100008,100009,2000006,2000011,2000016,2000021,2000026],[]⟩) h ?_ ?_
     ·intro _ h;exact w1 n0 (ec (.w 3 z1) .z) t0
     intro x592 h;exact w1 n0 (.i 5 z2) t0
    intro x589 s' h hs;exact w1 n0 (ee (.i 3 z1)) t0
   rintro ⟨x566,x567,x568⟩ h;refine w1 n0 (ee (ee s2)) ?_;intro h;cases h;exact Jkw kr kr
  obtain ⟨x450,x451,x452,x453,x454,x455⟩:=o341;refine Jfe (r:=.agg [I6 a3.Id,I6 a3.Origin,I6 x450,I6 x451,Jg .frozen x452,Jg (.own 100007) x453,Jg (.own 100008) x454,Jg (.own 100009) x455,Jg (.own 2000026) x10,I6 (max a3.Min a4.Min),I6 a3.Sent,I6 (max a3.Accepted (min a3.Sent a4.Accepted)),I6 0,I6 0]) kr ?_;refine Vm 4 ⟨[(5,.ref 3005 0),(7,.ref 3007 0),(8,.ref 3008 0),(9,.ref 3009 0),(10,.ref 3010 0),(41,.agg [I6 a3.Id,I6 a3.Origin,I6 x450,I6 x451,Jg .frozen x452,Jg (.own 4100007) x453,Jg (.own 4100008) x454,Jg (.own 4100009) x455,Jg (.own 2000026) x10,I6 (max a3.Min a4.Min),I6 a3.Sent,I6 (max a3.Accepted (min a3.Sent a4.Accepted)),I6 0,I6 0])],[(3005,.cells (cellsOf a0)),(3007,.cells (cellsOf a2)),(3008,.cells ([I6 a3.Id,I6 a3.Origin,I6 a3.End,I6 a3.At,Jg (.own 2000006) x6,Jg (.own 2000011) x7,Jg (.own 2000016) x8,Jg (.own 2000021) x9,Jg (.own 2000026) x10,I6 (max a3.Min a4.Min),I6 a3.Sent,I6 (max a3.Accepted (min a3.Sent a4.Accepted)),I6 a3.Cut,I6 a3.CutSeq])),(3009,.cells (cellsOf a4)),(3010,.cells ([I6 0,I6 0,I6 0,I6 0,.nil,.nil,.nil,.nil,.nil,I6 0,I6 0,I6 0,I6 0,I6 0]))],[(2000006,(((x6).map cellsOf).length,3)),(2000011,(((x7).map cellsOf).length,1)),(2000016,(((x8).map cellsOf).length,1)),(2000021,(((x9).map cellsOf).length,1)),(2000026,(((x10).map cellsOf).length,1)),(4100007,(((x453).map cellsOf).length,1)),(4100008,(((x454).map cellsOf).length,1)),(4100009,(((x455).map cellsOf).length,1))],[]⟩ 131 kr kr kr ?_;refine Vm 3 ⟨[(5,.ref 5 0),(7,.ref 7 0),(8,.ref 8 0),(9,.ref 9 0),(10,.ref 10 0),(41,.agg [I6 a3.Id,I6 a3.Origin,I6 x450,I6 x451,Jg .frozen x452,Jg (.own 4100007) x453,Jg (.own 4100008) x454,Jg (.own 4100009) x455,Jg (.own 2000026) x10,I6 (max a3.Min a4.Min),I6 a3.Sent,I6 (max a3.Accepted (min a3.Sent a4.Accepted)),I6 0,I6 0])],[(5,.cells (cellsOf a0)),(7,.cells (cellsOf a2)),(8,.cells ([I6 a3.Id,I6 a3.Origin,I6 a3.End,I6 a3.At,Jg (.own 2000006) x6,Jg (.own 2000011) x7,Jg (.own 2000016) x8,Jg (.own 2000021) x9,Jg (.own 2000026) x10,I6 (max a3.Min a4.Min),I6 a3.Sent,I6 (max a3.Accepted (min a3.Sent a4.Accepted)),I6 a3.Cut,I6 a3.CutSeq])),(9,.cells (cellsOf a4)),(10,.cells ([I6 0,I6 0,I6 0,I6 0,.nil,.nil,.nil,.nil,.nil,I6 0,I6 0,I6 0,I6 0,I6 0]))],[(2000006,(((x6).map cellsOf).length,3)),(2000011,(((x7).map cellsOf).length,1)),(2000016,(((x8).map cellsOf).length,1)),(2000021,(((x9).map cellsOf).length,1)),(2000026,(((x10).map cellsOf).length,1)),(4100007,(((x453).map cellsOf).length,1)),(4100008,(((x454).map cellsOf).length,1)),(4100009,(((x455).map cellsOf).length,1))],[]⟩ 131 kr kr kr ?_;refine Bx 4 1 (w1 n0 S1 ?_);intro h;exact Jac (w1 n0 .z t0)
 rintro ⟨x302,x303,x304,x305,x306,x307,x308,x309⟩ h;refine Kb (Kk ?_);refine uK 131 0 [] (fun s (x611,x612,x613,x614)=>⟨gt s [5,7,8,9,10],(8,.cells ([I6 a3.Id,I6 a3.Origin,I6 x302,I6 x303,Jg .frozen x304,Jg .frozen x611,Jg .frozen x612,Jg .frozen x613,Jg (.own 2000026) x614,I6 (max a3.Min a4.Min),I6 a3.Sent,I6 (max a3.Accepted (min a3.Sent a4.Accepted)),I6 x308,I6 x309]))::gh s [5,7,9,10],[(2000026,(((x614).map cellsOf).length,1))],[]⟩) h ?_ ?_
 ·rintro ⟨x611,x612,x613,x614⟩ _ h;unfold Yh at h;refine w1 x611 (.l 2 (.b 2 8 54 (.g 0 (.i 4 (.p 1 .z)) .z) (ec .S .z))) ?_;intro _ h;refine Qv (Jm (Kk ?_));refine uJ 131 (fun s x641=>⟨gt s [5,7,8,9,10],(8,.cells ([I6 a3.Id,I6 a3.Origin,I6 x302,I6 x303,Jg .frozen x304,Jg .frozen x611,Jg .frozen x612,Jg .frozen x613,Jg (.own 2000026) x641,I6 (max a3.Min a4.Min),I6 a3.Sent,I6 (max a3.Accepted (min a3.Sent a4.Accepted)),I6 x308,I6 x309]))::gh s [5,7,9,10],[(2000026,(((x641).map cellsOf).length,1))],[]⟩) h ?_ ?_
  ·intro _ h;exact w1 n0 (.i 4 (.p 1 (ec (.i 4 (.w 2 z1)) .z))) t0
  intro x641 h;obtain ⟨x646,h495,h⟩:=Qp h;refine Kb (Vn (zR 2 (Jju h495 .frozen kr kr kr (w1 n0 X1 ?_))));intro _ h496 h;refine zR 2 (Jju h496 .frozen kr kr kr (w1 n0 X1 ?_));intro _ h497 h;exact zR 2 (Jju h497 .frozen kr kr kr (w1 n0 z1 t0))
 rintro ⟨x630,x631,x632,x633⟩ s' h hs;refine Qa (Jm (Kw hs (Kb (Kk ?_))));refine uK 131 2 [] (fun s (x657,x658)=>⟨gt s [5,7,8,9,10],(8,.cells ([I6 a3.Id,I6 x657,I6 x302,I6 x303,Jg .frozen x658,Jg .frozen x630,Jg .frozen x631,Jg .frozen x632,Jg (.own 2000026) x633,I6 (max a3.Min a4.Min),I6 a3.Sent,I6 (max a3.Accepted (min a3.Sent a4.Accepted)),I6 x308,I6 x309]))::gh s [5,7,9,10],gT s [2000026],[]⟩) h ?_ ?_
 ·rintro ⟨x657,x658⟩ _ h;unfold Uq at h;refine w1 x658 (.b 3 5 91 (.g 0 (.l 2 .z) .z) (.b 1 19 111 (.g 0 (.i 6 (.i 2 (.p 6 .z))) .z) (ec (.i 6 (.i 2 X1)) .z))) ?_;intro _ _ _ _ _ h523 h;exact zR 2 (Jju h523 .frozen kr kr kr (w1 n0 z1 t0))
 rintro ⟨x667,x668⟩ s' h hs;exact w1 n0 z1 t0⟩
def Uh(a0:Ja)(a1:Jw)(a2:(List Jr))(a3:Jj)(a4:Jo)(a5:Int)(r4:Int):Int->Option (Int⊕(Unit⊕(Jj×Int))):=fun x12=>
 bif ((decide (x12<((a2.length:Nat):Int)))&&(decide (0<=r4))) then (
  (ixO a2 x12).bind fun x20=>
  bif decide (x20.Id=a4.From) then (
   (ixO a3.Sessions r4).bind fun x21=>
   (Tu x21 a4 a5).bind fun r22=>
   bif (!(decide (r22.2=0))) then (
    some (.inr (.inr ((Jj.mk [] []),r22.2)))
   ) else (
    (ixO a2 x12).bind fun x23=>
    (ixO a3.Tracks r4).bind fun x24=>
    (Gh a0 a1 x23 x24 a4.Report).bind fun r25=>
    (Oy a3 r4 r25 r22.1).bind fun r26=>
    some (.inr (.inr (r26,0)))
   )
  ) else (
   some (.inl (w64 (x12+1)))
  )
 ) else (
  some (.inr (.inl ()))
 )
def Vu(a0:Ja)(a1:Jw)(a2:(List Jr))(a3:Jj)(a4:Jo)(a5:Int):Option (Jj×Int) :=
 (Ye a3).bind fun r1=>
 ((bif ((!r1)||(!(decide (a4.Kind=1)))) then some true else (
  (Ez a4).bind fun r3=>
  some (!r3)
 ))).bind fun b2=>
 bif b2 then (
  some ((Jj.mk [] []),1)
 ) else (
  (Eu a3 a4.From).bind fun r4=>
  onInl (Jq (Uh a0 a1 a2 a3 a4 a5 r4) 0) fun _=>
  some ((Jj.mk [] []),9)
 )
instance (a0:Ja)(a1:Jw)(a2:(List Jr))(a3:Jj)(a4:Jo)(a5:Int):Cp (Vu a0 a1 a2 a3 a4 a5) 26 [Enc.pv a0,Enc.pv a1,Enc.pv a2,Enc.pv a3,Enc.pv a4,Enc.pv a5] (fun r=>.tup [Enc.pv r.1,Enc.pv r.2]):=⟨fun r h=>by
 unfold Vu at h;refine zG f26 ?_;refine w1 n0 (ep 1 (.o 2 4 25 0 (.b 1 4 30 (.g 0 .z (.p 1 .z)) (ec z1 (.p 3 s2))))) ?_;intro _ _ _ h;refine uN 88 0 [15] (fun s x12=>⟨(15,I6 x12)::gt s [2,5,6,7,9,10,12,14],gh s [6,7,9,10,12],[],[]⟩) h ?_ ?_
 ·intro x12 _ h;unfold Uh at h;exact w1 a2 (.l 2 (.o 2 3 43 0 (ec (.i 2 (ec (.i 3 (.p 3 (ee (.c z1 (.i 6 (.i 4 (.p 3 (.p 1 z1)))))))) z1)) .z))) t0
 intro _ s' h hs;exact w1 n0 z1 t0⟩
def Wv(a0:Jv)(a1:Jo)(a2:Int):Option Bool :=
 (Ig a0).bind fun r1=>
 ((bif (!r1) then some true else (
  some (decide (200<((a1.Auth.Profile.length:Nat):Int)))
 ))).bind fun b2=>
 ((bif b2 then some true else (
  some (decide (100<((a1.Auth.Links.length:Nat):Int)))
 ))).bind fun b3=>
 bif b3 then (
  (Il ).bind fun r4=>
  some r4
 ) else (
  (Zp a0.Layout a0.Table a0.Trains a0.Center a1 a2).bind fun r5=>
  (Vu a0.Layout a0.Table a0.Trains a0.Center a1 a2).bind fun r6=>
  (He r5.1 r6.1).bind fun r7=>
  ((bif (r7&&(decide (r5.2=r6.2))) then (
   (Il ).bind fun r9=>
   some r9
  ) else some false)).bind fun b8=>
  some b8
 )
theorem Jcv(a0:Jv)(a1:Jo)(a2:Int)(r:Bool)(h:Wv a0 a1 a2=some r):Yr prog GlS 7 [Enc.pv a0,Enc.pv a1,Enc.pv a2] (Enc.pv r):=by
 unfold Wv at h;refine zG f7 ?_;refine w1 a1.Auth.Profile (ep 1 (.b 2 6 20 (.g 0 .z (.l 3 .z)) (.b 1 6 27 (.g 0 .z .s) (ec (.p 0 z1) (.p 10 (ep 10 (ep 2 (.o 1 4 64 0 (.b 1 2 67 (.g 0 (.p 0 .z) .z) z1))))))))) ?_;intro _ _ _ h;exact yl 3 a1.Auth.Links (w1 n0 .z t0)
end
end PM
