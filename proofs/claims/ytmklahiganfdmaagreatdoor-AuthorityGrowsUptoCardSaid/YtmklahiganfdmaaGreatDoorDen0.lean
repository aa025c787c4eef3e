/-
 Plain functions for the program's functions, and the proofs that the program does them. Printed by den.py.
-/
import Derived.Test.YtmklahiganfdmaaGreatDoorPmM
import Derived.Test.YtmklahiganfdmaaGreatDoorPmZ
import Derived.Test.YtmklahiganfdmaaGreatDoorPmSt
import Derived.Test.YtmklahiganfdmaaGreatDoorPmP
import Derived.Test.YtmklahiganfdmaaGreatDoorPlA
import Derived.Test.YtmklahiganfdmaaGreatDoorProg
namespace PM
open Go Go.RowKit
attribute [local irreducible] Qc pwp
structure Ud where
 kind_:Int
 in_:Int
 out_:Int
 need_:Int
instance : Enc Ud:=⟨4,32,fun x=>.agg [.int .i64 x.kind_,.int .i64 x.in_,.int .i64 x.out_,.int .i64 x.need_]⟩
instance : Inhabited Ud:=⟨⟨0,0,0,0⟩⟩
structure Jw where
 Name:ByteArray
 Kind:Int
 Length:Int
 Grade:Int
 Speed:Int
 Slow:Int
 Section:Int
instance : Enc Jw:=⟨7,64,fun x=>.agg [.str x.Name,.int .i64 x.Kind,.int .i64 x.Length,.int .i64 x.Grade,.int .i64 x.Speed,.int .i64 x.Slow,.int .i64 x.Section]⟩
instance : Inhabited Jw:=⟨⟨ByteArray.empty,0,0,0,0,0,0⟩⟩
structure Jj where
 El:Int
 Side:Int
instance : Enc Jj:=⟨2,16,fun x=>.agg [.int .i64 x.El,.int .i64 x.Side]⟩
instance : Inhabited Jj:=⟨⟨0,0⟩⟩
def Ku (x y:Jj):Bool:=(decide (x.El=y.El)&&(decide (x.Side=y.Side)&&true))
structure Qg where
 A:Jj
 B:Jj
instance : Enc Qg:=⟨4,32,fun x=>.agg [.int .i64 x.A.El,.int .i64 x.A.Side,.int .i64 x.B.El,.int .i64 x.B.Side]⟩
instance : Inhabited Qg:=⟨⟨default,default⟩⟩
structure Ki where
 Name:ByteArray
 At:Jj
 Overlap:Int
instance : Enc Ki:=⟨4,40,fun x=>.agg [.str x.Name,.int .i64 x.At.El,.int .i64 x.At.Side,.int .i64 x.Overlap]⟩
instance : Inhabited Ki:=⟨⟨ByteArray.empty,default,0⟩⟩
structure Jt where
 Id:Int
 El:Int
 Offset:Int
instance : Enc Jt:=⟨3,24,fun x=>.agg [.int .i64 x.Id,.int .i64 x.El,.int .i64 x.Offset]⟩
instance : Inhabited Jt:=⟨⟨0,0,0⟩⟩
structure Je where
 Name:ByteArray
 Sections:(List ByteArray)
 Elements:(List Jw)
 Joints:(List Qg)
 Signals:(List Ki)
 Balises:(List Jt)
instance : Enc Je:=⟨6,136,fun x=>.agg [.str x.Name,Jp .frozen x.Sections,Jp .frozen x.Elements,Jp .frozen x.Joints,Jp .frozen x.Signals,Jp .frozen x.Balises]⟩
instance : Inhabited Je:=⟨⟨ByteArray.empty,[],[],[],[],[]⟩⟩
structure Jd where
 El:Int
 In:Int
 Out:Int
instance : Enc Jd:=⟨3,24,fun x=>.agg [.int .i64 x.El,.int .i64 x.In,.int .i64 x.Out]⟩
instance : Inhabited Jd:=⟨⟨0,0,0⟩⟩
def Tt (x y:Jd):Bool:=(decide (x.El=y.El)&&(decide (x.In=y.In)&&(decide (x.Out=y.Out)&&true)))
structure Jh where
 El:Int
 Pos:Int
instance : Enc Jh:=⟨2,16,fun x=>.agg [.int .i64 x.El,.int .i64 x.Pos]⟩
instance : Inhabited Jh:=⟨⟨0,0⟩⟩
def Wd (x y:Jh):Bool:=(decide (x.El=y.El)&&(decide (x.Pos=y.Pos)&&true))
structure Jm where
 Name:ByteArray
 Entry:Int
 Exit:Int
 Path:(List Jd)
 Points:(List Jh)
 Sections:(List Int)
 Approach:Int
 Length:Int
 Over:(List Jd)
 OverPoints:(List Jh)
 OverSections:(List Int)
 Flank:(List Jh)
 Guards:(List Int)
 Gaps:(List Jj)
instance : Enc Jm:=⟨14,264,fun x=>.agg [.str x.Name,.int .i64 x.Entry,.int .i64 x.Exit,Jp .frozen x.Path,Jp .frozen x.Points,Jp .frozen x.Sections,.int .i64 x.Approach,.int .i64 x.Length,Jp .frozen x.Over,Jp .frozen x.OverPoints,Jp .frozen x.OverSections,Jp .frozen x.Flank,Jp .frozen x.Guards,Jp .frozen x.Gaps]⟩
instance : Inhabited Jm:=⟨⟨ByteArray.empty,0,0,[],[],[],0,0,[],[],[],[],[],[]⟩⟩
structure Qa where
 Routes:(List Jm)
 Points:(List Int)
 Homes:(List Int)
 Sections:Int
 Signals:Int
instance : Enc Qa:=⟨5,88,fun x=>.agg [Jp .frozen x.Routes,Jp .frozen x.Points,Jp .frozen x.Homes,.int .i64 x.Sections,.int .i64 x.Signals]⟩
instance : Inhabited Qa:=⟨⟨[],[],[],0,0⟩⟩
structure Kj where
 Id:Int
 Origin:Int
 End:Int
 At:Int
 Steps:(List Jd)
 Routes:(List Int)
 Starts:(List Int)
 Ends:(List Int)
 Done:(List Int)
 Min:Int
 Sent:Int
 Accepted:Int
 Cut:Int
 CutSeq:Int
instance : Enc Kj:=⟨14,192,fun x=>.agg [.int .i64 x.Id,.int .i64 x.Origin,.int .i64 x.End,.int .i64 x.At,Jp .frozen x.Steps,Jp .frozen x.Routes,Jp .frozen x.Starts,Jp .frozen x.Ends,Jp .frozen x.Done,.int .i64 x.Min,.int .i64 x.Sent,.int .i64 x.Accepted,.int .i64 x.Cut,.int .i64 x.CutSeq]⟩
instance : Inhabited Kj:=⟨⟨0,0,0,0,[],[],[],[],[],0,0,0,0,0⟩⟩
structure Ju where
 Id:Int
 El:Int
 From:Int
 To:Int
 Speed:Int
 Active:Bool
instance : Enc Ju:=⟨6,48,fun x=>.agg [.int .i64 x.Id,.int .i64 x.El,.int .i64 x.From,.int .i64 x.To,.int .i64 x.Speed,.bool x.Active]⟩
instance : Inhabited Ju:=⟨⟨0,0,0,0,0,false⟩⟩
structure Ut where
 x0:(List ByteArray)
 x1:(List ByteArray)
 x2:(List ByteArray)
instance : Enc Ut:=⟨3,72,fun x=>.agg [Jp .frozen x.x0,Jp .frozen x.x1,Jp .frozen x.x2]⟩
instance : Inhabited Ut:=⟨⟨[],[],[]⟩⟩
structure Jf where
 From:Int
 To:Int
 Grade:Int
 Speed:Int
instance : Enc Jf:=⟨4,32,fun x=>.agg [.int .i64 x.From,.int .i64 x.To,.int .i64 x.Grade,.int .i64 x.Speed]⟩
instance : Inhabited Jf:=⟨⟨0,0,0,0⟩⟩
def Xq (x y:Jf):Bool:=(decide (x.From=y.From)&&(decide (x.To=y.To)&&(decide (x.Grade=y.Grade)&&(decide (x.Speed=y.Speed)&&true))))
structure Jb where
 Id:Int
 At:Int
instance : Enc Jb:=⟨2,16,fun x=>.agg [.int .i64 x.Id,.int .i64 x.At]⟩
instance : Inhabited Jb:=⟨⟨0,0⟩⟩
def Ja9 (x y:Jb):Bool:=(decide (x.Id=y.Id)&&(decide (x.At=y.At)&&true))
structure Kk where
 Seq:Int
 End:Int
 Profile:(List Jf)
 Links:(List Jb)
instance : Enc Kk:=⟨4,64,fun x=>.agg [.int .i64 x.Seq,.int .i64 x.End,Jp .frozen x.Profile,Jp .frozen x.Links]⟩
instance : Inhabited Kk:=⟨⟨0,0,[],[]⟩⟩
structure Cj where
 from_:Int
 to_:Int
instance : Enc Cj:=⟨2,16,fun x=>.agg [.int .i64 x.from_,.int .i64 x.to_]⟩
instance : Inhabited Cj:=⟨⟨0,0⟩⟩
structure Oi where
instance : Enc Oi:=⟨0,0,fun x=>.agg []⟩
instance : Inhabited Oi:=⟨⟨⟩⟩
structure Jz where
 L:(List (List Jd))
instance : Enc Jz:=⟨1,24,fun x=>.agg [Jp .frozen x.L]⟩
instance : Inhabited Jz:=⟨⟨[]⟩⟩
structure Jaa where
 err_:Int
instance : Enc Jaa:=⟨1,8,fun x=>.agg [.int .i64 x.err_]⟩
instance : Inhabited Jaa:=⟨⟨0⟩⟩
def Qs : List Ud:=[(Ud.mk 1 0 1 0),(Ud.mk 1 1 0 0),(Ud.mk 2 0 1 1),(Ud.mk 2 0 2 2),(Ud.mk 2 1 0 1),(Ud.mk 2 2 0 2),(Ud.mk 3 0 1 0),(Ud.mk 3 1 0 0),(Ud.mk 3 2 3 0),(Ud.mk 3 3 2 0)]
def GlS : Nat→Option (List PV)
 | 0=>some (Qs.flatMap cellsOf)
 | _=>none
/-! signallinglaw45.modest -/
noncomputable def Fp (a0:Kj) (a1:(List Ju)):Option Bool :=
 ((bif decide (((a0.Steps.length:Nat):Int)≤100) then (
  some (decide (((a1.length:Nat):Int)≤100))
 ) else some false):Option Bool).bind fun b1 =>
 ((bif b1 then (
  some (decide (((a0.Routes.length:Nat):Int)≤100))
 ) else some false):Option Bool).bind fun b2 =>
 ((bif b2 then (
  some (decide (((a0.Starts.length:Nat):Int)≤100))
 ) else some false):Option Bool).bind fun b3 =>
 ((bif b3 then (
  some (decide (((a0.Ends.length:Nat):Int)≤100))
 ) else some false):Option Bool).bind fun b4 =>
 ((bif b4 then (
  some (decide (((a0.Done.length:Nat):Int)≤100))
 ) else some false):Option Bool).bind fun b5 =>
 some b5
theorem Jgj (a0:Kj) (a1:(List Ju)) (r:Bool) (h:Fp a0 a1=some r):Kq Go.Proofs.Tryz.prog GlS 4 [Enc.pv a0,Enc.pv a1] (Enc.pv r):=by
 unfold Fp at h
 refine Js Go.Proofs.Tryz.func4 (by rfl) rfl Go.Proofs.Tryz.ntmps4 (by rfl) rfl ?_
 refine Ja (Jg (zE (Jc (Ja (Jg (zR 2 ?_))))))
 refine Kl (L:=(a0.Steps:(List Jd))) (by kernel_rfl) ?_
 obtain ⟨b1,h1,h⟩:=Ji h
 refine zR 2 ?_
 refine Qf 4 13 (.bool b1) ?_ ?_
 ·rcases Jl h1 with ⟨hb,h1⟩|⟨hb,h1⟩
  ·refine zS 9 hb (zR 1 ?_)
   refine Kl (L:=(a1:(List Ju))) (by kernel_rfl) ?_
   cases h1
   exact zF
  refine zS 9 hb ?_
  cases h1
  exact zF
 obtain ⟨b2,h2,h⟩:=Ji h
 refine zR 1 ?_
 refine Qf 5 19 (.bool b2) ?_ ?_
 ·rcases Jl h2 with ⟨hb,h2⟩|⟨hb,h2⟩
  ·refine zS 14 hb (zR 2 ?_)
   refine Kl (L:=(a0.Routes:(List Int))) (by kernel_rfl) ?_
   cases h2
   exact zF
  refine zS 14 hb ?_
  cases h2
  exact zF
 obtain ⟨b3,h3,h⟩:=Ji h
 refine zR 1 ?_
 refine Qf 5 25 (.bool b3) ?_ ?_
 ·rcases Jl h3 with ⟨hb,h3⟩|⟨hb,h3⟩
  ·refine zS 20 hb (zR 2 ?_)
   refine Kl (L:=(a0.Starts:(List Int))) (by kernel_rfl) ?_
   cases h3
   exact zF
  refine zS 20 hb ?_
  cases h3
  exact zF
 obtain ⟨b4,h4,h⟩:=Ji h
 refine zR 1 ?_
 refine Qf 5 31 (.bool b4) ?_ ?_
 ·rcases Jl h4 with ⟨hb,h4⟩|⟨hb,h4⟩
  ·refine zS 26 hb (zR 2 ?_)
   refine Kl (L:=(a0.Ends:(List Int))) (by kernel_rfl) ?_
   cases h4
   exact zF
  refine zS 26 hb ?_
  cases h4
  exact zF
 obtain ⟨b5,h5,h⟩:=Ji h
 refine zR 1 ?_
 refine Qf 5 37 (.bool b5) ?_ ?_
 ·rcases Jl h5 with ⟨hb,h5⟩|⟨hb,h5⟩
  ·refine zS 32 hb (zR 2 ?_)
   refine Kl (L:=(a0.Done:(List Int))) (by kernel_rfl) ?_
   cases h5
   exact zF
  refine zS 32 hb ?_
  cases h5
  exact zF
 refine zE (Jc (Jq ?_))
 cases h
 exact zQ
/-! signallingref07.names -/
noncomputable def Ib (a0:Je):(Int×(List ByteArray))→Option ((Int×(List ByteArray))⊕((List ByteArray)⊕Ut)):=fun (x7,x8) =>
 bif decide (x7<((a0.Elements.length:Nat):Int)) then (
  (ixO a0.Elements x7).bind fun x12 =>
  (Vg x8 [x12.Name]).bind fun x13 =>
  some (.inl (w64 (x7+1),x13))
 ) else (
  some (.inr (.inl x8))
 )
noncomputable def Ie (a0:Je):(Int×(List ByteArray))→Option ((Int×(List ByteArray))⊕((List ByteArray)⊕Ut)):=fun (x19,x20) =>
 bif decide (x19<((a0.Signals.length:Nat):Int)) then (
  (ixO a0.Signals x19).bind fun x24 =>
  (Vg x20 [x24.Name]).bind fun x25 =>
  some (.inl (w64 (x19+1),x25))
 ) else (
  some (.inr (.inl x20))
 )
noncomputable def Ht (a0:Je):Option Ut :=
 (Vg ([]:(List ByteArray)) a0.Sections).bind fun x1 =>
 onInl (α:=(List ByteArray)) (β:=Ut) (Km (Ib a0) (0,([]:(List ByteArray)))) fun x11 =>
 onInl (α:=(List ByteArray)) (β:=Ut) (Km (Ie a0) (0,([]:(List ByteArray)))) fun x23 =>
 some (Ut.mk x1 x11 x23)
theorem Jg0 (a0:Je) (r:Ut) (h:Ht a0=some r):Kq Go.Proofs.Tryz.prog GlS 88 [Enc.pv a0] (Enc.pv r):=by
 unfold Ht at h
 refine Js Go.Proofs.Tryz.func88 (by rfl) rfl Go.Proofs.Tryz.ntmps88 (by rfl) rfl ?_
 refine Ja (Jg (zE (Jc (Ja (Jg (zE (Jc (Ja (Jg (zR 4 ?_))))))))))
 obtain ⟨x1,h1,h⟩:=Ji h
 refine Jcl (tk:=13) h1 (by kernel_rfl) ?_
 refine zE (Jc (Ja (Ja (Jg (zR 2 ?_)))))
 refine Kl (L:=(a0.Elements:(List Jw))) (by kernel_rfl) ?_
 refine zE (Jc (Jo ?_))
 refine Ke (Mu 3 1 200301 1 16 (cs:=[Jp (.own 13) (x1:(List ByteArray)),.nil,.nil]) (by kernel_rfl) (by kernel_rfl) (by kernel_rfl)) ?_
 obtain ⟨o9,h9,h⟩:=Ko h
 refine Kh 46 0 (fun (x7,x8)=>⟨[(1,.ref 1 0),(2,.ref 2 0),(3,.ref 3 0),(16,Jp .frozen (a0.Elements:(List Jw))),(17,.int .i64 ((a0.Elements.length:Nat):Int)),(18,.int .i64 x7)],[(1,.cells (cellsOf a0)),(2,.cells ([.nil,.nil,.nil])),(3,.cells ([Jp (.own 13) (x1:(List ByteArray)),Jp (.own 200301) (x8:(List ByteArray)),.nil]))],[(13,(((x1).map cellsOf).length,1)),(200301,(((x8).map cellsOf).length,1))],[]⟩) (fun x11=>⟨[(1,.ref 1 0),(2,.ref 2 0),(3,.ref 3 0)],[(1,.cells (cellsOf a0)),(2,.cells ([.nil,.nil,.nil])),(3,.cells ([Jp (.own 13) (x1:(List ByteArray)),Jp (.own 200301) (x11:(List ByteArray)),.nil]))],[(13,(((x1).map cellsOf).length,1)),(200301,(((x11).map cellsOf).length,1))],[]⟩) h9 (by kernel_rfl) (fun _=>by kernel_rfl) ?_ ?_
 ·rintro ⟨x7,x8⟩ oh8 h8
  unfold Ib at h8
  refine Ja (Jg (zE (Jc (Ja ?_))))
  rcases Jl h8 with ⟨hb,h8⟩|⟨hb,h8⟩
  ·refine zT hb (Jk (Jc (Ja (Jo (Ja (Jg ?_))))))
   obtain ⟨x12,h10,h8⟩:=Ji h8
   refine zI h10 (zE (Jc (Jg (zR 5 ?_))))
   obtain ⟨x13,h11,h8⟩:=Ji h8
   refine Vv (tk:=200301) h11 (by kernel_rfl) (by kernel_rfl) ?_
   refine zE (Kb (Jc (Jg (zE ?_))))
   cases h8
   exact zB
  refine zU hb (Ka (Jx ?_))
  cases h8
  exact zX
 rintro x11 s' rfl hs
 have h:=Kd h
 refine Jv (Jc (Ke hs (Ja (Ja (Jg (zR 2 ?_))))))
 refine Kl (L:=(a0.Signals:(List Ki))) (by kernel_rfl) ?_
 refine zE (Jc (Jo ?_))
 refine Ke (Mu 3 2 200302 1 16 (cs:=[Jp (.own 13) (x1:(List ByteArray)),Jp (.own 200301) (x11:(List ByteArray)),.nil]) (by kernel_rfl) (by kernel_rfl) (by kernel_rfl)) ?_
 obtain ⟨o19,h19,h⟩:=Ko h
 refine Kh 46 2 (fun (x19,x20)=>⟨[(2,.ref 2 0),(3,.ref 3 0),(31,Jp .frozen (a0.Signals:(List Ki))),(32,.int .i64 ((a0.Signals.length:Nat):Int)),(33,.int .i64 x19)],[(2,.cells ([.nil,.nil,.nil])),(3,.cells ([Jp (.own 13) (x1:(List ByteArray)),Jp (.own 200301) (x11:(List ByteArray)),Jp (.own 200302) (x20:(List ByteArray))]))],[(13,(((x1).map cellsOf).length,1)),(200301,(((x11).map cellsOf).length,1)),(200302,(((x20).map cellsOf).length,1))],[]⟩) (fun x23=>⟨[(2,.ref 2 0),(3,.ref 3 0)],[(2,.cells ([.nil,.nil,.nil])),(3,.cells ([Jp (.own 13) (x1:(List ByteArray)),Jp (.own 200301) (x11:(List ByteArray)),Jp (.own 200302) (x23:(List ByteArray))]))],[(13,(((x1).map cellsOf).length,1)),(200301,(((x11).map cellsOf).length,1)),(200302,(((x23).map cellsOf).length,1))],[]⟩) h19 (by kernel_rfl) (fun _=>by kernel_rfl) ?_ ?_
 ·rintro ⟨x19,x20⟩ oh18 h18
  unfold Ie at h18
  refine Ja (Jg (zE (Jc (Ja ?_))))
  rcases Jl h18 with ⟨hb,h18⟩|⟨hb,h18⟩
  ·refine zT hb (Jk (Jc (Ja (Jo (Ja (Jg ?_))))))
   obtain ⟨x24,h20,h18⟩:=Ji h18
   refine zI h20 (zE (Jc (Jg (zR 5 ?_))))
   obtain ⟨x25,h21,h18⟩:=Ji h18
   refine Vv (tk:=200302) h21 (by kernel_rfl) (by kernel_rfl) ?_
   refine zE (Kb (Jc (Jg (zE ?_))))
   cases h18
   exact zB
  refine zU hb (Ka (Jx ?_))
  cases h18
  exact zX
 rintro x23 s' rfl hs
 have h:=Kd h
 refine Jv (Jc (Ke hs (Ja (Jg (zE (Jc (Jq ?_)))))))
 cases h
 exact zQ
/-! signallingref05.Name -/
noncomputable def Ml (a0:ByteArray):Int→Option (Int⊕(Unit⊕Bool)):=fun x9 =>
 bif decide (x9<((a0.size:Nat):Int)) then (
  (Jqe a0 x9).bind fun x18 =>
  ((bif decide (97≤x18) then (
   (Jqe a0 x9).bind fun x20 =>
   some (decide (x20≤122))
  ) else some false):Option Bool).bind fun b19 =>
  (Jqe a0 x9).bind fun x21 =>
  ((bif decide (48≤x21) then (
   (Jqe a0 x9).bind fun x23 =>
   some (decide (x23≤57))
  ) else some false):Option Bool).bind fun b22 =>
  ((bif b22 then some true else (
   (Jqe a0 x9).bind fun x25 =>
   some (decide (x25=95))
  )):Option Bool).bind fun b24 =>
  bif ((!b19)&&((!b24)||(decide (x9=0)))) then (
   some (.inr (.inr false))
  ) else (
   some (.inl (w64 (x9+1)))
  )
 ) else (
  some (.inr (.inl ()))
 )
noncomputable def Mn (a0:ByteArray):Option Bool :=
 onInl (α:=Unit) (β:=Bool) (Km (Ml a0) 0) fun _ =>
 some ((decide (1≤((a0.size:Nat):Int)))&&(decide (((a0.size:Nat):Int)≤12)))
theorem Jjf (a0:ByteArray) (r:Bool) (h:Mn a0=some r):Kq Go.Proofs.Tryz.prog GlS 89 [Enc.pv a0] (Enc.pv r):=by
 unfold Mn at h
 refine Js Go.Proofs.Tryz.func89 (by rfl) rfl Go.Proofs.Tryz.ntmps89 (by rfl) rfl ?_
 refine Ja (Jg (zE (Jc (Ja (Ja (Jg (zE (Jc (Jo ?_)))))))))
 obtain ⟨o20,h20,h⟩:=Ko h
 refine Kh 56 0 (fun x9=>⟨[(0,.str a0),(3,.int .i64 x9)],[],[],[]⟩) (fun (_:Unit)=>⟨[(0,.str a0)],[],[],[]⟩) h20 (by kernel_rfl) (fun _=>by kernel_rfl) ?_ ?_
 ·rintro x9 oh19 h19
  unfold Ml at h19
  refine Ja (Ja (Jg (zE (Jc ?_))))
  rcases Jl h19 with ⟨hb,h19⟩|⟨hb,h19⟩
  ·refine zT hb (Jk (Jc (Ja (Jo (Ja (Jg (zR 2 ?_)))))))
   obtain ⟨x18,h21,h19⟩:=Ji h19
   refine Jsi h21 (by kernel_rfl) ?_
   obtain ⟨b19,h22,h19⟩:=Ji h19
   refine zR 2 ?_
   refine Qf 5 21 (.bool b19) ?_ ?_
   ·rcases Jl h22 with ⟨hb,h22⟩|⟨hb,h22⟩
    ·refine zS 16 hb (zR 2 ?_)
     obtain ⟨x20,h23,h22⟩:=Ji h22
     refine Jsi h23 (by kernel_rfl) ?_
     cases h22
     exact zF
    refine zS 16 hb ?_
    cases h22
    exact zF
   refine zE (Jc (Ja (Jg (zR 2 ?_))))
   obtain ⟨x21,h24,h19⟩:=Ji h19
   refine Jsi h24 (by kernel_rfl) ?_
   obtain ⟨b22,h25,h19⟩:=Ji h19
   refine zR 2 ?_
   refine Qf 5 31 (.bool b22) ?_ ?_
   ·rcases Jl h25 with ⟨hb,h25⟩|⟨hb,h25⟩
    ·refine zS 26 hb (zR 2 ?_)
     obtain ⟨x23,h26,h25⟩:=Ji h25
     refine Jsi h26 (by kernel_rfl) ?_
     cases h25
     exact zF
    refine zS 26 hb ?_
    cases h25
    exact zF
   obtain ⟨b24,h27,h19⟩:=Ji h19
   refine zR 1 ?_
   refine Qf 5 37 (.bool b24) ?_ ?_
   ·rcases Jl h27 with ⟨hb,h27⟩|⟨hb,h27⟩
    ·refine zS 32 hb ?_
     cases h27
     exact zF
    refine zS 32 hb (zR 2 ?_)
    obtain ⟨x25,h28,h27⟩:=Ji h27
    refine Jsi h28 (by kernel_rfl) ?_
    cases h27
    exact zF
   refine zE (Jc (Ja (Jg (zR 3 ?_))))
   refine Kx 7 47 ((!b19)&&((!b24)||(decide (x9=0)))) (fun x hx=>?_) ?_
   ·rcases Wb hx with ⟨hb,hx⟩|⟨hb,hx⟩
    ·refine zS 40 hb (zR 3 ?_)
     refine Tv 3 46 ((!b24)||(decide (x9=0))) (fun x hx=>?_) ?_
     ·rcases Wx hx with ⟨hb,hx⟩|⟨hb,hx⟩
      ·refine zS 43 hb ?_
       subst hx
       exact zF
      refine zS 43 hb ?_
      subst hx
      exact zF
     subst hx
     exact zF
    refine zS 40 hb ?_
    subst hx
    exact zF
   refine zN (Jc ?_)
   rcases Jl h19 with ⟨hb,h19⟩|⟨hb,h19⟩
   ·refine zT hb (Ja (Jg (zE (Jc (Jq (Jr (Jn ?_)))))))
    cases h19
    refine Kf fun he=>?_
    subst he
    have h29:=Qd h
    refine Jr (Jn ?_)
    cases h29
    exact zQ
   refine zU hb (Jk (Kb (Jc (Jg (zE ?_)))))
   cases h19
   exact zB
  refine zU hb (Ka (Jx ?_))
  cases h19
  exact zX
 rintro _ s' rfl hs
 have h:=Kd h
 refine Jv (Jc (Ke hs (Ja (Jg (zR 4 ?_)))))
 refine Kx 4 55 ((decide (1≤((a0.size:Nat):Int)))&&(decide (((a0.size:Nat):Int)≤12))) (fun x hx=>?_) ?_
 ·rcases Wb hx with ⟨hb,hx⟩|⟨hb,hx⟩
  ·refine zS 51 hb ?_
   subst hx
   exact zF
  refine zS 51 hb ?_
  subst hx
  exact zF
 refine zE (Jc (Jq ?_))
 cases h
 exact zQ
/-! signallingref07.texts -/
noncomputable def Ja2 (a0:(List ByteArray)) (x8:Int):Int→Option (Int⊕(Unit⊕(Int⊕(Unit⊕Bool)))):=fun x18 =>
 bif decide (x18<x8) then (
  (ixO a0 x8).bind fun x21 =>
  (ixO a0 x18).bind fun x22 =>
  bif decide (x21=x22) then (
   some (.inr (.inr (.inr (.inr true))))
  ) else (
   some (.inl (w64 (x18+1)))
  )
 ) else (
  some (.inr (.inl ()))
 )
noncomputable def Ja8 (a0:(List ByteArray)):Int→Option (Int⊕(Unit⊕Bool)):=fun x8 =>
 bif decide (x8<((a0.length:Nat):Int)) then (
  onInl (α:=Unit) (β:=(Int⊕(Unit⊕Bool))) (Km (Ja2 a0 x8) 0) fun _ =>
  some (.inl (w64 (x8+1)))
 ) else (
  some (.inr (.inl ()))
 )
noncomputable def Dx (a0:(List ByteArray)):Option Bool :=
 onInl (α:=Unit) (β:=Bool) (Km (Ja8 a0) 0) fun _ =>
 some false
theorem Nd (a0:(List ByteArray)) (r:Bool) (h:Dx a0=some r):Kq Go.Proofs.Tryz.prog GlS 90 [Enc.pv a0] (Enc.pv r):=by
 unfold Dx at h
 refine Js Go.Proofs.Tryz.func90 (by rfl) rfl Go.Proofs.Tryz.ntmps90 (by rfl) rfl ?_
 refine Ja (Jg (zE (Jc (Ja (Ja (Jg (zR 1 ?_)))))))
 refine Kl (L:=(a0:(List ByteArray))) (by kernel_rfl) ?_
 refine zE (Jc (Jo ?_))
 obtain ⟨o30,h30,h⟩:=Ko h
 refine Kh 25 0 (fun x8=>⟨[(0,Jp .frozen (a0:(List ByteArray))),(6,.int .i64 ((a0.length:Nat):Int)),(7,.int .i64 x8)],[],[],[]⟩) (fun (_:Unit)=>⟨[],[],[],[]⟩) h30 (by kernel_rfl) (fun _=>by kernel_rfl) ?_ ?_
 ·rintro x8 oh29 h29
  unfold Ja8 at h29
  refine Ja (Jg (zE (Jc (Ja ?_))))
  rcases Jl h29 with ⟨hb,h29⟩|⟨hb,h29⟩
  ·refine zT hb (Jk (Jc (Ja (Jo (Ja (Jg (zE (Jc (Ja (Jg (zE (Jc (Jo ?_)))))))))))))
   obtain ⟨o40,h40,h29⟩:=Ko h29
   refine Kh 25 2 (fun x18=>⟨[(0,Jp .frozen (a0:(List ByteArray))),(3,.int .i64 x8),(6,.int .i64 ((a0.length:Nat):Int)),(7,.int .i64 x8),(10,.int .i64 x8),(11,.int .i64 x18)],[],[],[]⟩) (fun (_:Unit)=>⟨[(0,Jp .frozen (a0:(List ByteArray))),(6,.int .i64 ((a0.length:Nat):Int)),(7,.int .i64 x8)],[],[],[]⟩) h40 (by kernel_rfl) (fun _=>by kernel_rfl) ?_ ?_
   ·rintro x18 oh39 h39
    unfold Ja2 at h39
    refine Ja (Jg (zE (Jc (Ja ?_))))
    rcases Jl h39 with ⟨hb,h39⟩|⟨hb,h39⟩
    ·refine zT hb (Jk (Jc (Ja (Jo (Ja (Jg (zE (Jc (Ja (Qb (by kernel_rfl) (by kernel_rfl) (zR 2 ?_)))))))))))
     obtain ⟨x21,h41,h39⟩:=Ji h39
     refine zI h41 (zR 3 ?_)
     obtain ⟨x22,h42,h39⟩:=Ji h39
     refine zI h42 (zE (Jc ?_))
     rcases Jl h39 with ⟨hb,h39⟩|⟨hb,h39⟩
     ·refine zT hb (Ja (Jg (zE (Jc (Jq (Jr (Jn ?_)))))))
      cases h39
      refine Kf fun he=>?_
      subst he
      have h43:=Qd h29
      refine Jr (Jr (Jn ?_))
      cases h43
      refine Kf fun he=>?_
      subst he
      have h44:=Qd h
      refine Jr (Jn ?_)
      cases h44
      exact zQ
     refine zU hb (Jk (Kb (Jc (Jg (zE ?_)))))
     cases h39
     exact zB
    refine zU hb (Ka (Jx ?_))
    cases h39
    exact zX
   rintro _ s' rfl hs
   have h29:=Kd h29
   refine Jv (Kb (Jc (Ke hs (Jg (zE ?_)))))
   cases h29
   exact zB
  refine zU hb (Ka (Jx ?_))
  cases h29
  exact zX
 rintro _ s' rfl hs
 have h:=Kd h
 refine Jv (Jc (Ke hs (Ja (Jg (zE (Jc (Jq ?_)))))))
 cases h
 exact zQ
/-! signallingref07.named -/
noncomputable def Hx (x9:(List ByteArray)):Int→Option (Int⊕(Unit⊕Int)):=fun x12 =>
 bif decide (x12<((x9.length:Nat):Int)) then (
  (ixO x9 x12).bind fun x15 =>
  (Mn x15).bind fun r16 =>
  bif (!r16) then (
   some (.inr (.inr 3))
  ) else (
   some (.inl (w64 (x12+1)))
  )
 ) else (
  some (.inr (.inl ()))
 )
noncomputable def Ho (a0:Je):Option Int :=
 ((bif decide (((a0.Elements.length:Nat):Int)<1) then some true else (
  some (decide (32<((a0.Elements.length:Nat):Int)))
 )):Option Bool).bind fun b1 =>
 ((bif b1 then some true else (
  some (decide (((a0.Sections.length:Nat):Int)<1))
 )):Option Bool).bind fun b2 =>
 ((bif b2 then some true else (
  some (decide (24<((a0.Sections.length:Nat):Int)))
 )):Option Bool).bind fun b3 =>
 ((bif b3 then some true else (
  some (decide (20<((a0.Signals.length:Nat):Int)))
 )):Option Bool).bind fun b4 =>
 ((bif b4 then some true else (
  some (decide (24<((a0.Balises.length:Nat):Int)))
 )):Option Bool).bind fun b5 =>
 bif b5 then (
  some 2
 ) else (
  (Ht a0).bind fun r6 =>
  (Vg [a0.Name] r6.x0).bind fun x7 =>
  (Vg x7 r6.x1).bind fun x8 =>
  (Vg x8 r6.x2).bind fun x9 =>
  onInl (α:=Unit) (β:=Int) (Km (Hx x9) 0) fun _ =>
  (Dx r6.x0).bind fun r17 =>
  ((bif r17 then some true else (
   (Dx r6.x1).bind fun r19 =>
   some r19
  )):Option Bool).bind fun b18 =>
  ((bif b18 then some true else (
   (Dx r6.x2).bind fun r21 =>
   some r21
  )):Option Bool).bind fun b20 =>
  bif b20 then (
   some 8
  ) else (
   some 0
  )
 )
theorem Jg7 (a0:Je) (r:Int) (h:Ho a0=some r):Kq Go.Proofs.Tryz.prog GlS 37 [Enc.pv a0] (Enc.pv r):=by
 unfold Ho at h
 refine Js Go.Proofs.Tryz.func37 (by rfl) rfl Go.Proofs.Tryz.ntmps37 (by rfl) rfl ?_
 refine Ja (Jg (zE (Jc (Ja (Ja (Jg (zR 2 ?_)))))))
 refine Kl (L:=(a0.Elements:(List Jw))) (by kernel_rfl) ?_
 obtain ⟨b1,h1,h⟩:=Ji h
 refine zR 2 ?_
 refine Qf 5 15 (.bool b1) ?_ ?_
 ·rcases Jl h1 with ⟨hb,h1⟩|⟨hb,h1⟩
  ·refine zS 10 hb ?_
   cases h1
   exact zF
  refine zS 10 hb (zR 2 ?_)
  refine Kl (L:=(a0.Elements:(List Jw))) (by kernel_rfl) ?_
  cases h1
  exact zF
 obtain ⟨b2,h2,h⟩:=Ji h
 refine zR 1 ?_
 refine Qf 5 21 (.bool b2) ?_ ?_
 ·rcases Jl h2 with ⟨hb,h2⟩|⟨hb,h2⟩
  ·refine zS 16 hb ?_
   cases h2
   exact zF
  refine zS 16 hb (zR 2 ?_)
  refine Kl (L:=(a0.Sections:(List ByteArray))) (by kernel_rfl) ?_
  cases h2
  exact zF
 obtain ⟨b3,h3,h⟩:=Ji h
 refine zR 1 ?_
 refine Qf 5 27 (.bool b3) ?_ ?_
 ·rcases Jl h3 with ⟨hb,h3⟩|⟨hb,h3⟩
  ·refine zS 22 hb ?_
   cases h3
   exact zF
  refine zS 22 hb (zR 2 ?_)
  refine Kl (L:=(a0.Sections:(List ByteArray))) (by kernel_rfl) ?_
  cases h3
  exact zF
 obtain ⟨b4,h4,h⟩:=Ji h
 refine zR 1 ?_
 refine Qf 5 33 (.bool b4) ?_ ?_
 ·rcases Jl h4 with ⟨hb,h4⟩|⟨hb,h4⟩
  ·refine zS 28 hb ?_
   cases h4
   exact zF
  refine zS 28 hb (zR 2 ?_)
  refine Kl (L:=(a0.Signals:(List Ki))) (by kernel_rfl) ?_
  cases h4
  exact zF
 obtain ⟨b5,h5,h⟩:=Ji h
 refine zR 1 ?_
 refine Qf 5 39 (.bool b5) ?_ ?_
 ·rcases Jl h5 with ⟨hb,h5⟩|⟨hb,h5⟩
  ·refine zS 34 hb ?_
   cases h5
   exact zF
  refine zS 34 hb (zR 2 ?_)
  refine Kl (L:=(a0.Balises:(List Jt))) (by kernel_rfl) ?_
  cases h5
  exact zF
 refine zN (Jc ?_)
 rcases Jl h with ⟨hb,h⟩|⟨hb,h⟩
 ·refine zT hb (Ja (Jg (zE (Jc (Jq (Jn ?_))))))
  cases h
  exact zQ
 refine zU hb (Jk (Jc (Ja (Jg (zR 1 ?_)))))
 obtain ⟨r6,h6,h⟩:=Ji h
 refine Jy (Jg0 _ r6 h6) (by kernel_rfl) (by kernel_rfl) (zE (Jc (Ja (Ja (Qb (by kernel_rfl) (by kernel_rfl) (zR 5 ?_))))))
 obtain ⟨x7,h7,h⟩:=Ji h
 refine Jcl (tk:=47) h7 (by kernel_rfl) ?_
 refine zR 2 ?_
 obtain ⟨x8,h8,h⟩:=Ji h
 refine Vv (tk:=47) h8 (by kernel_rfl) (by kernel_rfl) ?_
 refine zR 2 ?_
 obtain ⟨x9,h9,h⟩:=Ji h
 refine Vv (tk:=47) h9 (by kernel_rfl) (by kernel_rfl) ?_
 refine Kl (L:=(x9:(List ByteArray))) (by kernel_rfl) ?_
 refine zE (Jc (Jo ?_))
 obtain ⟨o17,h17,h⟩:=Ko h
 refine Kh 76 0 (fun x12=>⟨[(3,.ref 3 0),(53,Jp (.own 47) (x9:(List ByteArray))),(54,.int .i64 ((x9.length:Nat):Int)),(55,.int .i64 x12)],[(3,.cells (cellsOf r6))],[(47,(((x9).map cellsOf).length,1))],[]⟩) (fun (_:Unit)=>⟨[(3,.ref 3 0)],[(3,.cells (cellsOf r6))],[],[]⟩) h17 (by kernel_rfl) (fun _=>by kernel_rfl) ?_ ?_
 ·rintro x12 oh16 h16
  unfold Hx at h16
  refine Ja (Jg (zE (Jc (Ja ?_))))
  rcases Jl h16 with ⟨hb,h16⟩|⟨hb,h16⟩
  ·refine zT hb (Jk (Jc (Ja (Jo (Ja (Jg ?_))))))
   obtain ⟨x15,h18,h16⟩:=Ji h16
   refine zI h18 (zE (Jc (Ja (Jg (zR 1 ?_)))))
   obtain ⟨r16,h19,h16⟩:=Ji h16
   refine Jy (Jjf _ r16 h19) (by kernel_rfl) (by kernel_rfl) (zE (Jc ?_))
   rcases Jl h16 with ⟨hb,h16⟩|⟨hb,h16⟩
   ·refine zT hb (Ja (Jg (zE (Jc (Jq (Jr (Jn ?_)))))))
    cases h16
    refine Kf fun he=>?_
    subst he
    have h20:=Qd h
    refine Jr (Jn ?_)
    cases h20
    exact zQ
   refine zU hb (Jk (Kb (Jc (Jg (zE ?_)))))
   cases h16
   exact zB
  refine zU hb (Ka (Jx ?_))
  cases h16
  exact zX
 rintro _ s' rfl hs
 have h:=Kd h
 refine Jv (Jc (Ke hs (Ja (Ja (Jg (zR 2 ?_))))))
 obtain ⟨r17,h21,h⟩:=Ji h
 refine Jy (Nd _ r17 h21) (by kernel_rfl) (by kernel_rfl) ?_
 obtain ⟨b18,h22,h⟩:=Ji h
 refine zR 1 ?_
 refine Qf 4 70 (.bool b18) ?_ ?_
 ·rcases Jl h22 with ⟨hb,h22⟩|⟨hb,h22⟩
  ·refine zS 66 hb ?_
   cases h22
   exact zF
  refine zS 66 hb (zR 2 ?_)
  obtain ⟨r19,h23,h22⟩:=Ji h22
  refine Jy (Nd _ r19 h23) (by kernel_rfl) (by kernel_rfl) ?_
  cases h22
  exact zF
 obtain ⟨b20,h24,h⟩:=Ji h
 refine zR 1 ?_
 refine Qf 4 75 (.bool b20) ?_ ?_
 ·rcases Jl h24 with ⟨hb,h24⟩|⟨hb,h24⟩
  ·refine zS 71 hb ?_
   cases h24
   exact zF
  refine zS 71 hb (zR 2 ?_)
  obtain ⟨r21,h25,h24⟩:=Ji h24
  refine Jy (Nd _ r21 h25) (by kernel_rfl) (by kernel_rfl) ?_
  cases h24
  exact zF
 refine zN (Jc ?_)
 rcases Jl h with ⟨hb,h⟩|⟨hb,h⟩
 ·refine zT hb (Ja (Jg (zE (Jc (Jq (Jn ?_))))))
  cases h
  exact zQ
 refine zU hb (Jk (Jc (Ja (Jg (zE (Jc (Jq ?_)))))))
 cases h
 exact zQ
/-! signallingref07.right -/
noncomputable def Hw (a0:Je) (a1:Jw):Option Bool :=
 ((bif (((((((((decide (a1.Kind<1))||(decide (3<a1.Kind)))||(decide (a1.Length<500)))||(decide (1000000<a1.Length)))||(decide (a1.Grade<(-50))))||(decide (50<a1.Grade)))||(decide (a1.Speed<100)))||(decide (10000<a1.Speed)))||(decide (a1.Section<0))) then some true else (
  some (decide (((a0.Sections.length:Nat):Int)≤a1.Section))
 )):Option Bool).bind fun b1 =>
 bif b1 then (
  some false
 ) else (
  bif decide (a1.Kind=2) then (
   some ((decide (100≤a1.Slow))&&(decide (a1.Slow≤a1.Speed)))
  ) else (
   some (decide (a1.Slow=0))
  )
 )
theorem Jh7 (a0:Je) (a1:Jw) (r:Bool) (h:Hw a0 a1=some r):Kq Go.Proofs.Tryz.prog GlS 91 [Enc.pv a0,Enc.pv a1] (Enc.pv r):=by
 unfold Hw at h
 refine Js Go.Proofs.Tryz.func91 (by rfl) rfl Go.Proofs.Tryz.ntmps91 (by rfl) rfl ?_
 refine Ja (Jg (zE (Jc (Ja (Ja (Jg (zR 4 ?_)))))))
 refine Kx 4 12 ((decide (a1.Kind<1))||(decide (3<a1.Kind))) (fun x hx=>?_) ?_
 ·rcases Wx hx with ⟨hb,hx⟩|⟨hb,hx⟩
  ·refine zS 8 hb ?_
   subst hx
   exact zF
  refine zS 8 hb ?_
  subst hx
  exact zF
 refine zR 1 ?_
 refine Kx 4 17 (((decide (a1.Kind<1))||(decide (3<a1.Kind)))||(decide (a1.Length<500))) (fun x hx=>?_) ?_
 ·rcases Wx hx with ⟨hb,hx⟩|⟨hb,hx⟩
  ·refine zS 13 hb ?_
   subst hx
   exact zF
  refine zS 13 hb ?_
  subst hx
  exact zF
 refine zR 1 ?_
 refine Kx 4 22 ((((decide (a1.Kind<1))||(decide (3<a1.Kind)))||(decide (a1.Length<500)))||(decide (1000000<a1.Length))) (fun x hx=>?_) ?_
 ·rcases Wx hx with ⟨hb,hx⟩|⟨hb,hx⟩
  ·refine zS 18 hb ?_
   subst hx
   exact zF
  refine zS 18 hb ?_
  subst hx
  exact zF
 refine zR 1 ?_
 refine Kx 4 27 (((((decide (a1.Kind<1))||(decide (3<a1.Kind)))||(decide (a1.Length<500)))||(decide (1000000<a1.Length)))||(decide (a1.Grade<(-50)))) (fun x hx=>?_) ?_
 ·rcases Wx hx with ⟨hb,hx⟩|⟨hb,hx⟩
  ·refine zS 23 hb ?_
   subst hx
   exact zF
  refine zS 23 hb ?_
  subst hx
  exact zF
 refine zR 1 ?_
 refine Kx 4 32 ((((((decide (a1.Kind<1))||(decide (3<a1.Kind)))||(decide (a1.Length<500)))||(decide (1000000<a1.Length)))||(decide (a1.Grade<(-50))))||(decide (50<a1.Grade))) (fun x hx=>?_) ?_
 ·rcases Wx hx with ⟨hb,hx⟩|⟨hb,hx⟩
  ·refine zS 28 hb ?_
   subst hx
   exact zF
  refine zS 28 hb ?_
  subst hx
  exact zF
 refine zR 1 ?_
 refine Kx 4 37 (((((((decide (a1.Kind<1))||(decide (3<a1.Kind)))||(decide (a1.Length<500)))||(decide (1000000<a1.Length)))||(decide (a1.Grade<(-50))))||(decide (50<a1.Grade)))||(decide (a1.Speed<100))) (fun x hx=>?_) ?_
 ·rcases Wx hx with ⟨hb,hx⟩|⟨hb,hx⟩
  ·refine zS 33 hb ?_
   subst hx
   exact zF
  refine zS 33 hb ?_
  subst hx
  exact zF
 refine zR 1 ?_
 refine Kx 4 42 ((((((((decide (a1.Kind<1))||(decide (3<a1.Kind)))||(decide (a1.Length<500)))||(decide (1000000<a1.Length)))||(decide (a1.Grade<(-50))))||(decide (50<a1.Grade)))||(decide (a1.Speed<100)))||(decide (10000<a1.Speed))) (fun x hx=>?_) ?_
 ·rcases Wx hx with ⟨hb,hx⟩|⟨hb,hx⟩
  ·refine zS 38 hb ?_
   subst hx
   exact zF
  refine zS 38 hb ?_
  subst hx
  exact zF
 refine zR 1 ?_
 refine Kx 4 47 (((((((((decide (a1.Kind<1))||(decide (3<a1.Kind)))||(decide (a1.Length<500)))||(decide (1000000<a1.Length)))||(decide (a1.Grade<(-50))))||(decide (50<a1.Grade)))||(decide (a1.Speed<100)))||(decide (10000<a1.Speed)))||(decide (a1.Section<0))) (fun x hx=>?_) ?_
 ·rcases Wx hx with ⟨hb,hx⟩|⟨hb,hx⟩
  ·refine zS 43 hb ?_
   subst hx
   exact zF
  refine zS 43 hb ?_
  subst hx
  exact zF
 obtain ⟨b1,h1,h⟩:=Ji h
 refine zR 1 ?_
 refine Qf 7 55 (.bool b1) ?_ ?_
 ·rcases Jl h1 with ⟨hb,h1⟩|⟨hb,h1⟩
  ·refine zS 48 hb ?_
   cases h1
   exact zF
  refine zS 48 hb (zR 4 ?_)
  refine Kl (L:=(a0.Sections:(List ByteArray))) (by kernel_rfl) ?_
  cases h1
  exact zF
 refine zN (Jc ?_)
 rcases Jl h with ⟨hb,h⟩|⟨hb,h⟩
 ·refine zT hb (Ja (Jg (zE (Jc (Jq (Jn ?_))))))
  cases h
  exact zQ
 refine zU hb (Jk (Jc (Ja (Ja (Jg (zE (Jc ?_)))))))
 rcases Jl h with ⟨hb,h⟩|⟨hb,h⟩
 ·refine zT hb (Ja (Jg (zR 4 ?_)))
  refine Kx 6 68 ((decide (100≤a1.Slow))&&(decide (a1.Slow≤a1.Speed))) (fun x hx=>?_) ?_
  ·rcases Wb hx with ⟨hb,hx⟩|⟨hb,hx⟩
   ·refine zS 62 hb ?_
    subst hx
    exact zF
   refine zS 62 hb ?_
   subst hx
   exact zF
  refine zE (Jc (Jq (Jn ?_)))
  cases h
  exact zQ
 refine zU hb (Jk (Jc (Ja (Jg (zE (Jc (Jq ?_)))))))
 cases h
 exact zQ
/-! signallingref07.Members -/
noncomputable def Es (a0:Je) (a1:Int):(Int×(List Int))→Option ((Int×(List Int))⊕((List Int)⊕(List Int))):=fun (x16,x17) =>
 bif decide (x16<((a0.Elements.length:Nat):Int)) then (
  onInl (α:=(List Int)) (β:=((Int×(List Int))⊕((List Int)⊕(List Int)))) (
   (ixO a0.Elements x16).bind fun x30 =>
   ((bif ((decide (x30.Section=a1))&&(decide (0≤a1))) then (
    some (decide (a1<((a0.Sections.length:Nat):Int)))
   ) else some false):Option Bool).bind fun b31 =>
   bif b31 then (
    (Vg x17 [x16]).bind fun x32 =>
    some (.inl x32)
   ) else (
    some (.inl x17)
   )
  ) fun x29 =>
  some (.inl (w64 (x16+1),x29))
 ) else (
  some (.inr (.inl x17))
 )
noncomputable def Zz (a0:Je) (a1:Int):Option (List Int) :=
 onInl (α:=(List Int)) (β:=(List Int)) (Km (Es a0 a1) (0,([]:(List Int)))) fun x25 =>
 some x25
theorem Jez (a0:Je) (a1:Int) (r:(List Int)) (h:Zz a0 a1=some r):Kq Go.Proofs.Tryz.prog GlS 92 [Enc.pv a0,Enc.pv a1] (Jp (.own 100005) r):=by
 unfold Zz at h
 refine Js Go.Proofs.Tryz.func92 (by rfl) rfl Go.Proofs.Tryz.ntmps92 (by rfl) rfl ?_
 refine Ja (Jg (zE (Jc (Ja (Jg (zE (Jc (Ja (Ja (Jg (zR 2 ?_)))))))))))
 refine Kl (L:=(a0.Elements:(List Jw))) (by kernel_rfl) ?_
 refine zE (Jc (Jo (Cs 5 100005 1 8 (by kernel_rfl) (by kernel_rfl) ?_)))
 obtain ⟨o23,h23,h⟩:=Ko h
 refine Kh 37 0 (fun (x16,x17)=>⟨[(1,.int .i64 a1),(2,.ref 2 0),(5,Jp (.own 100005) (x17:(List Int))),(9,Jp .frozen (a0.Elements:(List Jw))),(10,.int .i64 ((a0.Elements.length:Nat):Int)),(11,.int .i64 x16)],[(2,.cells (cellsOf a0))],[(100005,(((x17).map cellsOf).length,1))],[]⟩) (fun x25=>⟨[(5,Jp (.own 100005) (x25:(List Int)))],[],[(100005,(((x25).map cellsOf).length,1))],[]⟩) h23 (by kernel_rfl) (fun _=>by kernel_rfl) ?_ ?_
 ·rintro ⟨x16,x17⟩ oh22 h22
  unfold Es at h22
  refine Ja (Jg (zE (Jc (Ja ?_))))
  rcases Jl h22 with ⟨hb,h22⟩|⟨hb,h22⟩
  ·refine zT hb (Jk (Jc ?_))
   obtain ⟨o27,h27,h22⟩:=Ko h22
   refine Um (o:=o27) 37 (fun x29=>⟨[(1,.int .i64 a1),(2,.ref 2 0),(5,Jp (.own 100005) (x29:(List Int))),(9,Jp .frozen (a0.Elements:(List Jw))),(10,.int .i64 ((a0.Elements.length:Nat):Int)),(11,.int .i64 x16)],[(2,.cells (cellsOf a0))],[(100005,(((x29).map cellsOf).length,1))],[]⟩) ?_ ?_
   ·refine Jo (Ja (Jg (zR 1 ?_)))
    obtain ⟨x30,h28,h27⟩:=Ji h27
    refine zI h28 (zE (Jc (Ja (Jg (zR 5 ?_)))))
    refine Kx 3 23 ((decide (x30.Section=a1))&&(decide (0≤a1))) (fun x hx=>?_) ?_
    ·rcases Wb hx with ⟨hb,hx⟩|⟨hb,hx⟩
     ·refine zS 20 hb ?_
      subst hx
      exact zF
     refine zS 20 hb ?_
     subst hx
     exact zF
    obtain ⟨b31,h29,h27⟩:=Ji h27
    refine zR 1 ?_
    refine Qf 6 30 (.bool b31) ?_ ?_
    ·rcases Jl h29 with ⟨hb,h29⟩|⟨hb,h29⟩
     ·refine zS 24 hb (zR 3 ?_)
      refine Kl (L:=(a0.Sections:(List ByteArray))) (by kernel_rfl) ?_
      cases h29
      exact zF
     refine zS 24 hb ?_
     cases h29
     exact zF
    refine zN (Jc ?_)
    rcases Jl h27 with ⟨hb,h27⟩|⟨hb,h27⟩
    ·refine zT hb (Jg (zR 3 ?_))
     obtain ⟨x32,h30,h27⟩:=Ji h27
     refine Vv (tk:=100005) h30 (by kernel_rfl) (by kernel_rfl) ?_
     refine zE (Kb ?_)
     cases h27
     exact zJ
    refine zU hb (Jk (Kb ?_))
    cases h27
    exact zJ
   rintro x29 rfl
   have h22:=Kd h22
   refine Jg (zE ?_)
   cases h22
   exact zB
  refine zU hb (Ka (Jx ?_))
  cases h22
  exact zX
 rintro x25 s' rfl hs
 have h:=Kd h
 refine Jv (Jc (Ke hs (Ja (Jg (zE (Jc (Jq ?_)))))))
 cases h
 exact zQ
/-! signallingref06.Sides -/
noncomputable def Dy (a0:Int):Option Int :=
 bif decide (a0=1) then (
  some 2
 ) else (
  bif decide (a0=2) then (
   some 3
  ) else (
   bif decide (a0=3) then (
    some 4
   ) else (
    some 0
   )
  )
 )
theorem Xj (a0:Int) (r:Int) (h:Dy a0=some r):Kq Go.Proofs.Tryz.prog GlS 126 [Enc.pv a0] (Enc.pv r):=by
 unfold Dy at h
 refine Js Go.Proofs.Tryz.func126 (by rfl) rfl Go.Proofs.Tryz.ntmps126 (by rfl) rfl ?_
 refine Ja (Jg (zE (Jc (Ja (Ja (Jg (zE (Jc (Jo (Ja (Jg (zE (Jc ?_)))))))))))))
 rcases Jl h with ⟨hb,h⟩|⟨hb,h⟩
 ·refine zT hb (Ja (Jg (zE (Jc (Jq (Jr (Jn ?_)))))))
  cases h
  exact zQ
 refine zU hb (Ja (Jg (zE (Jc ?_))))
 rcases Jl h with ⟨hb,h⟩|⟨hb,h⟩
 ·refine zT hb (Ja (Jg (zE (Jc (Jq (Jr (Jn ?_)))))))
  cases h
  exact zQ
 refine zU hb (Ja (Jg (zE (Jc ?_))))
 rcases Jl h with ⟨hb,h⟩|⟨hb,h⟩
 ·refine zT hb (Ja (Jg (zE (Jc (Jq (Jr (Jn ?_)))))))
  cases h
  exact zQ
 refine zU hb (Jk (Kb (Jc (Ja (Jg (zE (Jc (Jq ?_))))))))
 cases h
 exact zQ
/-! signallingref07.exists -/
noncomputable def Zi (a0:Je) (a1:Jj):Option Bool :=
 ((bif decide (0≤a1.El) then (
  some (decide (a1.El<((a0.Elements.length:Nat):Int)))
 ) else some false):Option Bool).bind fun b1 =>
 ((bif (b1&&(decide (0≤a1.Side))) then (
  (ixO a0.Elements a1.El).bind fun x3 =>
  (Dy x3.Kind).bind fun r4 =>
  some (decide (a1.Side<r4))
 ) else some false):Option Bool).bind fun b2 =>
 some b2
theorem Mw (a0:Je) (a1:Jj) (r:Bool) (h:Zi a0 a1=some r):Kq Go.Proofs.Tryz.prog GlS 93 [Enc.pv a0,Enc.pv a1] (Enc.pv r):=by
 unfold Zi at h
 refine Js Go.Proofs.Tryz.func93 (by rfl) rfl Go.Proofs.Tryz.ntmps93 (by rfl) rfl ?_
 refine Ja (Jg (zE (Jc (Ja (Qb (by kernel_rfl) (by kernel_rfl) ?_)))))
 obtain ⟨b1,h1,h⟩:=Ji h
 refine zR 4 ?_
 refine Qf 7 15 (.bool b1) ?_ ?_
 ·rcases Jl h1 with ⟨hb,h1⟩|⟨hb,h1⟩
  ·refine zS 8 hb (zR 4 ?_)
   refine Kl (L:=(a0.Elements:(List Jw))) (by kernel_rfl) ?_
   cases h1
   exact zF
  refine zS 8 hb ?_
  cases h1
  exact zF
 refine zR 1 ?_
 refine Kx 4 20 (b1&&(decide (0≤a1.Side))) (fun x hx=>?_) ?_
 ·rcases Wb hx with ⟨hb,hx⟩|⟨hb,hx⟩
  ·refine zS 16 hb ?_
   subst hx
   exact zF
  refine zS 16 hb ?_
  subst hx
  exact zF
 obtain ⟨b2,h2,h⟩:=Ji h
 refine zR 1 ?_
 refine Qf 12 33 (.bool b2) ?_ ?_
 ·rcases Jl h2 with ⟨hb,h2⟩|⟨hb,h2⟩
  ·refine zS 21 hb (zR 6 ?_)
   obtain ⟨x3,h3,h2⟩:=Ji h2
   refine zI h3 (zR 2 ?_)
   obtain ⟨r4,h4,h2⟩:=Ji h2
   refine Jy (Xj _ r4 h4) (by kernel_rfl) (by kernel_rfl) ?_
   cases h2
   exact zF
  refine zS 21 hb ?_
  cases h2
  exact zF
 refine zE (Jc (Jq ?_))
 cases h
 exact zQ
/-! signallingref07.ends -/
noncomputable def Jcf (a0:(List Jj)) (x8:Int):Int→Option (Int⊕(Unit⊕(Int⊕(Unit⊕Bool)))):=fun x18 =>
 bif decide (x18<x8) then (
  (ixO a0 x8).bind fun x21 =>
  (ixO a0 x18).bind fun x22 =>
  bif Ku x21 x22 then (
   some (.inr (.inr (.inr (.inr true))))
  ) else (
   some (.inl (w64 (x18+1)))
  )
 ) else (
  some (.inr (.inl ()))
 )
noncomputable def Jch (a0:(List Jj)):Int→Option (Int⊕(Unit⊕Bool)):=fun x8 =>
 bif decide (x8<((a0.length:Nat):Int)) then (
  onInl (α:=Unit) (β:=(Int⊕(Unit⊕Bool))) (Km (Jcf a0 x8) 0) fun _ =>
  some (.inl (w64 (x8+1)))
 ) else (
  some (.inr (.inl ()))
 )
noncomputable def Ln (a0:(List Jj)):Option Bool :=
 onInl (α:=Unit) (β:=Bool) (Km (Jch a0) 0) fun _ =>
 some false
theorem Ja3 (a0:(List Jj)) (r:Bool) (h:Ln a0=some r):Kq Go.Proofs.Tryz.prog GlS 94 [Enc.pv a0] (Enc.pv r):=by
 unfold Ln at h
 refine Js Go.Proofs.Tryz.func94 (by rfl) rfl Go.Proofs.Tryz.ntmps94 (by rfl) rfl ?_
 refine Ja (Jg (zE (Jc (Ja (Ja (Jg (zR 1 ?_)))))))
 refine Kl (L:=(a0:(List Jj))) (by kernel_rfl) ?_
 refine zE (Jc (Jo ?_))
 obtain ⟨o30,h30,h⟩:=Ko h
 refine Kh 25 0 (fun x8=>⟨[(0,Jp .frozen (a0:(List Jj))),(6,.int .i64 ((a0.length:Nat):Int)),(7,.int .i64 x8)],[],[],[]⟩) (fun (_:Unit)=>⟨[],[],[],[]⟩) h30 (by kernel_rfl) (fun _=>by kernel_rfl) ?_ ?_
 ·rintro x8 oh29 h29
  unfold Jch at h29
  refine Ja (Jg (zE (Jc (Ja ?_))))
  rcases Jl h29 with ⟨hb,h29⟩|⟨hb,h29⟩
  ·refine zT hb (Jk (Jc (Ja (Jo (Ja (Jg (zE (Jc (Ja (Jg (zE (Jc (Jo ?_)))))))))))))
   obtain ⟨o40,h40,h29⟩:=Ko h29
   refine Kh 25 2 (fun x18=>⟨[(0,Jp .frozen (a0:(List Jj))),(3,.int .i64 x8),(6,.int .i64 ((a0.length:Nat):Int)),(7,.int .i64 x8),(10,.int .i64 x8),(11,.int .i64 x18)],[],[],[]⟩) (fun (_:Unit)=>⟨[(0,Jp .frozen (a0:(List Jj))),(6,.int .i64 ((a0.length:Nat):Int)),(7,.int .i64 x8)],[],[],[]⟩) h40 (by kernel_rfl) (fun _=>by kernel_rfl) ?_ ?_
   ·rintro x18 oh39 h39
    unfold Jcf at h39
    refine Ja (Jg (zE (Jc (Ja ?_))))
    rcases Jl h39 with ⟨hb,h39⟩|⟨hb,h39⟩
    ·refine zT hb (Jk (Jc (Ja (Jo (Ja (Jg (zE (Jc (Ja (Qb (by kernel_rfl) (by kernel_rfl) (zR 2 ?_)))))))))))
     obtain ⟨x21,h41,h39⟩:=Ji h39
     refine zI h41 (zR 3 ?_)
     obtain ⟨x22,h42,h39⟩:=Ji h39
     refine zI h42 (zE (Jc ?_))
     rcases Jl h39 with ⟨hb,h39⟩|⟨hb,h39⟩
     ·refine zT hb (Ja (Jg (zE (Jc (Jq (Jr (Jn ?_)))))))
      cases h39
      refine Kf fun he=>?_
      subst he
      have h43:=Qd h29
      refine Jr (Jr (Jn ?_))
      cases h43
      refine Kf fun he=>?_
      subst he
      have h44:=Qd h
      refine Jr (Jn ?_)
      cases h44
      exact zQ
     refine zU hb (Jk (Kb (Jc (Jg (zE ?_)))))
     cases h39
     exact zB
    refine zU hb (Ka (Jx ?_))
    cases h39
    exact zX
   rintro _ s' rfl hs
   have h29:=Kd h29
   refine Jv (Kb (Jc (Ke hs (Jg (zE ?_)))))
   cases h29
   exact zB
  refine zU hb (Ka (Jx ?_))
  cases h29
  exact zX
 rintro _ s' rfl hs
 have h:=Kd h
 refine Jv (Jc (Ke hs (Ja (Jg (zE (Jc (Jq ?_)))))))
 cases h
 exact zQ
/-! signallingref07.elements -/
noncomputable def Cw (a0:Je):Int→Option (Int⊕(Unit⊕Int)):=fun x3 =>
 bif decide (x3<((a0.Elements.length:Nat):Int)) then (
  (ixO a0.Elements x3).bind fun x6 =>
  (Hw a0 x6).bind fun r7 =>
  bif (!r7) then (
   some (.inr (.inr 1))
  ) else (
   some (.inl (w64 (x3+1)))
  )
 ) else (
  some (.inr (.inl ()))
 )
noncomputable def Dc (a0:Je):Int→Option (Int⊕(Unit⊕Int)):=fun x9 =>
 bif decide (x9<((a0.Sections.length:Nat):Int)) then (
  (Zz a0 x9).bind fun r11 =>
  bif decide (((r11.length:Nat):Int)=0) then (
   some (.inr (.inr 1))
  ) else (
   some (.inl (w64 (x9+1)))
  )
 ) else (
  some (.inr (.inl ()))
 )
noncomputable def Ct (a0:Je):(Int×(List Jj))→Option ((Int×(List Jj))⊕((List Jj)⊕Int)):=fun (x23,x24) =>
 bif decide (x23<((a0.Joints.length:Nat):Int)) then (
  (ixO a0.Joints x23).bind fun x31 =>
  (Zi a0 x31.A).bind fun r32 =>
  ((bif (!r32) then some true else (
   (Zi a0 x31.B).bind fun r34 =>
   some (!r34)
  )):Option Bool).bind fun b33 =>
  bif (b33||(Ku x31.A x31.B)) then (
   some (.inr (.inr 1))
  ) else (
   (Vg x24 [x31.A,x31.B]).bind fun x35 =>
   some (.inl (w64 (x23+1),x35))
  )
 ) else (
  some (.inr (.inl x24))
 )
noncomputable def Yv (a0:Je):Option Int :=
 onInl (α:=Unit) (β:=Int) (Km (Cw a0) 0) fun _ =>
 onInl (α:=Unit) (β:=Int) (Km (Dc a0) 0) fun _ =>
 onInl (α:=(List Jj)) (β:=Int) (Km (Ct a0) (0,([]:(List Jj)))) fun x30 =>
 (Ln x30).bind fun r36 =>
 bif r36 then (
  some 8
 ) else (
  some 0
 )
theorem Jdu (a0:Je) (r:Int) (h:Yv a0=some r):Kq Go.Proofs.Tryz.prog GlS 38 [Enc.pv a0] (Enc.pv r):=by
 unfold Yv at h
 refine Js Go.Proofs.Tryz.func38 (by rfl) rfl Go.Proofs.Tryz.ntmps38 (by rfl) rfl ?_
 refine Ja (Jg (zE (Jc (Ja (Ja (Jg (zR 2 ?_)))))))
 refine Kl (L:=(a0.Elements:(List Jw))) (by kernel_rfl) ?_
 refine zE (Jc (Jo ?_))
 obtain ⟨o8,h8,h⟩:=Ko h
 refine Kh 69 0 (fun x3=>⟨[(1,.ref 1 0),(10,Jp .frozen (a0.Elements:(List Jw))),(11,.int .i64 ((a0.Elements.length:Nat):Int)),(12,.int .i64 x3)],[(1,.cells (cellsOf a0))],[],[]⟩) (fun (_:Unit)=>⟨[(1,.ref 1 0)],[(1,.cells (cellsOf a0))],[],[]⟩) h8 (by kernel_rfl) (fun _=>by kernel_rfl) ?_ ?_
 ·rintro x3 oh7 h7
  unfold Cw at h7
  refine Ja (Jg (zE (Jc (Ja ?_))))
  rcases Jl h7 with ⟨hb,h7⟩|⟨hb,h7⟩
  ·refine zT hb (Jk (Jc (Ja (Jo (Ja (Jg ?_))))))
   obtain ⟨x6,h9,h7⟩:=Ji h7
   refine zI h9 (zE (Jc (Ja (Jg (zR 2 ?_)))))
   obtain ⟨r7,h10,h7⟩:=Ji h7
   refine Jy (Jh7 _ _ r7 h10) (by kernel_rfl) (by kernel_rfl) (zE (Jc ?_))
   rcases Jl h7 with ⟨hb,h7⟩|⟨hb,h7⟩
   ·refine zT hb (Ja (Jg (zE (Jc (Jq (Jr (Jn ?_)))))))
    cases h7
    refine Kf fun he=>?_
    subst he
    have h11:=Qd h
    refine Jr (Jn ?_)
    cases h11
    exact zQ
   refine zU hb (Jk (Kb (Jc (Jg (zE ?_)))))
   cases h7
   exact zB
  refine zU hb (Ka (Jx ?_))
  cases h7
  exact zX
 rintro _ s' rfl hs
 have h:=Kd h
 refine Jv (Jc (Ke hs (Ja (Ja (Jg (zR 2 ?_))))))
 refine Kl (L:=(a0.Sections:(List ByteArray))) (by kernel_rfl) ?_
 refine zE (Jc (Jo ?_))
 obtain ⟨o17,h17,h⟩:=Ko h
 refine Kh 69 2 (fun x9=>⟨[(1,.ref 1 0),(23,.int .i64 ((a0.Sections.length:Nat):Int)),(24,.int .i64 x9)],[(1,.cells (cellsOf a0))],[],[]⟩) (fun (_:Unit)=>⟨[(1,.ref 1 0)],[(1,.cells (cellsOf a0))],[],[]⟩) h17 (by kernel_rfl) (fun _=>by kernel_rfl) ?_ ?_
 ·rintro x9 oh16 h16
  unfold Dc at h16
  refine Ja (Jg (zE (Jc (Ja ?_))))
  rcases Jl h16 with ⟨hb,h16⟩|⟨hb,h16⟩
  ·refine zT hb (Jk (Jc (Ja (Jo (Ja (Jg (zE (Jc (Ja (Jg (zR 2 ?_)))))))))))
   obtain ⟨r11,h18,h16⟩:=Ji h16
   refine Jy (Jez _ _ r11 h18) (by kernel_rfl) (by kernel_rfl) ?_
   refine Kl (L:=(r11:(List Int))) (by kernel_rfl) ?_
   refine zE (Jc ?_)
   rcases Jl h16 with ⟨hb,h16⟩|⟨hb,h16⟩
   ·refine zT hb (Ja (Jg (zE (Jc (Jq (Jr (Jn ?_)))))))
    cases h16
    refine Kf fun he=>?_
    subst he
    have h19:=Qd h
    refine Jr (Jn ?_)
    cases h19
    exact zQ
   refine zU hb (Jk (Kb (Jc (Jg (zE ?_)))))
   cases h16
   exact zB
  refine zU hb (Ka (Jx ?_))
  cases h16
  exact zX
 rintro _ s' rfl hs
 have h:=Kd h
 refine Jv (Jc (Ke hs (Ja (Jg (zE (Jc (Ja (Ja (Jg (zR 2 ?_))))))))))
 refine Kl (L:=(a0.Joints:(List Qg))) (by kernel_rfl) ?_
 refine zE (Jc (Jo (Cs 6 100006 2 16 (by kernel_rfl) (by kernel_rfl) ?_)))
 obtain ⟨o39,h39,h⟩:=Ko h
 refine Kh 69 4 (fun (x23,x24)=>⟨[(1,.ref 1 0),(6,Jp (.own 100006) (x24:(List Jj))),(34,Jp .frozen (a0.Joints:(List Qg))),(35,.int .i64 ((a0.Joints.length:Nat):Int)),(36,.int .i64 x23)],[(1,.cells (cellsOf a0))],[(100006,(((x24).map cellsOf).length,2))],[]⟩) (fun x30=>⟨[(6,Jp (.own 100006) (x30:(List Jj)))],[],[(100006,(((x30).map cellsOf).length,2))],[]⟩) h39 (by kernel_rfl) (fun _=>by kernel_rfl) ?_ ?_
 ·rintro ⟨x23,x24⟩ oh38 h38
  unfold Ct at h38
  refine Ja (Jg (zE (Jc (Ja ?_))))
  rcases Jl h38 with ⟨hb,h38⟩|⟨hb,h38⟩
  ·refine zT hb (Jk (Jc (Ja (Jo (Ja (Jg ?_))))))
   obtain ⟨x31,h40,h38⟩:=Ji h38
   refine zI h40 (zE (Jc (Ja (Ja (Jg (zR 3 ?_))))))
   obtain ⟨r32,h41,h38⟩:=Ji h38
   refine Jy (Mw _ _ r32 h41) (by kernel_rfl) (by kernel_rfl) ?_
   obtain ⟨b33,h42,h38⟩:=Ji h38
   refine zR 2 ?_
   refine Qf 6 51 (.bool b33) ?_ ?_
   ·rcases Jl h42 with ⟨hb,h42⟩|⟨hb,h42⟩
    ·refine zS 45 hb ?_
     cases h42
     exact zF
    refine zS 45 hb (zR 3 ?_)
    obtain ⟨r34,h43,h42⟩:=Ji h42
    refine Jy (Mw _ _ r34 h43) (by kernel_rfl) (by kernel_rfl) ?_
    cases h42
    exact zF
   refine zR 1 ?_
   refine Kx 6 58 (b33||(Ku x31.A x31.B)) (fun x hx=>?_) ?_
   ·rcases Wx hx with ⟨hb,hx⟩|⟨hb,hx⟩
    ·refine zS 52 hb ?_
     subst hx
     exact zF
    refine zS 52 hb ?_
    subst hx
    exact zF
   refine zN (Jc ?_)
   rcases Jl h38 with ⟨hb,h38⟩|⟨hb,h38⟩
   ·refine zT hb (Ja (Jg (zE (Jc (Jq (Jn (Jr (Jn ?_))))))))
    cases h38
    refine Kf fun he=>?_
    subst he
    have h44:=Qd h
    refine Jr (Jn ?_)
    cases h44
    exact zQ
   refine zU hb (Jk (Jc (Jg (zR 6 ?_))))
   obtain ⟨x35,h45,h38⟩:=Ji h38
   refine Vv (tk:=100006) h45 (by kernel_rfl) (by kernel_rfl) ?_
   refine zE (Kb (Jc (Jg (zE ?_))))
   cases h38
   exact zB
  refine zU hb (Ka (Jx ?_))
  cases h38
  exact zX
 rintro x30 s' rfl hs
 have h:=Kd h
 refine Jv (Jc (Ke hs (Ja (Ja (Jg (zR 1 ?_))))))
 obtain ⟨r36,h46,h⟩:=Ji h
 refine Jy (Ja3 _ r36 h46) (by kernel_rfl) (by kernel_rfl) (zN (Jc ?_))
 rcases Jl h with ⟨hb,h⟩|⟨hb,h⟩
 ·refine zT hb (Ja (Jg (zE (Jc (Jq (Jn ?_))))))
  cases h
  exact zQ
 refine zU hb (Jk (Jc (Ja (Jg (zE (Jc (Jq ?_)))))))
 cases h
 exact zQ
/-! signallingref07.Joined -/
noncomputable def Fz (a0:Je) (a1:Jj):Int→Option (Int⊕(Unit⊕(Jj×Bool))):=fun x2 =>
 bif decide (x2<((a0.Joints.length:Nat):Int)) then (
  (ixO a0.Joints x2).bind fun x4 =>
  bif Ku x4.A a1 then (
   some (.inr (.inr (x4.B,true)))
  ) else (
   bif Ku x4.B a1 then (
    some (.inr (.inr (x4.A,true)))
   ) else (
    some (.inl (w64 (x2+1)))
   )
  )
 ) else (
  some (.inr (.inl ()))
 )
noncomputable def Wj (a0:Je) (a1:Jj):Option (Jj×Bool) :=
 onInl (α:=Unit) (β:=(Jj×Bool)) (Km (Fz a0 a1) 0) fun _ =>
 some ((Jj.mk 0 0),false)
theorem Bh (a0:Je) (a1:Jj) (r:(Jj×Bool)) (h:Wj a0 a1=some r):Kq Go.Proofs.Tryz.prog GlS 53 [Enc.pv a0,Enc.pv a1] (.tup [Enc.pv r.1,Enc.pv r.2]):=by
 unfold Wj at h
 refine Js Go.Proofs.Tryz.func53 (by rfl) rfl Go.Proofs.Tryz.ntmps53 (by rfl) rfl ?_
 refine Ja (Jg (zE (Jc (Ja (Ja (Jg (zR 2 ?_)))))))
 refine Kl (L:=(a0.Joints:(List Qg))) (by kernel_rfl) ?_
 refine zE (Jc (Jo ?_))
 obtain ⟨o8,h8,h⟩:=Ko h
 refine Kh 29 0 (fun x2=>⟨[(3,.ref 3 0),(4,.ref 4 0),(9,Jp .frozen (a0.Joints:(List Qg))),(10,.int .i64 ((a0.Joints.length:Nat):Int)),(11,.int .i64 x2)],[(3,.cells (cellsOf a1)),(4,.cells ([.int .i64 0,.int .i64 0]))],[],[]⟩) (fun (_:Unit)=>⟨[(4,.ref 4 0)],[(4,.cells ([.int .i64 0,.int .i64 0]))],[],[]⟩) h8 (by kernel_rfl) (fun _=>by kernel_rfl) ?_ ?_
 ·rintro x2 oh7 h7
  unfold Fz at h7
  refine Ja (Jg (zE (Jc (Ja ?_))))
  rcases Jl h7 with ⟨hb,h7⟩|⟨hb,h7⟩
  ·refine zT hb (Jk (Jc (Ja (Jo (Ja (Jg ?_))))))
   obtain ⟨x4,h9,h7⟩:=Ji h7
   refine zI h9 (zE (Jc (Ja (Ja (Jg (zE (Jc ?_)))))))
   rcases Jl h7 with ⟨hb,h7⟩|⟨hb,h7⟩
   ·refine zT hb (Ja (Jg (zE (Jc (Jq (Jn (Jr (Jn ?_))))))))
    cases h7
    refine Kf fun he=>?_
    subst he
    have h10:=Qd h
    refine Jr (Jn ?_)
    cases h10
    exact zQ
   refine zU hb (Jk (Jc (Ja (Jg (zE (Jc ?_))))))
   rcases Jl h7 with ⟨hb,h7⟩|⟨hb,h7⟩
   ·refine zT hb (Ja (Jg (zE (Jc (Jq (Jr (Jn ?_)))))))
    cases h7
    refine Kf fun he=>?_
    subst he
    have h11:=Qd h
    refine Jr (Jn ?_)
    cases h11
    exact zQ
   refine zU hb (Jk (Kb (Jc (Jg (zE ?_)))))
   cases h7
   exact zB
  refine zU hb (Ka (Jx ?_))
  cases h7
  exact zX
 rintro _ s' rfl hs
 have h:=Kd h
 refine Jv (Jc (Ke hs (Ja (Jg (zE (Jc (Jq ?_)))))))
 cases h
 exact zQ
/-! signallingref07.signals -/
noncomputable def Ef (a0:Je):(Int×(List Jj))→Option ((Int×(List Jj))⊕((List Jj)⊕Int)):=fun (x8,x9) =>
 bif decide (x8<((a0.Signals.length:Nat):Int)) then (
  (ixO a0.Signals x8).bind fun x14 =>
  (Zi a0 x14.At).bind fun r15 =>
  bif (((!r15)||(decide (x14.Overlap<0)))||(decide (1000000<x14.Overlap))) then (
   some (.inr (.inr 1))
  ) else (
   (Vg x9 [x14.At]).bind fun x16 =>
   some (.inl (w64 (x8+1),x16))
  )
 ) else (
  some (.inr (.inl x9))
 )
noncomputable def Ei (a0:Je) (x13:(List Jj)):Int→Option (Int⊕(Unit⊕Int)):=fun x23 =>
 bif decide (x23<((x13.length:Nat):Int)) then (
  (ixO x13 x23).bind fun x29 =>
  (Wj a0 x29).bind fun r30 =>
  ((bif (!r30.2) then some true else (
   (ixO a0.Elements r30.1.El).bind fun x32 =>
   (ixO a0.Elements x29.El).bind fun x33 =>
   some (decide (x32.Section=x33.Section))
  )):Option Bool).bind fun b31 =>
  bif b31 then (
   some (.inr (.inr 14))
  ) else (
   some (.inl (w64 (x23+1)))
  )
 ) else (
  some (.inr (.inl ()))
 )
noncomputable def Zy (a0:Je):Option Int :=
 onInl (α:=(List Jj)) (β:=Int) (Km (Ef a0) (0,([]:(List Jj)))) fun x13 =>
 (Ln x13).bind fun r17 =>
 bif r17 then (
  some 8
 ) else (
  onInl (α:=Unit) (β:=Int) (Km (Ei a0 x13) 0) fun _ =>
  some 0
 )
theorem Je8 (a0:Je) (r:Int) (h:Zy a0=some r):Kq Go.Proofs.Tryz.prog GlS 39 [Enc.pv a0] (Enc.pv r):=by
 unfold Zy at h
 refine Js Go.Proofs.Tryz.func39 (by rfl) rfl Go.Proofs.Tryz.ntmps39 (by rfl) rfl ?_
 refine Ja (Jg (zE (Jc (Ja (Jg (zE (Jc (Ja (Ja (Jg (zR 2 ?_)))))))))))
 refine Kl (L:=(a0.Signals:(List Ki))) (by kernel_rfl) ?_
 refine zE (Jc (Jo (Cs 3 100003 2 16 (by kernel_rfl) (by kernel_rfl) ?_)))
 obtain ⟨o14,h14,h⟩:=Ko h
 refine Kh 72 0 (fun (x8,x9)=>⟨[(1,.ref 1 0),(3,Jp (.own 100003) (x9:(List Jj))),(11,Jp .frozen (a0.Signals:(List Ki))),(12,.int .i64 ((a0.Signals.length:Nat):Int)),(13,.int .i64 x8)],[(1,.cells (cellsOf a0))],[(100003,(((x9).map cellsOf).length,2))],[]⟩) (fun x13=>⟨[(1,.ref 1 0),(3,Jp (.own 100003) (x13:(List Jj)))],[(1,.cells (cellsOf a0))],[(100003,(((x13).map cellsOf).length,2))],[]⟩) h14 (by kernel_rfl) (fun _=>by kernel_rfl) ?_ ?_
 ·rintro ⟨x8,x9⟩ oh13 h13
  unfold Ef at h13
  refine Ja (Jg (zE (Jc (Ja ?_))))
  rcases Jl h13 with ⟨hb,h13⟩|⟨hb,h13⟩
  ·refine zT hb (Jk (Jc (Ja (Jo (Ja (Jg ?_))))))
   obtain ⟨x14,h15,h13⟩:=Ji h13
   refine zI h15 (zE (Jc (Ja (Ja (Jg (zR 3 ?_))))))
   obtain ⟨r15,h16,h13⟩:=Ji h13
   refine Jy (Mw _ _ r15 h16) (by kernel_rfl) (by kernel_rfl) (zR 2 ?_)
   refine Kx 4 26 ((!r15)||(decide (x14.Overlap<0))) (fun x hx=>?_) ?_
   ·rcases Wx hx with ⟨hb,hx⟩|⟨hb,hx⟩
    ·refine zS 22 hb ?_
     subst hx
     exact zF
    refine zS 22 hb ?_
    subst hx
    exact zF
   refine zR 1 ?_
   refine Kx 4 31 (((!r15)||(decide (x14.Overlap<0)))||(decide (1000000<x14.Overlap))) (fun x hx=>?_) ?_
   ·rcases Wx hx with ⟨hb,hx⟩|⟨hb,hx⟩
    ·refine zS 27 hb ?_
     subst hx
     exact zF
    refine zS 27 hb ?_
    subst hx
    exact zF
   refine zN (Jc ?_)
   rcases Jl h13 with ⟨hb,h13⟩|⟨hb,h13⟩
   ·refine zT hb (Ja (Jg (zE (Jc (Jq (Jn (Jr (Jn ?_))))))))
    cases h13
    refine Kf fun he=>?_
    subst he
    have h17:=Qd h
    refine Jr (Jn ?_)
    cases h17
    exact zQ
   refine zU hb (Jk (Jc (Jg (zR 4 ?_))))
   obtain ⟨x16,h18,h13⟩:=Ji h13
   refine Vv (tk:=100003) h18 (by kernel_rfl) (by kernel_rfl) ?_
   refine zE (Kb (Jc (Jg (zE ?_))))
   cases h13
   exact zB
  refine zU hb (Ka (Jx ?_))
  cases h13
  exact zX
 rintro x13 s' rfl hs
 have h:=Kd h
 refine Jv (Jc (Ke hs (Ja (Ja (Jg (zR 1 ?_))))))
 obtain ⟨r17,h19,h⟩:=Ji h
 refine Jy (Ja3 _ r17 h19) (by kernel_rfl) (by kernel_rfl) (zN (Jc ?_))
 rcases Jl h with ⟨hb,h⟩|⟨hb,h⟩
 ·refine zT hb (Ja (Jg (zE (Jc (Jq (Jn ?_))))))
  cases h
  exact zQ
 refine zU hb (Jk (Jc (Ja (Ja (Jg (zR 1 ?_))))))
 refine Kl (L:=(x13:(List Jj))) (by kernel_rfl) ?_
 refine zE (Jc (Jo ?_))
 obtain ⟨o33,h33,h⟩:=Ko h
 refine Kh 72 2 (fun x23=>⟨[(1,.ref 1 0),(40,Jp (.own 100003) (x13:(List Jj))),(41,.int .i64 ((x13.length:Nat):Int)),(42,.int .i64 x23)],[(1,.cells (cellsOf a0))],[(100003,(((x13).map cellsOf).length,2))],[]⟩) (fun (_:Unit)=>⟨[],[],[],[]⟩) h33 (by kernel_rfl) (fun _=>by kernel_rfl) ?_ ?_
 ·rintro x23 oh32 h32
  unfold Ei at h32
  refine Ja (Jg (zE (Jc (Ja ?_))))
  rcases Jl h32 with ⟨hb,h32⟩|⟨hb,h32⟩
  ·refine zT hb (Jk (Jc (Ja (Jo (Ja (Jg ?_))))))
   obtain ⟨x29,h34,h32⟩:=Ji h32
   refine zI h34 (zE (Jc (Ja (Jg (zR 2 ?_)))))
   obtain ⟨r30,h35,h32⟩:=Ji h32
   refine Jy (Bh _ _ r30 h35) (by kernel_rfl) (by kernel_rfl) (zE (Jc (Ja (Qb (by kernel_rfl) (by kernel_rfl) ?_))))
   obtain ⟨b31,h36,h32⟩:=Ji h32
   refine zR 3 ?_
   refine Qf 16 70 (.bool b31) ?_ ?_
   ·rcases Jl h36 with ⟨hb,h36⟩|⟨hb,h36⟩
    ·refine zS 54 hb ?_
     cases h36
     exact zF
    refine zS 54 hb (zR 4 ?_)
    obtain ⟨x32,h37,h36⟩:=Ji h36
    refine zI h37 (zR 6 ?_)
    obtain ⟨x33,h38,h36⟩:=Ji h36
    refine zI h38 ?_
    cases h36
    exact zF
   refine zN (Jc ?_)
   rcases Jl h32 with ⟨hb,h32⟩|⟨hb,h32⟩
   ·refine zT hb (Ja (Jg (zE (Jc (Jq (Jr (Jn ?_)))))))
    cases h32
    refine Kf fun he=>?_
    subst he
    have h39:=Qd h
    refine Jr (Jn ?_)
    cases h39
    exact zQ
   refine zU hb (Jk (Kb (Jc (Jg (zE ?_)))))
   cases h32
   exact zB
  refine zU hb (Ka (Jx ?_))
  cases h32
  exact zX
 rintro _ s' rfl hs
 have h:=Kd h
 refine Jv (Jc (Ke hs (Ja (Jg (zE (Jc (Jq ?_)))))))
 cases h
 exact zQ
/-! signallingref07.numbers -/
noncomputable def Tf (a0:(List Int)) (x8:Int):Int→Option (Int⊕(Unit⊕(Int⊕(Unit⊕Bool)))):=fun x18 =>
 bif decide (x18<x8) then (
  (ixO a0 x8).bind fun x21 =>
  (ixO a0 x18).bind fun x22 =>
  bif decide (x21=x22) then (
   some (.inr (.inr (.inr (.inr true))))
  ) else (
   some (.inl (w64 (x18+1)))
  )
 ) else (
  some (.inr (.inl ()))
 )
noncomputable def So (a0:(List Int)):Int→Option (Int⊕(Unit⊕Bool)):=fun x8 =>
 bif decide (x8<((a0.length:Nat):Int)) then (
  onInl (α:=Unit) (β:=(Int⊕(Unit⊕Bool))) (Km (Tf a0 x8) 0) fun _ =>
  some (.inl (w64 (x8+1)))
 ) else (
  some (.inr (.inl ()))
 )
noncomputable def Ik (a0:(List Int)):Option Bool :=
 onInl (α:=Unit) (β:=Bool) (Km (So a0) 0) fun _ =>
 some false
theorem Jev (a0:(List Int)) (r:Bool) (h:Ik a0=some r):Kq Go.Proofs.Tryz.prog GlS 95 [Enc.pv a0] (Enc.pv r):=by
 unfold Ik at h
 refine Js Go.Proofs.Tryz.func95 (by rfl) rfl Go.Proofs.Tryz.ntmps95 (by rfl) rfl ?_
 refine Ja (Jg (zE (Jc (Ja (Ja (Jg (zR 1 ?_)))))))
 refine Kl (L:=(a0:(List Int))) (by kernel_rfl) ?_
 refine zE (Jc (Jo ?_))
 obtain ⟨o30,h30,h⟩:=Ko h
 refine Kh 25 0 (fun x8=>⟨[(0,Jp .frozen (a0:(List Int))),(6,.int .i64 ((a0.length:Nat):Int)),(7,.int .i64 x8)],[],[],[]⟩) (fun (_:Unit)=>⟨[],[],[],[]⟩) h30 (by kernel_rfl) (fun _=>by kernel_rfl) ?_ ?_
 ·rintro x8 oh29 h29
  unfold So at h29
  refine Ja (Jg (zE (Jc (Ja ?_))))
  rcases Jl h29 with ⟨hb,h29⟩|⟨hb,h29⟩
  ·refine zT hb (Jk (Jc (Ja (Jo (Ja (Jg (zE (Jc (Ja (Jg (zE (Jc (Jo ?_)))))))))))))
   obtain ⟨o40,h40,h29⟩:=Ko h29
   refine Kh 25 2 (fun x18=>⟨[(0,Jp .frozen (a0:(List Int))),(3,.int .i64 x8),(6,.int .i64 ((a0.length:Nat):Int)),(7,.int .i64 x8),(10,.int .i64 x8),(11,.int .i64 x18)],[],[],[]⟩) (fun (_:Unit)=>⟨[(0,Jp .frozen (a0:(List Int))),(6,.int .i64 ((a0.length:Nat):Int)),(7,.int .i64 x8)],[],[],[]⟩) h40 (by kernel_rfl) (fun _=>by kernel_rfl) ?_ ?_
   ·rintro x18 oh39 h39
    unfold Tf at h39
    refine Ja (Jg (zE (Jc (Ja ?_))))
    rcases Jl h39 with ⟨hb,h39⟩|⟨hb,h39⟩
    ·refine zT hb (Jk (Jc (Ja (Jo (Ja (Jg (zE (Jc (Ja (Qb (by kernel_rfl) (by kernel_rfl) (zR 2 ?_)))))))))))
     obtain ⟨x21,h41,h39⟩:=Ji h39
     refine zI h41 (zR 3 ?_)
     obtain ⟨x22,h42,h39⟩:=Ji h39
     refine zI h42 (zE (Jc ?_))
     rcases Jl h39 with ⟨hb,h39⟩|⟨hb,h39⟩
     ·refine zT hb (Ja (Jg (zE (Jc (Jq (Jr (Jn ?_)))))))
      cases h39
      refine Kf fun he=>?_
      subst he
      have h43:=Qd h29
      refine Jr (Jr (Jn ?_))
      cases h43
      refine Kf fun he=>?_
      subst he
      have h44:=Qd h
      refine Jr (Jn ?_)
      cases h44
      exact zQ
     refine zU hb (Jk (Kb (Jc (Jg (zE ?_)))))
     cases h39
     exact zB
    refine zU hb (Ka (Jx ?_))
    cases h39
    exact zX
   rintro _ s' rfl hs
   have h29:=Kd h29
   refine Jv (Kb (Jc (Ke hs (Jg (zE ?_)))))
   cases h29
   exact zB
  refine zU hb (Ka (Jx ?_))
  cases h29
  exact zX
 rintro _ s' rfl hs
 have h:=Kd h
 refine Jv (Jc (Ke hs (Ja (Jg (zE (Jc (Jq ?_)))))))
 cases h
 exact zQ
/-! signallingref07.balises -/
noncomputable def Eo (a0:Je):(Int×(List Int))→Option ((Int×(List Int))⊕((List Int)⊕Int)):=fun (x12,x13) =>
 bif decide (x12<((a0.Balises.length:Nat):Int)) then (
  (ixO a0.Balises x12).bind fun x20 =>
  ((bif (((decide (x20.Id<1))||(decide (1073741824<x20.Id)))||(decide (x20.El<0))) then some true else (
   some (decide (((a0.Elements.length:Nat):Int)≤x20.El))
  )):Option Bool).bind fun b21 =>
  ((bif (b21||(decide (x20.Offset<0))) then some true else (
   (ixO a0.Elements x20.El).bind fun x23 =>
   some (decide (x23.Length<x20.Offset))
  )):Option Bool).bind fun b22 =>
  bif b22 then (
   some (.inr (.inr 1))
  ) else (
   (Vg x13 [x20.Id]).bind fun x24 =>
   some (.inl (w64 (x12+1),x24))
  )
 ) else (
  some (.inr (.inl x13))
 )
noncomputable def Zx (a0:Je):Option Int :=
 onInl (α:=(List Int)) (β:=Int) (Km (Eo a0) (0,([]:(List Int)))) fun x19 =>
 (Ik x19).bind fun r25 =>
 bif r25 then (
  some 8
 ) else (
  some 0
 )
theorem Jew (a0:Je) (r:Int) (h:Zx a0=some r):Kq Go.Proofs.Tryz.prog GlS 40 [Enc.pv a0] (Enc.pv r):=by
 unfold Zx at h
 refine Js Go.Proofs.Tryz.func40 (by rfl) rfl Go.Proofs.Tryz.ntmps40 (by rfl) rfl ?_
 refine Ja (Jg (zE (Jc (Ja (Jg (zE (Jc (Ja (Ja (Jg (zR 2 ?_)))))))))))
 refine Kl (L:=(a0.Balises:(List Jt))) (by kernel_rfl) ?_
 refine zE (Jc (Jo (Cs 3 100003 1 8 (by kernel_rfl) (by kernel_rfl) ?_)))
 obtain ⟨o20,h20,h⟩:=Ko h
 refine Kh 59 0 (fun (x12,x13)=>⟨[(1,.ref 1 0),(3,Jp (.own 100003) (x13:(List Int))),(7,Jp .frozen (a0.Balises:(List Jt))),(8,.int .i64 ((a0.Balises.length:Nat):Int)),(9,.int .i64 x12)],[(1,.cells (cellsOf a0))],[(100003,(((x13).map cellsOf).length,1))],[]⟩) (fun x19=>⟨[(3,Jp (.own 100003) (x19:(List Int)))],[],[(100003,(((x19).map cellsOf).length,1))],[]⟩) h20 (by kernel_rfl) (fun _=>by kernel_rfl) ?_ ?_
 ·rintro ⟨x12,x13⟩ oh19 h19
  unfold Eo at h19
  refine Ja (Jg (zE (Jc (Ja ?_))))
  rcases Jl h19 with ⟨hb,h19⟩|⟨hb,h19⟩
  ·refine zT hb (Jk (Jc (Ja (Jo (Ja (Jg ?_))))))
   obtain ⟨x20,h21,h19⟩:=Ji h19
   refine zI h21 (zE (Jc (Ja (Ja (Qb (by kernel_rfl) (by kernel_rfl) (zR 4 ?_))))))
   refine Kx 4 20 ((decide (x20.Id<1))||(decide (1073741824<x20.Id))) (fun x hx=>?_) ?_
   ·rcases Wx hx with ⟨hb,hx⟩|⟨hb,hx⟩
    ·refine zS 16 hb ?_
     subst hx
     exact zF
    refine zS 16 hb ?_
    subst hx
    exact zF
   refine zR 1 ?_
   refine Kx 4 25 (((decide (x20.Id<1))||(decide (1073741824<x20.Id)))||(decide (x20.El<0))) (fun x hx=>?_) ?_
   ·rcases Wx hx with ⟨hb,hx⟩|⟨hb,hx⟩
    ·refine zS 21 hb ?_
     subst hx
     exact zF
    refine zS 21 hb ?_
    subst hx
    exact zF
   obtain ⟨b21,h22,h19⟩:=Ji h19
   refine zR 1 ?_
   refine Qf 7 33 (.bool b21) ?_ ?_
   ·rcases Jl h22 with ⟨hb,h22⟩|⟨hb,h22⟩
    ·refine zS 26 hb ?_
     cases h22
     exact zF
    refine zS 26 hb (zR 4 ?_)
    refine Kl (L:=(a0.Elements:(List Jw))) (by kernel_rfl) ?_
    cases h22
    exact zF
   refine zR 1 ?_
   refine Kx 4 38 (b21||(decide (x20.Offset<0))) (fun x hx=>?_) ?_
   ·rcases Wx hx with ⟨hb,hx⟩|⟨hb,hx⟩
    ·refine zS 34 hb ?_
     subst hx
     exact zF
    refine zS 34 hb ?_
    subst hx
    exact zF
   obtain ⟨b22,h23,h19⟩:=Ji h19
   refine zR 1 ?_
   refine Qf 11 50 (.bool b22) ?_ ?_
   ·rcases Jl h23 with ⟨hb,h23⟩|⟨hb,h23⟩
    ·refine zS 39 hb ?_
     cases h23
     exact zF
    refine zS 39 hb (zR 6 ?_)
    obtain ⟨x23,h24,h23⟩:=Ji h23
    refine zI h24 ?_
    cases h23
    exact zF
   refine zN (Jc ?_)
   rcases Jl h19 with ⟨hb,h19⟩|⟨hb,h19⟩
   ·refine zT hb (Ja (Jg (zE (Jc (Jq (Jn (Jr (Jn ?_))))))))
    cases h19
    refine Kf fun he=>?_
    subst he
    have h25:=Qd h
    refine Jr (Jn ?_)
    cases h25
    exact zQ
   refine zU hb (Jk (Jc (Jg (zR 4 ?_))))
   obtain ⟨x24,h26,h19⟩:=Ji h19
   refine Vv (tk:=100003) h26 (by kernel_rfl) (by kernel_rfl) ?_
   refine zE (Kb (Jc (Jg (zE ?_))))
   cases h19
   exact zB
  refine zU hb (Ka (Jx ?_))
  cases h19
  exact zX
 rintro x19 s' rfl hs
 have h:=Kd h
 refine Jv (Jc (Ke hs (Ja (Ja (Jg (zR 1 ?_))))))
 obtain ⟨r25,h27,h⟩:=Ji h
 refine Jy (Jev _ r25 h27) (by kernel_rfl) (by kernel_rfl) (zN (Jc ?_))
 rcases Jl h with ⟨hb,h⟩|⟨hb,h⟩
 ·refine zT hb (Ja (Jg (zE (Jc (Jq (Jn ?_))))))
  cases h
  exact zQ
 refine zU hb (Jk (Jc (Ja (Jg (zE (Jc (Jq ?_)))))))
 cases h
 exact zQ
/-! signallingref07.Check -/
noncomputable def Br (a0:Je):Option Int :=
 (Ho a0).bind fun r1 =>
 bif (!(decide (r1=0))) then (
  some r1
 ) else (
  (Yv a0).bind fun r2 =>
  bif (!(decide (r2=0))) then (
   some r2
  ) else (
   (Zy a0).bind fun r3 =>
   bif (!(decide (r3=0))) then (
    some r3
   ) else (
    (Zx a0).bind fun r4 =>
    some r4
   )
  )
 )
theorem Xu (a0:Je) (r:Int) (h:Br a0=some r):Kq Go.Proofs.Tryz.prog GlS 13 [Enc.pv a0] (Enc.pv r):=by
 unfold Br at h
 refine Js Go.Proofs.Tryz.func13 (by rfl) rfl Go.Proofs.Tryz.ntmps13 (by rfl) rfl ?_
 refine Ja (Jg (zE (Jc (Ja (Ja (Jg (zR 1 ?_)))))))
 obtain ⟨r1,h1,h⟩:=Ji h
 refine Jy (Jg7 _ r1 h1) (by kernel_rfl) (by kernel_rfl) (zE (Jc (Ja (Jg (zE (Jc ?_))))))
 rcases Jl h with ⟨hb,h⟩|⟨hb,h⟩
 ·refine zT hb (Ja (Jg (zE (Jc (Jq (Jn ?_))))))
  cases h
  exact zQ
 refine zU hb (Jk (Jc (Ja (Ja (Jg (zR 1 ?_))))))
 obtain ⟨r2,h2,h⟩:=Ji h
 refine Jy (Jdu _ r2 h2) (by kernel_rfl) (by kernel_rfl) (zE (Jc (Ja (Jg (zE (Jc ?_))))))
 rcases Jl h with ⟨hb,h⟩|⟨hb,h⟩
 ·refine zT hb (Ja (Jg (zE (Jc (Jq (Jn ?_))))))
  cases h
  exact zQ
 refine zU hb (Jk (Jc (Ja (Ja (Jg (zR 1 ?_))))))
 obtain ⟨r3,h3,h⟩:=Ji h
 refine Jy (Je8 _ r3 h3) (by kernel_rfl) (by kernel_rfl) (zE (Jc (Ja (Jg (zE (Jc ?_))))))
 rcases Jl h with ⟨hb,h⟩|⟨hb,h⟩
 ·refine zT hb (Ja (Jg (zE (Jc (Jq (Jn ?_))))))
  cases h
  exact zQ
 refine zU hb (Jk (Jc (Ja (Jg (zR 1 ?_)))))
 obtain ⟨r4,h4,h⟩:=Ji h
 refine Jy (Jew _ r4 h4) (by kernel_rfl) (by kernel_rfl) (zE (Jc (Jq ?_)))
 cases h
 exact zQ
/-! signallinglaw45.fine -/
noncomputable def Ga (a0:Je) (a1:Kj):Option Bool :=
 (Br a0).bind fun r1 =>
 some (((((decide (r1=0))&&(decide ((-1073741824)≤a1.Origin)))&&(decide (a1.Origin≤1073741824)))&&(decide ((-1073741824)≤a1.At)))&&(decide (a1.At≤1073741824)))
theorem Ja6 (a0:Je) (a1:Kj) (r:Bool) (h:Ga a0 a1=some r):Kq Go.Proofs.Tryz.prog GlS 5 [Enc.pv a0,Enc.pv a1] (Enc.pv r):=by
 unfold Ga at h
 refine Js Go.Proofs.Tryz.func5 (by rfl) rfl Go.Proofs.Tryz.ntmps5 (by rfl) rfl ?_
 refine Ja (Jg (zE (Jc (Ja (Jg (zR 1 ?_))))))
 obtain ⟨r1,h1,h⟩:=Ji h
 refine Jy (Xu _ r1 h1) (by kernel_rfl) (by kernel_rfl) (zR 2 ?_)
 refine Kx 4 12 ((decide (r1=0))&&(decide ((-1073741824)≤a1.Origin))) (fun x hx=>?_) ?_
 ·rcases Wb hx with ⟨hb,hx⟩|⟨hb,hx⟩
  ·refine zS 8 hb ?_
   subst hx
   exact zF
  refine zS 8 hb ?_
  subst hx
  exact zF
 refine zR 1 ?_
 refine Kx 4 17 (((decide (r1=0))&&(decide ((-1073741824)≤a1.Origin)))&&(decide (a1.Origin≤1073741824))) (fun x hx=>?_) ?_
 ·rcases Wb hx with ⟨hb,hx⟩|⟨hb,hx⟩
  ·refine zS 13 hb ?_
   subst hx
   exact zF
  refine zS 13 hb ?_
  subst hx
  exact zF
 refine zR 1 ?_
 refine Kx 4 22 ((((decide (r1=0))&&(decide ((-1073741824)≤a1.Origin)))&&(decide (a1.Origin≤1073741824)))&&(decide ((-1073741824)≤a1.At))) (fun x hx=>?_) ?_
 ·rcases Wb hx with ⟨hb,hx⟩|⟨hb,hx⟩
  ·refine zS 18 hb ?_
   subst hx
   exact zF
  refine zS 18 hb ?_
  subst hx
  exact zF
 refine zR 1 ?_
 refine Kx 4 27 (((((decide (r1=0))&&(decide ((-1073741824)≤a1.Origin)))&&(decide (a1.Origin≤1073741824)))&&(decide ((-1073741824)≤a1.At)))&&(decide (a1.At≤1073741824))) (fun x hx=>?_) ?_
 ·rcases Wb hx with ⟨hb,hx⟩|⟨hb,hx⟩
  ·refine zS 23 hb ?_
   subst hx
   exact zF
  refine zS 23 hb ?_
  subst hx
  exact zF
 refine zE (Jc (Jq ?_))
 cases h
 exact zQ
/-! signallinglaw45.proper$1 -/
noncomputable def Vp (a0:Int):Option Bool :=
 some ((decide ((-1073741824)≤a0))&&(decide (a0≤1073741824)))
theorem Bc (a0:Int) (r:Bool) (h:Vp a0=some r):Kq Go.Proofs.Tryz.prog GlS 14 [Enc.pv a0] (Enc.pv r):=by
 unfold Vp at h
 refine Js Go.Proofs.Tryz.func14 (by rfl) rfl Go.Proofs.Tryz.ntmps14 (by rfl) rfl ?_
 refine Ja (Jg (zE (Jc (Ja (Jg (zR 3 ?_))))))
 refine Kx 3 8 ((decide ((-1073741824)≤a0))&&(decide (a0≤1073741824))) (fun x hx=>?_) ?_
 ·rcases Wb hx with ⟨hb,hx⟩|⟨hb,hx⟩
  ·refine zS 5 hb ?_
   subst hx
   exact zF
  refine zS 5 hb ?_
  subst hx
  exact zF
 refine zE (Jc (Jq ?_))
 cases h
 exact zQ
/-! signallinglaw45.proper -/
noncomputable def Gm (a0:Qa) (a1:Kj):Int→Option (Int⊕(Unit⊕Bool)):=fun x10 =>
 bif decide (x10<((a1.Routes.length:Nat):Int)) then (
  (ixO a1.Routes x10).bind fun x19 =>
  ((bif decide (x19<0) then some true else (
   some (decide (((a0.Routes.length:Nat):Int)≤x19))
  )):Option Bool).bind fun b20 =>
  ((bif b20 then some true else (
   (ixO a1.Starts x10).bind fun x22 =>
   (Vp x22).bind fun r23 =>
   some (!r23)
  )):Option Bool).bind fun b21 =>
  ((bif b21 then some true else (
   (ixO a1.Ends x10).bind fun x25 =>
   (Vp x25).bind fun r26 =>
   some (!r26)
  )):Option Bool).bind fun b24 =>
  bif b24 then (
   some (.inr (.inr false))
  ) else (
   some (.inl (w64 (x10+1)))
  )
 ) else (
  some (.inr (.inl ()))
 )
noncomputable def Ff (a0:Qa) (a1:Kj):Option Bool :=
 ((bif (!(decide (((a1.Starts.length:Nat):Int)=((a1.Routes.length:Nat):Int)))) then some true else (
  some (!(decide (((a1.Ends.length:Nat):Int)=((a1.Routes.length:Nat):Int))))
 )):Option Bool).bind fun b1 =>
 bif b1 then (
  some false
 ) else (
  onInl (α:=Unit) (β:=Bool) (Km (Gm a0 a1) 0) fun _ =>
  (Vp a1.Min).bind fun r27 =>
  ((bif r27 then (
   (Vp a1.Cut).bind fun r29 =>
   some r29
  ) else some false):Option Bool).bind fun b28 =>
  some b28
 )
theorem Jgh (a0:Qa) (a1:Kj) (r:Bool) (h:Ff a0 a1=some r):Kq Go.Proofs.Tryz.prog GlS 6 [Enc.pv a0,Enc.pv a1] (Enc.pv r):=by
 unfold Ff at h
 refine Js Go.Proofs.Tryz.func6 (by rfl) rfl Go.Proofs.Tryz.ntmps6 (by rfl) rfl ?_
 refine Ja (Jg (zE (Jc (Ja (Ja (Jg (zR 2 ?_)))))))
 refine Kl (L:=(a1.Starts:(List Int))) (by kernel_rfl) ?_
 refine zR 2 ?_
 refine Kl (L:=(a1.Routes:(List Int))) (by kernel_rfl) ?_
 obtain ⟨b1,h1,h⟩:=Ji h
 refine zR 2 ?_
 refine Qf 8 23 (.bool b1) ?_ ?_
 ·rcases Jl h1 with ⟨hb,h1⟩|⟨hb,h1⟩
  ·refine zS 15 hb ?_
   cases h1
   exact zF
  refine zS 15 hb (zR 2 ?_)
  refine Kl (L:=(a1.Ends:(List Int))) (by kernel_rfl) ?_
  refine zR 2 ?_
  refine Kl (L:=(a1.Routes:(List Int))) (by kernel_rfl) ?_
  cases h1
  exact zF
 refine zN (Jc ?_)
 rcases Jl h with ⟨hb,h⟩|⟨hb,h⟩
 ·refine zT hb (Ja (Jg (zE (Jc (Jq (Jn ?_))))))
  cases h
  exact zQ
 refine zU hb (Jk (Jc (Ja (Jg (zE (Jc (Ja (Ja (Jg (zR 2 ?_))))))))))
 refine Kl (L:=(a1.Routes:(List Int))) (by kernel_rfl) ?_
 refine zE (Jc (Jo ?_))
 obtain ⟨o21,h21,h⟩:=Ko h
 refine Kh 72 0 (fun x10=>⟨[(2,.ref 2 0),(3,.ref 3 0),(5,.fn 14 []),(25,Jp .frozen (a1.Routes:(List Int))),(26,.int .i64 ((a1.Routes.length:Nat):Int)),(27,.int .i64 x10)],[(2,.cells (cellsOf a0)),(3,.cells (cellsOf a1))],[],[]⟩) (fun (_:Unit)=>⟨[(3,.ref 3 0),(5,.fn 14 [])],[(3,.cells (cellsOf a1))],[],[]⟩) h21 (by kernel_rfl) (fun _=>by kernel_rfl) ?_ ?_
 ·rintro x10 oh20 h20
  unfold Gm at h20
  refine Ja (Jg (zE (Jc (Ja ?_))))
  rcases Jl h20 with ⟨hb,h20⟩|⟨hb,h20⟩
  ·refine zT hb (Jk (Jc (Ja (Jo (Ja (Jg (zR 1 ?_)))))))
   obtain ⟨x19,h22,h20⟩:=Ji h20
   refine zI h22 (zE (Jc (Ja (Jg ?_))))
   obtain ⟨b20,h23,h20⟩:=Ji h20
   refine zR 3 ?_
   refine Qf 6 40 (.bool b20) ?_ ?_
   ·rcases Jl h23 with ⟨hb,h23⟩|⟨hb,h23⟩
    ·refine zS 34 hb ?_
     cases h23
     exact zF
    refine zS 34 hb (zR 3 ?_)
    refine Kl (L:=(a0.Routes:(List Jm))) (by kernel_rfl) ?_
    cases h23
    exact zF
   obtain ⟨b21,h24,h20⟩:=Ji h20
   refine zR 1 ?_
   refine Qf 9 50 (.bool b21) ?_ ?_
   ·rcases Jl h24 with ⟨hb,h24⟩|⟨hb,h24⟩
    ·refine zS 41 hb ?_
     cases h24
     exact zF
    refine zS 41 hb (zR 4 ?_)
    obtain ⟨x22,h25,h24⟩:=Ji h24
    refine zI h25 (zR 1 ?_)
    obtain ⟨r23,h26,h24⟩:=Ji h24
    refine Jy (Bc _ r23 h26) (by kernel_rfl) (by kernel_rfl) ?_
    cases h24
    exact zF
   obtain ⟨b24,h27,h20⟩:=Ji h20
   refine zR 1 ?_
   refine Qf 9 60 (.bool b24) ?_ ?_
   ·rcases Jl h27 with ⟨hb,h27⟩|⟨hb,h27⟩
    ·refine zS 51 hb ?_
     cases h27
     exact zF
    refine zS 51 hb (zR 4 ?_)
    obtain ⟨x25,h28,h27⟩:=Ji h27
    refine zI h28 (zR 1 ?_)
    obtain ⟨r26,h29,h27⟩:=Ji h27
    refine Jy (Bc _ r26 h29) (by kernel_rfl) (by kernel_rfl) ?_
    cases h27
    exact zF
   refine zN (Jc ?_)
   rcases Jl h20 with ⟨hb,h20⟩|⟨hb,h20⟩
   ·refine zT hb (Ja (Jg (zE (Jc (Jq (Jr (Jn ?_)))))))
    cases h20
    refine Kf fun he=>?_
    subst he
    have h30:=Qd h
    refine Jr (Jn ?_)
    cases h30
    exact zQ
   refine zU hb (Jk (Kb (Jc (Jg (zE ?_)))))
   cases h20
   exact zB
  refine zU hb (Ka (Jx ?_))
  cases h20
  exact zX
 rintro _ s' rfl hs
 have h:=Kd h
 refine Jv (Jc (Ke hs (Ja (Jg (zR 3 ?_)))))
 obtain ⟨r27,h31,h⟩:=Ji h
 refine Jy (Bc _ r27 h31) (by kernel_rfl) (by kernel_rfl) ?_
 obtain ⟨b28,h32,h⟩:=Ji h
 refine zR 1 ?_
 refine Qf 5 71 (.bool b28) ?_ ?_
 ·rcases Jl h32 with ⟨hb,h32⟩|⟨hb,h32⟩
  ·refine zS 66 hb (zR 3 ?_)
   obtain ⟨r29,h33,h32⟩:=Ji h32
   refine Jy (Bc _ r29 h33) (by kernel_rfl) (by kernel_rfl) ?_
   cases h32
   exact zF
  refine zS 66 hb ?_
  cases h32
  exact zF
 refine zE (Jc (Jq ?_))
 cases h
 exact zQ
/-! signallinglaw45.line -/
noncomputable def Jbt : (Int×(List Jw)×(List Qg)×(List Ki))→Option ((Int×(List Jw)×(List Qg)×(List Ki))⊕(((List Jw)×(List Qg)×(List Ki))⊕Je)):=fun (x28,x29,x30,x31) =>
 bif decide (x28<(([(ByteArray.mk #[97]),(ByteArray.mk #[98]),(ByteArray.mk #[99])].length:Nat):Int)) then (
  onInl (α:=((List Jw)×(List Qg)×(List Ki))) (β:=((Int×(List Jw)×(List Qg)×(List Ki))⊕(((List Jw)×(List Qg)×(List Ki))⊕Je))) (
   (ixO [(ByteArray.mk #[97]),(ByteArray.mk #[98]),(ByteArray.mk #[99])] x28).bind fun x56 =>
   (Vg x29 [(Jw.mk x56 1 20000 0 3000 0 x28)]).bind fun x57 =>
   bif decide (0<x28) then (
    (Vg x30 [(Qg.mk (Jj.mk (w64 (x28 - 1)) 1) (Jj.mk x28 0))]).bind fun x58 =>
    (ixO [(ByteArray.mk #[115,49]),(ByteArray.mk #[115,50])] (w64 (x28 - 1))).bind fun x59 =>
    (Vg x31 [(Ki.mk x59 (Jj.mk (w64 (x28 - 1)) 1) 0)]).bind fun x60 =>
    some (.inl (x57,x58,x60))
   ) else (
    some (.inl (x57,x30,x31))
   )
  ) fun (x53,x54,x55) =>
  some (.inl (w64 (x28+1),x53,x54,x55))
 ) else (
  some (.inr (.inl (x29,x30,x31)))
 )
noncomputable def Ll : Option Je :=
 onInl (α:=((List Jw)×(List Qg)×(List Ki))) (β:=Je) (Km (Jbt) (0,([]:(List Jw)),([]:(List Qg)),([]:(List Ki)))) fun (x45,x46,x47) =>
 some (Je.mk (ByteArray.mk #[108,105,110,101]) [(ByteArray.mk #[116,97]),(ByteArray.mk #[116,98]),(ByteArray.mk #[116,99])] x45 x46 x47 [])
theorem Pi (r:Je) (h:Ll=some r):Kq Go.Proofs.Tryz.prog GlS 15 [] (Enc.pv r):=by
 unfold Ll at h
 refine Js Go.Proofs.Tryz.func15 (by rfl) rfl Go.Proofs.Tryz.ntmps15 (by rfl) rfl ?_
 refine Ja (Jg (zE (Jc (Ja (Jg (zE (Jc (Ja (Ja (Jg (zR 1 ?_)))))))))))
 refine Kl (L:=([(ByteArray.mk #[97]),(ByteArray.mk #[98]),(ByteArray.mk #[99])]:(List ByteArray))) (by kernel_rfl) ?_
 refine zE (Jc (Jo ?_))
 refine Ke (Mu 1 2 200102 7 64 (cs:=[.str (ByteArray.mk #[108,105,110,101]),Jp .full ([(ByteArray.mk #[116,97]),(ByteArray.mk #[116,98]),(ByteArray.mk #[116,99])]:(List ByteArray)),.nil,.nil,.nil,.nil]) (by kernel_rfl) (by kernel_rfl) (by kernel_rfl)) ?_
 refine Ke (Mu 1 3 200103 4 32 (cs:=[.str (ByteArray.mk #[108,105,110,101]),Jp .full ([(ByteArray.mk #[116,97]),(ByteArray.mk #[116,98]),(ByteArray.mk #[116,99])]:(List ByteArray)),Jp (.own 200102) (([]:(List Jw)):(List Jw)),.nil,.nil,.nil]) (by kernel_rfl) (by kernel_rfl) (by kernel_rfl)) ?_
 refine Ke (Mu 1 4 200104 4 40 (cs:=[.str (ByteArray.mk #[108,105,110,101]),Jp .full ([(ByteArray.mk #[116,97]),(ByteArray.mk #[116,98]),(ByteArray.mk #[116,99])]:(List ByteArray)),Jp (.own 200102) (([]:(List Jw)):(List Jw)),Jp (.own 200103) (([]:(List Qg)):(List Qg)),.nil,.nil]) (by kernel_rfl) (by kernel_rfl) (by kernel_rfl)) ?_
 obtain ⟨o35,h35,h⟩:=Ko h
 refine Kh 50 0 (fun (x28,x29,x30,x31)=>⟨[(0,.ref 0 0),(1,.ref 1 0),(6,Jp .full ([(ByteArray.mk #[97]),(ByteArray.mk #[98]),(ByteArray.mk #[99])]:(List ByteArray))),(7,.int .i64 (([(ByteArray.mk #[97]),(ByteArray.mk #[98]),(ByteArray.mk #[99])].length:Nat):Int)),(8,.int .i64 x28)],[(0,.cells ([.str ByteArray.empty,.nil,.nil,.nil,.nil,.nil])),(1,.cells ([.str (ByteArray.mk #[108,105,110,101]),Jp .full ([(ByteArray.mk #[116,97]),(ByteArray.mk #[116,98]),(ByteArray.mk #[116,99])]:(List ByteArray)),Jp (.own 200102) (x29:(List Jw)),Jp (.own 200103) (x30:(List Qg)),Jp (.own 200104) (x31:(List Ki)),.nil]))],[(200102,(((x29).map cellsOf).length,7)),(200103,(((x30).map cellsOf).length,4)),(200104,(((x31).map cellsOf).length,4))],[]⟩) (fun (x45,x46,x47)=>⟨[(0,.ref 0 0),(1,.ref 1 0)],[(0,.cells ([.str ByteArray.empty,.nil,.nil,.nil,.nil,.nil])),(1,.cells ([.str (ByteArray.mk #[108,105,110,101]),Jp .full ([(ByteArray.mk #[116,97]),(ByteArray.mk #[116,98]),(ByteArray.mk #[116,99])]:(List ByteArray)),Jp (.own 200102) (x45:(List Jw)),Jp (.own 200103) (x46:(List Qg)),Jp (.own 200104) (x47:(List Ki)),.nil]))],[(200102,(((x45).map cellsOf).length,7)),(200103,(((x46).map cellsOf).length,4)),(200104,(((x47).map cellsOf).length,4))],[]⟩) h35 (by kernel_rfl) (fun _=>by kernel_rfl) ?_ ?_
 ·rintro ⟨x28,x29,x30,x31⟩ oh34 h34
  unfold Jbt at h34
  refine Ja (Jg (zE (Jc (Ja ?_))))
  rcases Jl h34 with ⟨hb,h34⟩|⟨hb,h34⟩
  ·refine zT hb (Jk (Jc ?_))
   obtain ⟨o41,h41,h34⟩:=Ko h34
   refine Um (o:=o41) 50 (fun (x53,x54,x55)=>⟨[(0,.ref 0 0),(1,.ref 1 0),(6,Jp .full ([(ByteArray.mk #[97]),(ByteArray.mk #[98]),(ByteArray.mk #[99])]:(List ByteArray))),(7,.int .i64 (([(ByteArray.mk #[97]),(ByteArray.mk #[98]),(ByteArray.mk #[99])].length:Nat):Int)),(8,.int .i64 x28)],[(0,.cells ([.str ByteArray.empty,.nil,.nil,.nil,.nil,.nil])),(1,.cells ([.str (ByteArray.mk #[108,105,110,101]),Jp .full ([(ByteArray.mk #[116,97]),(ByteArray.mk #[116,98]),(ByteArray.mk #[116,99])]:(List ByteArray)),Jp (.own 200102) (x53:(List Jw)),Jp (.own 200103) (x54:(List Qg)),Jp (.own 200104) (x55:(List Ki)),.nil]))],[(200102,(((x53).map cellsOf).length,7)),(200103,(((x54).map cellsOf).length,4)),(200104,(((x55).map cellsOf).length,4))],[]⟩) ?_ ?_
   ·refine Jo (Ja (Jg (zR 1 ?_)))
    obtain ⟨x56,h42,h41⟩:=Ji h41
    refine zI h42 (zE (Jc (Ja (Jg (zR 6 ?_)))))
    obtain ⟨x57,h43,h41⟩:=Ji h41
    refine Vv (tk:=200102) h43 (by kernel_rfl) (by kernel_rfl) ?_
    refine zE (Jc (Ja (Jg (zE (Jc ?_)))))
    rcases Jl h41 with ⟨hb,h41⟩|⟨hb,h41⟩
    ·refine zT hb (Ja (Jg (zR 9 ?_)))
     obtain ⟨x58,h44,h41⟩:=Ji h41
     refine Vv (tk:=200103) h44 (by kernel_rfl) (by kernel_rfl) ?_
     refine zE (Jc (Qb (by kernel_rfl) (by kernel_rfl) (zR 5 ?_)))
     obtain ⟨x59,h45,h41⟩:=Ji h41
     refine zI h45 (zR 6 ?_)
     obtain ⟨x60,h46,h41⟩:=Ji h41
     refine Vv (tk:=200104) h46 (by kernel_rfl) (by kernel_rfl) ?_
     refine zE (Kb ?_)
     cases h41
     exact zJ
    refine zU hb (Jk (Kb ?_))
    cases h41
    exact zJ
   rintro ⟨x53,x54,x55⟩ rfl
   have h34:=Kd h34
   refine Jg (zE ?_)
   cases h34
   exact zB
  refine zU hb (Ka (Jx ?_))
  cases h34
  exact zX
 rintro ⟨x45,x46,x47⟩ s' rfl hs
 have h:=Kd h
 refine Jv (Jc (Ke hs (Ja (Jg (zE (Jc (Jq ?_)))))))
 cases h
 exact zQ
/-! walk.passage -/
noncomputable def Lq (a0:Je):Option Je :=
 some a0
theorem Jfq (a0:Je) (r:Je) (h:Lq a0=some r):Kq Go.Proofs.Tryz.prog GlS 64 [Enc.pv a0] (.fn 117 [.cptr (cellsOf r)]):=by
 unfold Lq at h
 refine Js Go.Proofs.Tryz.func64 (by rfl) rfl Go.Proofs.Tryz.ntmps64 (by rfl) rfl ?_
 refine Ja (Jg (zE (Jc (Ja (Jg (zE (Jc ?_)))))))
 refine Jx1 1 [] (cs:=cellsOf a0) (cs':=cellsOf a0) (by kernel_rfl) (by kernel_rfl) (by kernel_rfl) (by kernel_rfl) ?_
 refine Jq ?_
 cases h
 exact zQ
/-! walk.exists -/
noncomputable def Ea (a0:Je) (a1:Int):Option Bool :=
 ((bif decide (0≤a1) then (
  some (decide (a1<((a0.Elements.length:Nat):Int)))
 ) else some false):Option Bool).bind fun b1 =>
 some b1
theorem Xt (a0:Je) (a1:Int) (r:Bool) (h:Ea a0 a1=some r):Kq Go.Proofs.Tryz.prog GlS 119 [Enc.pv a0,Enc.pv a1] (Enc.pv r):=by
 unfold Ea at h
 refine Js Go.Proofs.Tryz.func119 (by rfl) rfl Go.Proofs.Tryz.ntmps119 (by rfl) rfl ?_
 refine Ja (Jg (zE (Jc (Ja (Jg ?_)))))
 obtain ⟨b1,h1,h⟩:=Ji h
 refine zR 3 ?_
 refine Qf 6 13 (.bool b1) ?_ ?_
 ·rcases Jl h1 with ⟨hb,h1⟩|⟨hb,h1⟩
  ·refine zS 7 hb (zR 3 ?_)
   refine Kl (L:=(a0.Elements:(List Jw))) (by kernel_rfl) ?_
   cases h1
   exact zF
  refine zS 7 hb ?_
  cases h1
  exact zF
 refine zE (Jc (Jq ?_))
 cases h
 exact zQ
/-! rail.Need -/
noncomputable def Nz (a0:Int) (a1:Int) (a2:Int):Int→Option (Int⊕(Unit⊕(Int×Bool))):=fun x2 =>
 bif decide (x2<10) then (
  (ixO Qs x2).bind fun x4 =>
  bif (((decide (x4.kind_=a0))&&(decide (x4.in_=a1)))&&(decide (x4.out_=a2))) then (
   some (.inr (.inr (x4.need_,true)))
  ) else (
   some (.inl (w64 (x2+1)))
  )
 ) else (
  some (.inr (.inl ()))
 )
noncomputable def Lk (a0:Int) (a1:Int) (a2:Int):Option (Int×Bool) :=
 onInl (α:=Unit) (β:=(Int×Bool)) (Km (Nz a0 a1 a2) 0) fun _ =>
 some (0,false)
theorem Jc1 (a0:Int) (a1:Int) (a2:Int) (r:(Int×Bool)) (h:Lk a0 a1 a2=some r):Kq Go.Proofs.Tryz.prog GlS 70 [Enc.pv a0,Enc.pv a1,Enc.pv a2] (.tup [Enc.pv r.1,Enc.pv r.2]):=by
 unfold Lk at h
 refine Js Go.Proofs.Tryz.func70 (by rfl) rfl Go.Proofs.Tryz.ntmps70 (by rfl) rfl ?_
 refine Ja (Jg (zE (Jc (Ja (Ja (Jg (zE (Jc (Jo ?_)))))))))
 obtain ⟨o6,h6,h⟩:=Ko h
 refine Kh 33 0 (fun x2=>⟨[(0,.int .i64 a0),(1,.int .i64 a1),(2,.int .i64 a2),(10,.agg (Qs.flatMap cellsOf)),(11,.int .i64 x2)],[],[],[]⟩) (fun (_:Unit)=>⟨[],[],[],[]⟩) h6 (by kernel_rfl) (fun _=>by kernel_rfl) ?_ ?_
 ·rintro x2 oh5 h5
  unfold Nz at h5
  refine Ja (Jg (zE (Jc (Ja ?_))))
  rcases Jl h5 with ⟨hb,h5⟩|⟨hb,h5⟩
  ·refine zT hb (Jk (Jc (Ja (Jo (Ja (Jg ?_))))))
   obtain ⟨x4,h7,h5⟩:=Ji h5
   refine Kej (tab:=Qs) h7 true 10 4 (by kernel_rfl) (by kernel_rfl) (by kernel_rfl) (by kernel_rfl) ?_
   refine zE (Jc (Ja (Jg (zR 5 ?_))))
   refine Kx 5 23 ((decide (x4.kind_=a0))&&(decide (x4.in_=a1))) (fun x hx=>?_) ?_
   ·rcases Wb hx with ⟨hb,hx⟩|⟨hb,hx⟩
    ·refine zS 18 hb ?_
     subst hx
     exact zF
    refine zS 18 hb ?_
    subst hx
    exact zF
   refine zR 1 ?_
   refine Kx 5 29 (((decide (x4.kind_=a0))&&(decide (x4.in_=a1)))&&(decide (x4.out_=a2))) (fun x hx=>?_) ?_
   ·rcases Wb hx with ⟨hb,hx⟩|⟨hb,hx⟩
    ·refine zS 24 hb ?_
     subst hx
     exact zF
    refine zS 24 hb ?_
    subst hx
    exact zF
   refine zN (Jc ?_)
   rcases Jl h5 with ⟨hb,h5⟩|⟨hb,h5⟩
   ·refine zT hb (Ja (Jg (zE (Jc (Jq (Jr (Jn ?_)))))))
    cases h5
    refine Kf fun he=>?_
    subst he
    have h8:=Qd h
    refine Jr (Jn ?_)
    cases h8
    exact zQ
   refine zU hb (Jk (Kb (Jc (Jg (zE ?_)))))
   cases h5
   exact zB
  refine zU hb (Ka (Jx ?_))
  cases h5
  exact zX
 rintro _ s' rfl hs
 have h:=Kd h
 refine Jv (Jc (Ke hs (Ja (Jg (zE (Jc (Jq ?_)))))))
 cases h
 exact zQ
/-! walk.possible -/
noncomputable def Df (a0:Je) (a1:Jd):Option (Int×Bool) :=
 (Ea a0 a1.El).bind fun r1 =>
 bif (!r1) then (
  some (0,false)
 ) else (
  (ixO a0.Elements a1.El).bind fun x2 =>
  (Lk x2.Kind a1.In a1.Out).bind fun r3 =>
  some (r3.1,r3.2)
 )
theorem Jek (a0:Je) (a1:Jd) (r:(Int×Bool)) (h:Df a0 a1=some r):Kq Go.Proofs.Tryz.prog GlS 65 [Enc.pv a0,Enc.pv a1] (.tup [Enc.pv r.1,Enc.pv r.2]):=by
 unfold Df at h
 refine Js Go.Proofs.Tryz.func65 (by rfl) rfl Go.Proofs.Tryz.ntmps65 (by rfl) rfl ?_
 refine Ja (Jg (zE (Jc (Ja (Ja (Jg (zR 3 ?_)))))))
 obtain ⟨r1,h1,h⟩:=Ji h
 refine Jy (Xt _ _ r1 h1) (by kernel_rfl) (by kernel_rfl) (zE (Jc ?_))
 rcases Jl h with ⟨hb,h⟩|⟨hb,h⟩
 ·refine zT hb (Ja (Jg (zE (Jc (Jq (Jn ?_))))))
  cases h
  exact zQ
 refine zU hb (Jk (Jc (Ja (Qb (by kernel_rfl) (by kernel_rfl) (zR 4 ?_)))))
 obtain ⟨x2,h2,h⟩:=Ji h
 refine zI h2 (zR 6 ?_)
 obtain ⟨r3,h3,h⟩:=Ji h
 refine Jy (Jc1 _ _ _ r3 h3) (by kernel_rfl) (by kernel_rfl) (zE (Jc (Jq ?_)))
 cases h
 exact zQ
/-! layout.Joined -/
noncomputable def Eu (a0:Je) (a1:Jj):Int→Option (Int⊕(Unit⊕(Jj×Bool))):=fun x2 =>
 bif decide (x2<((a0.Joints.length:Nat):Int)) then (
  (ixO a0.Joints x2).bind fun x4 =>
  bif Ku x4.A a1 then (
   some (.inr (.inr (x4.B,true)))
  ) else (
   bif Ku x4.B a1 then (
    some (.inr (.inr (x4.A,true)))
   ) else (
    some (.inl (w64 (x2+1)))
   )
  )
 ) else (
  some (.inr (.inl ()))
 )
noncomputable def Dr (a0:Je) (a1:Jj):Option (Jj×Bool) :=
 onInl (α:=Unit) (β:=(Jj×Bool)) (Km (Eu a0 a1) 0) fun _ =>
 some ((Jj.mk 0 0),false)
theorem Jfk (a0:Je) (a1:Jj) (r:(Jj×Bool)) (h:Dr a0 a1=some r):Kq Go.Proofs.Tryz.prog GlS 118 [Enc.pv a0,Enc.pv a1] (.tup [Enc.pv r.1,Enc.pv r.2]):=by
 unfold Dr at h
 refine Js Go.Proofs.Tryz.func118 (by rfl) rfl Go.Proofs.Tryz.ntmps118 (by rfl) rfl ?_
 refine Ja (Jg (zE (Jc (Ja (Ja (Jg (zR 2 ?_)))))))
 refine Kl (L:=(a0.Joints:(List Qg))) (by kernel_rfl) ?_
 refine zE (Jc (Jo ?_))
 obtain ⟨o8,h8,h⟩:=Ko h
 refine Kh 29 0 (fun x2=>⟨[(3,.ref 3 0),(4,.ref 4 0),(9,Jp .frozen (a0.Joints:(List Qg))),(10,.int .i64 ((a0.Joints.length:Nat):Int)),(11,.int .i64 x2)],[(3,.cells (cellsOf a1)),(4,.cells ([.int .i64 0,.int .i64 0]))],[],[]⟩) (fun (_:Unit)=>⟨[(4,.ref 4 0)],[(4,.cells ([.int .i64 0,.int .i64 0]))],[],[]⟩) h8 (by kernel_rfl) (fun _=>by kernel_rfl) ?_ ?_
 ·rintro x2 oh7 h7
  unfold Eu at h7
  refine Ja (Jg (zE (Jc (Ja ?_))))
  rcases Jl h7 with ⟨hb,h7⟩|⟨hb,h7⟩
  ·refine zT hb (Jk (Jc (Ja (Jo (Ja (Jg ?_))))))
   obtain ⟨x4,h9,h7⟩:=Ji h7
   refine zI h9 (zE (Jc (Ja (Ja (Jg (zE (Jc ?_)))))))
   rcases Jl h7 with ⟨hb,h7⟩|⟨hb,h7⟩
   ·refine zT hb (Ja (Jg (zE (Jc (Jq (Jn (Jr (Jn ?_))))))))
    cases h7
    refine Kf fun he=>?_
    subst he
    have h10:=Qd h
    refine Jr (Jn ?_)
    cases h10
    exact zQ
   refine zU hb (Jk (Jc (Ja (Jg (zE (Jc ?_))))))
   rcases Jl h7 with ⟨hb,h7⟩|⟨hb,h7⟩
   ·refine zT hb (Ja (Jg (zE (Jc (Jq (Jr (Jn ?_)))))))
    cases h7
    refine Kf fun he=>?_
    subst he
    have h11:=Qd h
    refine Jr (Jn ?_)
    cases h11
    exact zQ
   refine zU hb (Jk (Kb (Jc (Jg (zE ?_)))))
   cases h7
   exact zB
  refine zU hb (Ka (Jx ?_))
  cases h7
  exact zX
 rintro _ s' rfl hs
 have h:=Kd h
 refine Jv (Jc (Ke hs (Ja (Jg (zE (Jc (Jq ?_)))))))
 cases h
 exact zQ
/-! walk.passage$1 -/
noncomputable def Co (a0:Jd) (c0:Je):Option (Jj×Bool) :=
 (Dr c0 (Jj.mk a0.El a0.Out)).bind fun r1 =>
 some (r1.1,r1.2)
theorem Jdn (a0:Jd) (c0:Je) (r:(Jj×Bool)) (h:Co a0 c0=some r):Kq Go.Proofs.Tryz.prog GlS 117 [Enc.pv a0,.cptr (cellsOf c0)] (.tup [Enc.pv r.1,Enc.pv r.2]):=by
 unfold Co at h
 refine Js Go.Proofs.Tryz.func117 (by rfl) rfl Go.Proofs.Tryz.ntmps117 (by rfl) rfl ?_
 refine Ja (Jg (zE (Jc (Ja (Jg (zR 6 ?_))))))
 obtain ⟨r1,h1,h⟩:=Ji h
 refine Jy (Jfk _ _ r1 h1) (by kernel_rfl) (by kernel_rfl) (zE (Jc (Jq ?_)))
 cases h
 exact zQ
end PM
