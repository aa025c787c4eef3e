/-
 Plain functions for the program's functions, and the proofs that the program does them. Printed by den.py.
-/
import Derived.Test.YtfpoeepcomnjhaaGreatDoorPmSi
import Derived.Test.YtfpoeepcomnjhaaGreatDoorPmZ
import Derived.Test.YtfpoeepcomnjhaaGreatDoorPmM
import Derived.Test.YtfpoeepcomnjhaaGreatDoorPmSt
import Derived.Test.YtfpoeepcomnjhaaGreatDoorPmP
import Derived.Test.YtfpoeepcomnjhaaGreatDoorPmR
import Derived.Test.YtfpoeepcomnjhaaGreatDoorPlA
import Derived.Test.YtfpoeepcomnjhaaGreatDoorProg
import Derived.Test.YtfpoeepcomnjhaaGreatDoorLay
import Derived.Test.YtfpoeepcomnjhaaGreatDoorChecked
namespace PM
noncomputable section
open Go Go.RowKit Go.Proofs
attribute [local irreducible] Kl pwp
structure Qq where
 kind_:Int
 in_:Int
 out_:Int
 need_:Int
instance : Enc Qq:=⟨4,32,fun x=>.agg [I6 x.kind_,I6 x.in_,I6 x.out_,I6 x.need_]⟩
instance : Inhabited Qq:=⟨⟨0,0,0,0⟩⟩
structure Kv where
 Name:ByteArray
 Kind:Int
 Length:Int
 Grade:Int
 Speed:Int
 Slow:Int
 Section:Int
instance : Enc Kv:=⟨7,64,fun x=>.agg [.str x.Name,I6 x.Kind,I6 x.Length,I6 x.Grade,I6 x.Speed,I6 x.Slow,I6 x.Section]⟩
instance : Inhabited Kv:=⟨⟨ByteArray.empty,0,0,0,0,0,0⟩⟩
structure Jo where
 El:Int
 Side:Int
instance : Enc Jo:=⟨2,16,fun x=>.agg [I6 x.El,I6 x.Side]⟩
instance : Inhabited Jo:=⟨⟨0,0⟩⟩
def Kj (x y:Jo):Bool:=(decide (x.El=y.El)&&(decide (x.Side=y.Side)&&true))
instance : DecidableEq Jo:=fun x y=>decidable_of_iff (Kj x y=true) (by cases x; cases y; simp [Kj])
instance : Key Jo:={ (inferInstance:Enc Jo) with deq:=inferInstance,keq:=fun a b=>by cases a with|mk x y=>cases b with|mk x' y'=>(show some (decide (x=x')&&decide (y=y'))=_; simp) }
structure Qu where
 A:Jo
 B:Jo
instance : Enc Qu:=⟨4,32,fun x=>.agg [I6 x.A.El,I6 x.A.Side,I6 x.B.El,I6 x.B.Side]⟩
instance : Inhabited Qu:=⟨⟨default,default⟩⟩
structure Ky where
 Name:ByteArray
 At:Jo
 Overlap:Int
instance : Enc Ky:=⟨4,40,fun x=>.agg [.str x.Name,I6 x.At.El,I6 x.At.Side,I6 x.Overlap]⟩
instance : Inhabited Ky:=⟨⟨ByteArray.empty,default,0⟩⟩
structure Ju where
 Id:Int
 El:Int
 Offset:Int
instance : Enc Ju:=⟨3,24,fun x=>.agg [I6 x.Id,I6 x.El,I6 x.Offset]⟩
instance : Inhabited Ju:=⟨⟨0,0,0⟩⟩
structure Jd where
 Name:ByteArray
 Sections:(List ByteArray)
 Elements:(List Kv)
 Joints:(List Qu)
 Signals:(List Ky)
 Balises:(List Ju)
instance : Enc Jd:=⟨6,136,fun x=>.agg [.str x.Name,Jk .frozen x.Sections,Jk .frozen x.Elements,Jk .frozen x.Joints,Jk .frozen x.Signals,Jk .frozen x.Balises]⟩
instance : Inhabited Jd:=⟨⟨ByteArray.empty,[],[],[],[],[]⟩⟩
structure Kk where
 Id:Int
 Name:ByteArray
 Length:Int
 Speed:Int
 Accel:Int
 Service:Int
 Emergency:Int
 Delay:Int
 Const:Int
 Rate:Int
instance : Enc Kk:=⟨10,88,fun x=>.agg [I6 x.Id,.str x.Name,I6 x.Length,I6 x.Speed,I6 x.Accel,I6 x.Service,I6 x.Emergency,I6 x.Delay,I6 x.Const,I6 x.Rate]⟩
instance : Inhabited Kk:=⟨⟨0,ByteArray.empty,0,0,0,0,0,0,0,0⟩⟩
def Jes (x y:Kk):Bool:=(decide (x.Id=y.Id)&&(decide (x.Name=y.Name)&&(decide (x.Length=y.Length)&&(decide (x.Speed=y.Speed)&&(decide (x.Accel=y.Accel)&&(decide (x.Service=y.Service)&&(decide (x.Emergency=y.Emergency)&&(decide (x.Delay=y.Delay)&&(decide (x.Const=y.Const)&&(decide (x.Rate=y.Rate)&&true))))))))))
structure Jh where
 El:Int
 In:Int
 Out:Int
instance : Enc Jh:=⟨3,24,fun x=>.agg [I6 x.El,I6 x.In,I6 x.Out]⟩
instance : Inhabited Jh:=⟨⟨0,0,0⟩⟩
def Ja0 (x y:Jh):Bool:=(decide (x.El=y.El)&&(decide (x.In=y.In)&&(decide (x.Out=y.Out)&&true)))
structure Kh where
 Steps:(List Jh)
 Head:Int
 Length:Int
instance : Enc Kh:=⟨3,40,fun x=>.agg [Jk .frozen x.Steps,I6 x.Head,I6 x.Length]⟩
instance : Inhabited Kh:=⟨⟨[],0,0⟩⟩
structure Js where
 El:Int
 Pos:Int
instance : Enc Js:=⟨2,16,fun x=>.agg [I6 x.El,I6 x.Pos]⟩
instance : Inhabited Js:=⟨⟨0,0⟩⟩
def Gg (x y:Js):Bool:=(decide (x.El=y.El)&&(decide (x.Pos=y.Pos)&&true))
structure Jw where
 Name:ByteArray
 Entry:Int
 Exit:Int
 Path:(List Jh)
 Points:(List Js)
 Sections:(List Int)
 Approach:Int
 Length:Int
 Over:(List Jh)
 OverPoints:(List Js)
 OverSections:(List Int)
 Flank:(List Js)
 Guards:(List Int)
 Gaps:(List Jo)
instance : Enc Jw:=⟨14,264,fun x=>.agg [.str x.Name,I6 x.Entry,I6 x.Exit,Jk .frozen x.Path,Jk .frozen x.Points,Jk .frozen x.Sections,I6 x.Approach,I6 x.Length,Jk .frozen x.Over,Jk .frozen x.OverPoints,Jk .frozen x.OverSections,Jk .frozen x.Flank,Jk .frozen x.Guards,Jk .frozen x.Gaps]⟩
instance : Inhabited Jw:=⟨⟨ByteArray.empty,0,0,[],[],[],0,0,[],[],[],[],[],[]⟩⟩
structure Qo where
 Routes:(List Jw)
 Points:(List Int)
 Homes:(List Int)
 Sections:Int
 Signals:Int
instance : Enc Qo:=⟨5,88,fun x=>.agg [Jk .frozen x.Routes,Jk .frozen x.Points,Jk .frozen x.Homes,I6 x.Sections,I6 x.Signals]⟩
instance : Inhabited Qo:=⟨⟨[],[],[],0,0⟩⟩
structure Uh where
 x0:(List ByteArray)
 x1:(List ByteArray)
 x2:(List ByteArray)
instance : Enc Uh:=⟨3,72,fun x=>.agg [Jk .frozen x.x0,Jk .frozen x.x1,Jk .frozen x.x2]⟩
instance : Inhabited Uh:=⟨⟨[],[],[]⟩⟩
structure Kd where
 L:(List (List Jh))
instance : Enc Kd:=⟨1,24,fun x=>.agg [Jk .frozen x.L]⟩
instance : Inhabited Kd:=⟨⟨[]⟩⟩
structure Jq where
 Id:Int
 Origin:Int
 End:Int
 At:Int
 Steps:(List Jh)
 Routes:(List Int)
 Starts:(List Int)
 Ends:(List Int)
 Done:(List Int)
 Min:Int
 Sent:Int
 Accepted:Int
 Cut:Int
 CutSeq:Int
instance : Enc Jq:=⟨14,192,fun x=>.agg [I6 x.Id,I6 x.Origin,I6 x.End,I6 x.At,Jk .frozen x.Steps,Jk .frozen x.Routes,Jk .frozen x.Starts,Jk .frozen x.Ends,Jk .frozen x.Done,I6 x.Min,I6 x.Sent,I6 x.Accepted,I6 x.Cut,I6 x.CutSeq]⟩
instance : Inhabited Jq:=⟨⟨0,0,0,0,[],[],[],[],[],0,0,0,0,0⟩⟩
structure Kb where
 Peer:Int
 Out:Int
 In:Int
 Heard:Int
instance : Enc Kb:=⟨4,32,fun x=>.agg [I6 x.Peer,I6 x.Out,I6 x.In,I6 x.Heard]⟩
instance : Inhabited Kb:=⟨⟨0,0,0,0⟩⟩
def Ov (x y:Kb):Bool:=(decide (x.Peer=y.Peer)&&(decide (x.Out=y.Out)&&(decide (x.In=y.In)&&(decide (x.Heard=y.Heard)&&true))))
structure Jz where
 Tracks:(List Jq)
 Sessions:(List Kb)
instance : Enc Jz:=⟨2,48,fun x=>.agg [Jk .frozen x.Tracks,Jk .frozen x.Sessions]⟩
instance : Inhabited Jz:=⟨⟨[],[]⟩⟩
structure Ww where
 State:Int
 Rel:Int
 Timer:Int
instance : Enc Ww:=⟨3,24,fun x=>.agg [I6 x.State,I6 x.Rel,I6 x.Timer]⟩
instance : Inhabited Ww:=⟨⟨0,0,0⟩⟩
structure Qs where
 Routes:(List Ww)
 Lies:(List Int)
instance : Enc Qs:=⟨2,48,fun x=>.agg [Jk .frozen x.Routes,Jk .frozen x.Lies]⟩
instance : Inhabited Qs:=⟨⟨[],[]⟩⟩
structure Qa where
 Id:Int
 El:Int
 From:Int
 To:Int
 Speed:Int
 Active:Bool
instance : Enc Qa:=⟨6,48,fun x=>.agg [I6 x.Id,I6 x.El,I6 x.From,I6 x.To,I6 x.Speed,.bool x.Active]⟩
instance : Inhabited Qa:=⟨⟨0,0,0,0,0,false⟩⟩
structure Jn where
 From:Int
 To:Int
 Grade:Int
 Speed:Int
instance : Enc Jn:=⟨4,32,fun x=>.agg [I6 x.From,I6 x.To,I6 x.Grade,I6 x.Speed]⟩
instance : Inhabited Jn:=⟨⟨0,0,0,0⟩⟩
structure Jf where
 Id:Int
 At:Int
instance : Enc Jf:=⟨2,16,fun x=>.agg [I6 x.Id,I6 x.At]⟩
instance : Inhabited Jf:=⟨⟨0,0⟩⟩
structure Qp where
 Seq:Int
 End:Int
 Profile:(List Jn)
 Links:(List Jf)
instance : Enc Qp:=⟨4,64,fun x=>.agg [I6 x.Seq,I6 x.End,Jk .frozen x.Profile,Jk .frozen x.Links]⟩
instance : Inhabited Qp:=⟨⟨0,0,[],[]⟩⟩
structure Ca where
 Min:Int
 Speed:Int
 Mode:Int
 Accepted:Int
 Whole:Bool
instance : Enc Ca:=⟨5,40,fun x=>.agg [I6 x.Min,I6 x.Speed,I6 x.Mode,I6 x.Accepted,.bool x.Whole]⟩
instance : Inhabited Ca:=⟨⟨0,0,0,0,false⟩⟩
structure Kz where
 Kind:Int
 From:Int
 To:Int
 Seq:Int
 Time:Int
 Auth:Qp
 Report:Ca
instance : Enc Kz:=⟨14,144,fun x=>.agg [I6 x.Kind,I6 x.From,I6 x.To,I6 x.Seq,I6 x.Time,I6 x.Auth.Seq,I6 x.Auth.End,Jk .frozen x.Auth.Profile,Jk .frozen x.Auth.Links,I6 x.Report.Min,I6 x.Report.Speed,I6 x.Report.Mode,I6 x.Report.Accepted,.bool x.Report.Whole]⟩
instance : Inhabited Kz:=⟨⟨0,0,0,0,0,default,default⟩⟩
structure Jbt where
 err_:Int
instance : Enc Jbt:=⟨1,8,fun x=>.agg [I6 x.err_]⟩
instance : Inhabited Jbt:=⟨⟨0⟩⟩
structure De where
 from_:Int
 to_:Int
instance : Enc De:=⟨2,16,fun x=>.agg [I6 x.from_,I6 x.to_]⟩
instance : Inhabited De:=⟨⟨0,0⟩⟩
structure Pm where
instance : Enc Pm:=⟨0,0,fun x=>.agg []⟩
instance : Inhabited Pm:=⟨⟨⟩⟩
structure Dp where
 Layout:Jd
 Table:Qo
 Inter:Qs
 Slow:(List Qa)
 Trains:(List Kk)
 Center:Jz
instance : Enc Dp:=⟨17,368,fun x=>.agg [.str x.Layout.Name,Jk .frozen x.Layout.Sections,Jk .frozen x.Layout.Elements,Jk .frozen x.Layout.Joints,Jk .frozen x.Layout.Signals,Jk .frozen x.Layout.Balises,Jk .frozen x.Table.Routes,Jk .frozen x.Table.Points,Jk .frozen x.Table.Homes,I6 x.Table.Sections,I6 x.Table.Signals,Jk .frozen x.Inter.Routes,Jk .frozen x.Inter.Lies,Jk .frozen x.Slow,Jk .frozen x.Trains,Jk .frozen x.Center.Tracks,Jk .frozen x.Center.Sessions]⟩
instance : Inhabited Dp:=⟨⟨default,default,default,[],[],default⟩⟩
def Qn : List Qq:=[(Qq.mk 1 0 1 0),(Qq.mk 1 1 0 0),(Qq.mk 2 0 1 1),(Qq.mk 2 0 2 2),(Qq.mk 2 1 0 1),(Qq.mk 2 2 0 2),(Qq.mk 3 0 1 0),(Qq.mk 3 1 0 0),(Qq.mk 3 2 3 0),(Qq.mk 3 3 2 0)]
def Fq : List Int:=[0,2,3,4]
def GlS : Nat→Option (List PV)
 | 0=>some (Qn.flatMap cellsOf)
 | 1=>some (Fq.flatMap cellsOf)
 | _=>none
def Pg (a0:Jd):Option Bool :=
 ((bif decide (((a0.Elements.length:Nat):Int)≤40) then (
  some (decide (((a0.Joints.length:Nat):Int)≤80))
 ) else some false):Option Bool).bind fun b1 =>
 ((bif b1 then (
  some (decide (((a0.Signals.length:Nat):Int)≤30))
 ) else some false):Option Bool).bind fun b2 =>
 ((bif b2 then (
  some (decide (((a0.Balises.length:Nat):Int)≤40))
 ) else some false):Option Bool).bind fun b3 =>
 ((bif b3 then (
  some (decide (((a0.Sections.length:Nat):Int)≤40))
 ) else some false):Option Bool).bind fun b4 =>
 some b4
theorem Jjh (a0:Jd) (r:Bool) (h:Pg a0=some r):Kg Tryz.prog GlS 8 [Enc.pv a0] (Enc.pv r):=by
 unfold Pg at h;refine zC Tryz.func8 Tryz.ntmps8 ?_;refine Ja (Jc (zE (Jb (Ja (Jc (zR 2 ?_))))));refine zL (L:=a0.Elements) ?_;obtain ⟨b1,h1,h⟩:=Je h;refine zR 2 ?_;refine Ko 5 12 (.bool b1) ?_ ?_
 ·rcases Ji h1 with ⟨hb,h1⟩|⟨hb,h1⟩
  ·refine zS 7 hb (zR 2 ?_);refine zL (L:=a0.Joints) ?_;cases h1;exact zF
  refine zS 7 hb ?_;cases h1;exact zF
 obtain ⟨b2,h2,h⟩:=Je h;refine zR 1 ?_;refine Ko 5 18 (.bool b2) ?_ ?_
 ·rcases Ji h2 with ⟨hb,h2⟩|⟨hb,h2⟩
  ·refine zS 13 hb (zR 2 ?_);refine zL (L:=a0.Signals) ?_;cases h2;exact zF
  refine zS 13 hb ?_;cases h2;exact zF
 obtain ⟨b3,h3,h⟩:=Je h;refine zR 1 ?_;refine Ko 5 24 (.bool b3) ?_ ?_
 ·rcases Ji h3 with ⟨hb,h3⟩|⟨hb,h3⟩
  ·refine zS 19 hb (zR 2 ?_);refine zL (L:=a0.Balises) ?_;cases h3;exact zF
  refine zS 19 hb ?_;cases h3;exact zF
 obtain ⟨b4,h4,h⟩:=Je h;refine zR 1 ?_;refine Ko 5 30 (.bool b4) ?_ ?_
 ·rcases Ji h4 with ⟨hb,h4⟩|⟨hb,h4⟩
  ·refine zS 25 hb (zR 2 ?_);refine zL (L:=a0.Sections) ?_;cases h4;exact zF
  refine zS 25 hb ?_;cases h4;exact zF
 refine zE (Jb (Jm ?_));cases h;exact zQ
def Jfj : (Int×(List Kv))→Option ((Int×(List Kv))⊕((List Kv)⊕Jd)):=fun (x6,x7) =>
 bif decide (x6<(([(ByteArray.mk #[97]),(ByteArray.mk #[98]),(ByteArray.mk #[99])].length:Nat):Int)) then (
  (ixO [(ByteArray.mk #[97]),(ByteArray.mk #[98]),(ByteArray.mk #[99])] x6).bind fun x11 =>
  (Ul x7 [(Kv.mk x11 1 20000 0 1000 0 x6)]).bind fun x12 =>
  some (.inl (w64 (x6+1),x12))
 ) else (
  some (.inr (.inl x7))
 )
def Jb0 : Option Jd :=
 onInl (α:=(List Kv)) (β:=Jd) (Ki (Jfj) (0,([]:(List Kv)))) fun x10 =>
 some (Jd.mk (ByteArray.mk #[108,105,110,101]) [(ByteArray.mk #[97]),(ByteArray.mk #[98]),(ByteArray.mk #[99])] x10 [(Qu.mk (Jo.mk 0 1) (Jo.mk 1 0)),(Qu.mk (Jo.mk 1 1) (Jo.mk 2 0))] [(Ky.mk (ByteArray.mk #[115,49]) (Jo.mk 0 1) 0),(Ky.mk (ByteArray.mk #[115,50]) (Jo.mk 1 1) 0)] [])
theorem Jlf (r:Jd) (h:Jb0=some r):Kg Tryz.prog GlS 27 [] (Enc.pv r):=by
 unfold Jb0 at h;refine zC Tryz.func27 Tryz.ntmps27 ?_;refine Ja (Jc (zE (Jb (Ja (Jc (zE (Jb (Ja (Ja (Jc (zR 2 ?_)))))))))));refine zL (L:=([(ByteArray.mk #[97]),(ByteArray.mk #[98]),(ByteArray.mk #[99])]:(List ByteArray))) ?_;refine zE (Jb (Jl ?_));refine Jy (Fp 1 2 200102 7 64 (cs:=[.str (ByteArray.mk #[108,105,110,101]),Jk .full ([(ByteArray.mk #[97]),(ByteArray.mk #[98]),(ByteArray.mk #[99])]:(List ByteArray)),.nil,.nil,Jk .full ([(Ky.mk (ByteArray.mk #[115,49]) (Jo.mk 0 1) 0),(Ky.mk (ByteArray.mk #[115,50]) (Jo.mk 1 1) 0)]:(List Ky)),.nil]) (by kernel_rfl) (by kernel_rfl) (by kernel_rfl)) ?_;obtain ⟨o8,h8,h⟩:=Kf h;refine zA 37 0 (fun (x6,x7)=>⟨[(0,.ref 0 0),(1,.ref 1 0),(12,Jk .full ([(ByteArray.mk #[97]),(ByteArray.mk #[98]),(ByteArray.mk #[99])]:(List ByteArray))),(13,I6 (([(ByteArray.mk #[97]),(ByteArray.mk #[98]),(ByteArray.mk #[99])].length:Nat):Int)),(14,I6 x6)],[(0,.cells ([.str ByteArray.empty,.nil,.nil,.nil,.nil,.nil])),(1,.cells ([.str (ByteArray.mk #[108,105,110,101]),Jk .full ([(ByteArray.mk #[97]),(ByteArray.mk #[98]),(ByteArray.mk #[99])]:(List ByteArray)),Jk (.own 200102) x7,.nil,Jk .full ([(Ky.mk (ByteArray.mk #[115,49]) (Jo.mk 0 1) 0),(Ky.mk (ByteArray.mk #[115,50]) (Jo.mk 1 1) 0)]:(List Ky)),.nil]))],[(200102,(((x7).map cellsOf).length,7))],[]⟩) (fun x10=>⟨[(0,.ref 0 0),(1,.ref 1 0)],[(0,.cells ([.str ByteArray.empty,.nil,.nil,.nil,.nil,.nil])),(1,.cells ([.str (ByteArray.mk #[108,105,110,101]),Jk .full ([(ByteArray.mk #[97]),(ByteArray.mk #[98]),(ByteArray.mk #[99])]:(List ByteArray)),Jk (.own 200102) x10,.nil,Jk .full ([(Ky.mk (ByteArray.mk #[115,49]) (Jo.mk 0 1) 0),(Ky.mk (ByteArray.mk #[115,50]) (Jo.mk 1 1) 0)]:(List Ky)),.nil]))],[(200102,(((x10).map cellsOf).length,7))],[]⟩) h8 ?_ ?_
 ·rintro ⟨x6,x7⟩ oh7 h7;unfold Jfj at h7;refine Ja (Jc (zE (Jb (Ja ?_))));rcases Ji h7 with ⟨hb,h7⟩|⟨hb,h7⟩
  ·refine zT hb (Jg (Jb (Ja (Jl (Ja (Jc (zR 1 ?_)))))));obtain ⟨x11,h9,h7⟩:=Je h7;refine zI h9 (zE (Jb (Jc (zR 6 ?_))));obtain ⟨x12,h10,h7⟩:=Je h7;refine zW (tk:=200102) h10 ?_;refine zE (Jx (Jb (Jc (zE ?_))));cases h7;exact zB
  refine zU hb (Jv (Jt ?_));cases h7;exact zX
 rintro x10 s' rfl hs;have h:=Ka h;refine Jr (Jb (Jy hs (Ja (Jc (zE (Jb (Ja (Jc (zE (Jb (Jm ?_)))))))))));cases h;exact zQ
def Il (a0:Jd):(Int×(List ByteArray))→Option ((Int×(List ByteArray))⊕((List ByteArray)⊕Uh)):=fun (x7,x8) =>
 bif decide (x7<((a0.Elements.length:Nat):Int)) then (
  (ixO a0.Elements x7).bind fun x12 =>
  (Ul x8 [x12.Name]).bind fun x13 =>
  some (.inl (w64 (x7+1),x13))
 ) else (
  some (.inr (.inl x8))
 )
def Iq (a0:Jd):(Int×(List ByteArray))→Option ((Int×(List ByteArray))⊕((List ByteArray)⊕Uh)):=fun (x19,x20) =>
 bif decide (x19<((a0.Signals.length:Nat):Int)) then (
  (ixO a0.Signals x19).bind fun x24 =>
  (Ul x20 [x24.Name]).bind fun x25 =>
  some (.inl (w64 (x19+1),x25))
 ) else (
  some (.inr (.inl x20))
 )
def Hn (a0:Jd):Option Uh :=
 (Ul ([]:(List ByteArray)) a0.Sections).bind fun x1 =>
 onInl (α:=(List ByteArray)) (β:=Uh) (Ki (Il a0) (0,([]:(List ByteArray)))) fun x11 =>
 onInl (α:=(List ByteArray)) (β:=Uh) (Ki (Iq a0) (0,([]:(List ByteArray)))) fun x23 =>
 some (Uh.mk x1 x11 x23)
theorem Jkg (a0:Jd) (r:Uh) (h:Hn a0=some r):Kg Tryz.prog GlS 223 [Enc.pv a0] (Enc.pv r):=by
 unfold Hn at h;refine zC Tryz.func223 Tryz.ntmps223 ?_;refine Ja (Jc (zE (Jb (Ja (Jc (zE (Jb (Ja (Jc (zR 4 ?_))))))))));obtain ⟨x1,h1,h⟩:=Je h;refine Tj (tk:=13) h1 (by kernel_rfl) ?_;refine zE (Jb (Ja (Ja (Jc (zR 2 ?_)))));refine zL (L:=a0.Elements) ?_;refine zE (Jb (Jl ?_));refine Jy (Fp 3 1 200301 1 16 (cs:=[Jk (.own 13) x1,.nil,.nil]) (by kernel_rfl) (by kernel_rfl) (by kernel_rfl)) ?_;obtain ⟨o9,h9,h⟩:=Kf h;refine zA 46 0 (fun (x7,x8)=>⟨[(1,.ref 1 0),(2,.ref 2 0),(3,.ref 3 0),(16,Jk .frozen a0.Elements),(17,I6 ((a0.Elements.length:Nat):Int)),(18,I6 x7)],[(1,.cells (cellsOf a0)),(2,.cells ([.nil,.nil,.nil])),(3,.cells ([Jk (.own 13) x1,Jk (.own 200301) x8,.nil]))],[(13,(((x1).map cellsOf).length,1)),(200301,(((x8).map cellsOf).length,1))],[]⟩) (fun x11=>⟨[(1,.ref 1 0),(2,.ref 2 0),(3,.ref 3 0)],[(1,.cells (cellsOf a0)),(2,.cells ([.nil,.nil,.nil])),(3,.cells ([Jk (.own 13) x1,Jk (.own 200301) x11,.nil]))],[(13,(((x1).map cellsOf).length,1)),(200301,(((x11).map cellsOf).length,1))],[]⟩) h9 ?_ ?_
 ·rintro ⟨x7,x8⟩ oh8 h8;unfold Il at h8;refine Ja (Jc (zE (Jb (Ja ?_))));rcases Ji h8 with ⟨hb,h8⟩|⟨hb,h8⟩
  ·refine zT hb (Jg (Jb (Ja (Jl (Ja (Jc ?_))))));obtain ⟨x12,h10,h8⟩:=Je h8;refine zI h10 (zE (Jb (Jc (zR 5 ?_))));obtain ⟨x13,h11,h8⟩:=Je h8;refine zW (tk:=200301) h11 ?_;refine zE (Jx (Jb (Jc (zE ?_))));cases h8;exact zB
  refine zU hb (Jv (Jt ?_));cases h8;exact zX
 rintro x11 s' rfl hs;have h:=Ka h;refine Jr (Jb (Jy hs (Ja (Ja (Jc (zR 2 ?_))))));refine zL (L:=a0.Signals) ?_;refine zE (Jb (Jl ?_));refine Jy (Fp 3 2 200302 1 16 (cs:=[Jk (.own 13) x1,Jk (.own 200301) x11,.nil]) (by kernel_rfl) (by kernel_rfl) (by kernel_rfl)) ?_;obtain ⟨o19,h19,h⟩:=Kf h;refine zA 46 2 (fun (x19,x20)=>⟨[(2,.ref 2 0),(3,.ref 3 0),(31,Jk .frozen a0.Signals),(32,I6 ((a0.Signals.length:Nat):Int)),(33,I6 x19)],[(2,.cells ([.nil,.nil,.nil])),(3,.cells ([Jk (.own 13) x1,Jk (.own 200301) x11,Jk (.own 200302) x20]))],[(13,(((x1).map cellsOf).length,1)),(200301,(((x11).map cellsOf).length,1)),(200302,(((x20).map cellsOf).length,1))],[]⟩) (fun x23=>⟨[(2,.ref 2 0),(3,.ref 3 0)],[(2,.cells ([.nil,.nil,.nil])),(3,.cells ([Jk (.own 13) x1,Jk (.own 200301) x11,Jk (.own 200302) x23]))],[(13,(((x1).map cellsOf).length,1)),(200301,(((x11).map cellsOf).length,1)),(200302,(((x23).map cellsOf).length,1))],[]⟩) h19 ?_ ?_
 ·rintro ⟨x19,x20⟩ oh18 h18;unfold Iq at h18;refine Ja (Jc (zE (Jb (Ja ?_))));rcases Ji h18 with ⟨hb,h18⟩|⟨hb,h18⟩
  ·refine zT hb (Jg (Jb (Ja (Jl (Ja (Jc ?_))))));obtain ⟨x24,h20,h18⟩:=Je h18;refine zI h20 (zE (Jb (Jc (zR 5 ?_))));obtain ⟨x25,h21,h18⟩:=Je h18;refine zW (tk:=200302) h21 ?_;refine zE (Jx (Jb (Jc (zE ?_))));cases h18;exact zB
  refine zU hb (Jv (Jt ?_));cases h18;exact zX
 rintro x23 s' rfl hs;have h:=Ka h;refine Jr (Jb (Jy hs (Ja (Jc (zE (Jb (Jm ?_)))))));cases h;exact zQ
def Mp (a0:ByteArray):Int→Option (Int⊕(Unit⊕Bool)):=fun x9 =>
 bif decide (x9<((a0.size:Nat):Int)) then (
  (Jnv a0 x9).bind fun x18 =>
  ((bif decide (97≤x18) then (
   (Jnv a0 x9).bind fun x20 =>
   some (decide (x20≤122))
  ) else some false):Option Bool).bind fun b19 =>
  (Jnv a0 x9).bind fun x21 =>
  ((bif decide (48≤x21) then (
   (Jnv a0 x9).bind fun x23 =>
   some (decide (x23≤57))
  ) else some false):Option Bool).bind fun b22 =>
  ((bif b22 then some true else (
   (Jnv a0 x9).bind fun x25 =>
   some (decide (x25=95))
  )):Option Bool).bind fun b24 =>
  bif ((!b19)&&((!b24)||(decide (x9=0)))) then (
   some (.inr (.inr false))
  ) else (
   some (.inl (w64 (x9+1)))
  )
 ) else (
  some (.inr (.inl ()))
 )
def Gp (a0:ByteArray):Option Bool :=
 onInl (α:=Unit) (β:=Bool) (Ki (Mp a0) 0) fun _ =>
 some ((decide (1≤((a0.size:Nat):Int)))&&(decide (((a0.size:Nat):Int)≤12)))
theorem Jdj (a0:ByteArray) (r:Bool) (h:Gp a0=some r):Kg Tryz.prog GlS 88 [Enc.pv a0] (Enc.pv r):=by
 unfold Gp at h;refine zC Tryz.func88 Tryz.ntmps88 ?_;refine Ja (Jc (zE (Jb (Ja (Ja (Jc (zE (Jb (Jl ?_)))))))));obtain ⟨o20,h20,h⟩:=Kf h;refine zA 56 0 (fun x9=>⟨[(0,.str a0),(3,I6 x9)],[],[],[]⟩) (fun (_:Unit)=>⟨[(0,.str a0)],[],[],[]⟩) h20 ?_ ?_
 ·rintro x9 oh19 h19;unfold Mp at h19;refine Ja (Ja (Jc (zE (Jb ?_))));rcases Ji h19 with ⟨hb,h19⟩|⟨hb,h19⟩
  ·refine zT hb (Jg (Jb (Ja (Jl (Ja (Jc (zR 2 ?_)))))));obtain ⟨x18,h21,h19⟩:=Je h19;refine Joo h21 (by kernel_rfl) ?_;obtain ⟨b19,h22,h19⟩:=Je h19;refine zR 2 ?_;refine Ko 5 21 (.bool b19) ?_ ?_
   ·rcases Ji h22 with ⟨hb,h22⟩|⟨hb,h22⟩
    ·refine zS 16 hb (zR 2 ?_);obtain ⟨x20,h23,h22⟩:=Je h22;refine Joo h23 (by kernel_rfl) ?_;cases h22;exact zF
    refine zS 16 hb ?_;cases h22;exact zF
   refine zE (Jb (Ja (Jc (zR 2 ?_))));obtain ⟨x21,h24,h19⟩:=Je h19;refine Joo h24 (by kernel_rfl) ?_;obtain ⟨b22,h25,h19⟩:=Je h19;refine zR 2 ?_;refine Ko 5 31 (.bool b22) ?_ ?_
   ·rcases Ji h25 with ⟨hb,h25⟩|⟨hb,h25⟩
    ·refine zS 26 hb (zR 2 ?_);obtain ⟨x23,h26,h25⟩:=Je h25;refine Joo h26 (by kernel_rfl) ?_;cases h25;exact zF
    refine zS 26 hb ?_;cases h25;exact zF
   obtain ⟨b24,h27,h19⟩:=Je h19;refine zR 1 ?_;refine Ko 5 37 (.bool b24) ?_ ?_
   ·rcases Ji h27 with ⟨hb,h27⟩|⟨hb,h27⟩
    ·refine zS 32 hb ?_;cases h27;exact zF
    refine zS 32 hb (zR 2 ?_);obtain ⟨x25,h28,h27⟩:=Je h27;refine Joo h28 (by kernel_rfl) ?_;cases h27;exact zF
   refine zE (Jb (Ja (Jc (zR 3 ?_))));refine Ks 7 47 ((!b19)&&((!b24)||(decide (x9=0)))) (fun x hx=>?_) ?_
   ·rcases Vz hx with ⟨hb,hx⟩|⟨hb,hx⟩
    ·refine zS 40 hb (zR 3 ?_);refine Tb 3 46 ((!b24)||(decide (x9=0))) (fun x hx=>?_) ?_
     ·rcases Vi hx with ⟨hb,hx⟩|⟨hb,hx⟩
      ·refine zS 43 hb ?_;subst hx;exact zF
      refine zS 43 hb ?_;subst hx;exact zF
     subst hx;exact zF
    refine zS 40 hb ?_;subst hx;exact zF
   refine zN (Jb ?_);rcases Ji h19 with ⟨hb,h19⟩|⟨hb,h19⟩
   ·refine zT hb (Ja (Jc (zE (Jb (Jm (Jp (Jj ?_)))))));cases h19;refine Kc fun he=>?_;subst he;have h29:=Km h;refine Jp (Jj ?_);cases h29;exact zQ
   refine zU hb (Jg (Jx (Jb (Jc (zE ?_)))));cases h19;exact zB
  refine zU hb (Jv (Jt ?_));cases h19;exact zX
 rintro _ s' rfl hs;have h:=Ka h;refine Jr (Jb (Jy hs (Ja (Jc (zR 4 ?_)))));refine Ks 4 55 ((decide (1≤((a0.size:Nat):Int)))&&(decide (((a0.size:Nat):Int)≤12))) (fun x hx=>?_) ?_
 ·rcases Vz hx with ⟨hb,hx⟩|⟨hb,hx⟩
  ·refine zS 51 hb ?_;subst hx;exact zF
  refine zS 51 hb ?_;subst hx;exact zF
 refine zE (Jb (Jm ?_));cases h;exact zQ
def Jc4 (a0:(List ByteArray)) (x8:Int):Int→Option (Int⊕(Unit⊕(Int⊕(Unit⊕Bool)))):=fun x18 =>
 bif decide (x18<x8) then (
  (ixO a0 x8).bind fun x21 =>
  (ixO a0 x18).bind fun x22 =>
  bif decide (x21=x22) then (
   some (.inr (.inr (.inr (.inr true))))
  ) else (
   some (.inl (w64 (x18+1)))
  )
 ) else (
  some (.inr (.inl ()))
 )
def Jc9 (a0:(List ByteArray)):Int→Option (Int⊕(Unit⊕Bool)):=fun x8 =>
 bif decide (x8<((a0.length:Nat):Int)) then (
  onInl (α:=Unit) (β:=(Int⊕(Unit⊕Bool))) (Ki (Jc4 a0 x8) 0) fun _ =>
  some (.inl (w64 (x8+1)))
 ) else (
  some (.inr (.inl ()))
 )
def Es (a0:(List ByteArray)):Option Bool :=
 onInl (α:=Unit) (β:=Bool) (Ki (Jc9 a0) 0) fun _ =>
 some false
theorem Oo (a0:(List ByteArray)) (r:Bool) (h:Es a0=some r):Kg Tryz.prog GlS 224 [Enc.pv a0] (Enc.pv r):=by
 unfold Es at h;refine zC Tryz.func224 Tryz.ntmps224 ?_;refine Ja (Jc (zE (Jb (Ja (Ja (Jc (zR 1 ?_)))))));refine zL (L:=a0) ?_;refine zE (Jb (Jl ?_));obtain ⟨o30,h30,h⟩:=Kf h;refine zA 25 0 (fun x8=>⟨[(0,Jk .frozen a0),(6,I6 ((a0.length:Nat):Int)),(7,I6 x8)],[],[],[]⟩) (fun (_:Unit)=>⟨[],[],[],[]⟩) h30 ?_ ?_
 ·rintro x8 oh29 h29;unfold Jc9 at h29;refine Ja (Jc (zE (Jb (Ja ?_))));rcases Ji h29 with ⟨hb,h29⟩|⟨hb,h29⟩
  ·refine zT hb (Jg (Jb (Ja (Jl (Ja (Jc (zE (Jb (Ja (Jc (zE (Jb (Jl ?_)))))))))))));obtain ⟨o40,h40,h29⟩:=Kf h29;refine zA 25 2 (fun x18=>⟨[(0,Jk .frozen a0),(3,I6 x8),(6,I6 ((a0.length:Nat):Int)),(7,I6 x8),(10,I6 x8),(11,I6 x18)],[],[],[]⟩) (fun (_:Unit)=>⟨[(0,Jk .frozen a0),(6,I6 ((a0.length:Nat):Int)),(7,I6 x8)],[],[],[]⟩) h40 ?_ ?_
   ·rintro x18 oh39 h39;unfold Jc4 at h39;refine Ja (Jc (zE (Jb (Ja ?_))));rcases Ji h39 with ⟨hb,h39⟩|⟨hb,h39⟩
    ·refine zT hb (Jg (Jb (Ja (Jl (Ja (Jc (zE (Jb (Ja (zD (zR 2 ?_)))))))))));obtain ⟨x21,h41,h39⟩:=Je h39;refine zI h41 (zR 3 ?_);obtain ⟨x22,h42,h39⟩:=Je h39;refine zI h42 (zE (Jb ?_));rcases Ji h39 with ⟨hb,h39⟩|⟨hb,h39⟩
     ·refine zT hb (Ja (Jc (zE (Jb (Jm (Jp (Jj ?_)))))));cases h39;refine Kc fun he=>?_;subst he;have h43:=Km h29;refine Jp (Jp (Jj ?_));cases h43;refine Kc fun he=>?_;subst he;have h44:=Km h;refine Jp (Jj ?_);cases h44;exact zQ
     refine zU hb (Jg (Jx (Jb (Jc (zE ?_)))));cases h39;exact zB
    refine zU hb (Jv (Jt ?_));cases h39;exact zX
   rintro _ s' rfl hs;have h29:=Ka h29;refine Jr (Jx (Jb (Jy hs (Jc (zE ?_)))));cases h29;exact zB
  refine zU hb (Jv (Jt ?_));cases h29;exact zX
 rintro _ s' rfl hs;have h:=Ka h;refine Jr (Jb (Jy hs (Ja (Jc (zE (Jb (Jm ?_)))))));cases h;exact zQ
def Ip (x9:(List ByteArray)):Int→Option (Int⊕(Unit⊕Int)):=fun x12 =>
 bif decide (x12<((x9.length:Nat):Int)) then (
  (ixO x9 x12).bind fun x15 =>
  (Gp x15).bind fun r16 =>
  bif (!r16) then (
   some (.inr (.inr 3))
  ) else (
   some (.inl (w64 (x12+1)))
  )
 ) else (
  some (.inr (.inl ()))
 )
def Hy (a0:Jd):Option Int :=
 ((bif decide (((a0.Elements.length:Nat):Int)<1) then some true else (
  some (decide (32<((a0.Elements.length:Nat):Int)))
 )):Option Bool).bind fun b1 =>
 ((bif b1 then some true else (
  some (decide (((a0.Sections.length:Nat):Int)<1))
 )):Option Bool).bind fun b2 =>
 ((bif b2 then some true else (
  some (decide (24<((a0.Sections.length:Nat):Int)))
 )):Option Bool).bind fun b3 =>
 ((bif b3 then some true else (
  some (decide (20<((a0.Signals.length:Nat):Int)))
 )):Option Bool).bind fun b4 =>
 ((bif b4 then some true else (
  some (decide (24<((a0.Balises.length:Nat):Int)))
 )):Option Bool).bind fun b5 =>
 bif b5 then (
  some 2
 ) else (
  (Hn a0).bind fun r6 =>
  (Ul [a0.Name] r6.x0).bind fun x7 =>
  (Ul x7 r6.x1).bind fun x8 =>
  (Ul x8 r6.x2).bind fun x9 =>
  onInl (α:=Unit) (β:=Int) (Ki (Ip x9) 0) fun _ =>
  (Es r6.x0).bind fun r17 =>
  ((bif r17 then some true else (
   (Es r6.x1).bind fun r19 =>
   some r19
  )):Option Bool).bind fun b18 =>
  ((bif b18 then some true else (
   (Es r6.x2).bind fun r21 =>
   some r21
  )):Option Bool).bind fun b20 =>
  bif b20 then (
   some 8
  ) else (
   some 0
  )
 )
theorem Jkm (a0:Jd) (r:Int) (h:Hy a0=some r):Kg Tryz.prog GlS 152 [Enc.pv a0] (Enc.pv r):=by
 unfold Hy at h;refine zC Tryz.func152 Tryz.ntmps152 ?_;refine Ja (Jc (zE (Jb (Ja (Ja (Jc (zR 2 ?_)))))));refine zL (L:=a0.Elements) ?_;obtain ⟨b1,h1,h⟩:=Je h;refine zR 2 ?_;refine Ko 5 15 (.bool b1) ?_ ?_
 ·rcases Ji h1 with ⟨hb,h1⟩|⟨hb,h1⟩
  ·refine zS 10 hb ?_;cases h1;exact zF
  refine zS 10 hb (zR 2 ?_);refine zL (L:=a0.Elements) ?_;cases h1;exact zF
 obtain ⟨b2,h2,h⟩:=Je h;refine zR 1 ?_;refine Ko 5 21 (.bool b2) ?_ ?_
 ·rcases Ji h2 with ⟨hb,h2⟩|⟨hb,h2⟩
  ·refine zS 16 hb ?_;cases h2;exact zF
  refine zS 16 hb (zR 2 ?_);refine zL (L:=a0.Sections) ?_;cases h2;exact zF
 obtain ⟨b3,h3,h⟩:=Je h;refine zR 1 ?_;refine Ko 5 27 (.bool b3) ?_ ?_
 ·rcases Ji h3 with ⟨hb,h3⟩|⟨hb,h3⟩
  ·refine zS 22 hb ?_;cases h3;exact zF
  refine zS 22 hb (zR 2 ?_);refine zL (L:=a0.Sections) ?_;cases h3;exact zF
 obtain ⟨b4,h4,h⟩:=Je h;refine zR 1 ?_;refine Ko 5 33 (.bool b4) ?_ ?_
 ·rcases Ji h4 with ⟨hb,h4⟩|⟨hb,h4⟩
  ·refine zS 28 hb ?_;cases h4;exact zF
  refine zS 28 hb (zR 2 ?_);refine zL (L:=a0.Signals) ?_;cases h4;exact zF
 obtain ⟨b5,h5,h⟩:=Je h;refine zR 1 ?_;refine Ko 5 39 (.bool b5) ?_ ?_
 ·rcases Ji h5 with ⟨hb,h5⟩|⟨hb,h5⟩
  ·refine zS 34 hb ?_;cases h5;exact zF
  refine zS 34 hb (zR 2 ?_);refine zL (L:=a0.Balises) ?_;cases h5;exact zF
 refine zN (Jb ?_);rcases Ji h with ⟨hb,h⟩|⟨hb,h⟩
 ·refine zT hb (Ja (Jc (zE (Jb (Jm (Jj ?_))))));cases h;exact zQ
 refine zU hb (Jg (Jb (Ja (Jc (zR 1 ?_)))));obtain ⟨r6,h6,h⟩:=Je h;refine zP (Jkg _ r6 h6) (zE (Jb (Ja (Ja (zD (zR 5 ?_))))));obtain ⟨x7,h7,h⟩:=Je h;refine Tj (tk:=47) h7 (by kernel_rfl) ?_;refine zR 2 ?_;obtain ⟨x8,h8,h⟩:=Je h;refine zW (tk:=47) h8 ?_;refine zR 2 ?_;obtain ⟨x9,h9,h⟩:=Je h;refine zW (tk:=47) h9 ?_;refine zL (L:=x9) ?_;refine zE (Jb (Jl ?_));obtain ⟨o17,h17,h⟩:=Kf h;refine zA 76 0 (fun x12=>⟨[(3,.ref 3 0),(53,Jk (.own 47) x9),(54,I6 ((x9.length:Nat):Int)),(55,I6 x12)],[(3,.cells (cellsOf r6))],[(47,(((x9).map cellsOf).length,1))],[]⟩) (fun (_:Unit)=>⟨[(3,.ref 3 0)],[(3,.cells (cellsOf r6))],[],[]⟩) h17 ?_ ?_
 ·rintro x12 oh16 h16;unfold Ip at h16;refine Ja (Jc (zE (Jb (Ja ?_))));rcases Ji h16 with ⟨hb,h16⟩|⟨hb,h16⟩
  ·refine zT hb (Jg (Jb (Ja (Jl (Ja (Jc ?_))))));obtain ⟨x15,h18,h16⟩:=Je h16;refine zI h18 (zE (Jb (Ja (Jc (zR 1 ?_)))));obtain ⟨r16,h19,h16⟩:=Je h16;refine zP (Jdj _ r16 h19) (zE (Jb ?_));rcases Ji h16 with ⟨hb,h16⟩|⟨hb,h16⟩
   ·refine zT hb (Ja (Jc (zE (Jb (Jm (Jp (Jj ?_)))))));cases h16;refine Kc fun he=>?_;subst he;have h20:=Km h;refine Jp (Jj ?_);cases h20;exact zQ
   refine zU hb (Jg (Jx (Jb (Jc (zE ?_)))));cases h16;exact zB
  refine zU hb (Jv (Jt ?_));cases h16;exact zX
 rintro _ s' rfl hs;have h:=Ka h;refine Jr (Jb (Jy hs (Ja (Ja (Jc (zR 2 ?_))))));obtain ⟨r17,h21,h⟩:=Je h;refine zP (Oo _ r17 h21) ?_;obtain ⟨b18,h22,h⟩:=Je h;refine zR 1 ?_;refine Ko 4 70 (.bool b18) ?_ ?_
 ·rcases Ji h22 with ⟨hb,h22⟩|⟨hb,h22⟩
  ·refine zS 66 hb ?_;cases h22;exact zF
  refine zS 66 hb (zR 2 ?_);obtain ⟨r19,h23,h22⟩:=Je h22;refine zP (Oo _ r19 h23) ?_;cases h22;exact zF
 obtain ⟨b20,h24,h⟩:=Je h;refine zR 1 ?_;refine Ko 4 75 (.bool b20) ?_ ?_
 ·rcases Ji h24 with ⟨hb,h24⟩|⟨hb,h24⟩
  ·refine zS 71 hb ?_;cases h24;exact zF
  refine zS 71 hb (zR 2 ?_);obtain ⟨r21,h25,h24⟩:=Je h24;refine zP (Oo _ r21 h25) ?_;cases h24;exact zF
 refine zN (Jb ?_);rcases Ji h with ⟨hb,h⟩|⟨hb,h⟩
 ·refine zT hb (Ja (Jc (zE (Jb (Jm (Jj ?_))))));cases h;exact zQ
 refine zU hb (Jg (Jb (Ja (Jc (zE (Jb (Jm ?_)))))));cases h;exact zQ
def Hr (a0:Jd) (a1:Kv):Option Bool :=
 ((bif (((((((((decide (a1.Kind<1))||(decide (3<a1.Kind)))||(decide (a1.Length<500)))||(decide (1000000<a1.Length)))||(decide (a1.Grade<(-50))))||(decide (50<a1.Grade)))||(decide (a1.Speed<100)))||(decide (10000<a1.Speed)))||(decide (a1.Section<0))) then some true else (
  some (decide (((a0.Sections.length:Nat):Int)≤a1.Section))
 )):Option Bool).bind fun b1 =>
 bif b1 then (
  some false
 ) else (
  bif decide (a1.Kind=2) then (
   some ((decide (100≤a1.Slow))&&(decide (a1.Slow≤a1.Speed)))
  ) else (
   some (decide (a1.Slow=0))
  )
 )
theorem Ji8 (a0:Jd) (a1:Kv) (r:Bool) (h:Hr a0 a1=some r):Kg Tryz.prog GlS 225 [Enc.pv a0,Enc.pv a1] (Enc.pv r):=by
 unfold Hr at h;refine zC Tryz.func225 Tryz.ntmps225 ?_;refine Ja (Jc (zE (Jb (Ja (Ja (Jc (zR 4 ?_)))))));refine Ks 4 12 ((decide (a1.Kind<1))||(decide (3<a1.Kind))) (fun x hx=>?_) ?_
 ·rcases Vi hx with ⟨hb,hx⟩|⟨hb,hx⟩
  ·refine zS 8 hb ?_;subst hx;exact zF
  refine zS 8 hb ?_;subst hx;exact zF
 refine zR 1 ?_;refine Ks 4 17 (((decide (a1.Kind<1))||(decide (3<a1.Kind)))||(decide (a1.Length<500))) (fun x hx=>?_) ?_
 ·rcases Vi hx with ⟨hb,hx⟩|⟨hb,hx⟩
  ·refine zS 13 hb ?_;subst hx;exact zF
  refine zS 13 hb ?_;subst hx;exact zF
 refine zR 1 ?_;refine Ks 4 22 ((((decide (a1.Kind<1))||(decide (3<a1.Kind)))||(decide (a1.Length<500)))||(decide (1000000<a1.Length))) (fun x hx=>?_) ?_
 ·rcases Vi hx with ⟨hb,hx⟩|⟨hb,hx⟩
  ·refine zS 18 hb ?_;subst hx;exact zF
  refine zS 18 hb ?_;subst hx;exact zF
 refine zR 1 ?_;refine Ks 4 27 (((((decide (a1.Kind<1))||(decide (3<a1.Kind)))||(decide (a1.Length<500)))||(decide (1000000<a1.Length)))||(decide (a1.Grade<(-50)))) (fun x hx=>?_) ?_
 ·rcases Vi hx with ⟨hb,hx⟩|⟨hb,hx⟩
  ·refine zS 23 hb ?_;subst hx;exact zF
  refine zS 23 hb ?_;subst hx;exact zF
 refine zR 1 ?_;refine Ks 4 32 ((((((decide (a1.Kind<1))||(decide (3<a1.Kind)))||(decide (a1.Length<500)))||(decide (1000000<a1.Length)))||(decide (a1.Grade<(-50))))||(decide (50<a1.Grade))) (fun x hx=>?_) ?_
 ·rcases Vi hx with ⟨hb,hx⟩|⟨hb,hx⟩
  ·refine zS 28 hb ?_;subst hx;exact zF
  refine zS 28 hb ?_;subst hx;exact zF
 refine zR 1 ?_;refine Ks 4 37 (((((((decide (a1.Kind<1))||(decide (3<a1.Kind)))||(decide (a1.Length<500)))||(decide (1000000<a1.Length)))||(decide (a1.Grade<(-50))))||(decide (50<a1.Grade)))||(decide (a1.Speed<100))) (fun x hx=>?_) ?_
 ·rcases Vi hx with ⟨hb,hx⟩|⟨hb,hx⟩
  ·refine zS 33 hb ?_;subst hx;exact zF
  refine zS 33 hb ?_;subst hx;exact zF
 refine zR 1 ?_;refine Ks 4 42 ((((((((decide (a1.Kind<1))||(decide (3<a1.Kind)))||(decide (a1.Length<500)))||(decide (1000000<a1.Length)))||(decide (a1.Grade<(-50))))||(decide (50<a1.Grade)))||(decide (a1.Speed<100)))||(decide (10000<a1.Speed))) (fun x hx=>?_) ?_
 ·rcases Vi hx with ⟨hb,hx⟩|⟨hb,hx⟩
  ·refine zS 38 hb ?_;subst hx;exact zF
  refine zS 38 hb ?_;subst hx;exact zF
 refine zR 1 ?_;refine Ks 4 47 (((((((((decide (a1.Kind<1))||(decide (3<a1.Kind)))||(decide (a1.Length<500)))||(decide (1000000<a1.Length)))||(decide (a1.Grade<(-50))))||(decide (50<a1.Grade)))||(decide (a1.Speed<100)))||(decide (10000<a1.Speed)))||(decide (a1.Section<0))) (fun x hx=>?_) ?_
 ·rcases Vi hx with ⟨hb,hx⟩|⟨hb,hx⟩
  ·refine zS 43 hb ?_;subst hx;exact zF
  refine zS 43 hb ?_;subst hx;exact zF
 obtain ⟨b1,h1,h⟩:=Je h;refine zR 1 ?_;refine Ko 7 55 (.bool b1) ?_ ?_
 ·rcases Ji h1 with ⟨hb,h1⟩|⟨hb,h1⟩
  ·refine zS 48 hb ?_;cases h1;exact zF
  refine zS 48 hb (zR 4 ?_);refine zL (L:=a0.Sections) ?_;cases h1;exact zF
 refine zN (Jb ?_);rcases Ji h with ⟨hb,h⟩|⟨hb,h⟩
 ·refine zT hb (Ja (Jc (zE (Jb (Jm (Jj ?_))))));cases h;exact zQ
 refine zU hb (Jg (Jb (Ja (Ja (Jc (zE (Jb ?_)))))));rcases Ji h with ⟨hb,h⟩|⟨hb,h⟩
 ·refine zT hb (Ja (Jc (zR 4 ?_)));refine Ks 6 68 ((decide (100≤a1.Slow))&&(decide (a1.Slow≤a1.Speed))) (fun x hx=>?_) ?_
  ·rcases Vz hx with ⟨hb,hx⟩|⟨hb,hx⟩
   ·refine zS 62 hb ?_;subst hx;exact zF
   refine zS 62 hb ?_;subst hx;exact zF
  refine zE (Jb (Jm (Jj ?_)));cases h;exact zQ
 refine zU hb (Jg (Jb (Ja (Jc (zE (Jb (Jm ?_)))))));cases h;exact zQ
def Fj (a0:Jd) (a1:Int):(Int×(List Int))→Option ((Int×(List Int))⊕((List Int)⊕(List Int))):=fun (x16,x17) =>
 bif decide (x16<((a0.Elements.length:Nat):Int)) then (
  onInl (α:=(List Int)) (β:=((Int×(List Int))⊕((List Int)⊕(List Int)))) (
   (ixO a0.Elements x16).bind fun x30 =>
   ((bif ((decide (x30.Section=a1))&&(decide (0≤a1))) then (
    some (decide (a1<((a0.Sections.length:Nat):Int)))
   ) else some false):Option Bool).bind fun b31 =>
   bif b31 then (
    (Ul x17 [x16]).bind fun x32 =>
    some (.inl x32)
   ) else (
    some (.inl x17)
   )
  ) fun x29 =>
  some (.inl (w64 (x16+1),x29))
 ) else (
  some (.inr (.inl x17))
 )
def Br (a0:Jd) (a1:Int):Option (List Int) :=
 onInl (α:=(List Int)) (β:=(List Int)) (Ki (Fj a0 a1) (0,([]:(List Int)))) fun x25 =>
 some x25
theorem Jg7 (a0:Jd) (a1:Int) (r:(List Int)) (h:Br a0 a1=some r):Kg Tryz.prog GlS 226 [Enc.pv a0,Enc.pv a1] (Jk (.own 100005) r):=by
 unfold Br at h;refine zC Tryz.func226 Tryz.ntmps226 ?_;refine Ja (Jc (zE (Jb (Ja (Jc (zE (Jb (Ja (Ja (Jc (zR 2 ?_)))))))))));refine zL (L:=a0.Elements) ?_;refine zE (Jb (Jl (Yz 5 100005 1 8 (by kernel_rfl) (by kernel_rfl) ?_)));obtain ⟨o23,h23,h⟩:=Kf h;refine zA 37 0 (fun (x16,x17)=>⟨[(1,I6 a1),(2,.ref 2 0),(5,Jk (.own 100005) x17),(9,Jk .frozen a0.Elements),(10,I6 ((a0.Elements.length:Nat):Int)),(11,I6 x16)],[(2,.cells (cellsOf a0))],[(100005,(((x17).map cellsOf).length,1))],[]⟩) (fun x25=>⟨[(5,Jk (.own 100005) x25)],[],[(100005,(((x25).map cellsOf).length,1))],[]⟩) h23 ?_ ?_
 ·rintro ⟨x16,x17⟩ oh22 h22;unfold Fj at h22;refine Ja (Jc (zE (Jb (Ja ?_))));rcases Ji h22 with ⟨hb,h22⟩|⟨hb,h22⟩
  ·refine zT hb (Jg (Jb ?_));obtain ⟨o27,h27,h22⟩:=Kf h22;refine Qm (o:=o27) 37 (fun x29=>⟨[(1,I6 a1),(2,.ref 2 0),(5,Jk (.own 100005) x29),(9,Jk .frozen a0.Elements),(10,I6 ((a0.Elements.length:Nat):Int)),(11,I6 x16)],[(2,.cells (cellsOf a0))],[(100005,(((x29).map cellsOf).length,1))],[]⟩) ?_ ?_
   ·refine Jl (Ja (Jc (zR 1 ?_)));obtain ⟨x30,h28,h27⟩:=Je h27;refine zI h28 (zE (Jb (Ja (Jc (zR 5 ?_)))));refine Ks 3 23 ((decide (x30.Section=a1))&&(decide (0≤a1))) (fun x hx=>?_) ?_
    ·rcases Vz hx with ⟨hb,hx⟩|⟨hb,hx⟩
     ·refine zS 20 hb ?_;subst hx;exact zF
     refine zS 20 hb ?_;subst hx;exact zF
    obtain ⟨b31,h29,h27⟩:=Je h27;refine zR 1 ?_;refine Ko 6 30 (.bool b31) ?_ ?_
    ·rcases Ji h29 with ⟨hb,h29⟩|⟨hb,h29⟩
     ·refine zS 24 hb (zR 3 ?_);refine zL (L:=a0.Sections) ?_;cases h29;exact zF
     refine zS 24 hb ?_;cases h29;exact zF
    refine zN (Jb ?_);rcases Ji h27 with ⟨hb,h27⟩|⟨hb,h27⟩
    ·refine zT hb (Jc (zR 3 ?_));obtain ⟨x32,h30,h27⟩:=Je h27;refine zW (tk:=100005) h30 ?_;refine zE (Jx ?_);cases h27;exact zJ
    refine zU hb (Jg (Jx ?_));cases h27;exact zJ
   rintro x29 rfl;have h22:=Ka h22;refine Jc (zE ?_);cases h22;exact zB
  refine zU hb (Jv (Jt ?_));cases h22;exact zX
 rintro x25 s' rfl hs;have h:=Ka h;refine Jr (Jb (Jy hs (Ja (Jc (zE (Jb (Jm ?_)))))));cases h;exact zQ
def Eo (a0:Int):Option Int :=
 bif decide (a0=1) then (
  some 2
 ) else (
  bif decide (a0=2) then (
   some 3
  ) else (
   bif decide (a0=3) then (
    some 4
   ) else (
    some 0
   )
  )
 )
theorem Ja7 (a0:Int) (r:Int) (h:Eo a0=some r):Kg Tryz.prog GlS 260 [Enc.pv a0] (Enc.pv r):=by
 unfold Eo at h;refine zC Tryz.func260 Tryz.ntmps260 ?_;refine Ja (Jc (zE (Jb (Ja (Ja (Jc (zE (Jb (Jl (Ja (Jc (zE (Jb ?_)))))))))))));rcases Ji h with ⟨hb,h⟩|⟨hb,h⟩
 ·refine zT hb (Ja (Jc (zE (Jb (Jm (Jp (Jj ?_)))))));cases h;exact zQ
 refine zU hb (Ja (Jc (zE (Jb ?_))));rcases Ji h with ⟨hb,h⟩|⟨hb,h⟩
 ·refine zT hb (Ja (Jc (zE (Jb (Jm (Jp (Jj ?_)))))));cases h;exact zQ
 refine zU hb (Ja (Jc (zE (Jb ?_))));rcases Ji h with ⟨hb,h⟩|⟨hb,h⟩
 ·refine zT hb (Ja (Jc (zE (Jb (Jm (Jp (Jj ?_)))))));cases h;exact zQ
 refine zU hb (Jg (Jx (Jb (Ja (Jc (zE (Jb (Jm ?_))))))));cases h;exact zQ
def Ba (a0:Jd) (a1:Jo):Option Bool :=
 ((bif decide (0≤a1.El) then (
  some (decide (a1.El<((a0.Elements.length:Nat):Int)))
 ) else some false):Option Bool).bind fun b1 =>
 ((bif (b1&&(decide (0≤a1.Side))) then (
  (ixO a0.Elements a1.El).bind fun x3 =>
  (Eo x3.Kind).bind fun r4 =>
  some (decide (a1.Side<r4))
 ) else some false):Option Bool).bind fun b2 =>
 some b2
theorem Nj (a0:Jd) (a1:Jo) (r:Bool) (h:Ba a0 a1=some r):Kg Tryz.prog GlS 227 [Enc.pv a0,Enc.pv a1] (Enc.pv r):=by
 unfold Ba at h;refine zC Tryz.func227 Tryz.ntmps227 ?_;refine Ja (Jc (zE (Jb (Ja (zD ?_)))));obtain ⟨b1,h1,h⟩:=Je h;refine zR 4 ?_;refine Ko 7 15 (.bool b1) ?_ ?_
 ·rcases Ji h1 with ⟨hb,h1⟩|⟨hb,h1⟩
  ·refine zS 8 hb (zR 4 ?_);refine zL (L:=a0.Elements) ?_;cases h1;exact zF
  refine zS 8 hb ?_;cases h1;exact zF
 refine zR 1 ?_;refine Ks 4 20 (b1&&(decide (0≤a1.Side))) (fun x hx=>?_) ?_
 ·rcases Vz hx with ⟨hb,hx⟩|⟨hb,hx⟩
  ·refine zS 16 hb ?_;subst hx;exact zF
  refine zS 16 hb ?_;subst hx;exact zF
 obtain ⟨b2,h2,h⟩:=Je h;refine zR 1 ?_;refine Ko 12 33 (.bool b2) ?_ ?_
 ·rcases Ji h2 with ⟨hb,h2⟩|⟨hb,h2⟩
  ·refine zS 21 hb (zR 6 ?_);obtain ⟨x3,h3,h2⟩:=Je h2;refine zI h3 (zR 2 ?_);obtain ⟨r4,h4,h2⟩:=Je h2;refine zP (Ja7 _ r4 h4) ?_;cases h2;exact zF
  refine zS 21 hb ?_;cases h2;exact zF
 refine zE (Jb (Jm ?_));cases h;exact zQ
def Jd0 (a0:(List Jo)) (x8:Int):Int→Option (Int⊕(Unit⊕(Int⊕(Unit⊕Bool)))):=fun x18 =>
 bif decide (x18<x8) then (
  (ixO a0 x8).bind fun x21 =>
  (ixO a0 x18).bind fun x22 =>
  bif Kj x21 x22 then (
   some (.inr (.inr (.inr (.inr true))))
  ) else (
   some (.inl (w64 (x18+1)))
  )
 ) else (
  some (.inr (.inl ()))
 )
def Je7 (a0:(List Jo)):Int→Option (Int⊕(Unit⊕Bool)):=fun x8 =>
 bif decide (x8<((a0.length:Nat):Int)) then (
  onInl (α:=Unit) (β:=(Int⊕(Unit⊕Bool))) (Ki (Jd0 a0 x8) 0) fun _ =>
  some (.inl (w64 (x8+1)))
 ) else (
  some (.inr (.inl ()))
 )
def Nv (a0:(List Jo)):Option Bool :=
 onInl (α:=Unit) (β:=Bool) (Ki (Je7 a0) 0) fun _ =>
 some false
theorem Jc0 (a0:(List Jo)) (r:Bool) (h:Nv a0=some r):Kg Tryz.prog GlS 228 [Enc.pv a0] (Enc.pv r):=by
 unfold Nv at h;refine zC Tryz.func228 Tryz.ntmps228 ?_;refine Ja (Jc (zE (Jb (Ja (Ja (Jc (zR 1 ?_)))))));refine zL (L:=a0) ?_;refine zE (Jb (Jl ?_));obtain ⟨o30,h30,h⟩:=Kf h;refine zA 25 0 (fun x8=>⟨[(0,Jk .frozen a0),(6,I6 ((a0.length:Nat):Int)),(7,I6 x8)],[],[],[]⟩) (fun (_:Unit)=>⟨[],[],[],[]⟩) h30 ?_ ?_
 ·rintro x8 oh29 h29;unfold Je7 at h29;refine Ja (Jc (zE (Jb (Ja ?_))));rcases Ji h29 with ⟨hb,h29⟩|⟨hb,h29⟩
  ·refine zT hb (Jg (Jb (Ja (Jl (Ja (Jc (zE (Jb (Ja (Jc (zE (Jb (Jl ?_)))))))))))));obtain ⟨o40,h40,h29⟩:=Kf h29;refine zA 25 2 (fun x18=>⟨[(0,Jk .frozen a0),(3,I6 x8),(6,I6 ((a0.length:Nat):Int)),(7,I6 x8),(10,I6 x8),(11,I6 x18)],[],[],[]⟩) (fun (_:Unit)=>⟨[(0,Jk .frozen a0),(6,I6 ((a0.length:Nat):Int)),(7,I6 x8)],[],[],[]⟩) h40 ?_ ?_
   ·rintro x18 oh39 h39;unfold Jd0 at h39;refine Ja (Jc (zE (Jb (Ja ?_))));rcases Ji h39 with ⟨hb,h39⟩|⟨hb,h39⟩
    ·refine zT hb (Jg (Jb (Ja (Jl (Ja (Jc (zE (Jb (Ja (zD (zR 2 ?_)))))))))));obtain ⟨x21,h41,h39⟩:=Je h39;refine zI h41 (zR 3 ?_);obtain ⟨x22,h42,h39⟩:=Je h39;refine zI h42 (zE (Jb ?_));rcases Ji h39 with ⟨hb,h39⟩|⟨hb,h39⟩
     ·refine zT hb (Ja (Jc (zE (Jb (Jm (Jp (Jj ?_)))))));cases h39;refine Kc fun he=>?_;subst he;have h43:=Km h29;refine Jp (Jp (Jj ?_));cases h43;refine Kc fun he=>?_;subst he;have h44:=Km h;refine Jp (Jj ?_);cases h44;exact zQ
     refine zU hb (Jg (Jx (Jb (Jc (zE ?_)))));cases h39;exact zB
    refine zU hb (Jv (Jt ?_));cases h39;exact zX
   rintro _ s' rfl hs;have h29:=Ka h29;refine Jr (Jx (Jb (Jy hs (Jc (zE ?_)))));cases h29;exact zB
  refine zU hb (Jv (Jt ?_));cases h29;exact zX
 rintro _ s' rfl hs;have h:=Ka h;refine Jr (Jb (Jy hs (Ja (Jc (zE (Jb (Jm ?_)))))));cases h;exact zQ
def Dv (a0:Jd):Int→Option (Int⊕(Unit⊕Int)):=fun x3 =>
 bif decide (x3<((a0.Elements.length:Nat):Int)) then (
  (ixO a0.Elements x3).bind fun x6 =>
  (Hr a0 x6).bind fun r7 =>
  bif (!r7) then (
   some (.inr (.inr 1))
  ) else (
   some (.inl (w64 (x3+1)))
  )
 ) else (
  some (.inr (.inl ()))
 )
def Ea (a0:Jd):Int→Option (Int⊕(Unit⊕Int)):=fun x9 =>
 bif decide (x9<((a0.Sections.length:Nat):Int)) then (
  (Br a0 x9).bind fun r11 =>
  bif decide (((r11.length:Nat):Int)=0) then (
   some (.inr (.inr 1))
  ) else (
   some (.inl (w64 (x9+1)))
  )
 ) else (
  some (.inr (.inl ()))
 )
def Ds (a0:Jd):(Int×(List Jo))→Option ((Int×(List Jo))⊕((List Jo)⊕Int)):=fun (x23,x24) =>
 bif decide (x23<((a0.Joints.length:Nat):Int)) then (
  (ixO a0.Joints x23).bind fun x31 =>
  (Ba a0 x31.A).bind fun r32 =>
  ((bif (!r32) then some true else (
   (Ba a0 x31.B).bind fun r34 =>
   some (!r34)
  )):Option Bool).bind fun b33 =>
  bif (b33||(Kj x31.A x31.B)) then (
   some (.inr (.inr 1))
  ) else (
   (Ul x24 [x31.A,x31.B]).bind fun x35 =>
   some (.inl (w64 (x23+1),x35))
  )
 ) else (
  some (.inr (.inl x24))
 )
def Zt (a0:Jd):Option Int :=
 onInl (α:=Unit) (β:=Int) (Ki (Dv a0) 0) fun _ =>
 onInl (α:=Unit) (β:=Int) (Ki (Ea a0) 0) fun _ =>
 onInl (α:=(List Jo)) (β:=Int) (Ki (Ds a0) (0,([]:(List Jo)))) fun x30 =>
 (Nv x30).bind fun r36 =>
 bif r36 then (
  some 8
 ) else (
  some 0
 )
theorem Jf9 (a0:Jd) (r:Int) (h:Zt a0=some r):Kg Tryz.prog GlS 153 [Enc.pv a0] (Enc.pv r):=by
 unfold Zt at h;refine zC Tryz.func153 Tryz.ntmps153 ?_;refine Ja (Jc (zE (Jb (Ja (Ja (Jc (zR 2 ?_)))))));refine zL (L:=a0.Elements) ?_;refine zE (Jb (Jl ?_));obtain ⟨o8,h8,h⟩:=Kf h;refine zA 69 0 (fun x3=>⟨[(1,.ref 1 0),(10,Jk .frozen a0.Elements),(11,I6 ((a0.Elements.length:Nat):Int)),(12,I6 x3)],[(1,.cells (cellsOf a0))],[],[]⟩) (fun (_:Unit)=>⟨[(1,.ref 1 0)],[(1,.cells (cellsOf a0))],[],[]⟩) h8 ?_ ?_
 ·rintro x3 oh7 h7;unfold Dv at h7;refine Ja (Jc (zE (Jb (Ja ?_))));rcases Ji h7 with ⟨hb,h7⟩|⟨hb,h7⟩
  ·refine zT hb (Jg (Jb (Ja (Jl (Ja (Jc ?_))))));obtain ⟨x6,h9,h7⟩:=Je h7;refine zI h9 (zE (Jb (Ja (Jc (zR 2 ?_)))));obtain ⟨r7,h10,h7⟩:=Je h7;refine zP (Ji8 _ _ r7 h10) (zE (Jb ?_));rcases Ji h7 with ⟨hb,h7⟩|⟨hb,h7⟩
   ·refine zT hb (Ja (Jc (zE (Jb (Jm (Jp (Jj ?_)))))));cases h7;refine Kc fun he=>?_;subst he;have h11:=Km h;refine Jp (Jj ?_);cases h11;exact zQ
   refine zU hb (Jg (Jx (Jb (Jc (zE ?_)))));cases h7;exact zB
  refine zU hb (Jv (Jt ?_));cases h7;exact zX
 rintro _ s' rfl hs;have h:=Ka h;refine Jr (Jb (Jy hs (Ja (Ja (Jc (zR 2 ?_))))));refine zL (L:=a0.Sections) ?_;refine zE (Jb (Jl ?_));obtain ⟨o17,h17,h⟩:=Kf h;refine zA 69 2 (fun x9=>⟨[(1,.ref 1 0),(23,I6 ((a0.Sections.length:Nat):Int)),(24,I6 x9)],[(1,.cells (cellsOf a0))],[],[]⟩) (fun (_:Unit)=>⟨[(1,.ref 1 0)],[(1,.cells (cellsOf a0))],[],[]⟩) h17 ?_ ?_
 ·rintro x9 oh16 h16;unfold Ea at h16;refine Ja (Jc (zE (Jb (Ja ?_))));rcases Ji h16 with ⟨hb,h16⟩|⟨hb,h16⟩
  ·refine zT hb (Jg (Jb (Ja (Jl (Ja (Jc (zE (Jb (Ja (Jc (zR 2 ?_)))))))))));obtain ⟨r11,h18,h16⟩:=Je h16;refine zP (Jg7 _ _ r11 h18) ?_;refine zL (L:=r11) ?_;refine zE (Jb ?_);rcases Ji h16 with ⟨hb,h16⟩|⟨hb,h16⟩
   ·refine zT hb (Ja (Jc (zE (Jb (Jm (Jp (Jj ?_)))))));cases h16;refine Kc fun he=>?_;subst he;have h19:=Km h;refine Jp (Jj ?_);cases h19;exact zQ
   refine zU hb (Jg (Jx (Jb (Jc (zE ?_)))));cases h16;exact zB
  refine zU hb (Jv (Jt ?_));cases h16;exact zX
 rintro _ s' rfl hs;have h:=Ka h;refine Jr (Jb (Jy hs (Ja (Jc (zE (Jb (Ja (Ja (Jc (zR 2 ?_))))))))));refine zL (L:=a0.Joints) ?_;refine zE (Jb (Jl (Yz 6 100006 2 16 (by kernel_rfl) (by kernel_rfl) ?_)));obtain ⟨o39,h39,h⟩:=Kf h;refine zA 69 4 (fun (x23,x24)=>⟨[(1,.ref 1 0),(6,Jk (.own 100006) x24),(34,Jk .frozen a0.Joints),(35,I6 ((a0.Joints.length:Nat):Int)),(36,I6 x23)],[(1,.cells (cellsOf a0))],[(100006,(((x24).map cellsOf).length,2))],[]⟩) (fun x30=>⟨[(6,Jk (.own 100006) x30)],[],[(100006,(((x30).map cellsOf).length,2))],[]⟩) h39 ?_ ?_
 ·rintro ⟨x23,x24⟩ oh38 h38;unfold Ds at h38;refine Ja (Jc (zE (Jb (Ja ?_))));rcases Ji h38 with ⟨hb,h38⟩|⟨hb,h38⟩
  ·refine zT hb (Jg (Jb (Ja (Jl (Ja (Jc ?_))))));obtain ⟨x31,h40,h38⟩:=Je h38;refine zI h40 (zE (Jb (Ja (Ja (Jc (zR 3 ?_))))));obtain ⟨r32,h41,h38⟩:=Je h38;refine zP (Nj _ _ r32 h41) ?_;obtain ⟨b33,h42,h38⟩:=Je h38;refine zR 2 ?_;refine Ko 6 51 (.bool b33) ?_ ?_
   ·rcases Ji h42 with ⟨hb,h42⟩|⟨hb,h42⟩
    ·refine zS 45 hb ?_;cases h42;exact zF
    refine zS 45 hb (zR 3 ?_);obtain ⟨r34,h43,h42⟩:=Je h42;refine zP (Nj _ _ r34 h43) ?_;cases h42;exact zF
   refine zR 1 ?_;refine Ks 6 58 (b33||(Kj x31.A x31.B)) (fun x hx=>?_) ?_
   ·rcases Vi hx with ⟨hb,hx⟩|⟨hb,hx⟩
    ·refine zS 52 hb ?_;subst hx;exact zF
    refine zS 52 hb ?_;subst hx;exact zF
   refine zN (Jb ?_);rcases Ji h38 with ⟨hb,h38⟩|⟨hb,h38⟩
   ·refine zT hb (Ja (Jc (zE (Jb (Jm (Jj (Jp (Jj ?_))))))));cases h38;refine Kc fun he=>?_;subst he;have h44:=Km h;refine Jp (Jj ?_);cases h44;exact zQ
   refine zU hb (Jg (Jb (Jc (zR 6 ?_))));obtain ⟨x35,h45,h38⟩:=Je h38;refine zW (tk:=100006) h45 ?_;refine zE (Jx (Jb (Jc (zE ?_))));cases h38;exact zB
  refine zU hb (Jv (Jt ?_));cases h38;exact zX
 rintro x30 s' rfl hs;have h:=Ka h;refine Jr (Jb (Jy hs (Ja (Ja (Jc (zR 1 ?_))))));obtain ⟨r36,h46,h⟩:=Je h;refine zP (Jc0 _ r36 h46) (zN (Jb ?_));rcases Ji h with ⟨hb,h⟩|⟨hb,h⟩
 ·refine zT hb (Ja (Jc (zE (Jb (Jm (Jj ?_))))));cases h;exact zQ
 refine zU hb (Jg (Jb (Ja (Jc (zE (Jb (Jm ?_)))))));cases h;exact zQ
def Gy (a0:Jd) (a1:Jo):Int→Option (Int⊕(Unit⊕(Jo×Bool))):=fun x2 =>
 bif decide (x2<((a0.Joints.length:Nat):Int)) then (
  (ixO a0.Joints x2).bind fun x4 =>
  bif Kj x4.A a1 then (
   some (.inr (.inr (x4.B,true)))
  ) else (
   bif Kj x4.B a1 then (
    some (.inr (.inr (x4.A,true)))
   ) else (
    some (.inl (w64 (x2+1)))
   )
  )
 ) else (
  some (.inr (.inl ()))
 )
def Wf (a0:Jd) (a1:Jo):Option (Jo×Bool) :=
 onInl (α:=Unit) (β:=(Jo×Bool)) (Ki (Gy a0 a1) 0) fun _ =>
 some ((Jo.mk 0 0),false)
theorem Cg (a0:Jd) (a1:Jo) (r:(Jo×Bool)) (h:Wf a0 a1=some r):Kg Tryz.prog GlS 131 [Enc.pv a0,Enc.pv a1] (.tup [Enc.pv r.1,Enc.pv r.2]):=by
 unfold Wf at h;refine zC Tryz.func131 Tryz.ntmps131 ?_;refine Ja (Jc (zE (Jb (Ja (Ja (Jc (zR 2 ?_)))))));refine zL (L:=a0.Joints) ?_;refine zE (Jb (Jl ?_));obtain ⟨o8,h8,h⟩:=Kf h;refine zA 29 0 (fun x2=>⟨[(3,.ref 3 0),(4,.ref 4 0),(9,Jk .frozen a0.Joints),(10,I6 ((a0.Joints.length:Nat):Int)),(11,I6 x2)],[(3,.cells (cellsOf a1)),(4,.cells ([I6 0,I6 0]))],[],[]⟩) (fun (_:Unit)=>⟨[(4,.ref 4 0)],[(4,.cells ([I6 0,I6 0]))],[],[]⟩) h8 ?_ ?_
 ·rintro x2 oh7 h7;unfold Gy at h7;refine Ja (Jc (zE (Jb (Ja ?_))));rcases Ji h7 with ⟨hb,h7⟩|⟨hb,h7⟩
  ·refine zT hb (Jg (Jb (Ja (Jl (Ja (Jc ?_))))));obtain ⟨x4,h9,h7⟩:=Je h7;refine zI h9 (zE (Jb (Ja (Ja (Jc (zE (Jb ?_)))))));rcases Ji h7 with ⟨hb,h7⟩|⟨hb,h7⟩
   ·refine zT hb (Ja (Jc (zE (Jb (Jm (Jj (Jp (Jj ?_))))))));cases h7;refine Kc fun he=>?_;subst he;have h10:=Km h;refine Jp (Jj ?_);cases h10;exact zQ
   refine zU hb (Jg (Jb (Ja (Jc (zE (Jb ?_))))));rcases Ji h7 with ⟨hb,h7⟩|⟨hb,h7⟩
   ·refine zT hb (Ja (Jc (zE (Jb (Jm (Jp (Jj ?_)))))));cases h7;refine Kc fun he=>?_;subst he;have h11:=Km h;refine Jp (Jj ?_);cases h11;exact zQ
   refine zU hb (Jg (Jx (Jb (Jc (zE ?_)))));cases h7;exact zB
  refine zU hb (Jv (Jt ?_));cases h7;exact zX
 rintro _ s' rfl hs;have h:=Ka h;refine Jr (Jb (Jy hs (Ja (Jc (zE (Jb (Jm ?_)))))));cases h;exact zQ
def Fg (a0:Jd):(Int×(List Jo))→Option ((Int×(List Jo))⊕((List Jo)⊕Int)):=fun (x8,x9) =>
 bif decide (x8<((a0.Signals.length:Nat):Int)) then (
  (ixO a0.Signals x8).bind fun x14 =>
  (Ba a0 x14.At).bind fun r15 =>
  bif (((!r15)||(decide (x14.Overlap<0)))||(decide (1000000<x14.Overlap))) then (
   some (.inr (.inr 1))
  ) else (
   (Ul x9 [x14.At]).bind fun x16 =>
   some (.inl (w64 (x8+1),x16))
  )
 ) else (
  some (.inr (.inl x9))
 )
def Fk (a0:Jd) (x13:(List Jo)):Int→Option (Int⊕(Unit⊕Int)):=fun x23 =>
 bif decide (x23<((x13.length:Nat):Int)) then (
  (ixO x13 x23).bind fun x29 =>
  (Wf a0 x29).bind fun r30 =>
  ((bif (!r30.2) then some true else (
   (ixO a0.Elements r30.1.El).bind fun x32 =>
   (ixO a0.Elements x29.El).bind fun x33 =>
   some (decide (x32.Section=x33.Section))
  )):Option Bool).bind fun b31 =>
  bif b31 then (
   some (.inr (.inr 14))
  ) else (
   some (.inl (w64 (x23+1)))
  )
 ) else (
  some (.inr (.inl ()))
 )
def Bu (a0:Jd):Option Int :=
 onInl (α:=(List Jo)) (β:=Int) (Ki (Fg a0) (0,([]:(List Jo)))) fun x13 =>
 (Nv x13).bind fun r17 =>
 bif r17 then (
  some 8
 ) else (
  onInl (α:=Unit) (β:=Int) (Ki (Fk a0 x13) 0) fun _ =>
  some 0
 )
theorem Jhn (a0:Jd) (r:Int) (h:Bu a0=some r):Kg Tryz.prog GlS 154 [Enc.pv a0] (Enc.pv r):=by
 unfold Bu at h;refine zC Tryz.func154 Tryz.ntmps154 ?_;refine Ja (Jc (zE (Jb (Ja (Jc (zE (Jb (Ja (Ja (Jc (zR 2 ?_)))))))))));refine zL (L:=a0.Signals) ?_;refine zE (Jb (Jl (Yz 3 100003 2 16 (by kernel_rfl) (by kernel_rfl) ?_)));obtain ⟨o14,h14,h⟩:=Kf h;refine zA 72 0 (fun (x8,x9)=>⟨[(1,.ref 1 0),(3,Jk (.own 100003) x9),(11,Jk .frozen a0.Signals),(12,I6 ((a0.Signals.length:Nat):Int)),(13,I6 x8)],[(1,.cells (cellsOf a0))],[(100003,(((x9).map cellsOf).length,2))],[]⟩) (fun x13=>⟨[(1,.ref 1 0),(3,Jk (.own 100003) x13)],[(1,.cells (cellsOf a0))],[(100003,(((x13).map cellsOf).length,2))],[]⟩) h14 ?_ ?_
 ·rintro ⟨x8,x9⟩ oh13 h13;unfold Fg at h13;refine Ja (Jc (zE (Jb (Ja ?_))));rcases Ji h13 with ⟨hb,h13⟩|⟨hb,h13⟩
  ·refine zT hb (Jg (Jb (Ja (Jl (Ja (Jc ?_))))));obtain ⟨x14,h15,h13⟩:=Je h13;refine zI h15 (zE (Jb (Ja (Ja (Jc (zR 3 ?_))))));obtain ⟨r15,h16,h13⟩:=Je h13;refine zP (Nj _ _ r15 h16) (zR 2 ?_);refine Ks 4 26 ((!r15)||(decide (x14.Overlap<0))) (fun x hx=>?_) ?_
   ·rcases Vi hx with ⟨hb,hx⟩|⟨hb,hx⟩
    ·refine zS 22 hb ?_;subst hx;exact zF
    refine zS 22 hb ?_;subst hx;exact zF
   refine zR 1 ?_;refine Ks 4 31 (((!r15)||(decide (x14.Overlap<0)))||(decide (1000000<x14.Overlap))) (fun x hx=>?_) ?_
   ·rcases Vi hx with ⟨hb,hx⟩|⟨hb,hx⟩
    ·refine zS 27 hb ?_;subst hx;exact zF
    refine zS 27 hb ?_;subst hx;exact zF
   refine zN (Jb ?_);rcases Ji h13 with ⟨hb,h13⟩|⟨hb,h13⟩
   ·refine zT hb (Ja (Jc (zE (Jb (Jm (Jj (Jp (Jj ?_))))))));cases h13;refine Kc fun he=>?_;subst he;have h17:=Km h;refine Jp (Jj ?_);cases h17;exact zQ
   refine zU hb (Jg (Jb (Jc (zR 4 ?_))));obtain ⟨x16,h18,h13⟩:=Je h13;refine zW (tk:=100003) h18 ?_;refine zE (Jx (Jb (Jc (zE ?_))));cases h13;exact zB
  refine zU hb (Jv (Jt ?_));cases h13;exact zX
 rintro x13 s' rfl hs;have h:=Ka h;refine Jr (Jb (Jy hs (Ja (Ja (Jc (zR 1 ?_))))));obtain ⟨r17,h19,h⟩:=Je h;refine zP (Jc0 _ r17 h19) (zN (Jb ?_));rcases Ji h with ⟨hb,h⟩|⟨hb,h⟩
 ·refine zT hb (Ja (Jc (zE (Jb (Jm (Jj ?_))))));cases h;exact zQ
 refine zU hb (Jg (Jb (Ja (Ja (Jc (zR 1 ?_))))));refine zL (L:=x13) ?_;refine zE (Jb (Jl ?_));obtain ⟨o33,h33,h⟩:=Kf h;refine zA 72 2 (fun x23=>⟨[(1,.ref 1 0),(40,Jk (.own 100003) x13),(41,I6 ((x13.length:Nat):Int)),(42,I6 x23)],[(1,.cells (cellsOf a0))],[(100003,(((x13).map cellsOf).length,2))],[]⟩) (fun (_:Unit)=>⟨[],[],[],[]⟩) h33 ?_ ?_
 ·rintro x23 oh32 h32;unfold Fk at h32;refine Ja (Jc (zE (Jb (Ja ?_))));rcases Ji h32 with ⟨hb,h32⟩|⟨hb,h32⟩
  ·refine zT hb (Jg (Jb (Ja (Jl (Ja (Jc ?_))))));obtain ⟨x29,h34,h32⟩:=Je h32;refine zI h34 (zE (Jb (Ja (Jc (zR 2 ?_)))));obtain ⟨r30,h35,h32⟩:=Je h32;refine zP (Cg _ _ r30 h35) (zE (Jb (Ja (zD ?_))));obtain ⟨b31,h36,h32⟩:=Je h32;refine zR 3 ?_;refine Ko 16 70 (.bool b31) ?_ ?_
   ·rcases Ji h36 with ⟨hb,h36⟩|⟨hb,h36⟩
    ·refine zS 54 hb ?_;cases h36;exact zF
    refine zS 54 hb (zR 4 ?_);obtain ⟨x32,h37,h36⟩:=Je h36;refine zI h37 (zR 6 ?_);obtain ⟨x33,h38,h36⟩:=Je h36;refine zI h38 ?_;cases h36;exact zF
   refine zN (Jb ?_);rcases Ji h32 with ⟨hb,h32⟩|⟨hb,h32⟩
   ·refine zT hb (Ja (Jc (zE (Jb (Jm (Jp (Jj ?_)))))));cases h32;refine Kc fun he=>?_;subst he;have h39:=Km h;refine Jp (Jj ?_);cases h39;exact zQ
   refine zU hb (Jg (Jx (Jb (Jc (zE ?_)))));cases h32;exact zB
  refine zU hb (Jv (Jt ?_));cases h32;exact zX
 rintro _ s' rfl hs;have h:=Ka h;refine Jr (Jb (Jy hs (Ja (Jc (zE (Jb (Jm ?_)))))));cases h;exact zQ
def Jai (a0:(List Int)) (x8:Int):Int→Option (Int⊕(Unit⊕(Int⊕(Unit⊕Bool)))):=fun x18 =>
 bif decide (x18<x8) then (
  (ixO a0 x8).bind fun x21 =>
  (ixO a0 x18).bind fun x22 =>
  bif decide (x21=x22) then (
   some (.inr (.inr (.inr (.inr true))))
  ) else (
   some (.inl (w64 (x18+1)))
  )
 ) else (
  some (.inr (.inl ()))
 )
def Jak (a0:(List Int)):Int→Option (Int⊕(Unit⊕Bool)):=fun x8 =>
 bif decide (x8<((a0.length:Nat):Int)) then (
  onInl (α:=Unit) (β:=(Int⊕(Unit⊕Bool))) (Ki (Jai a0 x8) 0) fun _ =>
  some (.inl (w64 (x8+1)))
 ) else (
  some (.inr (.inl ()))
 )
def Ix (a0:(List Int)):Option Bool :=
 onInl (α:=Unit) (β:=Bool) (Ki (Jak a0) 0) fun _ =>
 some false
theorem Jhp (a0:(List Int)) (r:Bool) (h:Ix a0=some r):Kg Tryz.prog GlS 229 [Enc.pv a0] (Enc.pv r):=by
 unfold Ix at h;refine zC Tryz.func229 Tryz.ntmps229 ?_;refine Ja (Jc (zE (Jb (Ja (Ja (Jc (zR 1 ?_)))))));refine zL (L:=a0) ?_;refine zE (Jb (Jl ?_));obtain ⟨o30,h30,h⟩:=Kf h;refine zA 25 0 (fun x8=>⟨[(0,Jk .frozen a0),(6,I6 ((a0.length:Nat):Int)),(7,I6 x8)],[],[],[]⟩) (fun (_:Unit)=>⟨[],[],[],[]⟩) h30 ?_ ?_
 ·rintro x8 oh29 h29;unfold Jak at h29;refine Ja (Jc (zE (Jb (Ja ?_))));rcases Ji h29 with ⟨hb,h29⟩|⟨hb,h29⟩
  ·refine zT hb (Jg (Jb (Ja (Jl (Ja (Jc (zE (Jb (Ja (Jc (zE (Jb (Jl ?_)))))))))))));obtain ⟨o40,h40,h29⟩:=Kf h29;refine zA 25 2 (fun x18=>⟨[(0,Jk .frozen a0),(3,I6 x8),(6,I6 ((a0.length:Nat):Int)),(7,I6 x8),(10,I6 x8),(11,I6 x18)],[],[],[]⟩) (fun (_:Unit)=>⟨[(0,Jk .frozen a0),(6,I6 ((a0.length:Nat):Int)),(7,I6 x8)],[],[],[]⟩) h40 ?_ ?_
   ·rintro x18 oh39 h39;unfold Jai at h39;refine Ja (Jc (zE (Jb (Ja ?_))));rcases Ji h39 with ⟨hb,h39⟩|⟨hb,h39⟩
    ·refine zT hb (Jg (Jb (Ja (Jl (Ja (Jc (zE (Jb (Ja (zD (zR 2 ?_)))))))))));obtain ⟨x21,h41,h39⟩:=Je h39;refine zI h41 (zR 3 ?_);obtain ⟨x22,h42,h39⟩:=Je h39;refine zI h42 (zE (Jb ?_));rcases Ji h39 with ⟨hb,h39⟩|⟨hb,h39⟩
     ·refine zT hb (Ja (Jc (zE (Jb (Jm (Jp (Jj ?_)))))));cases h39;refine Kc fun he=>?_;subst he;have h43:=Km h29;refine Jp (Jp (Jj ?_));cases h43;refine Kc fun he=>?_;subst he;have h44:=Km h;refine Jp (Jj ?_);cases h44;exact zQ
     refine zU hb (Jg (Jx (Jb (Jc (zE ?_)))));cases h39;exact zB
    refine zU hb (Jv (Jt ?_));cases h39;exact zX
   rintro _ s' rfl hs;have h29:=Ka h29;refine Jr (Jx (Jb (Jy hs (Jc (zE ?_)))));cases h29;exact zB
  refine zU hb (Jv (Jt ?_));cases h29;exact zX
 rintro _ s' rfl hs;have h:=Ka h;refine Jr (Jb (Jy hs (Ja (Jc (zE (Jb (Jm ?_)))))));cases h;exact zQ
def Fl (a0:Jd):(Int×(List Int))→Option ((Int×(List Int))⊕((List Int)⊕Int)):=fun (x12,x13) =>
 bif decide (x12<((a0.Balises.length:Nat):Int)) then (
  (ixO a0.Balises x12).bind fun x20 =>
  ((bif (((decide (x20.Id<1))||(decide (1073741824<x20.Id)))||(decide (x20.El<0))) then some true else (
   some (decide (((a0.Elements.length:Nat):Int)≤x20.El))
  )):Option Bool).bind fun b21 =>
  ((bif (b21||(decide (x20.Offset<0))) then some true else (
   (ixO a0.Elements x20.El).bind fun x23 =>
   some (decide (x23.Length<x20.Offset))
  )):Option Bool).bind fun b22 =>
  bif b22 then (
   some (.inr (.inr 1))
  ) else (
   (Ul x13 [x20.Id]).bind fun x24 =>
   some (.inl (w64 (x12+1),x24))
  )
 ) else (
  some (.inr (.inl x13))
 )
def Bq (a0:Jd):Option Int :=
 onInl (α:=(List Int)) (β:=Int) (Ki (Fl a0) (0,([]:(List Int)))) fun x19 =>
 (Ix x19).bind fun r25 =>
 bif r25 then (
  some 8
 ) else (
  some 0
 )
theorem Jhc (a0:Jd) (r:Int) (h:Bq a0=some r):Kg Tryz.prog GlS 155 [Enc.pv a0] (Enc.pv r):=by
 unfold Bq at h;refine zC Tryz.func155 Tryz.ntmps155 ?_;refine Ja (Jc (zE (Jb (Ja (Jc (zE (Jb (Ja (Ja (Jc (zR 2 ?_)))))))))));refine zL (L:=a0.Balises) ?_;refine zE (Jb (Jl (Yz 3 100003 1 8 (by kernel_rfl) (by kernel_rfl) ?_)));obtain ⟨o20,h20,h⟩:=Kf h;refine zA 59 0 (fun (x12,x13)=>⟨[(1,.ref 1 0),(3,Jk (.own 100003) x13),(7,Jk .frozen a0.Balises),(8,I6 ((a0.Balises.length:Nat):Int)),(9,I6 x12)],[(1,.cells (cellsOf a0))],[(100003,(((x13).map cellsOf).length,1))],[]⟩) (fun x19=>⟨[(3,Jk (.own 100003) x19)],[],[(100003,(((x19).map cellsOf).length,1))],[]⟩) h20 ?_ ?_
 ·rintro ⟨x12,x13⟩ oh19 h19;unfold Fl at h19;refine Ja (Jc (zE (Jb (Ja ?_))));rcases Ji h19 with ⟨hb,h19⟩|⟨hb,h19⟩
  ·refine zT hb (Jg (Jb (Ja (Jl (Ja (Jc ?_))))));obtain ⟨x20,h21,h19⟩:=Je h19;refine zI h21 (zE (Jb (Ja (Ja (zD (zR 4 ?_))))));refine Ks 4 20 ((decide (x20.Id<1))||(decide (1073741824<x20.Id))) (fun x hx=>?_) ?_
   ·rcases Vi hx with ⟨hb,hx⟩|⟨hb,hx⟩
    ·refine zS 16 hb ?_;subst hx;exact zF
    refine zS 16 hb ?_;subst hx;exact zF
   refine zR 1 ?_;refine Ks 4 25 (((decide (x20.Id<1))||(decide (1073741824<x20.Id)))||(decide (x20.El<0))) (fun x hx=>?_) ?_
   ·rcases Vi hx with ⟨hb,hx⟩|⟨hb,hx⟩
    ·refine zS 21 hb ?_;subst hx;exact zF
    refine zS 21 hb ?_;subst hx;exact zF
   obtain ⟨b21,h22,h19⟩:=Je h19;refine zR 1 ?_;refine Ko 7 33 (.bool b21) ?_ ?_
   ·rcases Ji h22 with ⟨hb,h22⟩|⟨hb,h22⟩
    ·refine zS 26 hb ?_;cases h22;exact zF
    refine zS 26 hb (zR 4 ?_);refine zL (L:=a0.Elements) ?_;cases h22;exact zF
   refine zR 1 ?_;refine Ks 4 38 (b21||(decide (x20.Offset<0))) (fun x hx=>?_) ?_
   ·rcases Vi hx with ⟨hb,hx⟩|⟨hb,hx⟩
    ·refine zS 34 hb ?_;subst hx;exact zF
    refine zS 34 hb ?_;subst hx;exact zF
   obtain ⟨b22,h23,h19⟩:=Je h19;refine zR 1 ?_;refine Ko 11 50 (.bool b22) ?_ ?_
   ·rcases Ji h23 with ⟨hb,h23⟩|⟨hb,h23⟩
    ·refine zS 39 hb ?_;cases h23;exact zF
    refine zS 39 hb (zR 6 ?_);obtain ⟨x23,h24,h23⟩:=Je h23;refine zI h24 ?_;cases h23;exact zF
   refine zN (Jb ?_);rcases Ji h19 with ⟨hb,h19⟩|⟨hb,h19⟩
   ·refine zT hb (Ja (Jc (zE (Jb (Jm (Jj (Jp (Jj ?_))))))));cases h19;refine Kc fun he=>?_;subst he;have h25:=Km h;refine Jp (Jj ?_);cases h25;exact zQ
   refine zU hb (Jg (Jb (Jc (zR 4 ?_))));obtain ⟨x24,h26,h19⟩:=Je h19;refine zW (tk:=100003) h26 ?_;refine zE (Jx (Jb (Jc (zE ?_))));cases h19;exact zB
  refine zU hb (Jv (Jt ?_));cases h19;exact zX
 rintro x19 s' rfl hs;have h:=Ka h;refine Jr (Jb (Jy hs (Ja (Ja (Jc (zR 1 ?_))))));obtain ⟨r25,h27,h⟩:=Je h;refine zP (Jhp _ r25 h27) (zN (Jb ?_));rcases Ji h with ⟨hb,h⟩|⟨hb,h⟩
 ·refine zT hb (Ja (Jc (zE (Jb (Jm (Jj ?_))))));cases h;exact zQ
 refine zU hb (Jg (Jb (Ja (Jc (zE (Jb (Jm ?_)))))));cases h;exact zQ
def Ci (a0:Jd):Option Int :=
 (Hy a0).bind fun r1 =>
 bif (!(decide (r1=0))) then (
  some r1
 ) else (
  (Zt a0).bind fun r2 =>
  bif (!(decide (r2=0))) then (
   some r2
  ) else (
   (Bu a0).bind fun r3 =>
   bif (!(decide (r3=0))) then (
    some r3
   ) else (
    (Bq a0).bind fun r4 =>
    some r4
   )
  )
 )
theorem Jbn (a0:Jd) (r:Int) (h:Ci a0=some r):Kg Tryz.prog GlS 79 [Enc.pv a0] (Enc.pv r):=by
 unfold Ci at h;refine zC Tryz.func79 Tryz.ntmps79 ?_;refine Ja (Jc (zE (Jb (Ja (Ja (Jc (zR 1 ?_)))))));obtain ⟨r1,h1,h⟩:=Je h;refine zP (Jkm _ r1 h1) (zE (Jb (Ja (Jc (zE (Jb ?_))))));rcases Ji h with ⟨hb,h⟩|⟨hb,h⟩
 ·refine zT hb (Ja (Jc (zE (Jb (Jm (Jj ?_))))));cases h;exact zQ
 refine zU hb (Jg (Jb (Ja (Ja (Jc (zR 1 ?_))))));obtain ⟨r2,h2,h⟩:=Je h;refine zP (Jf9 _ r2 h2) (zE (Jb (Ja (Jc (zE (Jb ?_))))));rcases Ji h with ⟨hb,h⟩|⟨hb,h⟩
 ·refine zT hb (Ja (Jc (zE (Jb (Jm (Jj ?_))))));cases h;exact zQ
 refine zU hb (Jg (Jb (Ja (Ja (Jc (zR 1 ?_))))));obtain ⟨r3,h3,h⟩:=Je h;refine zP (Jhn _ r3 h3) (zE (Jb (Ja (Jc (zE (Jb ?_))))));rcases Ji h with ⟨hb,h⟩|⟨hb,h⟩
 ·refine zT hb (Ja (Jc (zE (Jb (Jm (Jj ?_))))));cases h;exact zQ
 refine zU hb (Jg (Jb (Ja (Jc (zR 1 ?_)))));obtain ⟨r4,h4,h⟩:=Je h;refine zP (Jhc _ r4 h4) (zE (Jb (Jm ?_)));cases h;exact zQ
def Yb (a0:Jd) (a1:Int):Option Bool :=
 ((bif decide (0≤a1) then (
  some (decide (a1<((a0.Elements.length:Nat):Int)))
 ) else some false):Option Bool).bind fun b1 =>
 some b1
theorem Fb (a0:Jd) (a1:Int) (r:Bool) (h:Yb a0 a1=some r):Kg Tryz.prog GlS 159 [Enc.pv a0,Enc.pv a1] (Enc.pv r):=by
 unfold Yb at h;refine zC Tryz.func159 Tryz.ntmps159 ?_;refine Ja (Jc (zE (Jb (Ja (Jc ?_)))));obtain ⟨b1,h1,h⟩:=Je h;refine zR 3 ?_;refine Ko 6 13 (.bool b1) ?_ ?_
 ·rcases Ji h1 with ⟨hb,h1⟩|⟨hb,h1⟩
  ·refine zS 7 hb (zR 3 ?_);refine zL (L:=a0.Elements) ?_;cases h1;exact zF
  refine zS 7 hb ?_;cases h1;exact zF
 refine zE (Jb (Jm ?_));cases h;exact zQ
def Cc (a0:Int) (a1:Int) (a2:Int):Option (Int×Bool) :=
 bif ((decide (a0=1))||(decide (a0=3))) then (
  some (0,(((decide ((min a1 a2)=0))&&(decide ((max a1 a2)=1)))||(((decide (a0=3))&&(decide ((min a1 a2)=2)))&&(decide ((max a1 a2)=3)))))
 ) else (
  bif (((decide (a0=2))&&(decide ((min a1 a2)=0)))&&(decide ((max a1 a2)=1))) then (
   some (1,true)
  ) else (
   bif (((decide (a0=2))&&(decide ((min a1 a2)=0)))&&(decide ((max a1 a2)=2))) then (
    some (2,true)
   ) else (
    some (0,false)
   )
  )
 )
theorem Im (a0:Int) (a1:Int) (a2:Int) (r:(Int×Bool)) (h:Cc a0 a1 a2=some r):Kg Tryz.prog GlS 254 [Enc.pv a0,Enc.pv a1,Enc.pv a2] (.tup [Enc.pv r.1,Enc.pv r.2]):=by
 unfold Cc at h;refine zC Tryz.func254 Tryz.ntmps254 ?_;refine Ja (Jc (zE (Jb (Ja (Jc (zE (Jb (Ja (Jc (zE (Jb (Ja (Ja (Jc (zR 3 ?_)))))))))))))));refine Ks 3 21 ((decide (a0=1))||(decide (a0=3))) (fun x hx=>?_) ?_
 ·rcases Vi hx with ⟨hb,hx⟩|⟨hb,hx⟩
  ·refine zS 18 hb ?_;subst hx;exact zF
  refine zS 18 hb ?_;subst hx;exact zF
 refine zN (Jb ?_);rcases Ji h with ⟨hb,h⟩|⟨hb,h⟩
 ·refine zT hb (Ja (Jc (zR 3 ?_)));refine Ks 3 27 ((decide ((min a1 a2)=0))&&(decide ((max a1 a2)=1))) (fun x hx=>?_) ?_
  ·rcases Vz hx with ⟨hb,hx⟩|⟨hb,hx⟩
   ·refine zS 24 hb ?_;subst hx;exact zF
   refine zS 24 hb ?_;subst hx;exact zF
  refine zR 1 ?_;refine Ks 11 39 (((decide ((min a1 a2)=0))&&(decide ((max a1 a2)=1)))||(((decide (a0=3))&&(decide ((min a1 a2)=2)))&&(decide ((max a1 a2)=3)))) (fun x hx=>?_) ?_
  ·rcases Vi hx with ⟨hb,hx⟩|⟨hb,hx⟩
   ·refine zS 28 hb ?_;subst hx;exact zF
   refine zS 28 hb (zR 3 ?_);refine Tb 3 34 ((decide (a0=3))&&(decide ((min a1 a2)=2))) (fun x hx=>?_) ?_
   ·rcases Vz hx with ⟨hb,hx⟩|⟨hb,hx⟩
    ·refine zS 31 hb ?_;subst hx;exact zF
    refine zS 31 hb ?_;subst hx;exact zF
   refine zR 1 ?_;refine Tb 3 38 (((decide (a0=3))&&(decide ((min a1 a2)=2)))&&(decide ((max a1 a2)=3))) (fun x hx=>?_) ?_
   ·rcases Vz hx with ⟨hb,hx⟩|⟨hb,hx⟩
    ·refine zS 35 hb ?_;subst hx;exact zF
    refine zS 35 hb ?_;subst hx;exact zF
   subst hx;exact zF
  refine zE (Jb (Jm (Jj ?_)));cases h;exact zQ
 refine zU hb (Jg (Jb (Ja (Ja (Jc (zR 3 ?_))))));refine Ks 3 45 ((decide (a0=2))&&(decide ((min a1 a2)=0))) (fun x hx=>?_) ?_
 ·rcases Vz hx with ⟨hb,hx⟩|⟨hb,hx⟩
  ·refine zS 42 hb ?_;subst hx;exact zF
  refine zS 42 hb ?_;subst hx;exact zF
 refine zR 1 ?_;refine Ks 3 49 (((decide (a0=2))&&(decide ((min a1 a2)=0)))&&(decide ((max a1 a2)=1))) (fun x hx=>?_) ?_
 ·rcases Vz hx with ⟨hb,hx⟩|⟨hb,hx⟩
  ·refine zS 46 hb ?_;subst hx;exact zF
  refine zS 46 hb ?_;subst hx;exact zF
 refine zN (Jb ?_);rcases Ji h with ⟨hb,h⟩|⟨hb,h⟩
 ·refine zT hb (Ja (Jc (zE (Jb (Jm (Jj ?_))))));cases h;exact zQ
 refine zU hb (Jg (Jb (Ja (Ja (Jc (zR 3 ?_))))));refine Ks 3 55 ((decide (a0=2))&&(decide ((min a1 a2)=0))) (fun x hx=>?_) ?_
 ·rcases Vz hx with ⟨hb,hx⟩|⟨hb,hx⟩
  ·refine zS 52 hb ?_;subst hx;exact zF
  refine zS 52 hb ?_;subst hx;exact zF
 refine zR 1 ?_;refine Ks 3 59 (((decide (a0=2))&&(decide ((min a1 a2)=0)))&&(decide ((max a1 a2)=2))) (fun x hx=>?_) ?_
 ·rcases Vz hx with ⟨hb,hx⟩|⟨hb,hx⟩
  ·refine zS 56 hb ?_;subst hx;exact zF
  refine zS 56 hb ?_;subst hx;exact zF
 refine zN (Jb ?_);rcases Ji h with ⟨hb,h⟩|⟨hb,h⟩
 ·refine zT hb (Ja (Jc (zE (Jb (Jm (Jj ?_))))));cases h;exact zQ
 refine zU hb (Jg (Jb (Ja (Jc (zE (Jb (Jm ?_)))))));cases h;exact zQ
def Jen (a0:Int) (a1:Int):(Int×(List Int))→Option ((Int×(List Int))⊕((List Int)⊕(List Int))):=fun (x12,x13) =>
 bif decide (x12<4) then (
  onInl (α:=(List Int)) (β:=((Int×(List Int))⊕((List Int)⊕(List Int)))) (
   (Cc a0 a1 x12).bind fun r23 =>
   bif r23.2 then (
    (Ul x13 [x12]).bind fun x24 =>
    some (.inl x24)
   ) else (
    some (.inl x13)
   )
  ) fun x22 =>
  some (.inl (w64 (x12+1),x22))
 ) else (
  some (.inr (.inl x13))
 )
def So (a0:Int) (a1:Int):Option (List Int) :=
 onInl (α:=(List Int)) (β:=(List Int)) (Ki (Jen a0 a1) (0,([]:(List Int)))) fun x19 =>
 some x19
theorem Jlh (a0:Int) (a1:Int) (r:(List Int)) (h:So a0 a1=some r):Kg Tryz.prog GlS 201 [Enc.pv a0,Enc.pv a1] (Jk (.own 100005) r):=by
 unfold So at h;refine zC Tryz.func201 Tryz.ntmps201 ?_;refine Ja (Jc (zE (Jb (Ja (Jc (zE (Jb (Ja (Ja (Jc (zE (Jb (Jl ?_)))))))))))));refine Yz 5 100005 1 8 (by kernel_rfl) (by kernel_rfl) ?_;obtain ⟨o17,h17,h⟩:=Kf h;refine zA 26 0 (fun (x12,x13)=>⟨[(0,I6 a0),(1,I6 a1),(5,Jk (.own 100005) x13),(6,I6 x12)],[],[(100005,(((x13).map cellsOf).length,1))],[]⟩) (fun x19=>⟨[(5,Jk (.own 100005) x19)],[],[(100005,(((x19).map cellsOf).length,1))],[]⟩) h17 ?_ ?_
 ·rintro ⟨x12,x13⟩ oh16 h16;unfold Jen at h16;refine Ja (Ja (Jc (zE (Jb ?_))));rcases Ji h16 with ⟨hb,h16⟩|⟨hb,h16⟩
  ·refine zT hb (Jg (Jb ?_));obtain ⟨o20,h20,h16⟩:=Kf h16;refine Qm (o:=o20) 26 (fun x22=>⟨[(0,I6 a0),(1,I6 a1),(5,Jk (.own 100005) x22),(6,I6 x12)],[],[(100005,(((x22).map cellsOf).length,1))],[]⟩) ?_ ?_
   ·refine Jl (Ja (Jc (zR 3 ?_)));obtain ⟨r23,h21,h20⟩:=Je h20;refine zP (Im _ _ _ r23 h21) (zE (Jb (Ja (Jc (zE (Jb ?_))))));rcases Ji h20 with ⟨hb,h20⟩|⟨hb,h20⟩
    ·refine zT hb (Jc (zR 3 ?_));obtain ⟨x24,h22,h20⟩:=Je h20;refine zW (tk:=100005) h22 ?_;refine zE (Jx ?_);cases h20;exact zJ
    refine zU hb (Jg (Jx ?_));cases h20;exact zJ
   rintro x22 rfl;have h16:=Ka h16;refine Jc (zE ?_);cases h16;exact zB
  refine zU hb (Jv (Jt ?_));cases h16;exact zX
 rintro x19 s' rfl hs;have h:=Ka h;refine Jr (Jb (Jy hs (Ja (Jc (zE (Jb (Jm ?_)))))));cases h;exact zQ
theorem Jlo (a0:Int) (a1:Int) (r:(List Int)) (h:So a0 a1=some r):Kg Tryz.prog GlS 201 [Enc.pv a0,Enc.pv a1] (Enc.pv r) :=
 (Jlh a0 a1 r h).freeze (by kernel_rfl) (by kernel_rfl) (by kernel_rfl)
def Xa (a1:Jo) (r3:(List Int)):(Int×(List Jh))→Option ((Int×(List Jh))⊕((List Jh)⊕(List Jh))):=fun (x9,x10) =>
 bif decide (x9<((r3.length:Nat):Int)) then (
  (ixO r3 x9).bind fun x14 =>
  (Ul x10 [(Jh.mk a1.El a1.Side x14)]).bind fun x15 =>
  some (.inl (w64 (x9+1),x15))
 ) else (
  some (.inr (.inl x10))
 )
def Gi (a0:Jd) (a1:Jo):Option (List Jh) :=
 (Yb a0 a1.El).bind fun r1 =>
 bif (!r1) then (
  some ([]:(List Jh))
 ) else (
  (ixO a0.Elements a1.El).bind fun x2 =>
  (So x2.Kind a1.Side).bind fun r3 =>
  onInl (α:=(List Jh)) (β:=(List Jh)) (Ki (Xa a1 r3) (0,([]:(List Jh)))) fun x13 =>
  some x13
 )
theorem Si (a0:Jd) (a1:Jo) (r:(List Jh)) (h:Gi a0 a1=some r):Kg Tryz.prog GlS 133 [Enc.pv a0,Enc.pv a1] (Jk (.own 100006) r):=by
 unfold Gi at h;refine zC Tryz.func133 Tryz.ntmps133 ?_;refine Ja (Jc (zE (Jb (Ja (Ja (Jc (zR 3 ?_)))))));obtain ⟨r1,h1,h⟩:=Je h;refine zP (Fb _ _ r1 h1) (zE (Jb ?_));rcases Ji h with ⟨hb,h⟩|⟨hb,h⟩
 ·refine zT hb (Ja (Jc (zE (Jb (Yz 4 100006 3 24 (by kernel_rfl) (by kernel_rfl) (Jm (Jj ?_)))))));cases h;exact zQ
 refine zU hb (Jg (Jb (Ja (zD (zR 4 ?_)))));obtain ⟨x2,h2,h⟩:=Je h;refine zI h2 (zR 4 ?_);obtain ⟨r3,h3,h⟩:=Je h;refine zP (Jlo _ _ r3 h3) (zE (Jb (Ja (Jc (zE (Jb (Ja (Ja (Jc (zE (Jb (Jl ?_))))))))))));refine Yz 6 100006 3 24 (by kernel_rfl) (by kernel_rfl) ?_;obtain ⟨o11,h11,h⟩:=Kf h;refine zA 42 0 (fun (x9,x10)=>⟨[(3,.ref 3 0),(5,Jk .frozen r3),(6,Jk (.own 100006) x10),(7,I6 x9)],[(3,.cells (cellsOf a1))],[(100006,(((x10).map cellsOf).length,3))],[]⟩) (fun x13=>⟨[(6,Jk (.own 100006) x13)],[],[(100006,(((x13).map cellsOf).length,3))],[]⟩) h11 ?_ ?_
 ·rintro ⟨x9,x10⟩ oh10 h10;unfold Xa at h10;refine Ja (Ja (Jc (zR 2 ?_)));refine zL (L:=r3) ?_;refine zE (Jb ?_);rcases Ji h10 with ⟨hb,h10⟩|⟨hb,h10⟩
  ·refine zT hb (Jg (Jb (Ja (Jl (zD (zR 7 ?_))))));obtain ⟨x14,h12,h10⟩:=Je h10;refine zI h12 (zR 3 ?_);obtain ⟨x15,h13,h10⟩:=Je h10;refine zW (tk:=100006) h13 ?_;refine zE (Jx (Jb (Jc (zE ?_))));cases h10;exact zB
  refine zU hb (Jv (Jt ?_));cases h10;exact zX
 rintro x13 s' rfl hs;have h:=Ka h;refine Jr (Jb (Jy hs (Ja (Jc (zE (Jb (Jm ?_)))))));cases h;exact zQ
def Gm (a0:Jd) (a1:Jh):Option (Int×Bool) :=
 (Yb a0 a1.El).bind fun r1 =>
 bif (!r1) then (
  some (0,false)
 ) else (
  (ixO a0.Elements a1.El).bind fun x2 =>
  (Cc x2.Kind a1.In a1.Out).bind fun r3 =>
  some (r3.1,r3.2)
 )
theorem Jc7 (a0:Jd) (a1:Jh) (r:(Int×Bool)) (h:Gm a0 a1=some r):Kg Tryz.prog GlS 202 [Enc.pv a0,Enc.pv a1] (.tup [Enc.pv r.1,Enc.pv r.2]):=by
 unfold Gm at h;refine zC Tryz.func202 Tryz.ntmps202 ?_;refine Ja (Jc (zE (Jb (Ja (Ja (Jc (zR 3 ?_)))))));obtain ⟨r1,h1,h⟩:=Je h;refine zP (Fb _ _ r1 h1) (zE (Jb ?_));rcases Ji h with ⟨hb,h⟩|⟨hb,h⟩
 ·refine zT hb (Ja (Jc (zE (Jb (Jm (Jj ?_))))));cases h;exact zQ
 refine zU hb (Jg (Jb (Ja (zD (zR 4 ?_)))));obtain ⟨x2,h2,h⟩:=Je h;refine zI h2 (zR 6 ?_);obtain ⟨r3,h3,h⟩:=Je h;refine zP (Im _ _ _ r3 h3) (zE (Jb (Jm ?_)));cases h;exact zQ
def Cd (a0:Jd) (a1:Jh):Option (Jo×Bool) :=
 (Wf a0 (Jo.mk a1.El a1.Out)).bind fun r1 =>
 some (r1.1,r1.2)
theorem It (a0:Jd) (a1:Jh) (r:(Jo×Bool)) (h:Cd a0 a1=some r):Kg Tryz.prog GlS 134 [Enc.pv a0,Enc.pv a1] (.tup [Enc.pv r.1,Enc.pv r.2]):=by
 unfold Cd at h;refine zC Tryz.func134 Tryz.ntmps134 ?_;refine Ja (Jc (zE (Jb (Ja (Jc (zR 6 ?_))))));obtain ⟨r1,h1,h⟩:=Je h;refine zP (Cg _ _ r1 h1) (zE (Jb (Jm ?_)));cases h;exact zQ
def Ej (a1:(List Jh)) (x23:Int):Int→Option (Int⊕(Unit⊕(Int⊕(Unit⊕Bool)))):=fun x61 =>
 bif decide (x61<x23) then (
  (ixO a1 x61).bind fun x64 =>
  (ixO a1 x23).bind fun x65 =>
  bif decide (x64.El=x65.El) then (
   some (.inr (.inr (.inr (.inr false))))
  ) else (
   some (.inl (w64 (x61+1)))
  )
 ) else (
  some (.inr (.inl ()))
 )
def Iv (a0:Jd) (a1:(List Jh)):Int→Option (Int⊕(Unit⊕Bool)):=fun x23 =>
 bif decide (x23<((a1.length:Nat):Int)) then (
  (ixO a1 x23).bind fun x45 =>
  (Gm a0 x45).bind fun r46 =>
  bif (!r46.2) then (
   some (.inr (.inr false))
  ) else (
   onInl (α:=Unit) (β:=(Int⊕(Unit⊕Bool))) (
    bif decide (0<x23) then (
     (ixO a1 (w64 (x23 - 1))).bind fun x53 =>
     (Cd a0 x53).bind fun r54 =>
     ((bif (!r54.2) then some true else (
      (ixO a1 x23).bind fun x56 =>
      some (!(decide (r54.1.El=x56.El)))
     )):Option Bool).bind fun b55 =>
     ((bif b55 then some true else (
      (ixO a1 x23).bind fun x58 =>
      some (!(decide (r54.1.Side=x58.In)))
     )):Option Bool).bind fun b57 =>
     bif b57 then (
      some (.inr (.inr (.inr false)))
     ) else (
      some (.inl ())
     )
    ) else (
     some (.inl ())
    )
   ) fun _ =>
   onInl (α:=Unit) (β:=(Int⊕(Unit⊕Bool))) (Ki (Ej a1 x23) 0) fun _ =>
   some (.inl (w64 (x23+1)))
  )
 ) else (
  some (.inr (.inl ()))
 )
def Et (a0:Jd) (a1:(List Jh)):Option Bool :=
 ((bif decide (((a1.length:Nat):Int)=0) then some true else (
  some (decide (64<((a1.length:Nat):Int)))
 )):Option Bool).bind fun b1 =>
 bif b1 then (
  some false
 ) else (
  onInl (α:=Unit) (β:=Bool) (Ki (Iv a0 a1) 0) fun _ =>
  some true
 )
theorem Jbb (a0:Jd) (a1:(List Jh)) (r:Bool) (h:Et a0 a1=some r):Kg Tryz.prog GlS 156 [Enc.pv a0,Enc.pv a1] (Enc.pv r):=by
 unfold Et at h;refine zC Tryz.func156 Tryz.ntmps156 ?_;refine Ja (Jc (zE (Jb (Ja (Ja (Jc (zR 1 ?_)))))));refine zL (L:=a1) ?_;obtain ⟨b1,h1,h⟩:=Je h;refine zR 2 ?_;refine Ko 4 18 (.bool b1) ?_ ?_
 ·rcases Ji h1 with ⟨hb,h1⟩|⟨hb,h1⟩
  ·refine zS 14 hb ?_;cases h1;exact zF
  refine zS 14 hb (zR 1 ?_);refine zL (L:=a1) ?_;cases h1;exact zF
 refine zN (Jb ?_);rcases Ji h with ⟨hb,h⟩|⟨hb,h⟩
 ·refine zT hb (Ja (Jc (zE (Jb (Jm (Jj ?_))))));cases h;exact zQ
 refine zU hb (Jg (Jb (Ja (Ja (Jc (zE (Jb (Jl ?_))))))));obtain ⟨o71,h71,h⟩:=Kf h;refine zA 86 0 (fun x23=>⟨[(1,Jk .frozen a1),(2,.ref 2 0),(5,I6 x23)],[(2,.cells (cellsOf a0))],[],[]⟩) (fun (_:Unit)=>⟨[],[],[],[]⟩) h71 ?_ ?_
 ·rintro x23 oh70 h70;unfold Iv at h70;refine Ja (Ja (Jc (zR 2 ?_)));refine zL (L:=a1) ?_;refine zE (Jb ?_);rcases Ji h70 with ⟨hb,h70⟩|⟨hb,h70⟩
  ·refine zT hb (Jg (Jb (Ja (Jl (Ja (zD (zR 3 ?_)))))));obtain ⟨x45,h72,h70⟩:=Je h70;refine zI h72 (zR 1 ?_);obtain ⟨r46,h73,h70⟩:=Je h70;refine zP (Jc7 _ _ r46 h73) (zE (Jb (Ja (Ja (Jc (zE (Jb ?_)))))));rcases Ji h70 with ⟨hb,h70⟩|⟨hb,h70⟩
   ·refine zT hb (Ja (Jc (zE (Jb (Jm (Jj (Jp (Jj ?_))))))));cases h70;refine Kc fun he=>?_;subst he;have h74:=Km h;refine Jp (Jj ?_);cases h74;exact zQ
   refine zU hb (Jg (Jb ?_));obtain ⟨o83,h83,h70⟩:=Kf h70;refine Qm (o:=o83) 86 (fun (_:Unit)=>⟨[(1,Jk .frozen a1),(2,.ref 2 0),(5,I6 x23)],[(2,.cells (cellsOf a0))],[],[]⟩) ?_ ?_
   ·refine Ja (Jc (zE (Jb ?_)));rcases Ji h83 with ⟨hb,h83⟩|⟨hb,h83⟩
    ·refine zT hb (Ja (zD (zR 4 ?_)));obtain ⟨x53,h84,h83⟩:=Je h83;refine zI h84 (zR 1 ?_);obtain ⟨r54,h85,h83⟩:=Je h83;refine zP (It _ _ r54 h85) (zE (Jb (Ja (zD ?_))));obtain ⟨b55,h86,h83⟩:=Je h83;refine zR 3 ?_;refine Ko 9 59 (.bool b55) ?_ ?_
     ·rcases Ji h86 with ⟨hb,h86⟩|⟨hb,h86⟩
      ·refine zS 50 hb ?_;cases h86;exact zF
      refine zS 50 hb (zR 4 ?_);obtain ⟨x56,h87,h86⟩:=Je h86;refine zI h87 ?_;cases h86;exact zF
     obtain ⟨b57,h88,h83⟩:=Je h83;refine zR 1 ?_;refine Ko 9 69 (.bool b57) ?_ ?_
     ·rcases Ji h88 with ⟨hb,h88⟩|⟨hb,h88⟩
      ·refine zS 60 hb ?_;cases h88;exact zF
      refine zS 60 hb (zR 4 ?_);obtain ⟨x58,h89,h88⟩:=Je h88;refine zI h89 ?_;cases h88;exact zF
     refine zN (Jb ?_);rcases Ji h83 with ⟨hb,h83⟩|⟨hb,h83⟩
     ·refine zT hb (Ja (Jc (zE (Jb (Jm ?_)))));cases h83;refine Oc ?_;have h90:=Km h70;refine Jp (Jj ?_);cases h90;refine Kc fun he=>?_;subst he;have h91:=Km h;refine Jp (Jj ?_);cases h91;exact zQ
     refine zU hb (Jg ?_);cases h83;exact zJ
    refine zU hb (Jg ?_);cases h83;exact zJ
   rintro _ rfl;have h70:=Ka h70;refine Ja (Jc (zE (Jb (Jl ?_))));obtain ⟨o101,h101,h70⟩:=Kf h70;refine zA 86 2 (fun x61=>⟨[(1,Jk .frozen a1),(2,.ref 2 0),(5,I6 x23),(10,I6 x61)],[(2,.cells (cellsOf a0))],[],[]⟩) (fun (_:Unit)=>⟨[(1,Jk .frozen a1),(2,.ref 2 0),(5,I6 x23)],[(2,.cells (cellsOf a0))],[],[]⟩) h101 ?_ ?_
   ·rintro x61 oh100 h100;unfold Ej at h100;refine Ja (Ja (Jc (zE (Jb ?_))));rcases Ji h100 with ⟨hb,h100⟩|⟨hb,h100⟩
    ·refine zT hb (Jg (Jb (Ja (Jl (Ja (zD (zR 2 ?_)))))));obtain ⟨x64,h102,h100⟩:=Je h100;refine zI h102 (zR 4 ?_);obtain ⟨x65,h103,h100⟩:=Je h100;refine zI h103 (zE (Jb ?_));rcases Ji h100 with ⟨hb,h100⟩|⟨hb,h100⟩
     ·refine zT hb (Ja (Jc (zE (Jb (Jm (Jp (Jj ?_)))))));cases h100;refine Kc fun he=>?_;subst he;have h104:=Km h70;refine Jp (Jp (Jj ?_));cases h104;refine Kc fun he=>?_;subst he;have h105:=Km h;refine Jp (Jj ?_);cases h105;exact zQ
     refine zU hb (Jg (Jx (Jb (Jc (zE ?_)))));cases h100;exact zB
    refine zU hb (Jv (Jt ?_));cases h100;exact zX
   rintro _ s' rfl hs;have h70:=Ka h70;refine Jr (Jx (Jb (Jy hs (Jc (zE ?_)))));cases h70;exact zB
  refine zU hb (Jv (Jt ?_));cases h70;exact zX
 rintro _ s' rfl hs;have h:=Ka h;refine Jr (Jb (Jy hs (Ja (Jc (zE (Jb (Jm ?_)))))));cases h;exact zQ
def Vf (a0:Jd) (a1:Int):Option Int :=
 ((bif decide (a1<0) then some true else (
  some (decide (((a0.Elements.length:Nat):Int)≤a1))
 )):Option Bool).bind fun b1 =>
 bif b1 then (
  some (-1)
 ) else (
  (ixO a0.Elements a1).bind fun x2 =>
  some x2.Section
 )
theorem Wu (a0:Jd) (a1:Int) (r:Int) (h:Vf a0 a1=some r):Kg Tryz.prog GlS 69 [Enc.pv a0,Enc.pv a1] (Enc.pv r):=by
 unfold Vf at h;refine zC Tryz.func69 Tryz.ntmps69 ?_;refine Ja (Jc (zE (Jb (Ja (Ja (Jc ?_))))));obtain ⟨b1,h1,h⟩:=Je h;refine zR 3 ?_;refine Ko 6 13 (.bool b1) ?_ ?_
 ·rcases Ji h1 with ⟨hb,h1⟩|⟨hb,h1⟩
  ·refine zS 7 hb ?_;cases h1;exact zF
  refine zS 7 hb (zR 3 ?_);refine zL (L:=a0.Elements) ?_;cases h1;exact zF
 refine zN (Jb ?_);rcases Ji h with ⟨hb,h⟩|⟨hb,h⟩
 ·refine zT hb (Ja (Jc (zE (Jb (Jm (Jj ?_))))));cases h;exact zQ
 refine zU hb (Jg (Jb (Ja (Jc (zR 3 ?_)))));obtain ⟨x2,h2,h⟩:=Je h;refine zI h2 (zE (Jb (Jm ?_)));cases h;exact zQ
def Oy (a0:(List Int)) (a1:Int):Int→Option (Int⊕(Unit⊕Bool)):=fun x2 =>
 bif decide (x2<((a0.length:Nat):Int)) then (
  (ixO a0 x2).bind fun x4 =>
  bif decide (x4=a1) then (
   some (.inr (.inr true))
  ) else (
   some (.inl (w64 (x2+1)))
  )
 ) else (
  some (.inr (.inl ()))
 )
def Pp (a0:(List Int)) (a1:Int):Option Bool :=
 onInl (α:=Unit) (β:=Bool) (Ki (Oy a0 a1) 0) fun _ =>
 some false
theorem Jm0 (a0:(List Int)) (a1:Int) (r:Bool) (h:Pp a0 a1=some r):Kg Tryz.prog GlS 204 [Enc.pv a0,Enc.pv a1] (Enc.pv r):=by
 unfold Pp at h;refine zC Tryz.func204 Tryz.ntmps204 ?_;refine Ja (Jc (zE (Jb (Ja (Ja (Jc (zE (Jb (Jl ?_)))))))));obtain ⟨o6,h6,h⟩:=Kf h;refine zA 18 0 (fun x2=>⟨[(0,Jk .frozen a0),(1,I6 a1),(5,I6 x2)],[],[],[]⟩) (fun (_:Unit)=>⟨[],[],[],[]⟩) h6 ?_ ?_
 ·rintro x2 oh5 h5;unfold Oy at h5;refine Ja (Ja (Jc (zR 2 ?_)));refine zL (L:=a0) ?_;refine zE (Jb ?_);rcases Ji h5 with ⟨hb,h5⟩|⟨hb,h5⟩
  ·refine zT hb (Jg (Jb (Ja (Jl (Ja (Jc (zR 2 ?_)))))));obtain ⟨x4,h7,h5⟩:=Je h5;refine zI h7 (zE (Jb ?_));rcases Ji h5 with ⟨hb,h5⟩|⟨hb,h5⟩
   ·refine zT hb (Ja (Jc (zE (Jb (Jm (Jp (Jj ?_)))))));cases h5;refine Kc fun he=>?_;subst he;have h8:=Km h;refine Jp (Jj ?_);cases h8;exact zQ
   refine zU hb (Jg (Jx (Jb (Jc (zE ?_)))));cases h5;exact zB
  refine zU hb (Jv (Jt ?_));cases h5;exact zX
 rintro _ s' rfl hs;have h:=Ka h;refine Jr (Jb (Jy hs (Ja (Jc (zE (Jb (Jm ?_)))))));cases h;exact zQ
end
end PM
