/-
 Plain functions for the program's functions, and the proofs that the program does them. Printed by den.py.
-/
import Derived.Test.YtfpoeepcomnjhaaGreatDoorPmSi
import Derived.Test.YtfpoeepcomnjhaaGreatDoorPmZ
import Derived.Test.YtfpoeepcomnjhaaGreatDoorPmM
import Derived.Test.YtfpoeepcomnjhaaGreatDoorPmSt
import Derived.Test.YtfpoeepcomnjhaaGreatDoorPmP
import Derived.Test.YtfpoeepcomnjhaaGreatDoorPmR
import Derived.Test.YtfpoeepcomnjhaaGreatDoorPlA
import Derived.Test.YtfpoeepcomnjhaaGreatDoorProg
import Derived.Test.YtfpoeepcomnjhaaGreatDoorLay
import Derived.Test.YtfpoeepcomnjhaaGreatDoorChecked
namespace PM
open Go Go.RowKit Go.Proofs
attribute [local irreducible] Kp pwp
structure Qs where
 kind_:Int
 in_:Int
 out_:Int
 need_:Int
instance : Enc Qs:=⟨4,32,fun x=>.agg [.int .i64 x.kind_,.int .i64 x.in_,.int .i64 x.out_,.int .i64 x.need_]⟩
instance : Inhabited Qs:=⟨⟨0,0,0,0⟩⟩
structure Ke where
 Name:ByteArray
 Kind:Int
 Length:Int
 Grade:Int
 Speed:Int
 Slow:Int
 Section:Int
instance : Enc Ke:=⟨7,64,fun x=>.agg [.str x.Name,.int .i64 x.Kind,.int .i64 x.Length,.int .i64 x.Grade,.int .i64 x.Speed,.int .i64 x.Slow,.int .i64 x.Section]⟩
instance : Inhabited Ke:=⟨⟨ByteArray.empty,0,0,0,0,0,0⟩⟩
structure Jo where
 El:Int
 Side:Int
instance : Enc Jo:=⟨2,16,fun x=>.agg [.int .i64 x.El,.int .i64 x.Side]⟩
instance : Inhabited Jo:=⟨⟨0,0⟩⟩
def Vk (x y:Jo):Bool:=(decide (x.El=y.El)&&(decide (x.Side=y.Side)&&true))
instance : DecidableEq Jo:=fun x y=>decidable_of_iff (Vk x y=true) (by cases x; cases y; simp [Vk])
instance : Key Jo:={ (inferInstance:Enc Jo) with deq:=inferInstance,keq:=fun a b=>by cases a with|mk x y=>cases b with|mk x' y'=>(show some (decide (x=x')&&decide (y=y'))=_; simp) }
structure Qu where
 A:Jo
 B:Jo
instance : Enc Qu:=⟨4,32,fun x=>.agg [.int .i64 x.A.El,.int .i64 x.A.Side,.int .i64 x.B.El,.int .i64 x.B.Side]⟩
instance : Inhabited Qu:=⟨⟨default,default⟩⟩
structure Kl where
 Name:ByteArray
 At:Jo
 Overlap:Int
instance : Enc Kl:=⟨4,40,fun x=>.agg [.str x.Name,.int .i64 x.At.El,.int .i64 x.At.Side,.int .i64 x.Overlap]⟩
instance : Inhabited Kl:=⟨⟨ByteArray.empty,default,0⟩⟩
structure Jx where
 Id:Int
 El:Int
 Offset:Int
instance : Enc Jx:=⟨3,24,fun x=>.agg [.int .i64 x.Id,.int .i64 x.El,.int .i64 x.Offset]⟩
instance : Inhabited Jx:=⟨⟨0,0,0⟩⟩
structure Ji where
 Name:ByteArray
 Sections:(List ByteArray)
 Elements:(List Ke)
 Joints:(List Qu)
 Signals:(List Kl)
 Balises:(List Jx)
instance : Enc Ji:=⟨6,136,fun x=>.agg [.str x.Name,Jn .frozen x.Sections,Jn .frozen x.Elements,Jn .frozen x.Joints,Jn .frozen x.Signals,Jn .frozen x.Balises]⟩
instance : Inhabited Ji:=⟨⟨ByteArray.empty,[],[],[],[],[]⟩⟩
structure Qd where
 Id:Int
 Name:ByteArray
 Length:Int
 Speed:Int
 Accel:Int
 Service:Int
 Emergency:Int
 Delay:Int
 Const:Int
 Rate:Int
instance : Enc Qd:=⟨10,88,fun x=>.agg [.int .i64 x.Id,.str x.Name,.int .i64 x.Length,.int .i64 x.Speed,.int .i64 x.Accel,.int .i64 x.Service,.int .i64 x.Emergency,.int .i64 x.Delay,.int .i64 x.Const,.int .i64 x.Rate]⟩
instance : Inhabited Qd:=⟨⟨0,ByteArray.empty,0,0,0,0,0,0,0,0⟩⟩
def Jka (x y:Qd):Bool:=(decide (x.Id=y.Id)&&(decide (x.Name=y.Name)&&(decide (x.Length=y.Length)&&(decide (x.Speed=y.Speed)&&(decide (x.Accel=y.Accel)&&(decide (x.Service=y.Service)&&(decide (x.Emergency=y.Emergency)&&(decide (x.Delay=y.Delay)&&(decide (x.Const=y.Const)&&(decide (x.Rate=y.Rate)&&true))))))))))
structure Jf where
 El:Int
 In:Int
 Out:Int
instance : Enc Jf:=⟨3,24,fun x=>.agg [.int .i64 x.El,.int .i64 x.In,.int .i64 x.Out]⟩
instance : Inhabited Jf:=⟨⟨0,0,0⟩⟩
def Sr (x y:Jf):Bool:=(decide (x.El=y.El)&&(decide (x.In=y.In)&&(decide (x.Out=y.Out)&&true)))
structure Qo where
 Steps:(List Jf)
 Head:Int
 Length:Int
instance : Enc Qo:=⟨3,40,fun x=>.agg [Jn .frozen x.Steps,.int .i64 x.Head,.int .i64 x.Length]⟩
instance : Inhabited Qo:=⟨⟨[],0,0⟩⟩
structure Jr where
 El:Int
 Pos:Int
instance : Enc Jr:=⟨2,16,fun x=>.agg [.int .i64 x.El,.int .i64 x.Pos]⟩
instance : Inhabited Jr:=⟨⟨0,0⟩⟩
def Xe (x y:Jr):Bool:=(decide (x.El=y.El)&&(decide (x.Pos=y.Pos)&&true))
structure Ju where
 Name:ByteArray
 Entry:Int
 Exit:Int
 Path:(List Jf)
 Points:(List Jr)
 Sections:(List Int)
 Approach:Int
 Length:Int
 Over:(List Jf)
 OverPoints:(List Jr)
 OverSections:(List Int)
 Flank:(List Jr)
 Guards:(List Int)
 Gaps:(List Jo)
instance : Enc Ju:=⟨14,264,fun x=>.agg [.str x.Name,.int .i64 x.Entry,.int .i64 x.Exit,Jn .frozen x.Path,Jn .frozen x.Points,Jn .frozen x.Sections,.int .i64 x.Approach,.int .i64 x.Length,Jn .frozen x.Over,Jn .frozen x.OverPoints,Jn .frozen x.OverSections,Jn .frozen x.Flank,Jn .frozen x.Guards,Jn .frozen x.Gaps]⟩
instance : Inhabited Ju:=⟨⟨ByteArray.empty,0,0,[],[],[],0,0,[],[],[],[],[],[]⟩⟩
structure Kz where
 Routes:(List Ju)
 Points:(List Int)
 Homes:(List Int)
 Sections:Int
 Signals:Int
instance : Enc Kz:=⟨5,88,fun x=>.agg [Jn .frozen x.Routes,Jn .frozen x.Points,Jn .frozen x.Homes,.int .i64 x.Sections,.int .i64 x.Signals]⟩
instance : Inhabited Kz:=⟨⟨[],[],[],0,0⟩⟩
structure Uk where
 x0:(List ByteArray)
 x1:(List ByteArray)
 x2:(List ByteArray)
instance : Enc Uk:=⟨3,72,fun x=>.agg [Jn .frozen x.x0,Jn .frozen x.x1,Jn .frozen x.x2]⟩
instance : Inhabited Uk:=⟨⟨[],[],[]⟩⟩
structure Kg where
 L:(List (List Jf))
instance : Enc Kg:=⟨1,24,fun x=>.agg [Jn .frozen x.L]⟩
instance : Inhabited Kg:=⟨⟨[]⟩⟩
structure Jg where
 Id:Int
 Origin:Int
 End:Int
 At:Int
 Steps:(List Jf)
 Routes:(List Int)
 Starts:(List Int)
 Ends:(List Int)
 Done:(List Int)
 Min:Int
 Sent:Int
 Accepted:Int
 Cut:Int
 CutSeq:Int
instance : Enc Jg:=⟨14,192,fun x=>.agg [.int .i64 x.Id,.int .i64 x.Origin,.int .i64 x.End,.int .i64 x.At,Jn .frozen x.Steps,Jn .frozen x.Routes,Jn .frozen x.Starts,Jn .frozen x.Ends,Jn .frozen x.Done,.int .i64 x.Min,.int .i64 x.Sent,.int .i64 x.Accepted,.int .i64 x.Cut,.int .i64 x.CutSeq]⟩
instance : Inhabited Jg:=⟨⟨0,0,0,0,[],[],[],[],[],0,0,0,0,0⟩⟩
structure Jk where
 Peer:Int
 Out:Int
 In:Int
 Heard:Int
instance : Enc Jk:=⟨4,32,fun x=>.agg [.int .i64 x.Peer,.int .i64 x.Out,.int .i64 x.In,.int .i64 x.Heard]⟩
instance : Inhabited Jk:=⟨⟨0,0,0,0⟩⟩
def Iz (x y:Jk):Bool:=(decide (x.Peer=y.Peer)&&(decide (x.Out=y.Out)&&(decide (x.In=y.In)&&(decide (x.Heard=y.Heard)&&true))))
structure Jw where
 Tracks:(List Jg)
 Sessions:(List Jk)
instance : Enc Jw:=⟨2,48,fun x=>.agg [Jn .frozen x.Tracks,Jn .frozen x.Sessions]⟩
instance : Inhabited Jw:=⟨⟨[],[]⟩⟩
structure Qn where
 State:Int
 Rel:Int
 Timer:Int
instance : Enc Qn:=⟨3,24,fun x=>.agg [.int .i64 x.State,.int .i64 x.Rel,.int .i64 x.Timer]⟩
instance : Inhabited Qn:=⟨⟨0,0,0⟩⟩
structure Qf where
 Routes:(List Qn)
 Lies:(List Int)
instance : Enc Qf:=⟨2,48,fun x=>.agg [Jn .frozen x.Routes,Jn .frozen x.Lies]⟩
instance : Inhabited Qf:=⟨⟨[],[]⟩⟩
structure Kf where
 Id:Int
 El:Int
 From:Int
 To:Int
 Speed:Int
 Active:Bool
instance : Enc Kf:=⟨6,48,fun x=>.agg [.int .i64 x.Id,.int .i64 x.El,.int .i64 x.From,.int .i64 x.To,.int .i64 x.Speed,.bool x.Active]⟩
instance : Inhabited Kf:=⟨⟨0,0,0,0,0,false⟩⟩
structure Jh where
 From:Int
 To:Int
 Grade:Int
 Speed:Int
instance : Enc Jh:=⟨4,32,fun x=>.agg [.int .i64 x.From,.int .i64 x.To,.int .i64 x.Grade,.int .i64 x.Speed]⟩
instance : Inhabited Jh:=⟨⟨0,0,0,0⟩⟩
def Jg9 (x y:Jh):Bool:=(decide (x.From=y.From)&&(decide (x.To=y.To)&&(decide (x.Grade=y.Grade)&&(decide (x.Speed=y.Speed)&&true))))
structure Jc where
 Id:Int
 At:Int
instance : Enc Jc:=⟨2,16,fun x=>.agg [.int .i64 x.Id,.int .i64 x.At]⟩
instance : Inhabited Jc:=⟨⟨0,0⟩⟩
def Ji5 (x y:Jc):Bool:=(decide (x.Id=y.Id)&&(decide (x.At=y.At)&&true))
structure Ks where
 Seq:Int
 End:Int
 Profile:(List Jh)
 Links:(List Jc)
instance : Enc Ks:=⟨4,64,fun x=>.agg [.int .i64 x.Seq,.int .i64 x.End,Jn .frozen x.Profile,Jn .frozen x.Links]⟩
instance : Inhabited Ks:=⟨⟨0,0,[],[]⟩⟩
structure Uh where
 Min:Int
 Speed:Int
 Mode:Int
 Accepted:Int
 Whole:Bool
instance : Enc Uh:=⟨5,40,fun x=>.agg [.int .i64 x.Min,.int .i64 x.Speed,.int .i64 x.Mode,.int .i64 x.Accepted,.bool x.Whole]⟩
instance : Inhabited Uh:=⟨⟨0,0,0,0,false⟩⟩
def Fg (x y:Uh):Bool:=(decide (x.Min=y.Min)&&(decide (x.Speed=y.Speed)&&(decide (x.Mode=y.Mode)&&(decide (x.Accepted=y.Accepted)&&((x.Whole == y.Whole)&&true)))))
structure Kc where
 Kind:Int
 From:Int
 To:Int
 Seq:Int
 Time:Int
 Auth:Ks
 Report:Uh
instance : Enc Kc:=⟨14,144,fun x=>.agg [.int .i64 x.Kind,.int .i64 x.From,.int .i64 x.To,.int .i64 x.Seq,.int .i64 x.Time,.int .i64 x.Auth.Seq,.int .i64 x.Auth.End,Jn .frozen x.Auth.Profile,Jn .frozen x.Auth.Links,.int .i64 x.Report.Min,.int .i64 x.Report.Speed,.int .i64 x.Report.Mode,.int .i64 x.Report.Accepted,.bool x.Report.Whole]⟩
instance : Inhabited Kc:=⟨⟨0,0,0,0,0,default,default⟩⟩
structure Xq where
 err_:Int
instance : Enc Xq:=⟨1,8,fun x=>.agg [.int .i64 x.err_]⟩
instance : Inhabited Xq:=⟨⟨0⟩⟩
structure Bj where
 from_:Int
 to_:Int
instance : Enc Bj:=⟨2,16,fun x=>.agg [.int .i64 x.from_,.int .i64 x.to_]⟩
instance : Inhabited Bj:=⟨⟨0,0⟩⟩
structure Lx where
instance : Enc Lx:=⟨0,0,fun x=>.agg []⟩
instance : Inhabited Lx:=⟨⟨⟩⟩
structure Qa where
 Layout:Ji
 Table:Kz
 Inter:Qf
 Slow:(List Kf)
 Trains:(List Qd)
 Center:Jw
instance : Enc Qa:=⟨17,368,fun x=>.agg [.str x.Layout.Name,Jn .frozen x.Layout.Sections,Jn .frozen x.Layout.Elements,Jn .frozen x.Layout.Joints,Jn .frozen x.Layout.Signals,Jn .frozen x.Layout.Balises,Jn .frozen x.Table.Routes,Jn .frozen x.Table.Points,Jn .frozen x.Table.Homes,.int .i64 x.Table.Sections,.int .i64 x.Table.Signals,Jn .frozen x.Inter.Routes,Jn .frozen x.Inter.Lies,Jn .frozen x.Slow,Jn .frozen x.Trains,Jn .frozen x.Center.Tracks,Jn .frozen x.Center.Sessions]⟩
instance : Inhabited Qa:=⟨⟨default,default,default,[],[],default⟩⟩
def Ww : List Qs:=[(Qs.mk 1 0 1 0),(Qs.mk 1 1 0 0),(Qs.mk 2 0 1 1),(Qs.mk 2 0 2 2),(Qs.mk 2 1 0 1),(Qs.mk 2 2 0 2),(Qs.mk 3 0 1 0),(Qs.mk 3 1 0 0),(Qs.mk 3 2 3 0),(Qs.mk 3 3 2 0)]
def Cu : List Int:=[0,2,3,4]
def GlS : Nat→Option (List PV)
 | 0=>some (Ww.flatMap cellsOf)
 | 1=>some (Cu.flatMap cellsOf)
 | _=>none
/-! signallinglaw47.Light -/
noncomputable def Lp (a0:Ji):Option Bool :=
 ((bif decide (((a0.Elements.length:Nat):Int)≤40) then (
  some (decide (((a0.Joints.length:Nat):Int)≤80))
 ) else some false):Option Bool).bind fun b1 =>
 ((bif b1 then (
  some (decide (((a0.Signals.length:Nat):Int)≤30))
 ) else some false):Option Bool).bind fun b2 =>
 ((bif b2 then (
  some (decide (((a0.Balises.length:Nat):Int)≤40))
 ) else some false):Option Bool).bind fun b3 =>
 ((bif b3 then (
  some (decide (((a0.Sections.length:Nat):Int)≤40))
 ) else some false):Option Bool).bind fun b4 =>
 some b4
theorem Jg6 (a0:Ji) (r:Bool) (h:Lp a0=some r):Kj Tryz.prog GlS 8 [Enc.pv a0] (Enc.pv r):=by
 unfold Lp at h
 refine zC Tryz.func8 Tryz.ntmps8 ?_
 refine Ja (Jd (zE (Jb (Ja (Jd (zR 2 ?_))))))
 refine zL (L:=(a0.Elements:(List Ke))) ?_
 obtain ⟨b1,h1,h⟩:=Je h
 refine zR 2 ?_
 refine Km 5 12 (.bool b1) ?_ ?_
 ·rcases Jl h1 with ⟨hb,h1⟩|⟨hb,h1⟩
  ·refine zS 7 hb (zR 2 ?_)
   refine zL (L:=(a0.Joints:(List Qu))) ?_
   cases h1
   exact zF
  refine zS 7 hb ?_
  cases h1
  exact zF
 obtain ⟨b2,h2,h⟩:=Je h
 refine zR 1 ?_
 refine Km 5 18 (.bool b2) ?_ ?_
 ·rcases Jl h2 with ⟨hb,h2⟩|⟨hb,h2⟩
  ·refine zS 13 hb (zR 2 ?_)
   refine zL (L:=(a0.Signals:(List Kl))) ?_
   cases h2
   exact zF
  refine zS 13 hb ?_
  cases h2
  exact zF
 obtain ⟨b3,h3,h⟩:=Je h
 refine zR 1 ?_
 refine Km 5 24 (.bool b3) ?_ ?_
 ·rcases Jl h3 with ⟨hb,h3⟩|⟨hb,h3⟩
  ·refine zS 19 hb (zR 2 ?_)
   refine zL (L:=(a0.Balises:(List Jx))) ?_
   cases h3
   exact zF
  refine zS 19 hb ?_
  cases h3
  exact zF
 obtain ⟨b4,h4,h⟩:=Je h
 refine zR 1 ?_
 refine Km 5 30 (.bool b4) ?_ ?_
 ·rcases Jl h4 with ⟨hb,h4⟩|⟨hb,h4⟩
  ·refine zS 25 hb (zR 2 ?_)
   refine zL (L:=(a0.Sections:(List ByteArray))) ?_
   cases h4
   exact zF
  refine zS 25 hb ?_
  cases h4
  exact zF
 refine zE (Jb (Jq ?_))
 cases h
 exact zQ
/-! signallinglaw47.Line -/
noncomputable def Jcu : (Int×(List Ke))→Option ((Int×(List Ke))⊕((List Ke)⊕Ji)):=fun (x6,x7) =>
 bif decide (x6<(([(ByteArray.mk #[97]),(ByteArray.mk #[98]),(ByteArray.mk #[99])].length:Nat):Int)) then (
  (ixO [(ByteArray.mk #[97]),(ByteArray.mk #[98]),(ByteArray.mk #[99])] x6).bind fun x11 =>
  (Ut x7 [(Ke.mk x11 1 20000 0 1000 0 x6)]).bind fun x12 =>
  some (.inl (w64 (x6+1),x12))
 ) else (
  some (.inr (.inl x7))
 )
noncomputable def Jaw : Option Ji :=
 onInl (α:=(List Ke)) (β:=Ji) (Ko (Jcu) (0,([]:(List Ke)))) fun x10 =>
 some (Ji.mk (ByteArray.mk #[108,105,110,101]) [(ByteArray.mk #[97]),(ByteArray.mk #[98]),(ByteArray.mk #[99])] x10 [(Qu.mk (Jo.mk 0 1) (Jo.mk 1 0)),(Qu.mk (Jo.mk 1 1) (Jo.mk 2 0))] [(Kl.mk (ByteArray.mk #[115,49]) (Jo.mk 0 1) 0),(Kl.mk (ByteArray.mk #[115,50]) (Jo.mk 1 1) 0)] [])
theorem Jjg (r:Ji) (h:Jaw=some r):Kj Tryz.prog GlS 27 [] (Enc.pv r):=by
 unfold Jaw at h
 refine zC Tryz.func27 Tryz.ntmps27 ?_
 refine Ja (Jd (zE (Jb (Ja (Jd (zE (Jb (Ja (Ja (Jd (zR 2 ?_)))))))))))
 refine zL (L:=([(ByteArray.mk #[97]),(ByteArray.mk #[98]),(ByteArray.mk #[99])]:(List ByteArray))) ?_
 refine zE (Jb (Jp ?_))
 refine Ka (Ho 1 2 200102 7 64 (cs:=[.str (ByteArray.mk #[108,105,110,101]),Jn .full ([(ByteArray.mk #[97]),(ByteArray.mk #[98]),(ByteArray.mk #[99])]:(List ByteArray)),.nil,.nil,Jn .full ([(Kl.mk (ByteArray.mk #[115,49]) (Jo.mk 0 1) 0),(Kl.mk (ByteArray.mk #[115,50]) (Jo.mk 1 1) 0)]:(List Kl)),.nil]) (by kernel_rfl) (by kernel_rfl) (by kernel_rfl)) ?_
 obtain ⟨o8,h8,h⟩:=Kk h
 refine zA 37 0 (fun (x6,x7)=>⟨[(0,.ref 0 0),(1,.ref 1 0),(12,Jn .full ([(ByteArray.mk #[97]),(ByteArray.mk #[98]),(ByteArray.mk #[99])]:(List ByteArray))),(13,.int .i64 (([(ByteArray.mk #[97]),(ByteArray.mk #[98]),(ByteArray.mk #[99])].length:Nat):Int)),(14,.int .i64 x6)],[(0,.cells ([.str ByteArray.empty,.nil,.nil,.nil,.nil,.nil])),(1,.cells ([.str (ByteArray.mk #[108,105,110,101]),Jn .full ([(ByteArray.mk #[97]),(ByteArray.mk #[98]),(ByteArray.mk #[99])]:(List ByteArray)),Jn (.own 200102) (x7:(List Ke)),.nil,Jn .full ([(Kl.mk (ByteArray.mk #[115,49]) (Jo.mk 0 1) 0),(Kl.mk (ByteArray.mk #[115,50]) (Jo.mk 1 1) 0)]:(List Kl)),.nil]))],[(200102,(((x7).map cellsOf).length,7))],[]⟩) (fun x10=>⟨[(0,.ref 0 0),(1,.ref 1 0)],[(0,.cells ([.str ByteArray.empty,.nil,.nil,.nil,.nil,.nil])),(1,.cells ([.str (ByteArray.mk #[108,105,110,101]),Jn .full ([(ByteArray.mk #[97]),(ByteArray.mk #[98]),(ByteArray.mk #[99])]:(List ByteArray)),Jn (.own 200102) (x10:(List Ke)),.nil,Jn .full ([(Kl.mk (ByteArray.mk #[115,49]) (Jo.mk 0 1) 0),(Kl.mk (ByteArray.mk #[115,50]) (Jo.mk 1 1) 0)]:(List Kl)),.nil]))],[(200102,(((x10).map cellsOf).length,7))],[]⟩) h8 ?_ ?_
 ·rintro ⟨x6,x7⟩ oh7 h7
  unfold Jcu at h7
  refine Ja (Jd (zE (Jb (Ja ?_))))
  rcases Jl h7 with ⟨hb,h7⟩|⟨hb,h7⟩
  ·refine zT hb (Jj (Jb (Ja (Jp (Ja (Jd (zR 1 ?_)))))))
   obtain ⟨x11,h9,h7⟩:=Je h7
   refine zI h9 (zE (Jb (Jd (zR 6 ?_))))
   obtain ⟨x12,h10,h7⟩:=Je h7
   refine zW (tk:=200102) h10 ?_
   refine zE (Jz (Jb (Jd (zE ?_))))
   cases h7
   exact zB
  refine zU hb (Jy (Jv ?_))
  cases h7
  exact zX
 rintro x10 s' rfl hs
 have h:=Kb h
 refine Jt (Jb (Ka hs (Ja (Jd (zE (Jb (Ja (Jd (zE (Jb (Jq ?_)))))))))))
 cases h
 exact zQ
/-! signallingref07.names -/
noncomputable def Ja8 (a0:Ji):(Int×(List ByteArray))→Option ((Int×(List ByteArray))⊕((List ByteArray)⊕Uk)):=fun (x7,x8) =>
 bif decide (x7<((a0.Elements.length:Nat):Int)) then (
  (ixO a0.Elements x7).bind fun x12 =>
  (Ut x8 [x12.Name]).bind fun x13 =>
  some (.inl (w64 (x7+1),x13))
 ) else (
  some (.inr (.inl x8))
 )
noncomputable def Jbb (a0:Ji):(Int×(List ByteArray))→Option ((Int×(List ByteArray))⊕((List ByteArray)⊕Uk)):=fun (x19,x20) =>
 bif decide (x19<((a0.Signals.length:Nat):Int)) then (
  (ixO a0.Signals x19).bind fun x24 =>
  (Ut x20 [x24.Name]).bind fun x25 =>
  some (.inl (w64 (x19+1),x25))
 ) else (
  some (.inr (.inl x20))
 )
noncomputable def Ta (a0:Ji):Option Uk :=
 (Ut ([]:(List ByteArray)) a0.Sections).bind fun x1 =>
 onInl (α:=(List ByteArray)) (β:=Uk) (Ko (Ja8 a0) (0,([]:(List ByteArray)))) fun x11 =>
 onInl (α:=(List ByteArray)) (β:=Uk) (Ko (Jbb a0) (0,([]:(List ByteArray)))) fun x23 =>
 some (Uk.mk x1 x11 x23)
theorem Jhp (a0:Ji) (r:Uk) (h:Ta a0=some r):Kj Tryz.prog GlS 223 [Enc.pv a0] (Enc.pv r):=by
 unfold Ta at h
 refine zC Tryz.func223 Tryz.ntmps223 ?_
 refine Ja (Jd (zE (Jb (Ja (Jd (zE (Jb (Ja (Jd (zR 4 ?_))))))))))
 obtain ⟨x1,h1,h⟩:=Je h
 refine Sy (tk:=13) h1 (by kernel_rfl) ?_
 refine zE (Jb (Ja (Ja (Jd (zR 2 ?_)))))
 refine zL (L:=(a0.Elements:(List Ke))) ?_
 refine zE (Jb (Jp ?_))
 refine Ka (Ho 3 1 200301 1 16 (cs:=[Jn (.own 13) (x1:(List ByteArray)),.nil,.nil]) (by kernel_rfl) (by kernel_rfl) (by kernel_rfl)) ?_
 obtain ⟨o9,h9,h⟩:=Kk h
 refine zA 46 0 (fun (x7,x8)=>⟨[(1,.ref 1 0),(2,.ref 2 0),(3,.ref 3 0),(16,Jn .frozen (a0.Elements:(List Ke))),(17,.int .i64 ((a0.Elements.length:Nat):Int)),(18,.int .i64 x7)],[(1,.cells (cellsOf a0)),(2,.cells ([.nil,.nil,.nil])),(3,.cells ([Jn (.own 13) (x1:(List ByteArray)),Jn (.own 200301) (x8:(List ByteArray)),.nil]))],[(13,(((x1).map cellsOf).length,1)),(200301,(((x8).map cellsOf).length,1))],[]⟩) (fun x11=>⟨[(1,.ref 1 0),(2,.ref 2 0),(3,.ref 3 0)],[(1,.cells (cellsOf a0)),(2,.cells ([.nil,.nil,.nil])),(3,.cells ([Jn (.own 13) (x1:(List ByteArray)),Jn (.own 200301) (x11:(List ByteArray)),.nil]))],[(13,(((x1).map cellsOf).length,1)),(200301,(((x11).map cellsOf).length,1))],[]⟩) h9 ?_ ?_
 ·rintro ⟨x7,x8⟩ oh8 h8
  unfold Ja8 at h8
  refine Ja (Jd (zE (Jb (Ja ?_))))
  rcases Jl h8 with ⟨hb,h8⟩|⟨hb,h8⟩
  ·refine zT hb (Jj (Jb (Ja (Jp (Ja (Jd ?_))))))
   obtain ⟨x12,h10,h8⟩:=Je h8
   refine zI h10 (zE (Jb (Jd (zR 5 ?_))))
   obtain ⟨x13,h11,h8⟩:=Je h8
   refine zW (tk:=200301) h11 ?_
   refine zE (Jz (Jb (Jd (zE ?_))))
   cases h8
   exact zB
  refine zU hb (Jy (Jv ?_))
  cases h8
  exact zX
 rintro x11 s' rfl hs
 have h:=Kb h
 refine Jt (Jb (Ka hs (Ja (Ja (Jd (zR 2 ?_))))))
 refine zL (L:=(a0.Signals:(List Kl))) ?_
 refine zE (Jb (Jp ?_))
 refine Ka (Ho 3 2 200302 1 16 (cs:=[Jn (.own 13) (x1:(List ByteArray)),Jn (.own 200301) (x11:(List ByteArray)),.nil]) (by kernel_rfl) (by kernel_rfl) (by kernel_rfl)) ?_
 obtain ⟨o19,h19,h⟩:=Kk h
 refine zA 46 2 (fun (x19,x20)=>⟨[(2,.ref 2 0),(3,.ref 3 0),(31,Jn .frozen (a0.Signals:(List Kl))),(32,.int .i64 ((a0.Signals.length:Nat):Int)),(33,.int .i64 x19)],[(2,.cells ([.nil,.nil,.nil])),(3,.cells ([Jn (.own 13) (x1:(List ByteArray)),Jn (.own 200301) (x11:(List ByteArray)),Jn (.own 200302) (x20:(List ByteArray))]))],[(13,(((x1).map cellsOf).length,1)),(200301,(((x11).map cellsOf).length,1)),(200302,(((x20).map cellsOf).length,1))],[]⟩) (fun x23=>⟨[(2,.ref 2 0),(3,.ref 3 0)],[(2,.cells ([.nil,.nil,.nil])),(3,.cells ([Jn (.own 13) (x1:(List ByteArray)),Jn (.own 200301) (x11:(List ByteArray)),Jn (.own 200302) (x23:(List ByteArray))]))],[(13,(((x1).map cellsOf).length,1)),(200301,(((x11).map cellsOf).length,1)),(200302,(((x23).map cellsOf).length,1))],[]⟩) h19 ?_ ?_
 ·rintro ⟨x19,x20⟩ oh18 h18
  unfold Jbb at h18
  refine Ja (Jd (zE (Jb (Ja ?_))))
  rcases Jl h18 with ⟨hb,h18⟩|⟨hb,h18⟩
  ·refine zT hb (Jj (Jb (Ja (Jp (Ja (Jd ?_))))))
   obtain ⟨x24,h20,h18⟩:=Je h18
   refine zI h20 (zE (Jb (Jd (zR 5 ?_))))
   obtain ⟨x25,h21,h18⟩:=Je h18
   refine zW (tk:=200302) h21 ?_
   refine zE (Jz (Jb (Jd (zE ?_))))
   cases h18
   exact zB
  refine zU hb (Jy (Jv ?_))
  cases h18
  exact zX
 rintro x23 s' rfl hs
 have h:=Kb h
 refine Jt (Jb (Ka hs (Ja (Jd (zE (Jb (Jq ?_)))))))
 cases h
 exact zQ
/-! signallingref05.Name -/
noncomputable def Jcq (a0:ByteArray):Int→Option (Int⊕(Unit⊕Bool)):=fun x9 =>
 bif decide (x9<((a0.size:Nat):Int)) then (
  (Jox a0 x9).bind fun x18 =>
  ((bif decide (97≤x18) then (
   (Jox a0 x9).bind fun x20 =>
   some (decide (x20≤122))
  ) else some false):Option Bool).bind fun b19 =>
  (Jox a0 x9).bind fun x21 =>
  ((bif decide (48≤x21) then (
   (Jox a0 x9).bind fun x23 =>
   some (decide (x23≤57))
  ) else some false):Option Bool).bind fun b22 =>
  ((bif b22 then some true else (
   (Jox a0 x9).bind fun x25 =>
   some (decide (x25=95))
  )):Option Bool).bind fun b24 =>
  bif ((!b19)&&((!b24)||(decide (x9=0)))) then (
   some (.inr (.inr false))
  ) else (
   some (.inl (w64 (x9+1)))
  )
 ) else (
  some (.inr (.inl ()))
 )
noncomputable def Jaf (a0:ByteArray):Option Bool :=
 onInl (α:=Unit) (β:=Bool) (Ko (Jcq a0) 0) fun _ =>
 some ((decide (1≤((a0.size:Nat):Int)))&&(decide (((a0.size:Nat):Int)≤12)))
theorem Ji4 (a0:ByteArray) (r:Bool) (h:Jaf a0=some r):Kj Tryz.prog GlS 88 [Enc.pv a0] (Enc.pv r):=by
 unfold Jaf at h
 refine zC Tryz.func88 Tryz.ntmps88 ?_
 refine Ja (Jd (zE (Jb (Ja (Ja (Jd (zE (Jb (Jp ?_)))))))))
 obtain ⟨o20,h20,h⟩:=Kk h
 refine zA 56 0 (fun x9=>⟨[(0,.str a0),(3,.int .i64 x9)],[],[],[]⟩) (fun (_:Unit)=>⟨[(0,.str a0)],[],[],[]⟩) h20 ?_ ?_
 ·rintro x9 oh19 h19
  unfold Jcq at h19
  refine Ja (Ja (Jd (zE (Jb ?_))))
  rcases Jl h19 with ⟨hb,h19⟩|⟨hb,h19⟩
  ·refine zT hb (Jj (Jb (Ja (Jp (Ja (Jd (zR 2 ?_)))))))
   obtain ⟨x18,h21,h19⟩:=Je h19
   refine Jle h21 (by kernel_rfl) ?_
   obtain ⟨b19,h22,h19⟩:=Je h19
   refine zR 2 ?_
   refine Km 5 21 (.bool b19) ?_ ?_
   ·rcases Jl h22 with ⟨hb,h22⟩|⟨hb,h22⟩
    ·refine zS 16 hb (zR 2 ?_)
     obtain ⟨x20,h23,h22⟩:=Je h22
     refine Jle h23 (by kernel_rfl) ?_
     cases h22
     exact zF
    refine zS 16 hb ?_
    cases h22
    exact zF
   refine zE (Jb (Ja (Jd (zR 2 ?_))))
   obtain ⟨x21,h24,h19⟩:=Je h19
   refine Jle h24 (by kernel_rfl) ?_
   obtain ⟨b22,h25,h19⟩:=Je h19
   refine zR 2 ?_
   refine Km 5 31 (.bool b22) ?_ ?_
   ·rcases Jl h25 with ⟨hb,h25⟩|⟨hb,h25⟩
    ·refine zS 26 hb (zR 2 ?_)
     obtain ⟨x23,h26,h25⟩:=Je h25
     refine Jle h26 (by kernel_rfl) ?_
     cases h25
     exact zF
    refine zS 26 hb ?_
    cases h25
    exact zF
   obtain ⟨b24,h27,h19⟩:=Je h19
   refine zR 1 ?_
   refine Km 5 37 (.bool b24) ?_ ?_
   ·rcases Jl h27 with ⟨hb,h27⟩|⟨hb,h27⟩
    ·refine zS 32 hb ?_
     cases h27
     exact zF
    refine zS 32 hb (zR 2 ?_)
    obtain ⟨x25,h28,h27⟩:=Je h27
    refine Jle h28 (by kernel_rfl) ?_
    cases h27
    exact zF
   refine zE (Jb (Ja (Jd (zR 3 ?_))))
   refine Ku 7 47 ((!b19)&&((!b24)||(decide (x9=0)))) (fun x hx=>?_) ?_
   ·rcases Vm hx with ⟨hb,hx⟩|⟨hb,hx⟩
    ·refine zS 40 hb (zR 3 ?_)
     refine Ph 3 46 ((!b24)||(decide (x9=0))) (fun x hx=>?_) ?_
     ·rcases Vs hx with ⟨hb,hx⟩|⟨hb,hx⟩
      ·refine zS 43 hb ?_
       subst hx
       exact zF
      refine zS 43 hb ?_
      subst hx
      exact zF
     subst hx
     exact zF
    refine zS 40 hb ?_
    subst hx
    exact zF
   refine zN (Jb ?_)
   rcases Jl h19 with ⟨hb,h19⟩|⟨hb,h19⟩
   ·refine zT hb (Ja (Jd (zE (Jb (Jq (Js (Jm ?_)))))))
    cases h19
    refine Kd fun he=>?_
    subst he
    have h29:=Kq h
    refine Js (Jm ?_)
    cases h29
    exact zQ
   refine zU hb (Jj (Jz (Jb (Jd (zE ?_)))))
   cases h19
   exact zB
  refine zU hb (Jy (Jv ?_))
  cases h19
  exact zX
 rintro _ s' rfl hs
 have h:=Kb h
 refine Jt (Jb (Ka hs (Ja (Jd (zR 4 ?_)))))
 refine Ku 4 55 ((decide (1≤((a0.size:Nat):Int)))&&(decide (((a0.size:Nat):Int)≤12))) (fun x hx=>?_) ?_
 ·rcases Vm hx with ⟨hb,hx⟩|⟨hb,hx⟩
  ·refine zS 51 hb ?_
   subst hx
   exact zF
  refine zS 51 hb ?_
  subst hx
  exact zF
 refine zE (Jb (Jq ?_))
 cases h
 exact zQ
/-! signallingref07.texts -/
noncomputable def Jbf (a0:(List ByteArray)) (x8:Int):Int→Option (Int⊕(Unit⊕(Int⊕(Unit⊕Bool)))):=fun x18 =>
 bif decide (x18<x8) then (
  (ixO a0 x8).bind fun x21 =>
  (ixO a0 x18).bind fun x22 =>
  bif decide (x21=x22) then (
   some (.inr (.inr (.inr (.inr true))))
  ) else (
   some (.inl (w64 (x18+1)))
  )
 ) else (
  some (.inr (.inl ()))
 )
noncomputable def Jbp (a0:(List ByteArray)):Int→Option (Int⊕(Unit⊕Bool)):=fun x8 =>
 bif decide (x8<((a0.length:Nat):Int)) then (
  onInl (α:=Unit) (β:=(Int⊕(Unit⊕Bool))) (Ko (Jbf a0 x8) 0) fun _ =>
  some (.inl (w64 (x8+1)))
 ) else (
  some (.inr (.inl ()))
 )
noncomputable def Eh (a0:(List ByteArray)):Option Bool :=
 onInl (α:=Unit) (β:=Bool) (Ko (Jbp a0) 0) fun _ =>
 some false
theorem Iu (a0:(List ByteArray)) (r:Bool) (h:Eh a0=some r):Kj Tryz.prog GlS 224 [Enc.pv a0] (Enc.pv r):=by
 unfold Eh at h
 refine zC Tryz.func224 Tryz.ntmps224 ?_
 refine Ja (Jd (zE (Jb (Ja (Ja (Jd (zR 1 ?_)))))))
 refine zL (L:=(a0:(List ByteArray))) ?_
 refine zE (Jb (Jp ?_))
 obtain ⟨o30,h30,h⟩:=Kk h
 refine zA 25 0 (fun x8=>⟨[(0,Jn .frozen (a0:(List ByteArray))),(6,.int .i64 ((a0.length:Nat):Int)),(7,.int .i64 x8)],[],[],[]⟩) (fun (_:Unit)=>⟨[],[],[],[]⟩) h30 ?_ ?_
 ·rintro x8 oh29 h29
  unfold Jbp at h29
  refine Ja (Jd (zE (Jb (Ja ?_))))
  rcases Jl h29 with ⟨hb,h29⟩|⟨hb,h29⟩
  ·refine zT hb (Jj (Jb (Ja (Jp (Ja (Jd (zE (Jb (Ja (Jd (zE (Jb (Jp ?_)))))))))))))
   obtain ⟨o40,h40,h29⟩:=Kk h29
   refine zA 25 2 (fun x18=>⟨[(0,Jn .frozen (a0:(List ByteArray))),(3,.int .i64 x8),(6,.int .i64 ((a0.length:Nat):Int)),(7,.int .i64 x8),(10,.int .i64 x8),(11,.int .i64 x18)],[],[],[]⟩) (fun (_:Unit)=>⟨[(0,Jn .frozen (a0:(List ByteArray))),(6,.int .i64 ((a0.length:Nat):Int)),(7,.int .i64 x8)],[],[],[]⟩) h40 ?_ ?_
   ·rintro x18 oh39 h39
    unfold Jbf at h39
    refine Ja (Jd (zE (Jb (Ja ?_))))
    rcases Jl h39 with ⟨hb,h39⟩|⟨hb,h39⟩
    ·refine zT hb (Jj (Jb (Ja (Jp (Ja (Jd (zE (Jb (Ja (zD (zR 2 ?_)))))))))))
     obtain ⟨x21,h41,h39⟩:=Je h39
     refine zI h41 (zR 3 ?_)
     obtain ⟨x22,h42,h39⟩:=Je h39
     refine zI h42 (zE (Jb ?_))
     rcases Jl h39 with ⟨hb,h39⟩|⟨hb,h39⟩
     ·refine zT hb (Ja (Jd (zE (Jb (Jq (Js (Jm ?_)))))))
      cases h39
      refine Kd fun he=>?_
      subst he
      have h43:=Kq h29
      refine Js (Js (Jm ?_))
      cases h43
      refine Kd fun he=>?_
      subst he
      have h44:=Kq h
      refine Js (Jm ?_)
      cases h44
      exact zQ
     refine zU hb (Jj (Jz (Jb (Jd (zE ?_)))))
     cases h39
     exact zB
    refine zU hb (Jy (Jv ?_))
    cases h39
    exact zX
   rintro _ s' rfl hs
   have h29:=Kb h29
   refine Jt (Jz (Jb (Ka hs (Jd (zE ?_)))))
   cases h29
   exact zB
  refine zU hb (Jy (Jv ?_))
  cases h29
  exact zX
 rintro _ s' rfl hs
 have h:=Kb h
 refine Jt (Jb (Ka hs (Ja (Jd (zE (Jb (Jq ?_)))))))
 cases h
 exact zQ
/-! signallingref07.named -/
noncomputable def Jbd (x9:(List ByteArray)):Int→Option (Int⊕(Unit⊕Int)):=fun x12 =>
 bif decide (x12<((x9.length:Nat):Int)) then (
  (ixO x9 x12).bind fun x15 =>
  (Jaf x15).bind fun r16 =>
  bif (!r16) then (
   some (.inr (.inr 3))
  ) else (
   some (.inl (w64 (x12+1)))
  )
 ) else (
  some (.inr (.inl ()))
 )
noncomputable def Tb (a0:Ji):Option Int :=
 ((bif decide (((a0.Elements.length:Nat):Int)<1) then some true else (
  some (decide (32<((a0.Elements.length:Nat):Int)))
 )):Option Bool).bind fun b1 =>
 ((bif b1 then some true else (
  some (decide (((a0.Sections.length:Nat):Int)<1))
 )):Option Bool).bind fun b2 =>
 ((bif b2 then some true else (
  some (decide (24<((a0.Sections.length:Nat):Int)))
 )):Option Bool).bind fun b3 =>
 ((bif b3 then some true else (
  some (decide (20<((a0.Signals.length:Nat):Int)))
 )):Option Bool).bind fun b4 =>
 ((bif b4 then some true else (
  some (decide (24<((a0.Balises.length:Nat):Int)))
 )):Option Bool).bind fun b5 =>
 bif b5 then (
  some 2
 ) else (
  (Ta a0).bind fun r6 =>
  (Ut [a0.Name] r6.x0).bind fun x7 =>
  (Ut x7 r6.x1).bind fun x8 =>
  (Ut x8 r6.x2).bind fun x9 =>
  onInl (α:=Unit) (β:=Int) (Ko (Jbd x9) 0) fun _ =>
  (Eh r6.x0).bind fun r17 =>
  ((bif r17 then some true else (
   (Eh r6.x1).bind fun r19 =>
   some r19
  )):Option Bool).bind fun b18 =>
  ((bif b18 then some true else (
   (Eh r6.x2).bind fun r21 =>
   some r21
  )):Option Bool).bind fun b20 =>
  bif b20 then (
   some 8
  ) else (
   some 0
  )
 )
theorem Jg7 (a0:Ji) (r:Int) (h:Tb a0=some r):Kj Tryz.prog GlS 152 [Enc.pv a0] (Enc.pv r):=by
 unfold Tb at h
 refine zC Tryz.func152 Tryz.ntmps152 ?_
 refine Ja (Jd (zE (Jb (Ja (Ja (Jd (zR 2 ?_)))))))
 refine zL (L:=(a0.Elements:(List Ke))) ?_
 obtain ⟨b1,h1,h⟩:=Je h
 refine zR 2 ?_
 refine Km 5 15 (.bool b1) ?_ ?_
 ·rcases Jl h1 with ⟨hb,h1⟩|⟨hb,h1⟩
  ·refine zS 10 hb ?_
   cases h1
   exact zF
  refine zS 10 hb (zR 2 ?_)
  refine zL (L:=(a0.Elements:(List Ke))) ?_
  cases h1
  exact zF
 obtain ⟨b2,h2,h⟩:=Je h
 refine zR 1 ?_
 refine Km 5 21 (.bool b2) ?_ ?_
 ·rcases Jl h2 with ⟨hb,h2⟩|⟨hb,h2⟩
  ·refine zS 16 hb ?_
   cases h2
   exact zF
  refine zS 16 hb (zR 2 ?_)
  refine zL (L:=(a0.Sections:(List ByteArray))) ?_
  cases h2
  exact zF
 obtain ⟨b3,h3,h⟩:=Je h
 refine zR 1 ?_
 refine Km 5 27 (.bool b3) ?_ ?_
 ·rcases Jl h3 with ⟨hb,h3⟩|⟨hb,h3⟩
  ·refine zS 22 hb ?_
   cases h3
   exact zF
  refine zS 22 hb (zR 2 ?_)
  refine zL (L:=(a0.Sections:(List ByteArray))) ?_
  cases h3
  exact zF
 obtain ⟨b4,h4,h⟩:=Je h
 refine zR 1 ?_
 refine Km 5 33 (.bool b4) ?_ ?_
 ·rcases Jl h4 with ⟨hb,h4⟩|⟨hb,h4⟩
  ·refine zS 28 hb ?_
   cases h4
   exact zF
  refine zS 28 hb (zR 2 ?_)
  refine zL (L:=(a0.Signals:(List Kl))) ?_
  cases h4
  exact zF
 obtain ⟨b5,h5,h⟩:=Je h
 refine zR 1 ?_
 refine Km 5 39 (.bool b5) ?_ ?_
 ·rcases Jl h5 with ⟨hb,h5⟩|⟨hb,h5⟩
  ·refine zS 34 hb ?_
   cases h5
   exact zF
  refine zS 34 hb (zR 2 ?_)
  refine zL (L:=(a0.Balises:(List Jx))) ?_
  cases h5
  exact zF
 refine zN (Jb ?_)
 rcases Jl h with ⟨hb,h⟩|⟨hb,h⟩
 ·refine zT hb (Ja (Jd (zE (Jb (Jq (Jm ?_))))))
  cases h
  exact zQ
 refine zU hb (Jj (Jb (Ja (Jd (zR 1 ?_)))))
 obtain ⟨r6,h6,h⟩:=Je h
 refine zP (Jhp _ r6 h6) (zE (Jb (Ja (Ja (zD (zR 5 ?_))))))
 obtain ⟨x7,h7,h⟩:=Je h
 refine Sy (tk:=47) h7 (by kernel_rfl) ?_
 refine zR 2 ?_
 obtain ⟨x8,h8,h⟩:=Je h
 refine zW (tk:=47) h8 ?_
 refine zR 2 ?_
 obtain ⟨x9,h9,h⟩:=Je h
 refine zW (tk:=47) h9 ?_
 refine zL (L:=(x9:(List ByteArray))) ?_
 refine zE (Jb (Jp ?_))
 obtain ⟨o17,h17,h⟩:=Kk h
 refine zA 76 0 (fun x12=>⟨[(3,.ref 3 0),(53,Jn (.own 47) (x9:(List ByteArray))),(54,.int .i64 ((x9.length:Nat):Int)),(55,.int .i64 x12)],[(3,.cells (cellsOf r6))],[(47,(((x9).map cellsOf).length,1))],[]⟩) (fun (_:Unit)=>⟨[(3,.ref 3 0)],[(3,.cells (cellsOf r6))],[],[]⟩) h17 ?_ ?_
 ·rintro x12 oh16 h16
  unfold Jbd at h16
  refine Ja (Jd (zE (Jb (Ja ?_))))
  rcases Jl h16 with ⟨hb,h16⟩|⟨hb,h16⟩
  ·refine zT hb (Jj (Jb (Ja (Jp (Ja (Jd ?_))))))
   obtain ⟨x15,h18,h16⟩:=Je h16
   refine zI h18 (zE (Jb (Ja (Jd (zR 1 ?_)))))
   obtain ⟨r16,h19,h16⟩:=Je h16
   refine zP (Ji4 _ r16 h19) (zE (Jb ?_))
   rcases Jl h16 with ⟨hb,h16⟩|⟨hb,h16⟩
   ·refine zT hb (Ja (Jd (zE (Jb (Jq (Js (Jm ?_)))))))
    cases h16
    refine Kd fun he=>?_
    subst he
    have h20:=Kq h
    refine Js (Jm ?_)
    cases h20
    exact zQ
   refine zU hb (Jj (Jz (Jb (Jd (zE ?_)))))
   cases h16
   exact zB
  refine zU hb (Jy (Jv ?_))
  cases h16
  exact zX
 rintro _ s' rfl hs
 have h:=Kb h
 refine Jt (Jb (Ka hs (Ja (Ja (Jd (zR 2 ?_))))))
 obtain ⟨r17,h21,h⟩:=Je h
 refine zP (Iu _ r17 h21) ?_
 obtain ⟨b18,h22,h⟩:=Je h
 refine zR 1 ?_
 refine Km 4 70 (.bool b18) ?_ ?_
 ·rcases Jl h22 with ⟨hb,h22⟩|⟨hb,h22⟩
  ·refine zS 66 hb ?_
   cases h22
   exact zF
  refine zS 66 hb (zR 2 ?_)
  obtain ⟨r19,h23,h22⟩:=Je h22
  refine zP (Iu _ r19 h23) ?_
  cases h22
  exact zF
 obtain ⟨b20,h24,h⟩:=Je h
 refine zR 1 ?_
 refine Km 4 75 (.bool b20) ?_ ?_
 ·rcases Jl h24 with ⟨hb,h24⟩|⟨hb,h24⟩
  ·refine zS 71 hb ?_
   cases h24
   exact zF
  refine zS 71 hb (zR 2 ?_)
  obtain ⟨r21,h25,h24⟩:=Je h24
  refine zP (Iu _ r21 h25) ?_
  cases h24
  exact zF
 refine zN (Jb ?_)
 rcases Jl h with ⟨hb,h⟩|⟨hb,h⟩
 ·refine zT hb (Ja (Jd (zE (Jb (Jq (Jm ?_))))))
  cases h
  exact zQ
 refine zU hb (Jj (Jb (Ja (Jd (zE (Jb (Jq ?_)))))))
 cases h
 exact zQ
/-! signallingref07.right -/
noncomputable def Sz (a0:Ji) (a1:Ke):Option Bool :=
 ((bif (((((((((decide (a1.Kind<1))||(decide (3<a1.Kind)))||(decide (a1.Length<500)))||(decide (1000000<a1.Length)))||(decide (a1.Grade<(-50))))||(decide (50<a1.Grade)))||(decide (a1.Speed<100)))||(decide (10000<a1.Speed)))||(decide (a1.Section<0))) then some true else (
  some (decide (((a0.Sections.length:Nat):Int)≤a1.Section))
 )):Option Bool).bind fun b1 =>
 bif b1 then (
  some false
 ) else (
  bif decide (a1.Kind=2) then (
   some ((decide (100≤a1.Slow))&&(decide (a1.Slow≤a1.Speed)))
  ) else (
   some (decide (a1.Slow=0))
  )
 )
theorem Jh9 (a0:Ji) (a1:Ke) (r:Bool) (h:Sz a0 a1=some r):Kj Tryz.prog GlS 225 [Enc.pv a0,Enc.pv a1] (Enc.pv r):=by
 unfold Sz at h
 refine zC Tryz.func225 Tryz.ntmps225 ?_
 refine Ja (Jd (zE (Jb (Ja (Ja (Jd (zR 4 ?_)))))))
 refine Ku 4 12 ((decide (a1.Kind<1))||(decide (3<a1.Kind))) (fun x hx=>?_) ?_
 ·rcases Vs hx with ⟨hb,hx⟩|⟨hb,hx⟩
  ·refine zS 8 hb ?_
   subst hx
   exact zF
  refine zS 8 hb ?_
  subst hx
  exact zF
 refine zR 1 ?_
 refine Ku 4 17 (((decide (a1.Kind<1))||(decide (3<a1.Kind)))||(decide (a1.Length<500))) (fun x hx=>?_) ?_
 ·rcases Vs hx with ⟨hb,hx⟩|⟨hb,hx⟩
  ·refine zS 13 hb ?_
   subst hx
   exact zF
  refine zS 13 hb ?_
  subst hx
  exact zF
 refine zR 1 ?_
 refine Ku 4 22 ((((decide (a1.Kind<1))||(decide (3<a1.Kind)))||(decide (a1.Length<500)))||(decide (1000000<a1.Length))) (fun x hx=>?_) ?_
 ·rcases Vs hx with ⟨hb,hx⟩|⟨hb,hx⟩
  ·refine zS 18 hb ?_
   subst hx
   exact zF
  refine zS 18 hb ?_
  subst hx
  exact zF
 refine zR 1 ?_
 refine Ku 4 27 (((((decide (a1.Kind<1))||(decide (3<a1.Kind)))||(decide (a1.Length<500)))||(decide (1000000<a1.Length)))||(decide (a1.Grade<(-50)))) (fun x hx=>?_) ?_
 ·rcases Vs hx with ⟨hb,hx⟩|⟨hb,hx⟩
  ·refine zS 23 hb ?_
   subst hx
   exact zF
  refine zS 23 hb ?_
  subst hx
  exact zF
 refine zR 1 ?_
 refine Ku 4 32 ((((((decide (a1.Kind<1))||(decide (3<a1.Kind)))||(decide (a1.Length<500)))||(decide (1000000<a1.Length)))||(decide (a1.Grade<(-50))))||(decide (50<a1.Grade))) (fun x hx=>?_) ?_
 ·rcases Vs hx with ⟨hb,hx⟩|⟨hb,hx⟩
  ·refine zS 28 hb ?_
   subst hx
   exact zF
  refine zS 28 hb ?_
  subst hx
  exact zF
 refine zR 1 ?_
 refine Ku 4 37 (((((((decide (a1.Kind<1))||(decide (3<a1.Kind)))||(decide (a1.Length<500)))||(decide (1000000<a1.Length)))||(decide (a1.Grade<(-50))))||(decide (50<a1.Grade)))||(decide (a1.Speed<100))) (fun x hx=>?_) ?_
 ·rcases Vs hx with ⟨hb,hx⟩|⟨hb,hx⟩
  ·refine zS 33 hb ?_
   subst hx
   exact zF
  refine zS 33 hb ?_
  subst hx
  exact zF
 refine zR 1 ?_
 refine Ku 4 42 ((((((((decide (a1.Kind<1))||(decide (3<a1.Kind)))||(decide (a1.Length<500)))||(decide (1000000<a1.Length)))||(decide (a1.Grade<(-50))))||(decide (50<a1.Grade)))||(decide (a1.Speed<100)))||(decide (10000<a1.Speed))) (fun x hx=>?_) ?_
 ·rcases Vs hx with ⟨hb,hx⟩|⟨hb,hx⟩
  ·refine zS 38 hb ?_
   subst hx
   exact zF
  refine zS 38 hb ?_
  subst hx
  exact zF
 refine zR 1 ?_
 refine Ku 4 47 (((((((((decide (a1.Kind<1))||(decide (3<a1.Kind)))||(decide (a1.Length<500)))||(decide (1000000<a1.Length)))||(decide (a1.Grade<(-50))))||(decide (50<a1.Grade)))||(decide (a1.Speed<100)))||(decide (10000<a1.Speed)))||(decide (a1.Section<0))) (fun x hx=>?_) ?_
 ·rcases Vs hx with ⟨hb,hx⟩|⟨hb,hx⟩
  ·refine zS 43 hb ?_
   subst hx
   exact zF
  refine zS 43 hb ?_
  subst hx
  exact zF
 obtain ⟨b1,h1,h⟩:=Je h
 refine zR 1 ?_
 refine Km 7 55 (.bool b1) ?_ ?_
 ·rcases Jl h1 with ⟨hb,h1⟩|⟨hb,h1⟩
  ·refine zS 48 hb ?_
   cases h1
   exact zF
  refine zS 48 hb (zR 4 ?_)
  refine zL (L:=(a0.Sections:(List ByteArray))) ?_
  cases h1
  exact zF
 refine zN (Jb ?_)
 rcases Jl h with ⟨hb,h⟩|⟨hb,h⟩
 ·refine zT hb (Ja (Jd (zE (Jb (Jq (Jm ?_))))))
  cases h
  exact zQ
 refine zU hb (Jj (Jb (Ja (Ja (Jd (zE (Jb ?_)))))))
 rcases Jl h with ⟨hb,h⟩|⟨hb,h⟩
 ·refine zT hb (Ja (Jd (zR 4 ?_)))
  refine Ku 6 68 ((decide (100≤a1.Slow))&&(decide (a1.Slow≤a1.Speed))) (fun x hx=>?_) ?_
  ·rcases Vm hx with ⟨hb,hx⟩|⟨hb,hx⟩
   ·refine zS 62 hb ?_
    subst hx
    exact zF
   refine zS 62 hb ?_
   subst hx
   exact zF
  refine zE (Jb (Jq (Jm ?_)))
  cases h
  exact zQ
 refine zU hb (Jj (Jb (Ja (Jd (zE (Jb (Jq ?_)))))))
 cases h
 exact zQ
/-! signallingref07.Members -/
noncomputable def Sd (a0:Ji) (a1:Int):(Int×(List Int))→Option ((Int×(List Int))⊕((List Int)⊕(List Int))):=fun (x16,x17) =>
 bif decide (x16<((a0.Elements.length:Nat):Int)) then (
  onInl (α:=(List Int)) (β:=((Int×(List Int))⊕((List Int)⊕(List Int)))) (
   (ixO a0.Elements x16).bind fun x30 =>
   ((bif ((decide (x30.Section=a1))&&(decide (0≤a1))) then (
    some (decide (a1<((a0.Sections.length:Nat):Int)))
   ) else some false):Option Bool).bind fun b31 =>
   bif b31 then (
    (Ut x17 [x16]).bind fun x32 =>
    some (.inl x32)
   ) else (
    some (.inl x17)
   )
  ) fun x29 =>
  some (.inl (w64 (x16+1),x29))
 ) else (
  some (.inr (.inl x17))
 )
noncomputable def Mn (a0:Ji) (a1:Int):Option (List Int) :=
 onInl (α:=(List Int)) (β:=(List Int)) (Ko (Sd a0 a1) (0,([]:(List Int)))) fun x25 =>
 some x25
theorem Jez (a0:Ji) (a1:Int) (r:(List Int)) (h:Mn a0 a1=some r):Kj Tryz.prog GlS 226 [Enc.pv a0,Enc.pv a1] (Jn (.own 100005) r):=by
 unfold Mn at h
 refine zC Tryz.func226 Tryz.ntmps226 ?_
 refine Ja (Jd (zE (Jb (Ja (Jd (zE (Jb (Ja (Ja (Jd (zR 2 ?_)))))))))))
 refine zL (L:=(a0.Elements:(List Ke))) ?_
 refine zE (Jb (Jp (Yn 5 100005 1 8 (by kernel_rfl) (by kernel_rfl) ?_)))
 obtain ⟨o23,h23,h⟩:=Kk h
 refine zA 37 0 (fun (x16,x17)=>⟨[(1,.int .i64 a1),(2,.ref 2 0),(5,Jn (.own 100005) (x17:(List Int))),(9,Jn .frozen (a0.Elements:(List Ke))),(10,.int .i64 ((a0.Elements.length:Nat):Int)),(11,.int .i64 x16)],[(2,.cells (cellsOf a0))],[(100005,(((x17).map cellsOf).length,1))],[]⟩) (fun x25=>⟨[(5,Jn (.own 100005) (x25:(List Int)))],[],[(100005,(((x25).map cellsOf).length,1))],[]⟩) h23 ?_ ?_
 ·rintro ⟨x16,x17⟩ oh22 h22
  unfold Sd at h22
  refine Ja (Jd (zE (Jb (Ja ?_))))
  rcases Jl h22 with ⟨hb,h22⟩|⟨hb,h22⟩
  ·refine zT hb (Jj (Jb ?_))
   obtain ⟨o27,h27,h22⟩:=Kk h22
   refine Qp (o:=o27) 37 (fun x29=>⟨[(1,.int .i64 a1),(2,.ref 2 0),(5,Jn (.own 100005) (x29:(List Int))),(9,Jn .frozen (a0.Elements:(List Ke))),(10,.int .i64 ((a0.Elements.length:Nat):Int)),(11,.int .i64 x16)],[(2,.cells (cellsOf a0))],[(100005,(((x29).map cellsOf).length,1))],[]⟩) ?_ ?_
   ·refine Jp (Ja (Jd (zR 1 ?_)))
    obtain ⟨x30,h28,h27⟩:=Je h27
    refine zI h28 (zE (Jb (Ja (Jd (zR 5 ?_)))))
    refine Ku 3 23 ((decide (x30.Section=a1))&&(decide (0≤a1))) (fun x hx=>?_) ?_
    ·rcases Vm hx with ⟨hb,hx⟩|⟨hb,hx⟩
     ·refine zS 20 hb ?_
      subst hx
      exact zF
     refine zS 20 hb ?_
     subst hx
     exact zF
    obtain ⟨b31,h29,h27⟩:=Je h27
    refine zR 1 ?_
    refine Km 6 30 (.bool b31) ?_ ?_
    ·rcases Jl h29 with ⟨hb,h29⟩|⟨hb,h29⟩
     ·refine zS 24 hb (zR 3 ?_)
      refine zL (L:=(a0.Sections:(List ByteArray))) ?_
      cases h29
      exact zF
     refine zS 24 hb ?_
     cases h29
     exact zF
    refine zN (Jb ?_)
    rcases Jl h27 with ⟨hb,h27⟩|⟨hb,h27⟩
    ·refine zT hb (Jd (zR 3 ?_))
     obtain ⟨x32,h30,h27⟩:=Je h27
     refine zW (tk:=100005) h30 ?_
     refine zE (Jz ?_)
     cases h27
     exact zJ
    refine zU hb (Jj (Jz ?_))
    cases h27
    exact zJ
   rintro x29 rfl
   have h22:=Kb h22
   refine Jd (zE ?_)
   cases h22
   exact zB
  refine zU hb (Jy (Jv ?_))
  cases h22
  exact zX
 rintro x25 s' rfl hs
 have h:=Kb h
 refine Jt (Jb (Ka hs (Ja (Jd (zE (Jb (Jq ?_)))))))
 cases h
 exact zQ
/-! signallingref06.Sides -/
noncomputable def Lr (a0:Int):Option Int :=
 bif decide (a0=1) then (
  some 2
 ) else (
  bif decide (a0=2) then (
   some 3
  ) else (
   bif decide (a0=3) then (
    some 4
   ) else (
    some 0
   )
  )
 )
theorem Xn (a0:Int) (r:Int) (h:Lr a0=some r):Kj Tryz.prog GlS 260 [Enc.pv a0] (Enc.pv r):=by
 unfold Lr at h
 refine zC Tryz.func260 Tryz.ntmps260 ?_
 refine Ja (Jd (zE (Jb (Ja (Ja (Jd (zE (Jb (Jp (Ja (Jd (zE (Jb ?_)))))))))))))
 rcases Jl h with ⟨hb,h⟩|⟨hb,h⟩
 ·refine zT hb (Ja (Jd (zE (Jb (Jq (Js (Jm ?_)))))))
  cases h
  exact zQ
 refine zU hb (Ja (Jd (zE (Jb ?_))))
 rcases Jl h with ⟨hb,h⟩|⟨hb,h⟩
 ·refine zT hb (Ja (Jd (zE (Jb (Jq (Js (Jm ?_)))))))
  cases h
  exact zQ
 refine zU hb (Ja (Jd (zE (Jb ?_))))
 rcases Jl h with ⟨hb,h⟩|⟨hb,h⟩
 ·refine zT hb (Ja (Jd (zE (Jb (Jq (Js (Jm ?_)))))))
  cases h
  exact zQ
 refine zU hb (Jj (Jz (Jb (Ja (Jd (zE (Jb (Jq ?_))))))))
 cases h
 exact zQ
/-! signallingref07.exists -/
noncomputable def Cy (a0:Ji) (a1:Jo):Option Bool :=
 ((bif decide (0≤a1.El) then (
  some (decide (a1.El<((a0.Elements.length:Nat):Int)))
 ) else some false):Option Bool).bind fun b1 =>
 ((bif (b1&&(decide (0≤a1.Side))) then (
  (ixO a0.Elements a1.El).bind fun x3 =>
  (Lr x3.Kind).bind fun r4 =>
  some (decide (a1.Side<r4))
 ) else some false):Option Bool).bind fun b2 =>
 some b2
theorem Gv (a0:Ji) (a1:Jo) (r:Bool) (h:Cy a0 a1=some r):Kj Tryz.prog GlS 227 [Enc.pv a0,Enc.pv a1] (Enc.pv r):=by
 unfold Cy at h
 refine zC Tryz.func227 Tryz.ntmps227 ?_
 refine Ja (Jd (zE (Jb (Ja (zD ?_)))))
 obtain ⟨b1,h1,h⟩:=Je h
 refine zR 4 ?_
 refine Km 7 15 (.bool b1) ?_ ?_
 ·rcases Jl h1 with ⟨hb,h1⟩|⟨hb,h1⟩
  ·refine zS 8 hb (zR 4 ?_)
   refine zL (L:=(a0.Elements:(List Ke))) ?_
   cases h1
   exact zF
  refine zS 8 hb ?_
  cases h1
  exact zF
 refine zR 1 ?_
 refine Ku 4 20 (b1&&(decide (0≤a1.Side))) (fun x hx=>?_) ?_
 ·rcases Vm hx with ⟨hb,hx⟩|⟨hb,hx⟩
  ·refine zS 16 hb ?_
   subst hx
   exact zF
  refine zS 16 hb ?_
  subst hx
  exact zF
 obtain ⟨b2,h2,h⟩:=Je h
 refine zR 1 ?_
 refine Km 12 33 (.bool b2) ?_ ?_
 ·rcases Jl h2 with ⟨hb,h2⟩|⟨hb,h2⟩
  ·refine zS 21 hb (zR 6 ?_)
   obtain ⟨x3,h3,h2⟩:=Je h2
   refine zI h3 (zR 2 ?_)
   obtain ⟨r4,h4,h2⟩:=Je h2
   refine zP (Xn _ r4 h4) ?_
   cases h2
   exact zF
  refine zS 21 hb ?_
  cases h2
  exact zF
 refine zE (Jb (Jq ?_))
 cases h
 exact zQ
/-! signallingref07.ends -/
noncomputable def Jdi (a0:(List Jo)) (x8:Int):Int→Option (Int⊕(Unit⊕(Int⊕(Unit⊕Bool)))):=fun x18 =>
 bif decide (x18<x8) then (
  (ixO a0 x8).bind fun x21 =>
  (ixO a0 x18).bind fun x22 =>
  bif Vk x21 x22 then (
   some (.inr (.inr (.inr (.inr true))))
  ) else (
   some (.inl (w64 (x18+1)))
  )
 ) else (
  some (.inr (.inl ()))
 )
noncomputable def Jdg (a0:(List Jo)):Int→Option (Int⊕(Unit⊕Bool)):=fun x8 =>
 bif decide (x8<((a0.length:Nat):Int)) then (
  onInl (α:=Unit) (β:=(Int⊕(Unit⊕Bool))) (Ko (Jdi a0 x8) 0) fun _ =>
  some (.inl (w64 (x8+1)))
 ) else (
  some (.inr (.inl ()))
 )
noncomputable def Nz (a0:(List Jo)):Option Bool :=
 onInl (α:=Unit) (β:=Bool) (Ko (Jdg a0) 0) fun _ =>
 some false
theorem Jbm (a0:(List Jo)) (r:Bool) (h:Nz a0=some r):Kj Tryz.prog GlS 228 [Enc.pv a0] (Enc.pv r):=by
 unfold Nz at h
 refine zC Tryz.func228 Tryz.ntmps228 ?_
 refine Ja (Jd (zE (Jb (Ja (Ja (Jd (zR 1 ?_)))))))
 refine zL (L:=(a0:(List Jo))) ?_
 refine zE (Jb (Jp ?_))
 obtain ⟨o30,h30,h⟩:=Kk h
 refine zA 25 0 (fun x8=>⟨[(0,Jn .frozen (a0:(List Jo))),(6,.int .i64 ((a0.length:Nat):Int)),(7,.int .i64 x8)],[],[],[]⟩) (fun (_:Unit)=>⟨[],[],[],[]⟩) h30 ?_ ?_
 ·rintro x8 oh29 h29
  unfold Jdg at h29
  refine Ja (Jd (zE (Jb (Ja ?_))))
  rcases Jl h29 with ⟨hb,h29⟩|⟨hb,h29⟩
  ·refine zT hb (Jj (Jb (Ja (Jp (Ja (Jd (zE (Jb (Ja (Jd (zE (Jb (Jp ?_)))))))))))))
   obtain ⟨o40,h40,h29⟩:=Kk h29
   refine zA 25 2 (fun x18=>⟨[(0,Jn .frozen (a0:(List Jo))),(3,.int .i64 x8),(6,.int .i64 ((a0.length:Nat):Int)),(7,.int .i64 x8),(10,.int .i64 x8),(11,.int .i64 x18)],[],[],[]⟩) (fun (_:Unit)=>⟨[(0,Jn .frozen (a0:(List Jo))),(6,.int .i64 ((a0.length:Nat):Int)),(7,.int .i64 x8)],[],[],[]⟩) h40 ?_ ?_
   ·rintro x18 oh39 h39
    unfold Jdi at h39
    refine Ja (Jd (zE (Jb (Ja ?_))))
    rcases Jl h39 with ⟨hb,h39⟩|⟨hb,h39⟩
    ·refine zT hb (Jj (Jb (Ja (Jp (Ja (Jd (zE (Jb (Ja (zD (zR 2 ?_)))))))))))
     obtain ⟨x21,h41,h39⟩:=Je h39
     refine zI h41 (zR 3 ?_)
     obtain ⟨x22,h42,h39⟩:=Je h39
     refine zI h42 (zE (Jb ?_))
     rcases Jl h39 with ⟨hb,h39⟩|⟨hb,h39⟩
     ·refine zT hb (Ja (Jd (zE (Jb (Jq (Js (Jm ?_)))))))
      cases h39
      refine Kd fun he=>?_
      subst he
      have h43:=Kq h29
      refine Js (Js (Jm ?_))
      cases h43
      refine Kd fun he=>?_
      subst he
      have h44:=Kq h
      refine Js (Jm ?_)
      cases h44
      exact zQ
     refine zU hb (Jj (Jz (Jb (Jd (zE ?_)))))
     cases h39
     exact zB
    refine zU hb (Jy (Jv ?_))
    cases h39
    exact zX
   rintro _ s' rfl hs
   have h29:=Kb h29
   refine Jt (Jz (Jb (Ka hs (Jd (zE ?_)))))
   cases h29
   exact zB
  refine zU hb (Jy (Jv ?_))
  cases h29
  exact zX
 rintro _ s' rfl hs
 have h:=Kb h
 refine Jt (Jb (Ka hs (Ja (Jd (zE (Jb (Jq ?_)))))))
 cases h
 exact zQ
/-! signallingref07.elements -/
noncomputable def Ox (a0:Ji):Int→Option (Int⊕(Unit⊕Int)):=fun x3 =>
 bif decide (x3<((a0.Elements.length:Nat):Int)) then (
  (ixO a0.Elements x3).bind fun x6 =>
  (Sz a0 x6).bind fun r7 =>
  bif (!r7) then (
   some (.inr (.inr 1))
  ) else (
   some (.inl (w64 (x3+1)))
  )
 ) else (
  some (.inr (.inl ()))
 )
noncomputable def Om (a0:Ji):Int→Option (Int⊕(Unit⊕Int)):=fun x9 =>
 bif decide (x9<((a0.Sections.length:Nat):Int)) then (
  (Mn a0 x9).bind fun r11 =>
  bif decide (((r11.length:Nat):Int)=0) then (
   some (.inr (.inr 1))
  ) else (
   some (.inl (w64 (x9+1)))
  )
 ) else (
  some (.inr (.inl ()))
 )
noncomputable def Pv (a0:Ji):(Int×(List Jo))→Option ((Int×(List Jo))⊕((List Jo)⊕Int)):=fun (x23,x24) =>
 bif decide (x23<((a0.Joints.length:Nat):Int)) then (
  (ixO a0.Joints x23).bind fun x31 =>
  (Cy a0 x31.A).bind fun r32 =>
  ((bif (!r32) then some true else (
   (Cy a0 x31.B).bind fun r34 =>
   some (!r34)
  )):Option Bool).bind fun b33 =>
  bif (b33||(Vk x31.A x31.B)) then (
   some (.inr (.inr 1))
  ) else (
   (Ut x24 [x31.A,x31.B]).bind fun x35 =>
   some (.inl (w64 (x23+1),x35))
  )
 ) else (
  some (.inr (.inl x24))
 )
noncomputable def Lj (a0:Ji):Option Int :=
 onInl (α:=Unit) (β:=Int) (Ko (Ox a0) 0) fun _ =>
 onInl (α:=Unit) (β:=Int) (Ko (Om a0) 0) fun _ =>
 onInl (α:=(List Jo)) (β:=Int) (Ko (Pv a0) (0,([]:(List Jo)))) fun x30 =>
 (Nz x30).bind fun r36 =>
 bif r36 then (
  some 8
 ) else (
  some 0
 )
theorem Jef (a0:Ji) (r:Int) (h:Lj a0=some r):Kj Tryz.prog GlS 153 [Enc.pv a0] (Enc.pv r):=by
 unfold Lj at h
 refine zC Tryz.func153 Tryz.ntmps153 ?_
 refine Ja (Jd (zE (Jb (Ja (Ja (Jd (zR 2 ?_)))))))
 refine zL (L:=(a0.Elements:(List Ke))) ?_
 refine zE (Jb (Jp ?_))
 obtain ⟨o8,h8,h⟩:=Kk h
 refine zA 69 0 (fun x3=>⟨[(1,.ref 1 0),(10,Jn .frozen (a0.Elements:(List Ke))),(11,.int .i64 ((a0.Elements.length:Nat):Int)),(12,.int .i64 x3)],[(1,.cells (cellsOf a0))],[],[]⟩) (fun (_:Unit)=>⟨[(1,.ref 1 0)],[(1,.cells (cellsOf a0))],[],[]⟩) h8 ?_ ?_
 ·rintro x3 oh7 h7
  unfold Ox at h7
  refine Ja (Jd (zE (Jb (Ja ?_))))
  rcases Jl h7 with ⟨hb,h7⟩|⟨hb,h7⟩
  ·refine zT hb (Jj (Jb (Ja (Jp (Ja (Jd ?_))))))
   obtain ⟨x6,h9,h7⟩:=Je h7
   refine zI h9 (zE (Jb (Ja (Jd (zR 2 ?_)))))
   obtain ⟨r7,h10,h7⟩:=Je h7
   refine zP (Jh9 _ _ r7 h10) (zE (Jb ?_))
   rcases Jl h7 with ⟨hb,h7⟩|⟨hb,h7⟩
   ·refine zT hb (Ja (Jd (zE (Jb (Jq (Js (Jm ?_)))))))
    cases h7
    refine Kd fun he=>?_
    subst he
    have h11:=Kq h
    refine Js (Jm ?_)
    cases h11
    exact zQ
   refine zU hb (Jj (Jz (Jb (Jd (zE ?_)))))
   cases h7
   exact zB
  refine zU hb (Jy (Jv ?_))
  cases h7
  exact zX
 rintro _ s' rfl hs
 have h:=Kb h
 refine Jt (Jb (Ka hs (Ja (Ja (Jd (zR 2 ?_))))))
 refine zL (L:=(a0.Sections:(List ByteArray))) ?_
 refine zE (Jb (Jp ?_))
 obtain ⟨o17,h17,h⟩:=Kk h
 refine zA 69 2 (fun x9=>⟨[(1,.ref 1 0),(23,.int .i64 ((a0.Sections.length:Nat):Int)),(24,.int .i64 x9)],[(1,.cells (cellsOf a0))],[],[]⟩) (fun (_:Unit)=>⟨[(1,.ref 1 0)],[(1,.cells (cellsOf a0))],[],[]⟩) h17 ?_ ?_
 ·rintro x9 oh16 h16
  unfold Om at h16
  refine Ja (Jd (zE (Jb (Ja ?_))))
  rcases Jl h16 with ⟨hb,h16⟩|⟨hb,h16⟩
  ·refine zT hb (Jj (Jb (Ja (Jp (Ja (Jd (zE (Jb (Ja (Jd (zR 2 ?_)))))))))))
   obtain ⟨r11,h18,h16⟩:=Je h16
   refine zP (Jez _ _ r11 h18) ?_
   refine zL (L:=(r11:(List Int))) ?_
   refine zE (Jb ?_)
   rcases Jl h16 with ⟨hb,h16⟩|⟨hb,h16⟩
   ·refine zT hb (Ja (Jd (zE (Jb (Jq (Js (Jm ?_)))))))
    cases h16
    refine Kd fun he=>?_
    subst he
    have h19:=Kq h
    refine Js (Jm ?_)
    cases h19
    exact zQ
   refine zU hb (Jj (Jz (Jb (Jd (zE ?_)))))
   cases h16
   exact zB
  refine zU hb (Jy (Jv ?_))
  cases h16
  exact zX
 rintro _ s' rfl hs
 have h:=Kb h
 refine Jt (Jb (Ka hs (Ja (Jd (zE (Jb (Ja (Ja (Jd (zR 2 ?_))))))))))
 refine zL (L:=(a0.Joints:(List Qu))) ?_
 refine zE (Jb (Jp (Yn 6 100006 2 16 (by kernel_rfl) (by kernel_rfl) ?_)))
 obtain ⟨o39,h39,h⟩:=Kk h
 refine zA 69 4 (fun (x23,x24)=>⟨[(1,.ref 1 0),(6,Jn (.own 100006) (x24:(List Jo))),(34,Jn .frozen (a0.Joints:(List Qu))),(35,.int .i64 ((a0.Joints.length:Nat):Int)),(36,.int .i64 x23)],[(1,.cells (cellsOf a0))],[(100006,(((x24).map cellsOf).length,2))],[]⟩) (fun x30=>⟨[(6,Jn (.own 100006) (x30:(List Jo)))],[],[(100006,(((x30).map cellsOf).length,2))],[]⟩) h39 ?_ ?_
 ·rintro ⟨x23,x24⟩ oh38 h38
  unfold Pv at h38
  refine Ja (Jd (zE (Jb (Ja ?_))))
  rcases Jl h38 with ⟨hb,h38⟩|⟨hb,h38⟩
  ·refine zT hb (Jj (Jb (Ja (Jp (Ja (Jd ?_))))))
   obtain ⟨x31,h40,h38⟩:=Je h38
   refine zI h40 (zE (Jb (Ja (Ja (Jd (zR 3 ?_))))))
   obtain ⟨r32,h41,h38⟩:=Je h38
   refine zP (Gv _ _ r32 h41) ?_
   obtain ⟨b33,h42,h38⟩:=Je h38
   refine zR 2 ?_
   refine Km 6 51 (.bool b33) ?_ ?_
   ·rcases Jl h42 with ⟨hb,h42⟩|⟨hb,h42⟩
    ·refine zS 45 hb ?_
     cases h42
     exact zF
    refine zS 45 hb (zR 3 ?_)
    obtain ⟨r34,h43,h42⟩:=Je h42
    refine zP (Gv _ _ r34 h43) ?_
    cases h42
    exact zF
   refine zR 1 ?_
   refine Ku 6 58 (b33||(Vk x31.A x31.B)) (fun x hx=>?_) ?_
   ·rcases Vs hx with ⟨hb,hx⟩|⟨hb,hx⟩
    ·refine zS 52 hb ?_
     subst hx
     exact zF
    refine zS 52 hb ?_
    subst hx
    exact zF
   refine zN (Jb ?_)
   rcases Jl h38 with ⟨hb,h38⟩|⟨hb,h38⟩
   ·refine zT hb (Ja (Jd (zE (Jb (Jq (Jm (Js (Jm ?_))))))))
    cases h38
    refine Kd fun he=>?_
    subst he
    have h44:=Kq h
    refine Js (Jm ?_)
    cases h44
    exact zQ
   refine zU hb (Jj (Jb (Jd (zR 6 ?_))))
   obtain ⟨x35,h45,h38⟩:=Je h38
   refine zW (tk:=100006) h45 ?_
   refine zE (Jz (Jb (Jd (zE ?_))))
   cases h38
   exact zB
  refine zU hb (Jy (Jv ?_))
  cases h38
  exact zX
 rintro x30 s' rfl hs
 have h:=Kb h
 refine Jt (Jb (Ka hs (Ja (Ja (Jd (zR 1 ?_))))))
 obtain ⟨r36,h46,h⟩:=Je h
 refine zP (Jbm _ r36 h46) (zN (Jb ?_))
 rcases Jl h with ⟨hb,h⟩|⟨hb,h⟩
 ·refine zT hb (Ja (Jd (zE (Jb (Jq (Jm ?_))))))
  cases h
  exact zQ
 refine zU hb (Jj (Jb (Ja (Jd (zE (Jb (Jq ?_)))))))
 cases h
 exact zQ
/-! signallingref07.Joined -/
noncomputable def Tk (a0:Ji) (a1:Jo):Int→Option (Int⊕(Unit⊕(Jo×Bool))):=fun x2 =>
 bif decide (x2<((a0.Joints.length:Nat):Int)) then (
  (ixO a0.Joints x2).bind fun x4 =>
  bif Vk x4.A a1 then (
   some (.inr (.inr (x4.B,true)))
  ) else (
   bif Vk x4.B a1 then (
    some (.inr (.inr (x4.A,true)))
   ) else (
    some (.inl (w64 (x2+1)))
   )
  )
 ) else (
  some (.inr (.inl ()))
 )
noncomputable def Zb (a0:Ji) (a1:Jo):Option (Jo×Bool) :=
 onInl (α:=Unit) (β:=(Jo×Bool)) (Ko (Tk a0 a1) 0) fun _ =>
 some ((Jo.mk 0 0),false)
theorem Zm (a0:Ji) (a1:Jo) (r:(Jo×Bool)) (h:Zb a0 a1=some r):Kj Tryz.prog GlS 131 [Enc.pv a0,Enc.pv a1] (.tup [Enc.pv r.1,Enc.pv r.2]):=by
 unfold Zb at h
 refine zC Tryz.func131 Tryz.ntmps131 ?_
 refine Ja (Jd (zE (Jb (Ja (Ja (Jd (zR 2 ?_)))))))
 refine zL (L:=(a0.Joints:(List Qu))) ?_
 refine zE (Jb (Jp ?_))
 obtain ⟨o8,h8,h⟩:=Kk h
 refine zA 29 0 (fun x2=>⟨[(3,.ref 3 0),(4,.ref 4 0),(9,Jn .frozen (a0.Joints:(List Qu))),(10,.int .i64 ((a0.Joints.length:Nat):Int)),(11,.int .i64 x2)],[(3,.cells (cellsOf a1)),(4,.cells ([.int .i64 0,.int .i64 0]))],[],[]⟩) (fun (_:Unit)=>⟨[(4,.ref 4 0)],[(4,.cells ([.int .i64 0,.int .i64 0]))],[],[]⟩) h8 ?_ ?_
 ·rintro x2 oh7 h7
  unfold Tk at h7
  refine Ja (Jd (zE (Jb (Ja ?_))))
  rcases Jl h7 with ⟨hb,h7⟩|⟨hb,h7⟩
  ·refine zT hb (Jj (Jb (Ja (Jp (Ja (Jd ?_))))))
   obtain ⟨x4,h9,h7⟩:=Je h7
   refine zI h9 (zE (Jb (Ja (Ja (Jd (zE (Jb ?_)))))))
   rcases Jl h7 with ⟨hb,h7⟩|⟨hb,h7⟩
   ·refine zT hb (Ja (Jd (zE (Jb (Jq (Jm (Js (Jm ?_))))))))
    cases h7
    refine Kd fun he=>?_
    subst he
    have h10:=Kq h
    refine Js (Jm ?_)
    cases h10
    exact zQ
   refine zU hb (Jj (Jb (Ja (Jd (zE (Jb ?_))))))
   rcases Jl h7 with ⟨hb,h7⟩|⟨hb,h7⟩
   ·refine zT hb (Ja (Jd (zE (Jb (Jq (Js (Jm ?_)))))))
    cases h7
    refine Kd fun he=>?_
    subst he
    have h11:=Kq h
    refine Js (Jm ?_)
    cases h11
    exact zQ
   refine zU hb (Jj (Jz (Jb (Jd (zE ?_)))))
   cases h7
   exact zB
  refine zU hb (Jy (Jv ?_))
  cases h7
  exact zX
 rintro _ s' rfl hs
 have h:=Kb h
 refine Jt (Jb (Ka hs (Ja (Jd (zE (Jb (Jq ?_)))))))
 cases h
 exact zQ
/-! signallingref07.signals -/
noncomputable def Rx (a0:Ji):(Int×(List Jo))→Option ((Int×(List Jo))⊕((List Jo)⊕Int)):=fun (x8,x9) =>
 bif decide (x8<((a0.Signals.length:Nat):Int)) then (
  (ixO a0.Signals x8).bind fun x14 =>
  (Cy a0 x14.At).bind fun r15 =>
  bif (((!r15)||(decide (x14.Overlap<0)))||(decide (1000000<x14.Overlap))) then (
   some (.inr (.inr 1))
  ) else (
   (Ut x9 [x14.At]).bind fun x16 =>
   some (.inl (w64 (x8+1),x16))
  )
 ) else (
  some (.inr (.inl x9))
 )
noncomputable def Ri (a0:Ji) (x13:(List Jo)):Int→Option (Int⊕(Unit⊕Int)):=fun x23 =>
 bif decide (x23<((x13.length:Nat):Int)) then (
  (ixO x13 x23).bind fun x29 =>
  (Zb a0 x29).bind fun r30 =>
  ((bif (!r30.2) then some true else (
   (ixO a0.Elements r30.1.El).bind fun x32 =>
   (ixO a0.Elements x29.El).bind fun x33 =>
   some (decide (x32.Section=x33.Section))
  )):Option Bool).bind fun b31 =>
  bif b31 then (
   some (.inr (.inr 14))
  ) else (
   some (.inl (w64 (x23+1)))
  )
 ) else (
  some (.inr (.inl ()))
 )
noncomputable def Mw (a0:Ji):Option Int :=
 onInl (α:=(List Jo)) (β:=Int) (Ko (Rx a0) (0,([]:(List Jo)))) fun x13 =>
 (Nz x13).bind fun r17 =>
 bif r17 then (
  some 8
 ) else (
  onInl (α:=Unit) (β:=Int) (Ko (Ri a0 x13) 0) fun _ =>
  some 0
 )
theorem Je0 (a0:Ji) (r:Int) (h:Mw a0=some r):Kj Tryz.prog GlS 154 [Enc.pv a0] (Enc.pv r):=by
 unfold Mw at h
 refine zC Tryz.func154 Tryz.ntmps154 ?_
 refine Ja (Jd (zE (Jb (Ja (Jd (zE (Jb (Ja (Ja (Jd (zR 2 ?_)))))))))))
 refine zL (L:=(a0.Signals:(List Kl))) ?_
 refine zE (Jb (Jp (Yn 3 100003 2 16 (by kernel_rfl) (by kernel_rfl) ?_)))
 obtain ⟨o14,h14,h⟩:=Kk h
 refine zA 72 0 (fun (x8,x9)=>⟨[(1,.ref 1 0),(3,Jn (.own 100003) (x9:(List Jo))),(11,Jn .frozen (a0.Signals:(List Kl))),(12,.int .i64 ((a0.Signals.length:Nat):Int)),(13,.int .i64 x8)],[(1,.cells (cellsOf a0))],[(100003,(((x9).map cellsOf).length,2))],[]⟩) (fun x13=>⟨[(1,.ref 1 0),(3,Jn (.own 100003) (x13:(List Jo)))],[(1,.cells (cellsOf a0))],[(100003,(((x13).map cellsOf).length,2))],[]⟩) h14 ?_ ?_
 ·rintro ⟨x8,x9⟩ oh13 h13
  unfold Rx at h13
  refine Ja (Jd (zE (Jb (Ja ?_))))
  rcases Jl h13 with ⟨hb,h13⟩|⟨hb,h13⟩
  ·refine zT hb (Jj (Jb (Ja (Jp (Ja (Jd ?_))))))
   obtain ⟨x14,h15,h13⟩:=Je h13
   refine zI h15 (zE (Jb (Ja (Ja (Jd (zR 3 ?_))))))
   obtain ⟨r15,h16,h13⟩:=Je h13
   refine zP (Gv _ _ r15 h16) (zR 2 ?_)
   refine Ku 4 26 ((!r15)||(decide (x14.Overlap<0))) (fun x hx=>?_) ?_
   ·rcases Vs hx with ⟨hb,hx⟩|⟨hb,hx⟩
    ·refine zS 22 hb ?_
     subst hx
     exact zF
    refine zS 22 hb ?_
    subst hx
    exact zF
   refine zR 1 ?_
   refine Ku 4 31 (((!r15)||(decide (x14.Overlap<0)))||(decide (1000000<x14.Overlap))) (fun x hx=>?_) ?_
   ·rcases Vs hx with ⟨hb,hx⟩|⟨hb,hx⟩
    ·refine zS 27 hb ?_
     subst hx
     exact zF
    refine zS 27 hb ?_
    subst hx
    exact zF
   refine zN (Jb ?_)
   rcases Jl h13 with ⟨hb,h13⟩|⟨hb,h13⟩
   ·refine zT hb (Ja (Jd (zE (Jb (Jq (Jm (Js (Jm ?_))))))))
    cases h13
    refine Kd fun he=>?_
    subst he
    have h17:=Kq h
    refine Js (Jm ?_)
    cases h17
    exact zQ
   refine zU hb (Jj (Jb (Jd (zR 4 ?_))))
   obtain ⟨x16,h18,h13⟩:=Je h13
   refine zW (tk:=100003) h18 ?_
   refine zE (Jz (Jb (Jd (zE ?_))))
   cases h13
   exact zB
  refine zU hb (Jy (Jv ?_))
  cases h13
  exact zX
 rintro x13 s' rfl hs
 have h:=Kb h
 refine Jt (Jb (Ka hs (Ja (Ja (Jd (zR 1 ?_))))))
 obtain ⟨r17,h19,h⟩:=Je h
 refine zP (Jbm _ r17 h19) (zN (Jb ?_))
 rcases Jl h with ⟨hb,h⟩|⟨hb,h⟩
 ·refine zT hb (Ja (Jd (zE (Jb (Jq (Jm ?_))))))
  cases h
  exact zQ
 refine zU hb (Jj (Jb (Ja (Ja (Jd (zR 1 ?_))))))
 refine zL (L:=(x13:(List Jo))) ?_
 refine zE (Jb (Jp ?_))
 obtain ⟨o33,h33,h⟩:=Kk h
 refine zA 72 2 (fun x23=>⟨[(1,.ref 1 0),(40,Jn (.own 100003) (x13:(List Jo))),(41,.int .i64 ((x13.length:Nat):Int)),(42,.int .i64 x23)],[(1,.cells (cellsOf a0))],[(100003,(((x13).map cellsOf).length,2))],[]⟩) (fun (_:Unit)=>⟨[],[],[],[]⟩) h33 ?_ ?_
 ·rintro x23 oh32 h32
  unfold Ri at h32
  refine Ja (Jd (zE (Jb (Ja ?_))))
  rcases Jl h32 with ⟨hb,h32⟩|⟨hb,h32⟩
  ·refine zT hb (Jj (Jb (Ja (Jp (Ja (Jd ?_))))))
   obtain ⟨x29,h34,h32⟩:=Je h32
   refine zI h34 (zE (Jb (Ja (Jd (zR 2 ?_)))))
   obtain ⟨r30,h35,h32⟩:=Je h32
   refine zP (Zm _ _ r30 h35) (zE (Jb (Ja (zD ?_))))
   obtain ⟨b31,h36,h32⟩:=Je h32
   refine zR 3 ?_
   refine Km 16 70 (.bool b31) ?_ ?_
   ·rcases Jl h36 with ⟨hb,h36⟩|⟨hb,h36⟩
    ·refine zS 54 hb ?_
     cases h36
     exact zF
    refine zS 54 hb (zR 4 ?_)
    obtain ⟨x32,h37,h36⟩:=Je h36
    refine zI h37 (zR 6 ?_)
    obtain ⟨x33,h38,h36⟩:=Je h36
    refine zI h38 ?_
    cases h36
    exact zF
   refine zN (Jb ?_)
   rcases Jl h32 with ⟨hb,h32⟩|⟨hb,h32⟩
   ·refine zT hb (Ja (Jd (zE (Jb (Jq (Js (Jm ?_)))))))
    cases h32
    refine Kd fun he=>?_
    subst he
    have h39:=Kq h
    refine Js (Jm ?_)
    cases h39
    exact zQ
   refine zU hb (Jj (Jz (Jb (Jd (zE ?_)))))
   cases h32
   exact zB
  refine zU hb (Jy (Jv ?_))
  cases h32
  exact zX
 rintro _ s' rfl hs
 have h:=Kb h
 refine Jt (Jb (Ka hs (Ja (Jd (zE (Jb (Jq ?_)))))))
 cases h
 exact zQ
/-! signallingref07.numbers -/
noncomputable def Sh (a0:(List Int)) (x8:Int):Int→Option (Int⊕(Unit⊕(Int⊕(Unit⊕Bool)))):=fun x18 =>
 bif decide (x18<x8) then (
  (ixO a0 x8).bind fun x21 =>
  (ixO a0 x18).bind fun x22 =>
  bif decide (x21=x22) then (
   some (.inr (.inr (.inr (.inr true))))
  ) else (
   some (.inl (w64 (x18+1)))
  )
 ) else (
  some (.inr (.inl ()))
 )
noncomputable def Rg (a0:(List Int)):Int→Option (Int⊕(Unit⊕Bool)):=fun x8 =>
 bif decide (x8<((a0.length:Nat):Int)) then (
  onInl (α:=Unit) (β:=(Int⊕(Unit⊕Bool))) (Ko (Sh a0 x8) 0) fun _ =>
  some (.inl (w64 (x8+1)))
 ) else (
  some (.inr (.inl ()))
 )
noncomputable def Nb (a0:(List Int)):Option Bool :=
 onInl (α:=Unit) (β:=Bool) (Ko (Rg a0) 0) fun _ =>
 some false
theorem Jfp (a0:(List Int)) (r:Bool) (h:Nb a0=some r):Kj Tryz.prog GlS 229 [Enc.pv a0] (Enc.pv r):=by
 unfold Nb at h
 refine zC Tryz.func229 Tryz.ntmps229 ?_
 refine Ja (Jd (zE (Jb (Ja (Ja (Jd (zR 1 ?_)))))))
 refine zL (L:=(a0:(List Int))) ?_
 refine zE (Jb (Jp ?_))
 obtain ⟨o30,h30,h⟩:=Kk h
 refine zA 25 0 (fun x8=>⟨[(0,Jn .frozen (a0:(List Int))),(6,.int .i64 ((a0.length:Nat):Int)),(7,.int .i64 x8)],[],[],[]⟩) (fun (_:Unit)=>⟨[],[],[],[]⟩) h30 ?_ ?_
 ·rintro x8 oh29 h29
  unfold Rg at h29
  refine Ja (Jd (zE (Jb (Ja ?_))))
  rcases Jl h29 with ⟨hb,h29⟩|⟨hb,h29⟩
  ·refine zT hb (Jj (Jb (Ja (Jp (Ja (Jd (zE (Jb (Ja (Jd (zE (Jb (Jp ?_)))))))))))))
   obtain ⟨o40,h40,h29⟩:=Kk h29
   refine zA 25 2 (fun x18=>⟨[(0,Jn .frozen (a0:(List Int))),(3,.int .i64 x8),(6,.int .i64 ((a0.length:Nat):Int)),(7,.int .i64 x8),(10,.int .i64 x8),(11,.int .i64 x18)],[],[],[]⟩) (fun (_:Unit)=>⟨[(0,Jn .frozen (a0:(List Int))),(6,.int .i64 ((a0.length:Nat):Int)),(7,.int .i64 x8)],[],[],[]⟩) h40 ?_ ?_
   ·rintro x18 oh39 h39
    unfold Sh at h39
    refine Ja (Jd (zE (Jb (Ja ?_))))
    rcases Jl h39 with ⟨hb,h39⟩|⟨hb,h39⟩
    ·refine zT hb (Jj (Jb (Ja (Jp (Ja (Jd (zE (Jb (Ja (zD (zR 2 ?_)))))))))))
     obtain ⟨x21,h41,h39⟩:=Je h39
     refine zI h41 (zR 3 ?_)
     obtain ⟨x22,h42,h39⟩:=Je h39
     refine zI h42 (zE (Jb ?_))
     rcases Jl h39 with ⟨hb,h39⟩|⟨hb,h39⟩
     ·refine zT hb (Ja (Jd (zE (Jb (Jq (Js (Jm ?_)))))))
      cases h39
      refine Kd fun he=>?_
      subst he
      have h43:=Kq h29
      refine Js (Js (Jm ?_))
      cases h43
      refine Kd fun he=>?_
      subst he
      have h44:=Kq h
      refine Js (Jm ?_)
      cases h44
      exact zQ
     refine zU hb (Jj (Jz (Jb (Jd (zE ?_)))))
     cases h39
     exact zB
    refine zU hb (Jy (Jv ?_))
    cases h39
    exact zX
   rintro _ s' rfl hs
   have h29:=Kb h29
   refine Jt (Jz (Jb (Ka hs (Jd (zE ?_)))))
   cases h29
   exact zB
  refine zU hb (Jy (Jv ?_))
  cases h29
  exact zX
 rintro _ s' rfl hs
 have h:=Kb h
 refine Jt (Jb (Ka hs (Ja (Jd (zE (Jb (Jq ?_)))))))
 cases h
 exact zQ
/-! signallingref07.balises -/
noncomputable def Rw (a0:Ji):(Int×(List Int))→Option ((Int×(List Int))⊕((List Int)⊕Int)):=fun (x12,x13) =>
 bif decide (x12<((a0.Balises.length:Nat):Int)) then (
  (ixO a0.Balises x12).bind fun x20 =>
  ((bif (((decide (x20.Id<1))||(decide (1073741824<x20.Id)))||(decide (x20.El<0))) then some true else (
   some (decide (((a0.Elements.length:Nat):Int)≤x20.El))
  )):Option Bool).bind fun b21 =>
  ((bif (b21||(decide (x20.Offset<0))) then some true else (
   (ixO a0.Elements x20.El).bind fun x23 =>
   some (decide (x23.Length<x20.Offset))
  )):Option Bool).bind fun b22 =>
  bif b22 then (
   some (.inr (.inr 1))
  ) else (
   (Ut x13 [x20.Id]).bind fun x24 =>
   some (.inl (w64 (x12+1),x24))
  )
 ) else (
  some (.inr (.inl x13))
 )
noncomputable def Mp (a0:Ji):Option Int :=
 onInl (α:=(List Int)) (β:=Int) (Ko (Rw a0) (0,([]:(List Int)))) fun x19 =>
 (Nb x19).bind fun r25 =>
 bif r25 then (
  some 8
 ) else (
  some 0
 )
theorem Jfh (a0:Ji) (r:Int) (h:Mp a0=some r):Kj Tryz.prog GlS 155 [Enc.pv a0] (Enc.pv r):=by
 unfold Mp at h
 refine zC Tryz.func155 Tryz.ntmps155 ?_
 refine Ja (Jd (zE (Jb (Ja (Jd (zE (Jb (Ja (Ja (Jd (zR 2 ?_)))))))))))
 refine zL (L:=(a0.Balises:(List Jx))) ?_
 refine zE (Jb (Jp (Yn 3 100003 1 8 (by kernel_rfl) (by kernel_rfl) ?_)))
 obtain ⟨o20,h20,h⟩:=Kk h
 refine zA 59 0 (fun (x12,x13)=>⟨[(1,.ref 1 0),(3,Jn (.own 100003) (x13:(List Int))),(7,Jn .frozen (a0.Balises:(List Jx))),(8,.int .i64 ((a0.Balises.length:Nat):Int)),(9,.int .i64 x12)],[(1,.cells (cellsOf a0))],[(100003,(((x13).map cellsOf).length,1))],[]⟩) (fun x19=>⟨[(3,Jn (.own 100003) (x19:(List Int)))],[],[(100003,(((x19).map cellsOf).length,1))],[]⟩) h20 ?_ ?_
 ·rintro ⟨x12,x13⟩ oh19 h19
  unfold Rw at h19
  refine Ja (Jd (zE (Jb (Ja ?_))))
  rcases Jl h19 with ⟨hb,h19⟩|⟨hb,h19⟩
  ·refine zT hb (Jj (Jb (Ja (Jp (Ja (Jd ?_))))))
   obtain ⟨x20,h21,h19⟩:=Je h19
   refine zI h21 (zE (Jb (Ja (Ja (zD (zR 4 ?_))))))
   refine Ku 4 20 ((decide (x20.Id<1))||(decide (1073741824<x20.Id))) (fun x hx=>?_) ?_
   ·rcases Vs hx with ⟨hb,hx⟩|⟨hb,hx⟩
    ·refine zS 16 hb ?_
     subst hx
     exact zF
    refine zS 16 hb ?_
    subst hx
    exact zF
   refine zR 1 ?_
   refine Ku 4 25 (((decide (x20.Id<1))||(decide (1073741824<x20.Id)))||(decide (x20.El<0))) (fun x hx=>?_) ?_
   ·rcases Vs hx with ⟨hb,hx⟩|⟨hb,hx⟩
    ·refine zS 21 hb ?_
     subst hx
     exact zF
    refine zS 21 hb ?_
    subst hx
    exact zF
   obtain ⟨b21,h22,h19⟩:=Je h19
   refine zR 1 ?_
   refine Km 7 33 (.bool b21) ?_ ?_
   ·rcases Jl h22 with ⟨hb,h22⟩|⟨hb,h22⟩
    ·refine zS 26 hb ?_
     cases h22
     exact zF
    refine zS 26 hb (zR 4 ?_)
    refine zL (L:=(a0.Elements:(List Ke))) ?_
    cases h22
    exact zF
   refine zR 1 ?_
   refine Ku 4 38 (b21||(decide (x20.Offset<0))) (fun x hx=>?_) ?_
   ·rcases Vs hx with ⟨hb,hx⟩|⟨hb,hx⟩
    ·refine zS 34 hb ?_
     subst hx
     exact zF
    refine zS 34 hb ?_
    subst hx
    exact zF
   obtain ⟨b22,h23,h19⟩:=Je h19
   refine zR 1 ?_
   refine Km 11 50 (.bool b22) ?_ ?_
   ·rcases Jl h23 with ⟨hb,h23⟩|⟨hb,h23⟩
    ·refine zS 39 hb ?_
     cases h23
     exact zF
    refine zS 39 hb (zR 6 ?_)
    obtain ⟨x23,h24,h23⟩:=Je h23
    refine zI h24 ?_
    cases h23
    exact zF
   refine zN (Jb ?_)
   rcases Jl h19 with ⟨hb,h19⟩|⟨hb,h19⟩
   ·refine zT hb (Ja (Jd (zE (Jb (Jq (Jm (Js (Jm ?_))))))))
    cases h19
    refine Kd fun he=>?_
    subst he
    have h25:=Kq h
    refine Js (Jm ?_)
    cases h25
    exact zQ
   refine zU hb (Jj (Jb (Jd (zR 4 ?_))))
   obtain ⟨x24,h26,h19⟩:=Je h19
   refine zW (tk:=100003) h26 ?_
   refine zE (Jz (Jb (Jd (zE ?_))))
   cases h19
   exact zB
  refine zU hb (Jy (Jv ?_))
  cases h19
  exact zX
 rintro x19 s' rfl hs
 have h:=Kb h
 refine Jt (Jb (Ka hs (Ja (Ja (Jd (zR 1 ?_))))))
 obtain ⟨r25,h27,h⟩:=Je h
 refine zP (Jfp _ r25 h27) (zN (Jb ?_))
 rcases Jl h with ⟨hb,h⟩|⟨hb,h⟩
 ·refine zT hb (Ja (Jd (zE (Jb (Jq (Jm ?_))))))
  cases h
  exact zQ
 refine zU hb (Jj (Jb (Ja (Jd (zE (Jb (Jq ?_)))))))
 cases h
 exact zQ
/-! signallingref07.Check -/
noncomputable def Sq (a0:Ji):Option Int :=
 (Tb a0).bind fun r1 =>
 bif (!(decide (r1=0))) then (
  some r1
 ) else (
  (Lj a0).bind fun r2 =>
  bif (!(decide (r2=0))) then (
   some r2
  ) else (
   (Mw a0).bind fun r3 =>
   bif (!(decide (r3=0))) then (
    some r3
   ) else (
    (Mp a0).bind fun r4 =>
    some r4
   )
  )
 )
theorem Jh4 (a0:Ji) (r:Int) (h:Sq a0=some r):Kj Tryz.prog GlS 79 [Enc.pv a0] (Enc.pv r):=by
 unfold Sq at h
 refine zC Tryz.func79 Tryz.ntmps79 ?_
 refine Ja (Jd (zE (Jb (Ja (Ja (Jd (zR 1 ?_)))))))
 obtain ⟨r1,h1,h⟩:=Je h
 refine zP (Jg7 _ r1 h1) (zE (Jb (Ja (Jd (zE (Jb ?_))))))
 rcases Jl h with ⟨hb,h⟩|⟨hb,h⟩
 ·refine zT hb (Ja (Jd (zE (Jb (Jq (Jm ?_))))))
  cases h
  exact zQ
 refine zU hb (Jj (Jb (Ja (Ja (Jd (zR 1 ?_))))))
 obtain ⟨r2,h2,h⟩:=Je h
 refine zP (Jef _ r2 h2) (zE (Jb (Ja (Jd (zE (Jb ?_))))))
 rcases Jl h with ⟨hb,h⟩|⟨hb,h⟩
 ·refine zT hb (Ja (Jd (zE (Jb (Jq (Jm ?_))))))
  cases h
  exact zQ
 refine zU hb (Jj (Jb (Ja (Ja (Jd (zR 1 ?_))))))
 obtain ⟨r3,h3,h⟩:=Je h
 refine zP (Je0 _ r3 h3) (zE (Jb (Ja (Jd (zE (Jb ?_))))))
 rcases Jl h with ⟨hb,h⟩|⟨hb,h⟩
 ·refine zT hb (Ja (Jd (zE (Jb (Jq (Jm ?_))))))
  cases h
  exact zQ
 refine zU hb (Jj (Jb (Ja (Jd (zR 1 ?_)))))
 obtain ⟨r4,h4,h⟩:=Je h
 refine zP (Jfh _ r4 h4) (zE (Jb (Jq ?_)))
 cases h
 exact zQ
/-! signallingref09.exists -/
noncomputable def Bf (a0:Ji) (a1:Int):Option Bool :=
 ((bif decide (0≤a1) then (
  some (decide (a1<((a0.Elements.length:Nat):Int)))
 ) else some false):Option Bool).bind fun b1 =>
 some b1
theorem Cm (a0:Ji) (a1:Int) (r:Bool) (h:Bf a0 a1=some r):Kj Tryz.prog GlS 159 [Enc.pv a0,Enc.pv a1] (Enc.pv r):=by
 unfold Bf at h
 refine zC Tryz.func159 Tryz.ntmps159 ?_
 refine Ja (Jd (zE (Jb (Ja (Jd ?_)))))
 obtain ⟨b1,h1,h⟩:=Je h
 refine zR 3 ?_
 refine Km 6 13 (.bool b1) ?_ ?_
 ·rcases Jl h1 with ⟨hb,h1⟩|⟨hb,h1⟩
  ·refine zS 7 hb (zR 3 ?_)
   refine zL (L:=(a0.Elements:(List Ke))) ?_
   cases h1
   exact zF
  refine zS 7 hb ?_
  cases h1
  exact zF
 refine zE (Jb (Jq ?_))
 cases h
 exact zQ
/-! signallingref06.Need -/
noncomputable def Dn (a0:Int) (a1:Int) (a2:Int):Option (Int×Bool) :=
 bif ((decide (a0=1))||(decide (a0=3))) then (
  some (0,(((decide ((min a1 a2)=0))&&(decide ((max a1 a2)=1)))||(((decide (a0=3))&&(decide ((min a1 a2)=2)))&&(decide ((max a1 a2)=3)))))
 ) else (
  bif (((decide (a0=2))&&(decide ((min a1 a2)=0)))&&(decide ((max a1 a2)=1))) then (
   some (1,true)
  ) else (
   bif (((decide (a0=2))&&(decide ((min a1 a2)=0)))&&(decide ((max a1 a2)=2))) then (
    some (2,true)
   ) else (
    some (0,false)
   )
  )
 )
theorem Fd (a0:Int) (a1:Int) (a2:Int) (r:(Int×Bool)) (h:Dn a0 a1 a2=some r):Kj Tryz.prog GlS 254 [Enc.pv a0,Enc.pv a1,Enc.pv a2] (.tup [Enc.pv r.1,Enc.pv r.2]):=by
 unfold Dn at h
 refine zC Tryz.func254 Tryz.ntmps254 ?_
 refine Ja (Jd (zE (Jb (Ja (Jd (zE (Jb (Ja (Jd (zE (Jb (Ja (Ja (Jd (zR 3 ?_)))))))))))))))
 refine Ku 3 21 ((decide (a0=1))||(decide (a0=3))) (fun x hx=>?_) ?_
 ·rcases Vs hx with ⟨hb,hx⟩|⟨hb,hx⟩
  ·refine zS 18 hb ?_
   subst hx
   exact zF
  refine zS 18 hb ?_
  subst hx
  exact zF
 refine zN (Jb ?_)
 rcases Jl h with ⟨hb,h⟩|⟨hb,h⟩
 ·refine zT hb (Ja (Jd (zR 3 ?_)))
  refine Ku 3 27 ((decide ((min a1 a2)=0))&&(decide ((max a1 a2)=1))) (fun x hx=>?_) ?_
  ·rcases Vm hx with ⟨hb,hx⟩|⟨hb,hx⟩
   ·refine zS 24 hb ?_
    subst hx
    exact zF
   refine zS 24 hb ?_
   subst hx
   exact zF
  refine zR 1 ?_
  refine Ku 11 39 (((decide ((min a1 a2)=0))&&(decide ((max a1 a2)=1)))||(((decide (a0=3))&&(decide ((min a1 a2)=2)))&&(decide ((max a1 a2)=3)))) (fun x hx=>?_) ?_
  ·rcases Vs hx with ⟨hb,hx⟩|⟨hb,hx⟩
   ·refine zS 28 hb ?_
    subst hx
    exact zF
   refine zS 28 hb (zR 3 ?_)
   refine Ph 3 34 ((decide (a0=3))&&(decide ((min a1 a2)=2))) (fun x hx=>?_) ?_
   ·rcases Vm hx with ⟨hb,hx⟩|⟨hb,hx⟩
    ·refine zS 31 hb ?_
     subst hx
     exact zF
    refine zS 31 hb ?_
    subst hx
    exact zF
   refine zR 1 ?_
   refine Ph 3 38 (((decide (a0=3))&&(decide ((min a1 a2)=2)))&&(decide ((max a1 a2)=3))) (fun x hx=>?_) ?_
   ·rcases Vm hx with ⟨hb,hx⟩|⟨hb,hx⟩
    ·refine zS 35 hb ?_
     subst hx
     exact zF
    refine zS 35 hb ?_
    subst hx
    exact zF
   subst hx
   exact zF
  refine zE (Jb (Jq (Jm ?_)))
  cases h
  exact zQ
 refine zU hb (Jj (Jb (Ja (Ja (Jd (zR 3 ?_))))))
 refine Ku 3 45 ((decide (a0=2))&&(decide ((min a1 a2)=0))) (fun x hx=>?_) ?_
 ·rcases Vm hx with ⟨hb,hx⟩|⟨hb,hx⟩
  ·refine zS 42 hb ?_
   subst hx
   exact zF
  refine zS 42 hb ?_
  subst hx
  exact zF
 refine zR 1 ?_
 refine Ku 3 49 (((decide (a0=2))&&(decide ((min a1 a2)=0)))&&(decide ((max a1 a2)=1))) (fun x hx=>?_) ?_
 ·rcases Vm hx with ⟨hb,hx⟩|⟨hb,hx⟩
  ·refine zS 46 hb ?_
   subst hx
   exact zF
  refine zS 46 hb ?_
  subst hx
  exact zF
 refine zN (Jb ?_)
 rcases Jl h with ⟨hb,h⟩|⟨hb,h⟩
 ·refine zT hb (Ja (Jd (zE (Jb (Jq (Jm ?_))))))
  cases h
  exact zQ
 refine zU hb (Jj (Jb (Ja (Ja (Jd (zR 3 ?_))))))
 refine Ku 3 55 ((decide (a0=2))&&(decide ((min a1 a2)=0))) (fun x hx=>?_) ?_
 ·rcases Vm hx with ⟨hb,hx⟩|⟨hb,hx⟩
  ·refine zS 52 hb ?_
   subst hx
   exact zF
  refine zS 52 hb ?_
  subst hx
  exact zF
 refine zR 1 ?_
 refine Ku 3 59 (((decide (a0=2))&&(decide ((min a1 a2)=0)))&&(decide ((max a1 a2)=2))) (fun x hx=>?_) ?_
 ·rcases Vm hx with ⟨hb,hx⟩|⟨hb,hx⟩
  ·refine zS 56 hb ?_
   subst hx
   exact zF
  refine zS 56 hb ?_
  subst hx
  exact zF
 refine zN (Jb ?_)
 rcases Jl h with ⟨hb,h⟩|⟨hb,h⟩
 ·refine zT hb (Ja (Jd (zE (Jb (Jq (Jm ?_))))))
  cases h
  exact zQ
 refine zU hb (Jj (Jb (Ja (Jd (zE (Jb (Jq ?_)))))))
 cases h
 exact zQ
/-! signallingref06.Legs -/
noncomputable def Jcf (a0:Int) (a1:Int):(Int×(List Int))→Option ((Int×(List Int))⊕((List Int)⊕(List Int))):=fun (x12,x13) =>
 bif decide (x12<4) then (
  onInl (α:=(List Int)) (β:=((Int×(List Int))⊕((List Int)⊕(List Int)))) (
   (Dn a0 a1 x12).bind fun r23 =>
   bif r23.2 then (
    (Ut x13 [x12]).bind fun x24 =>
    some (.inl x24)
   ) else (
    some (.inl x13)
   )
  ) fun x22 =>
  some (.inl (w64 (x12+1),x22))
 ) else (
  some (.inr (.inl x13))
 )
noncomputable def Nx (a0:Int) (a1:Int):Option (List Int) :=
 onInl (α:=(List Int)) (β:=(List Int)) (Ko (Jcf a0 a1) (0,([]:(List Int)))) fun x19 =>
 some x19
theorem Ji8 (a0:Int) (a1:Int) (r:(List Int)) (h:Nx a0 a1=some r):Kj Tryz.prog GlS 201 [Enc.pv a0,Enc.pv a1] (Jn (.own 100005) r):=by
 unfold Nx at h
 refine zC Tryz.func201 Tryz.ntmps201 ?_
 refine Ja (Jd (zE (Jb (Ja (Jd (zE (Jb (Ja (Ja (Jd (zE (Jb (Jp ?_)))))))))))))
 refine Yn 5 100005 1 8 (by kernel_rfl) (by kernel_rfl) ?_
 obtain ⟨o17,h17,h⟩:=Kk h
 refine zA 26 0 (fun (x12,x13)=>⟨[(0,.int .i64 a0),(1,.int .i64 a1),(5,Jn (.own 100005) (x13:(List Int))),(6,.int .i64 x12)],[],[(100005,(((x13).map cellsOf).length,1))],[]⟩) (fun x19=>⟨[(5,Jn (.own 100005) (x19:(List Int)))],[],[(100005,(((x19).map cellsOf).length,1))],[]⟩) h17 ?_ ?_
 ·rintro ⟨x12,x13⟩ oh16 h16
  unfold Jcf at h16
  refine Ja (Ja (Jd (zE (Jb ?_))))
  rcases Jl h16 with ⟨hb,h16⟩|⟨hb,h16⟩
  ·refine zT hb (Jj (Jb ?_))
   obtain ⟨o20,h20,h16⟩:=Kk h16
   refine Qp (o:=o20) 26 (fun x22=>⟨[(0,.int .i64 a0),(1,.int .i64 a1),(5,Jn (.own 100005) (x22:(List Int))),(6,.int .i64 x12)],[],[(100005,(((x22).map cellsOf).length,1))],[]⟩) ?_ ?_
   ·refine Jp (Ja (Jd (zR 3 ?_)))
    obtain ⟨r23,h21,h20⟩:=Je h20
    refine zP (Fd _ _ _ r23 h21) (zE (Jb (Ja (Jd (zE (Jb ?_))))))
    rcases Jl h20 with ⟨hb,h20⟩|⟨hb,h20⟩
    ·refine zT hb (Jd (zR 3 ?_))
     obtain ⟨x24,h22,h20⟩:=Je h20
     refine zW (tk:=100005) h22 ?_
     refine zE (Jz ?_)
     cases h20
     exact zJ
    refine zU hb (Jj (Jz ?_))
    cases h20
    exact zJ
   rintro x22 rfl
   have h16:=Kb h16
   refine Jd (zE ?_)
   cases h16
   exact zB
  refine zU hb (Jy (Jv ?_))
  cases h16
  exact zX
 rintro x19 s' rfl hs
 have h:=Kb h
 refine Jt (Jb (Ka hs (Ja (Jd (zE (Jb (Jq ?_)))))))
 cases h
 exact zQ
theorem Ji7 (a0:Int) (a1:Int) (r:(List Int)) (h:Nx a0 a1=some r):Kj Tryz.prog GlS 201 [Enc.pv a0,Enc.pv a1] (Enc.pv r) :=
 (Ji8 a0 a1 r h).freeze (by kernel_rfl) (by kernel_rfl) (by kernel_rfl)
/-! signallingref09.Branches -/
noncomputable def Pk (a1:Jo) (r3:(List Int)):(Int×(List Jf))→Option ((Int×(List Jf))⊕((List Jf)⊕(List Jf))):=fun (x9,x10) =>
 bif decide (x9<((r3.length:Nat):Int)) then (
  (ixO r3 x9).bind fun x14 =>
  (Ut x10 [(Jf.mk a1.El a1.Side x14)]).bind fun x15 =>
  some (.inl (w64 (x9+1),x15))
 ) else (
  some (.inr (.inl x10))
 )
noncomputable def Dg (a0:Ji) (a1:Jo):Option (List Jf) :=
 (Bf a0 a1.El).bind fun r1 =>
 bif (!r1) then (
  some ([]:(List Jf))
 ) else (
  (ixO a0.Elements a1.El).bind fun x2 =>
  (Nx x2.Kind a1.Side).bind fun r3 =>
  onInl (α:=(List Jf)) (β:=(List Jf)) (Ko (Pk a1 r3) (0,([]:(List Jf)))) fun x13 =>
  some x13
 )
theorem Nt (a0:Ji) (a1:Jo) (r:(List Jf)) (h:Dg a0 a1=some r):Kj Tryz.prog GlS 133 [Enc.pv a0,Enc.pv a1] (Jn (.own 100006) r):=by
 unfold Dg at h
 refine zC Tryz.func133 Tryz.ntmps133 ?_
 refine Ja (Jd (zE (Jb (Ja (Ja (Jd (zR 3 ?_)))))))
 obtain ⟨r1,h1,h⟩:=Je h
 refine zP (Cm _ _ r1 h1) (zE (Jb ?_))
 rcases Jl h with ⟨hb,h⟩|⟨hb,h⟩
 ·refine zT hb (Ja (Jd (zE (Jb (Yn 4 100006 3 24 (by kernel_rfl) (by kernel_rfl) (Jq (Jm ?_)))))))
  cases h
  exact zQ
 refine zU hb (Jj (Jb (Ja (zD (zR 4 ?_)))))
 obtain ⟨x2,h2,h⟩:=Je h
 refine zI h2 (zR 4 ?_)
 obtain ⟨r3,h3,h⟩:=Je h
 refine zP (Ji7 _ _ r3 h3) (zE (Jb (Ja (Jd (zE (Jb (Ja (Ja (Jd (zE (Jb (Jp ?_))))))))))))
 refine Yn 6 100006 3 24 (by kernel_rfl) (by kernel_rfl) ?_
 obtain ⟨o11,h11,h⟩:=Kk h
 refine zA 42 0 (fun (x9,x10)=>⟨[(3,.ref 3 0),(5,Jn .frozen (r3:(List Int))),(6,Jn (.own 100006) (x10:(List Jf))),(7,.int .i64 x9)],[(3,.cells (cellsOf a1))],[(100006,(((x10).map cellsOf).length,3))],[]⟩) (fun x13=>⟨[(6,Jn (.own 100006) (x13:(List Jf)))],[],[(100006,(((x13).map cellsOf).length,3))],[]⟩) h11 ?_ ?_
 ·rintro ⟨x9,x10⟩ oh10 h10
  unfold Pk at h10
  refine Ja (Ja (Jd (zR 2 ?_)))
  refine zL (L:=(r3:(List Int))) ?_
  refine zE (Jb ?_)
  rcases Jl h10 with ⟨hb,h10⟩|⟨hb,h10⟩
  ·refine zT hb (Jj (Jb (Ja (Jp (zD (zR 7 ?_))))))
   obtain ⟨x14,h12,h10⟩:=Je h10
   refine zI h12 (zR 3 ?_)
   obtain ⟨x15,h13,h10⟩:=Je h10
   refine zW (tk:=100006) h13 ?_
   refine zE (Jz (Jb (Jd (zE ?_))))
   cases h10
   exact zB
  refine zU hb (Jy (Jv ?_))
  cases h10
  exact zX
 rintro x13 s' rfl hs
 have h:=Kb h
 refine Jt (Jb (Ka hs (Ja (Jd (zE (Jb (Jq ?_)))))))
 cases h
 exact zQ
/-! signallingref09.need -/
noncomputable def Oc (a0:Ji) (a1:Jf):Option (Int×Bool) :=
 (Bf a0 a1.El).bind fun r1 =>
 bif (!r1) then (
  some (0,false)
 ) else (
  (ixO a0.Elements a1.El).bind fun x2 =>
  (Dn x2.Kind a1.In a1.Out).bind fun r3 =>
  some (r3.1,r3.2)
 )
theorem Jbk (a0:Ji) (a1:Jf) (r:(Int×Bool)) (h:Oc a0 a1=some r):Kj Tryz.prog GlS 202 [Enc.pv a0,Enc.pv a1] (.tup [Enc.pv r.1,Enc.pv r.2]):=by
 unfold Oc at h
 refine zC Tryz.func202 Tryz.ntmps202 ?_
 refine Ja (Jd (zE (Jb (Ja (Ja (Jd (zR 3 ?_)))))))
 obtain ⟨r1,h1,h⟩:=Je h
 refine zP (Cm _ _ r1 h1) (zE (Jb ?_))
 rcases Jl h with ⟨hb,h⟩|⟨hb,h⟩
 ·refine zT hb (Ja (Jd (zE (Jb (Jq (Jm ?_))))))
  cases h
  exact zQ
 refine zU hb (Jj (Jb (Ja (zD (zR 4 ?_)))))
 obtain ⟨x2,h2,h⟩:=Je h
 refine zI h2 (zR 6 ?_)
 obtain ⟨r3,h3,h⟩:=Je h
 refine zP (Fd _ _ _ r3 h3) (zE (Jb (Jq ?_)))
 cases h
 exact zQ
/-! signallingref09.Next -/
noncomputable def Ds (a0:Ji) (a1:Jf):Option (Jo×Bool) :=
 (Zb a0 (Jo.mk a1.El a1.Out)).bind fun r1 =>
 some (r1.1,r1.2)
theorem Fe (a0:Ji) (a1:Jf) (r:(Jo×Bool)) (h:Ds a0 a1=some r):Kj Tryz.prog GlS 134 [Enc.pv a0,Enc.pv a1] (.tup [Enc.pv r.1,Enc.pv r.2]):=by
 unfold Ds at h
 refine zC Tryz.func134 Tryz.ntmps134 ?_
 refine Ja (Jd (zE (Jb (Ja (Jd (zR 6 ?_))))))
 obtain ⟨r1,h1,h⟩:=Je h
 refine zP (Zm _ _ r1 h1) (zE (Jb (Jq ?_)))
 cases h
 exact zQ
/-! signallingref09.Valid -/
noncomputable def Ja1 (a1:(List Jf)) (x23:Int):Int→Option (Int⊕(Unit⊕(Int⊕(Unit⊕Bool)))):=fun x61 =>
 bif decide (x61<x23) then (
  (ixO a1 x61).bind fun x64 =>
  (ixO a1 x23).bind fun x65 =>
  bif decide (x64.El=x65.El) then (
   some (.inr (.inr (.inr (.inr false))))
  ) else (
   some (.inl (w64 (x61+1)))
  )
 ) else (
  some (.inr (.inl ()))
 )
noncomputable def Ja4 (a0:Ji) (a1:(List Jf)):Int→Option (Int⊕(Unit⊕Bool)):=fun x23 =>
 bif decide (x23<((a1.length:Nat):Int)) then (
  (ixO a1 x23).bind fun x45 =>
  (Oc a0 x45).bind fun r46 =>
  bif (!r46.2) then (
   some (.inr (.inr false))
  ) else (
   onInl (α:=Unit) (β:=(Int⊕(Unit⊕Bool))) (
    bif decide (0<x23) then (
     (ixO a1 (w64 (x23 - 1))).bind fun x53 =>
     (Ds a0 x53).bind fun r54 =>
     ((bif (!r54.2) then some true else (
      (ixO a1 x23).bind fun x56 =>
      some (!(decide (r54.1.El=x56.El)))
     )):Option Bool).bind fun b55 =>
     ((bif b55 then some true else (
      (ixO a1 x23).bind fun x58 =>
      some (!(decide (r54.1.Side=x58.In)))
     )):Option Bool).bind fun b57 =>
     bif b57 then (
      some (.inr (.inr (.inr false)))
     ) else (
      some (.inl ())
     )
    ) else (
     some (.inl ())
    )
   ) fun _ =>
   onInl (α:=Unit) (β:=(Int⊕(Unit⊕Bool))) (Ko (Ja1 a1 x23) 0) fun _ =>
   some (.inl (w64 (x23+1)))
  )
 ) else (
  some (.inr (.inl ()))
 )
noncomputable def Sn (a0:Ji) (a1:(List Jf)):Option Bool :=
 ((bif decide (((a1.length:Nat):Int)=0) then some true else (
  some (decide (64<((a1.length:Nat):Int)))
 )):Option Bool).bind fun b1 =>
 bif b1 then (
  some false
 ) else (
  onInl (α:=Unit) (β:=Bool) (Ko (Ja4 a0 a1) 0) fun _ =>
  some true
 )
theorem Jh0 (a0:Ji) (a1:(List Jf)) (r:Bool) (h:Sn a0 a1=some r):Kj Tryz.prog GlS 156 [Enc.pv a0,Enc.pv a1] (Enc.pv r):=by
 unfold Sn at h
 refine zC Tryz.func156 Tryz.ntmps156 ?_
 refine Ja (Jd (zE (Jb (Ja (Ja (Jd (zR 1 ?_)))))))
 refine zL (L:=(a1:(List Jf))) ?_
 obtain ⟨b1,h1,h⟩:=Je h
 refine zR 2 ?_
 refine Km 4 18 (.bool b1) ?_ ?_
 ·rcases Jl h1 with ⟨hb,h1⟩|⟨hb,h1⟩
  ·refine zS 14 hb ?_
   cases h1
   exact zF
  refine zS 14 hb (zR 1 ?_)
  refine zL (L:=(a1:(List Jf))) ?_
  cases h1
  exact zF
 refine zN (Jb ?_)
 rcases Jl h with ⟨hb,h⟩|⟨hb,h⟩
 ·refine zT hb (Ja (Jd (zE (Jb (Jq (Jm ?_))))))
  cases h
  exact zQ
 refine zU hb (Jj (Jb (Ja (Ja (Jd (zE (Jb (Jp ?_))))))))
 obtain ⟨o71,h71,h⟩:=Kk h
 refine zA 86 0 (fun x23=>⟨[(1,Jn .frozen (a1:(List Jf))),(2,.ref 2 0),(5,.int .i64 x23)],[(2,.cells (cellsOf a0))],[],[]⟩) (fun (_:Unit)=>⟨[],[],[],[]⟩) h71 ?_ ?_
 ·rintro x23 oh70 h70
  unfold Ja4 at h70
  refine Ja (Ja (Jd (zR 2 ?_)))
  refine zL (L:=(a1:(List Jf))) ?_
  refine zE (Jb ?_)
  rcases Jl h70 with ⟨hb,h70⟩|⟨hb,h70⟩
  ·refine zT hb (Jj (Jb (Ja (Jp (Ja (zD (zR 3 ?_)))))))
   obtain ⟨x45,h72,h70⟩:=Je h70
   refine zI h72 (zR 1 ?_)
   obtain ⟨r46,h73,h70⟩:=Je h70
   refine zP (Jbk _ _ r46 h73) (zE (Jb (Ja (Ja (Jd (zE (Jb ?_)))))))
   rcases Jl h70 with ⟨hb,h70⟩|⟨hb,h70⟩
   ·refine zT hb (Ja (Jd (zE (Jb (Jq (Jm (Js (Jm ?_))))))))
    cases h70
    refine Kd fun he=>?_
    subst he
    have h74:=Kq h
    refine Js (Jm ?_)
    cases h74
    exact zQ
   refine zU hb (Jj (Jb ?_))
   obtain ⟨o83,h83,h70⟩:=Kk h70
   refine Qp (o:=o83) 86 (fun (_:Unit)=>⟨[(1,Jn .frozen (a1:(List Jf))),(2,.ref 2 0),(5,.int .i64 x23)],[(2,.cells (cellsOf a0))],[],[]⟩) ?_ ?_
   ·refine Ja (Jd (zE (Jb ?_)))
    rcases Jl h83 with ⟨hb,h83⟩|⟨hb,h83⟩
    ·refine zT hb (Ja (zD (zR 4 ?_)))
     obtain ⟨x53,h84,h83⟩:=Je h83
     refine zI h84 (zR 1 ?_)
     obtain ⟨r54,h85,h83⟩:=Je h83
     refine zP (Fe _ _ r54 h85) (zE (Jb (Ja (zD ?_))))
     obtain ⟨b55,h86,h83⟩:=Je h83
     refine zR 3 ?_
     refine Km 9 59 (.bool b55) ?_ ?_
     ·rcases Jl h86 with ⟨hb,h86⟩|⟨hb,h86⟩
      ·refine zS 50 hb ?_
       cases h86
       exact zF
      refine zS 50 hb (zR 4 ?_)
      obtain ⟨x56,h87,h86⟩:=Je h86
      refine zI h87 ?_
      cases h86
      exact zF
     obtain ⟨b57,h88,h83⟩:=Je h83
     refine zR 1 ?_
     refine Km 9 69 (.bool b57) ?_ ?_
     ·rcases Jl h88 with ⟨hb,h88⟩|⟨hb,h88⟩
      ·refine zS 60 hb ?_
       cases h88
       exact zF
      refine zS 60 hb (zR 4 ?_)
      obtain ⟨x58,h89,h88⟩:=Je h88
      refine zI h89 ?_
      cases h88
      exact zF
     refine zN (Jb ?_)
     rcases Jl h83 with ⟨hb,h83⟩|⟨hb,h83⟩
     ·refine zT hb (Ja (Jd (zE (Jb (Jq ?_)))))
      cases h83
      refine Iv ?_
      have h90:=Kq h70
      refine Js (Jm ?_)
      cases h90
      refine Kd fun he=>?_
      subst he
      have h91:=Kq h
      refine Js (Jm ?_)
      cases h91
      exact zQ
     refine zU hb (Jj ?_)
     cases h83
     exact zJ
    refine zU hb (Jj ?_)
    cases h83
    exact zJ
   rintro _ rfl
   have h70:=Kb h70
   refine Ja (Jd (zE (Jb (Jp ?_))))
   obtain ⟨o101,h101,h70⟩:=Kk h70
   refine zA 86 2 (fun x61=>⟨[(1,Jn .frozen (a1:(List Jf))),(2,.ref 2 0),(5,.int .i64 x23),(10,.int .i64 x61)],[(2,.cells (cellsOf a0))],[],[]⟩) (fun (_:Unit)=>⟨[(1,Jn .frozen (a1:(List Jf))),(2,.ref 2 0),(5,.int .i64 x23)],[(2,.cells (cellsOf a0))],[],[]⟩) h101 ?_ ?_
   ·rintro x61 oh100 h100
    unfold Ja1 at h100
    refine Ja (Ja (Jd (zE (Jb ?_))))
    rcases Jl h100 with ⟨hb,h100⟩|⟨hb,h100⟩
    ·refine zT hb (Jj (Jb (Ja (Jp (Ja (zD (zR 2 ?_)))))))
     obtain ⟨x64,h102,h100⟩:=Je h100
     refine zI h102 (zR 4 ?_)
     obtain ⟨x65,h103,h100⟩:=Je h100
     refine zI h103 (zE (Jb ?_))
     rcases Jl h100 with ⟨hb,h100⟩|⟨hb,h100⟩
     ·refine zT hb (Ja (Jd (zE (Jb (Jq (Js (Jm ?_)))))))
      cases h100
      refine Kd fun he=>?_
      subst he
      have h104:=Kq h70
      refine Js (Js (Jm ?_))
      cases h104
      refine Kd fun he=>?_
      subst he
      have h105:=Kq h
      refine Js (Jm ?_)
      cases h105
      exact zQ
     refine zU hb (Jj (Jz (Jb (Jd (zE ?_)))))
     cases h100
     exact zB
    refine zU hb (Jy (Jv ?_))
    cases h100
    exact zX
   rintro _ s' rfl hs
   have h70:=Kb h70
   refine Jt (Jz (Jb (Ka hs (Jd (zE ?_)))))
   cases h70
   exact zB
  refine zU hb (Jy (Jv ?_))
  cases h70
  exact zX
 rintro _ s' rfl hs
 have h:=Kb h
 refine Jt (Jb (Ka hs (Ja (Jd (zE (Jb (Jq ?_)))))))
 cases h
 exact zQ
/-! signallingref07.Section -/
noncomputable def Ya (a0:Ji) (a1:Int):Option Int :=
 ((bif decide (a1<0) then some true else (
  some (decide (((a0.Elements.length:Nat):Int)≤a1))
 )):Option Bool).bind fun b1 =>
 bif b1 then (
  some (-1)
 ) else (
  (ixO a0.Elements a1).bind fun x2 =>
  some x2.Section
 )
theorem Zc (a0:Ji) (a1:Int) (r:Int) (h:Ya a0 a1=some r):Kj Tryz.prog GlS 69 [Enc.pv a0,Enc.pv a1] (Enc.pv r):=by
 unfold Ya at h
 refine zC Tryz.func69 Tryz.ntmps69 ?_
 refine Ja (Jd (zE (Jb (Ja (Ja (Jd ?_))))))
 obtain ⟨b1,h1,h⟩:=Je h
 refine zR 3 ?_
 refine Km 6 13 (.bool b1) ?_ ?_
 ·rcases Jl h1 with ⟨hb,h1⟩|⟨hb,h1⟩
  ·refine zS 7 hb ?_
   cases h1
   exact zF
  refine zS 7 hb (zR 3 ?_)
  refine zL (L:=(a0.Elements:(List Ke))) ?_
  cases h1
  exact zF
 refine zN (Jb ?_)
 rcases Jl h with ⟨hb,h⟩|⟨hb,h⟩
 ·refine zT hb (Ja (Jd (zE (Jb (Jq (Jm ?_))))))
  cases h
  exact zQ
 refine zU hb (Jj (Jb (Ja (Jd (zR 3 ?_)))))
 obtain ⟨x2,h2,h⟩:=Je h
 refine zI h2 (zE (Jb (Jq ?_)))
 cases h
 exact zQ
/-! signallingref09.has -/
noncomputable def Jer (a0:(List Int)) (a1:Int):Int→Option (Int⊕(Unit⊕Bool)):=fun x2 =>
 bif decide (x2<((a0.length:Nat):Int)) then (
  (ixO a0 x2).bind fun x4 =>
  bif decide (x4=a1) then (
   some (.inr (.inr true))
  ) else (
   some (.inl (w64 (x2+1)))
  )
 ) else (
  some (.inr (.inl ()))
 )
noncomputable def Jdn (a0:(List Int)) (a1:Int):Option Bool :=
 onInl (α:=Unit) (β:=Bool) (Ko (Jer a0 a1) 0) fun _ =>
 some false
theorem Jks (a0:(List Int)) (a1:Int) (r:Bool) (h:Jdn a0 a1=some r):Kj Tryz.prog GlS 204 [Enc.pv a0,Enc.pv a1] (Enc.pv r):=by
 unfold Jdn at h
 refine zC Tryz.func204 Tryz.ntmps204 ?_
 refine Ja (Jd (zE (Jb (Ja (Ja (Jd (zE (Jb (Jp ?_)))))))))
 obtain ⟨o6,h6,h⟩:=Kk h
 refine zA 18 0 (fun x2=>⟨[(0,Jn .frozen (a0:(List Int))),(1,.int .i64 a1),(5,.int .i64 x2)],[],[],[]⟩) (fun (_:Unit)=>⟨[],[],[],[]⟩) h6 ?_ ?_
 ·rintro x2 oh5 h5
  unfold Jer at h5
  refine Ja (Ja (Jd (zR 2 ?_)))
  refine zL (L:=(a0:(List Int))) ?_
  refine zE (Jb ?_)
  rcases Jl h5 with ⟨hb,h5⟩|⟨hb,h5⟩
  ·refine zT hb (Jj (Jb (Ja (Jp (Ja (Jd (zR 2 ?_)))))))
   obtain ⟨x4,h7,h5⟩:=Je h5
   refine zI h7 (zE (Jb ?_))
   rcases Jl h5 with ⟨hb,h5⟩|⟨hb,h5⟩
   ·refine zT hb (Ja (Jd (zE (Jb (Jq (Js (Jm ?_)))))))
    cases h5
    refine Kd fun he=>?_
    subst he
    have h8:=Kq h
    refine Js (Jm ?_)
    cases h8
    exact zQ
   refine zU hb (Jj (Jz (Jb (Jd (zE ?_)))))
   cases h5
   exact zB
  refine zU hb (Jy (Jv ?_))
  cases h5
  exact zX
 rintro _ s' rfl hs
 have h:=Kb h
 refine Jt (Jb (Ka hs (Ja (Jd (zE (Jb (Jq ?_)))))))
 cases h
 exact zQ
end PM
