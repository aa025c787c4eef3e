/-
 Plain functions for the program's functions, and the proofs that the program does them. Printed by den.py.
-/
import Derived.Test.YtfpoeepcomnjhaaGreatDoorPmSi
import Derived.Test.YtfpoeepcomnjhaaGreatDoorPmZ
import Derived.Test.YtfpoeepcomnjhaaGreatDoorPmY
import Derived.Test.YtfpoeepcomnjhaaGreatDoorPmM
import Derived.Test.YtfpoeepcomnjhaaGreatDoorPmSt
import Derived.Test.YtfpoeepcomnjhaaGreatDoorPmP
import Derived.Test.YtfpoeepcomnjhaaGreatDoorPmR
import Derived.Test.YtfpoeepcomnjhaaGreatDoorPlA
import Derived.Test.YtfpoeepcomnjhaaGreatDoorProg
import Derived.Test.YtfpoeepcomnjhaaGreatDoorLay
import Derived.Test.YtfpoeepcomnjhaaGreatDoorChecked
namespace PM
noncomputable section
open Go Go.RowKit Go.Proofs Go.Proofs.Tryz
attribute [local irreducible] Ju pwp
structure Qc where
 kind_:Int
 in_:Int
 out_:Int
 need_:Int
instance : Enc Qc:=⟨4,32,fun x=>.agg [I6 x.kind_,I6 x.in_,I6 x.out_,I6 x.need_]⟩
instance : Inhabited Qc:=⟨⟨0,0,0,0⟩⟩
structure Kg where
 Name:ByteArray
 Kind:Int
 Length:Int
 Grade:Int
 Speed:Int
 Slow:Int
 Section:Int
instance : Enc Kg:=⟨7,64,fun x=>.agg [.str x.Name,I6 x.Kind,I6 x.Length,I6 x.Grade,I6 x.Speed,I6 x.Slow,I6 x.Section]⟩
instance : Inhabited Kg:=⟨⟨ByteArray.empty,0,0,0,0,0,0⟩⟩
structure Je where
 El:Int
 Side:Int
instance : Enc Je:=⟨2,16,fun x=>.agg [I6 x.El,I6 x.Side]⟩
instance : Inhabited Je:=⟨⟨0,0⟩⟩
def Kc(x y:Je):Bool:=(decide (x.El=y.El)&&(decide (x.Side=y.Side)&&true))
instance : DecidableEq Je:=fun x y=>decidable_of_iff (Kc x y=true) (by cases x; cases y; simp [Kc])
instance : Key Je:={ (inferInstance:Enc Je) with deq:=inferInstance,keq:=fun a b=>by cases a with|mk x y=>cases b with|mk x' y'=>(show some (decide (x=x')&&decide (y=y'))=_; simp) }
structure Uu where
 A:Je
 B:Je
instance : Enc Uu:=⟨4,32,fun x=>.agg [I6 x.A.El,I6 x.A.Side,I6 x.B.El,I6 x.B.Side]⟩
instance : Inhabited Uu:=⟨⟨default,default⟩⟩
structure Kj where
 Name:ByteArray
 At:Je
 Overlap:Int
instance : Enc Kj:=⟨4,40,fun x=>.agg [.str x.Name,I6 x.At.El,I6 x.At.Side,I6 x.Overlap]⟩
instance : Inhabited Kj:=⟨⟨ByteArray.empty,default,0⟩⟩
structure Jn where
 Id:Int
 El:Int
 Offset:Int
instance : Enc Jn:=⟨3,24,fun x=>.agg [I6 x.Id,I6 x.El,I6 x.Offset]⟩
instance : Inhabited Jn:=⟨⟨0,0,0⟩⟩
structure Ja where
 Name:ByteArray
 Sections:(List ByteArray)
 Elements:(List Kg)
 Joints:(List Uu)
 Signals:(List Kj)
 Balises:(List Jn)
instance : Enc Ja:=⟨6,136,fun x=>.agg [.str x.Name,Jg .frozen x.Sections,Jg .frozen x.Elements,Jg .frozen x.Joints,Jg .frozen x.Signals,Jg .frozen x.Balises]⟩
instance : Inhabited Ja:=⟨⟨ByteArray.empty,[],[],[],[],[]⟩⟩
structure Jr where
 Id:Int
 Name:ByteArray
 Length:Int
 Speed:Int
 Accel:Int
 Service:Int
 Emergency:Int
 Delay:Int
 Const:Int
 Rate:Int
instance : Enc Jr:=⟨10,88,fun x=>.agg [I6 x.Id,.str x.Name,I6 x.Length,I6 x.Speed,I6 x.Accel,I6 x.Service,I6 x.Emergency,I6 x.Delay,I6 x.Const,I6 x.Rate]⟩
instance : Inhabited Jr:=⟨⟨0,ByteArray.empty,0,0,0,0,0,0,0,0⟩⟩
def Jmw(x y:Jr):Bool:=(decide (x.Id=y.Id)&&(decide (x.Name=y.Name)&&(decide (x.Length=y.Length)&&(decide (x.Speed=y.Speed)&&(decide (x.Accel=y.Accel)&&(decide (x.Service=y.Service)&&(decide (x.Emergency=y.Emergency)&&(decide (x.Delay=y.Delay)&&(decide (x.Const=y.Const)&&(decide (x.Rate=y.Rate)&&true))))))))))
structure Jb where
 El:Int
 In:Int
 Out:Int
instance : Enc Jb:=⟨3,24,fun x=>.agg [I6 x.El,I6 x.In,I6 x.Out]⟩
instance : Inhabited Jb:=⟨⟨0,0,0⟩⟩
def Iz(x y:Jb):Bool:=(decide (x.El=y.El)&&(decide (x.In=y.In)&&(decide (x.Out=y.Out)&&true)))
structure Qz where
 Steps:(List Jb)
 Head:Int
 Length:Int
instance : Enc Qz:=⟨3,40,fun x=>.agg [Jg .frozen x.Steps,I6 x.Head,I6 x.Length]⟩
instance : Inhabited Qz:=⟨⟨[],0,0⟩⟩
structure Jf where
 El:Int
 Pos:Int
instance : Enc Jf:=⟨2,16,fun x=>.agg [I6 x.El,I6 x.Pos]⟩
instance : Inhabited Jf:=⟨⟨0,0⟩⟩
def Wd(x y:Jf):Bool:=(decide (x.El=y.El)&&(decide (x.Pos=y.Pos)&&true))
structure Ji where
 Name:ByteArray
 Entry:Int
 Exit:Int
 Path:(List Jb)
 Points:(List Jf)
 Sections:(List Int)
 Approach:Int
 Length:Int
 Over:(List Jb)
 OverPoints:(List Jf)
 OverSections:(List Int)
 Flank:(List Jf)
 Guards:(List Int)
 Gaps:(List Je)
instance : Enc Ji:=⟨14,264,fun x=>.agg [.str x.Name,I6 x.Entry,I6 x.Exit,Jg .frozen x.Path,Jg .frozen x.Points,Jg .frozen x.Sections,I6 x.Approach,I6 x.Length,Jg .frozen x.Over,Jg .frozen x.OverPoints,Jg .frozen x.OverSections,Jg .frozen x.Flank,Jg .frozen x.Guards,Jg .frozen x.Gaps]⟩
instance : Inhabited Ji:=⟨⟨ByteArray.empty,0,0,[],[],[],0,0,[],[],[],[],[],[]⟩⟩
structure Jw where
 Routes:(List Ji)
 Points:(List Int)
 Homes:(List Int)
 Sections:Int
 Signals:Int
instance : Enc Jw:=⟨5,88,fun x=>.agg [Jg .frozen x.Routes,Jg .frozen x.Points,Jg .frozen x.Homes,I6 x.Sections,I6 x.Signals]⟩
instance : Inhabited Jw:=⟨⟨[],[],[],0,0⟩⟩
structure Wt where
 x0:(List ByteArray)
 x1:(List ByteArray)
 x2:(List ByteArray)
instance : Enc Wt:=⟨3,72,fun x=>.agg [Jg .frozen x.x0,Jg .frozen x.x1,Jg .frozen x.x2]⟩
instance : Inhabited Wt:=⟨⟨[],[],[]⟩⟩
structure Jp where
 L:(List (List Jb))
instance : Enc Jp:=⟨1,24,fun x=>.agg [Jg .frozen x.L]⟩
instance : Inhabited Jp:=⟨⟨[]⟩⟩
structure Jd where
 Id:Int
 Origin:Int
 End:Int
 At:Int
 Steps:(List Jb)
 Routes:(List Int)
 Starts:(List Int)
 Ends:(List Int)
 Done:(List Int)
 Min:Int
 Sent:Int
 Accepted:Int
 Cut:Int
 CutSeq:Int
instance : Enc Jd:=⟨14,192,fun x=>.agg [I6 x.Id,I6 x.Origin,I6 x.End,I6 x.At,Jg .frozen x.Steps,Jg .frozen x.Routes,Jg .frozen x.Starts,Jg .frozen x.Ends,Jg .frozen x.Done,I6 x.Min,I6 x.Sent,I6 x.Accepted,I6 x.Cut,I6 x.CutSeq]⟩
instance : Inhabited Jd:=⟨⟨0,0,0,0,[],[],[],[],[],0,0,0,0,0⟩⟩
structure Jk where
 Peer:Int
 Out:Int
 In:Int
 Heard:Int
instance : Enc Jk:=⟨4,32,fun x=>.agg [I6 x.Peer,I6 x.Out,I6 x.In,I6 x.Heard]⟩
instance : Inhabited Jk:=⟨⟨0,0,0,0⟩⟩
def Pu(x y:Jk):Bool:=(decide (x.Peer=y.Peer)&&(decide (x.Out=y.Out)&&(decide (x.In=y.In)&&(decide (x.Heard=y.Heard)&&true))))
structure Jj where
 Tracks:(List Jd)
 Sessions:(List Jk)
instance : Enc Jj:=⟨2,48,fun x=>.agg [Jg .frozen x.Tracks,Jg .frozen x.Sessions]⟩
instance : Inhabited Jj:=⟨⟨[],[]⟩⟩
structure Qh where
 State:Int
 Rel:Int
 Timer:Int
instance : Enc Qh:=⟨3,24,fun x=>.agg [I6 x.State,I6 x.Rel,I6 x.Timer]⟩
instance : Inhabited Qh:=⟨⟨0,0,0⟩⟩
structure Ko where
 Routes:(List Qh)
 Lies:(List Int)
instance : Enc Ko:=⟨2,48,fun x=>.agg [Jg .frozen x.Routes,Jg .frozen x.Lies]⟩
instance : Inhabited Ko:=⟨⟨[],[]⟩⟩
structure Jy where
 Id:Int
 El:Int
 From:Int
 To:Int
 Speed:Int
 Active:Bool
instance : Enc Jy:=⟨6,48,fun x=>.agg [I6 x.Id,I6 x.El,I6 x.From,I6 x.To,I6 x.Speed,.bool x.Active]⟩
instance : Inhabited Jy:=⟨⟨0,0,0,0,0,false⟩⟩
structure Jh where
 From:Int
 To:Int
 Grade:Int
 Speed:Int
instance : Enc Jh:=⟨4,32,fun x=>.agg [I6 x.From,I6 x.To,I6 x.Grade,I6 x.Speed]⟩
instance : Inhabited Jh:=⟨⟨0,0,0,0⟩⟩
def Pp(x y:Jh):Bool:=(decide (x.From=y.From)&&(decide (x.To=y.To)&&(decide (x.Grade=y.Grade)&&(decide (x.Speed=y.Speed)&&true))))
structure Jc where
 Id:Int
 At:Int
instance : Enc Jc:=⟨2,16,fun x=>.agg [I6 x.Id,I6 x.At]⟩
instance : Inhabited Jc:=⟨⟨0,0⟩⟩
def Jk3(x y:Jc):Bool:=(decide (x.Id=y.Id)&&(decide (x.At=y.At)&&true))
structure Jz where
 Seq:Int
 End:Int
 Profile:(List Jh)
 Links:(List Jc)
instance : Enc Jz:=⟨4,64,fun x=>.agg [I6 x.Seq,I6 x.End,Jg .frozen x.Profile,Jg .frozen x.Links]⟩
instance : Inhabited Jz:=⟨⟨0,0,[],[]⟩⟩
structure Ki where
 Min:Int
 Speed:Int
 Mode:Int
 Accepted:Int
 Whole:Bool
instance : Enc Ki:=⟨5,40,fun x=>.agg [I6 x.Min,I6 x.Speed,I6 x.Mode,I6 x.Accepted,.bool x.Whole]⟩
instance : Inhabited Ki:=⟨⟨0,0,0,0,false⟩⟩
def Lw(x y:Ki):Bool:=(decide (x.Min=y.Min)&&(decide (x.Speed=y.Speed)&&(decide (x.Mode=y.Mode)&&(decide (x.Accepted=y.Accepted)&&((x.Whole == y.Whole)&&true)))))
structure Jo where
 Kind:Int
 From:Int
 To:Int
 Seq:Int
 Time:Int
 Auth:Jz
 Report:Ki
instance : Enc Jo:=⟨14,144,fun x=>.agg [I6 x.Kind,I6 x.From,I6 x.To,I6 x.Seq,I6 x.Time,I6 x.Auth.Seq,I6 x.Auth.End,Jg .frozen x.Auth.Profile,Jg .frozen x.Auth.Links,I6 x.Report.Min,I6 x.Report.Speed,I6 x.Report.Mode,I6 x.Report.Accepted,.bool x.Report.Whole]⟩
instance : Inhabited Jo:=⟨⟨0,0,0,0,0,default,default⟩⟩
structure Jcf where
 err_:Int
instance : Enc Jcf:=⟨1,8,fun x=>.agg [I6 x.err_]⟩
instance : Inhabited Jcf:=⟨⟨0⟩⟩
structure Dp where
 from_:Int
 to_:Int
instance : Enc Dp:=⟨2,16,fun x=>.agg [I6 x.from_,I6 x.to_]⟩
instance : Inhabited Dp:=⟨⟨0,0⟩⟩
structure Rt where
instance : Enc Rt:=⟨0,0,fun x=>.agg []⟩
instance : Inhabited Rt:=⟨⟨⟩⟩
structure Jv where
 Layout:Ja
 Table:Jw
 Inter:Ko
 Slow:(List Jy)
 Trains:(List Jr)
 Center:Jj
instance : Enc Jv:=⟨17,368,fun x=>.agg [.str x.Layout.Name,Jg .frozen x.Layout.Sections,Jg .frozen x.Layout.Elements,Jg .frozen x.Layout.Joints,Jg .frozen x.Layout.Signals,Jg .frozen x.Layout.Balises,Jg .frozen x.Table.Routes,Jg .frozen x.Table.Points,Jg .frozen x.Table.Homes,I6 x.Table.Sections,I6 x.Table.Signals,Jg .frozen x.Inter.Routes,Jg .frozen x.Inter.Lies,Jg .frozen x.Slow,Jg .frozen x.Trains,Jg .frozen x.Center.Tracks,Jg .frozen x.Center.Sessions]⟩
instance : Inhabited Jv:=⟨⟨default,default,default,[],[],default⟩⟩
def Qy : List Qc:=[(Qc.mk 1 0 1 0),(Qc.mk 1 1 0 0),(Qc.mk 2 0 1 1),(Qc.mk 2 0 2 2),(Qc.mk 2 1 0 1),(Qc.mk 2 2 0 2),(Qc.mk 3 0 1 0),(Qc.mk 3 1 0 0),(Qc.mk 3 2 3 0),(Qc.mk 3 3 2 0)]
def Gt : List Int:=[0,2,3,4]
def GlS : Nat->Option (List PV)
 | 0=>some (Qy.flatMap cellsOf)
 | 1=>some (Gt.flatMap cellsOf)
 | _=>none
abbrev Cp{α:Type}(D:Option α):=@Ct prog GlS α D
def Rm(a0:Ja):Option Bool :=
 ((bif decide (((a0.Elements.length:Nat):Int)<=40) then (
  some (decide (((a0.Joints.length:Nat):Int)<=80))
 ) else some false)).bind fun b1=>
 ((bif b1 then (
  some (decide (((a0.Signals.length:Nat):Int)<=30))
 ) else some false)).bind fun b2=>
 ((bif b2 then (
  some (decide (((a0.Balises.length:Nat):Int)<=40))
 ) else some false)).bind fun b3=>
 ((bif b3 then (
  some (decide (((a0.Sections.length:Nat):Int)<=40))
 ) else some false)).bind fun b4=>
 some b4
theorem Jjf(a0:Ja)(r:Bool)(h:Rm a0=some r):Yr prog GlS 8 [Enc.pv a0] (Enc.pv r):=by
 unfold Rm at h;refine zG f8 ?_;refine w6 a0.Elements (el 2 (.b 2 5 12 (.g 0 .s .z) (.b 1 5 18 (.g 0 .s .z) (.b 1 5 24 (.g 0 .s .z) (.b 1 5 30 (.g 0 .s .z) z1))))) ?_ ?_ ?_ ?_ t0 t0
 ·intro _ h;exact yl 2 a0.Joints (w1 n0 .z t0)
 ·intro _ _ h;exact yl 2 a0.Signals (w1 n0 .z t0)
 ·intro _ _ _ h;exact yl 2 a0.Balises (w1 n0 .z t0)
 intro _ _ _ _ h;exact yl 2 a0.Sections (w1 n0 .z t0)
def Jek : (Int×(List Kg))->Option ((Int×(List Kg))⊕((List Kg)⊕Ja)):=fun (x6,x7)=>
 bif decide (x6<(([(ByteArray.mk #[97]),(ByteArray.mk #[98]),(ByteArray.mk #[99])].length:Nat):Int)) then (
  (ixO [(ByteArray.mk #[97]),(ByteArray.mk #[98]),(ByteArray.mk #[99])] x6).bind fun x11=>
  (Qd x7 [(Kg.mk x11 1 20000 0 1000 0 x6)]).bind fun x12=>
  some (.inl (w64 (x6+1),x12))
 ) else (
  some (.inr (.inl x7))
 )
def Jc8 : Option Ja :=
 onInl (Jq (Jek) (0,[])) fun x10=>
 some (Ja.mk (ByteArray.mk #[108,105,110,101]) [(ByteArray.mk #[97]),(ByteArray.mk #[98]),(ByteArray.mk #[99])] x10 [(Uu.mk (Je.mk 0 1) (Je.mk 1 0)),(Uu.mk (Je.mk 1 1) (Je.mk 2 0))] [(Kj.mk (ByteArray.mk #[115,49]) (Je.mk 0 1) 0),(Kj.mk (ByteArray.mk #[115,50]) (Je.mk 1 1) 0)] [])
theorem Jky(r:Ja)(h:Jc8=some r):Yr prog GlS 27 [] (Enc.pv r):=by
 unfold Jc8 at h;refine zG f27 ?_;refine w1 (([(ByteArray.mk #[97]),(ByteArray.mk #[98]),(ByteArray.mk #[99])]:(List ByteArray))) (ee (.l 2 S1)) ?_;intro h;refine Jm (Kk (Kw (Ob 1 2 200102 7 64 (cs:=[.str (ByteArray.mk #[108,105,110,101]),Jg .full ([(ByteArray.mk #[97]),(ByteArray.mk #[98]),(ByteArray.mk #[99])]:(List ByteArray)),.nil,.nil,Jg .full ([(Kj.mk (ByteArray.mk #[115,49]) (Je.mk 0 1) 0),(Kj.mk (ByteArray.mk #[115,50]) (Je.mk 1 1) 0)]:(List Kj)),.nil]) kr kr kr) ?_));refine uM 37 0 [14] (fun s (x6,x7)=>⟨(14,I6 x6)::gt s [0,1,12,13],(1,.cells ([.str (ByteArray.mk #[108,105,110,101]),Jg .full ([(ByteArray.mk #[97]),(ByteArray.mk #[98]),(ByteArray.mk #[99])]:(List ByteArray)),Jg (.own 200102) x7,.nil,Jg .full ([(Kj.mk (ByteArray.mk #[115,49]) (Je.mk 0 1) 0),(Kj.mk (ByteArray.mk #[115,50]) (Je.mk 1 1) 0)]:(List Kj)),.nil]))::gh s [0],[(200102,(((x7).map cellsOf).length,7))],[]⟩) h ?_ ?_
 ·rintro ⟨x6,x7⟩ _ h;unfold Jek at h;exact w1 n0 (ec (.i 1 (ew 6 z2)) .z) t0
 intro x10 s' h hs;exact w1 n0 z2 t0
def Lx(a0:Ja):(Int×(List ByteArray))->Option ((Int×(List ByteArray))⊕((List ByteArray)⊕Wt)):=fun (x7,x8)=>
 bif decide (x7<((a0.Elements.length:Nat):Int)) then (
  (ixO a0.Elements x7).bind fun x12=>
  (Qd x8 [x12.Name]).bind fun x13=>
  some (.inl (w64 (x7+1),x13))
 ) else (
  some (.inr (.inl x8))
 )
def Lj(a0:Ja):(Int×(List ByteArray))->Option ((Int×(List ByteArray))⊕((List ByteArray)⊕Wt)):=fun (x19,x20)=>
 bif decide (x19<((a0.Signals.length:Nat):Int)) then (
  (ixO a0.Signals x19).bind fun x24=>
  (Qd x20 [x24.Name]).bind fun x25=>
  some (.inl (w64 (x19+1),x25))
 ) else (
  some (.inr (.inl x20))
 )
def Ij(a0:Ja):Option Wt :=
 (Qd ([]:(List ByteArray)) a0.Sections).bind fun x1=>
 onInl (Jq (Lx a0) (0,[])) fun x11=>
 onInl (Jq (Lj a0) (0,[])) fun x23=>
 some (Wt.mk x1 x11 x23)
instance (a0:Ja):Cp (Ij a0) 223 [Enc.pv a0] Enc.pv:=⟨fun r h=>by
 unfold Ij at h;refine zG f223 ?_;refine w1 n0 X2 ?_;intro x1 h1 h;refine zR 4 (Md (tk:=13) h1 kr (w1 a0.Elements (el 2 S1) ?_));intro h;refine Jm (Kk (Kw (Ob 3 1 200301 1 16 (cs:=[Jg (.own 13) x1,.nil,.nil]) kr kr kr) ?_));refine uM 46 0 [18] (fun s (x7,x8)=>⟨(18,I6 x7)::gt s [1,2,3,16,17],(3,.cells ([Jg (.own 13) x1,Jg (.own 200301) x8,.nil]))::gh s [1,2],(200301,(((x8).map cellsOf).length,1))::gT s [13],[]⟩) h ?_ ?_
 ·rintro ⟨x7,x8⟩ _ h;unfold Lx at h;exact w1 n0 (ec (.i 0 (ew 5 z2)) .z) t0
 intro x11 s' h hs;refine w1 a0.Signals (.l 2 S1) ?_;intro h;refine Jm (Kk (Kw (Ob 3 2 200302 1 16 (cs:=[Jg (.own 13) x1,Jg (.own 200301) x11,.nil]) kr kr kr) ?_));refine uM 46 2 [33] (fun s (x19,x20)=>⟨(33,I6 x19)::gt s [2,3,31,32],(3,.cells ([Jg (.own 13) x1,Jg (.own 200301) x11,Jg (.own 200302) x20]))::gh s [2],(200302,(((x20).map cellsOf).length,1))::gT s [13,200301],[]⟩) h ?_ ?_
 ·rintro ⟨x19,x20⟩ _ h;unfold Lj at h;exact w1 n0 (ec (.i 0 (ew 5 z2)) .z) t0
 intro x23 s' h hs;exact w1 n0 z1 t0⟩
def Np(a0:ByteArray):Int->Option (Int⊕(Unit⊕Bool)):=fun x9=>
 bif decide (x9<((a0.size:Nat):Int)) then (
  (Jny a0 x9).bind fun x18=>
  ((bif decide (97<=x18) then (
   (Jny a0 x9).bind fun x20=>
   some (decide (x20<=122))
  ) else some false)).bind fun b19=>
  (Jny a0 x9).bind fun x21=>
  ((bif decide (48<=x21) then (
   (Jny a0 x9).bind fun x23=>
   some (decide (x23<=57))
  ) else some false)).bind fun b22=>
  ((bif b22 then some true else (
   (Jny a0 x9).bind fun x25=>
   some (decide (x25=95))
  ))).bind fun b24=>
  bif ((!b19)&&((!b24)||(decide (x9=0)))) then (
   some (.inr (.inr false))
  ) else (
   some (.inl (w64 (x9+1)))
  )
 ) else (
  some (.inr (.inl ()))
 )
def Gz(a0:ByteArray):Option Bool :=
 onInl (Jq (Np a0) 0) fun _=>
 some ((decide (1<=((a0.size:Nat):Int)))&&(decide (((a0.size:Nat):Int)<=12)))
instance (a0:ByteArray):Cp (Gz a0) 88 [Enc.pv a0] Enc.pv:=⟨fun r h=>by
 unfold Gz at h;refine zG f88 ?_;refine w1 n0 s2 ?_;intro h;refine uN 56 0 [3] (fun _ x9=>⟨[(0,.str a0),(3,I6 x9)],[],[],[]⟩) h ?_ ?_
 ·intro x9 _ h;unfold Np at h;refine w1 n0 (ec .x .z) ?_;intro _ h21 h;refine zR 2 (Jln h21 kr ?_);refine w6 n0 (.b 2 5 21 (.g 0 .x .z) X1) ?_ ?_ t0 t0 t0 t0
  ·intro _ _ h23 h;exact zR 2 (Jln h23 kr (w1 n0 .z t0))
  intro _ _ h24 h;refine zR 2 (Jln h24 kr ?_);refine w6 n0 (.b 2 5 31 (.g 0 .x .z) (.b 1 5 37 (.g 0 .z .x) (.e (.o 3 7 47 0 (ec z1 z1))))) ?_ ?_ t0 t0 t0 t0
  ·intro _ _ h26 h;exact zR 2 (Jln h26 kr (w1 n0 .z t0))
  intro _ _ _ h28 h;exact zR 2 (Jln h28 kr (w1 n0 .z t0))
 intro _ s' h hs;exact w1 n0 (.o 4 4 55 0 z1) t0⟩
def Jdp(a0:(List ByteArray))(x8:Int):Int->Option (Int⊕(Unit⊕(Int⊕(Unit⊕Bool)))):=fun x18=>
 bif decide (x18<x8) then (
  (ixO a0 x8).bind fun x21=>
  (ixO a0 x18).bind fun x22=>
  bif decide (x21=x22) then (
   some (.inr (.inr (.inr (.inr true))))
  ) else (
   some (.inl (w64 (x18+1)))
  )
 ) else (
  some (.inr (.inl ()))
 )
def Jdn(a0:(List ByteArray)):Int->Option (Int⊕(Unit⊕Bool)):=fun x8=>
 bif decide (x8<((a0.length:Nat):Int)) then (
  onInl (Jq (Jdp a0 x8) 0) fun _=>
  some (.inl (w64 (x8+1)))
 ) else (
  some (.inr (.inl ()))
 )
def Ev(a0:(List ByteArray)):Option Bool :=
 onInl (Jq (Jdn a0) 0) fun _=>
 some false
instance (a0:(List ByteArray)):Cp (Ev a0) 224 [Enc.pv a0] Enc.pv:=⟨fun r h=>by
 unfold Ev at h;refine zG f224 ?_;refine w1 a0 (el 1 s1) ?_;intro h;refine uN 25 0 [7] (fun s x8=>⟨(7,I6 x8)::gt s [0,6],[],[],[]⟩) h ?_ ?_
 ·intro x8 _ h;unfold Jdn at h;refine w1 n0 (ec s2 .z) ?_;intro h;refine uN 25 2 [11] (fun s x18=>⟨(11,I6 x18)::gt s [0,3,6,7,10],[],[],[]⟩) h ?_ ?_
  ·intro x18 _ h;unfold Jdp at h;exact w1 n0 (ec (ei 2 (.i 3 (ec z1 z1))) .z) t0
  intro _ s' h hs;exact w1 n0 z1 t0
 intro _ s' h hs;exact w1 n0 z1 t0⟩
def Li(x9:(List ByteArray)):Int->Option (Int⊕(Unit⊕Int)):=fun x12=>
 bif decide (x12<((x9.length:Nat):Int)) then (
  (ixO x9 x12).bind fun x15=>
  (Gz x15).bind fun r16=>
  bif (!r16) then (
   some (.inr (.inr 3))
  ) else (
   some (.inl (w64 (x12+1)))
  )
 ) else (
  some (.inr (.inl ()))
 )
def Ii(a0:Ja):Option Int :=
 ((bif decide (((a0.Elements.length:Nat):Int)<1) then some true else (
  some (decide (32<((a0.Elements.length:Nat):Int)))
 ))).bind fun b1=>
 ((bif b1 then some true else (
  some (decide (((a0.Sections.length:Nat):Int)<1))
 ))).bind fun b2=>
 ((bif b2 then some true else (
  some (decide (24<((a0.Sections.length:Nat):Int)))
 ))).bind fun b3=>
 ((bif b3 then some true else (
  some (decide (20<((a0.Signals.length:Nat):Int)))
 ))).bind fun b4=>
 ((bif b4 then some true else (
  some (decide (24<((a0.Balises.length:Nat):Int)))
 ))).bind fun b5=>
 bif b5 then (
  some 2
 ) else (
  (Ij a0).bind fun r6=>
  (Qd [a0.Name] r6.x0).bind fun x7=>
  (Qd x7 r6.x1).bind fun x8=>
  (Qd x8 r6.x2).bind fun x9=>
  onInl (Jq (Li x9) 0) fun _=>
  (Ev r6.x0).bind fun r17=>
  ((bif r17 then some true else (
   (Ev r6.x1).bind fun r19=>
   some r19
  ))).bind fun b18=>
  ((bif b18 then some true else (
   (Ev r6.x2).bind fun r21=>
   some r21
  ))).bind fun b20=>
  bif b20 then (
   some 8
  ) else (
   some 0
  )
 )
instance (a0:Ja):Cp (Ii a0) 152 [Enc.pv a0] Enc.pv:=⟨fun r h=>by
 unfold Ii at h;refine zG f152 ?_;refine w6 a0.Elements (el 2 (.b 2 5 15 (.g 0 .z (.l 2 .z)) (.b 1 5 21 (.g 0 .z .s) (.b 1 5 27 (.g 0 .z .s) (.b 1 5 33 (.g 0 .z .s) (.b 1 5 39 (.g 0 .z .s) (ec z1 (.p 1 X1)))))))) ?_ ?_ ?_ ?_ ?_ t0
 ·intro _ _ h;exact yl 2 a0.Sections (w1 n0 .z t0)
 ·intro _ _ _ h;exact yl 2 a0.Sections (w1 n0 .z t0)
 ·intro _ _ _ _ h;exact yl 2 a0.Signals (w1 n0 .z t0)
 ·intro _ _ _ _ _ h;exact yl 2 a0.Balises (w1 n0 .z t0)
 intro _ _ _ _ _ _ _ h7 h;refine zR 5 (Md (tk:=47) h7 kr (w1 n0 (.w 2 (.w 2 .s)) ?_));intro _ x9 h;refine yl 0 x9 (w1 n0 s1 ?_);intro h;refine uN 76 0 [55] (fun s x12=>⟨(55,I6 x12)::gt s [3,53,54],gh s [3],gT s [47],[]⟩) h ?_ ?_
 ·intro x12 _ h;unfold Li at h;exact w1 n0 (ec (.i 0 (ep 1 (ec z1 z1))) .z) t0
 intro _ s' h hs;exact w1 n0 (.p 2 (.b 1 4 70 (.g 0 .z (.p 2 .z)) (.b 1 4 75 (.g 0 .z (.p 2 .z)) (ec z1 z1)))) t0⟩
def Iq(a0:Ja)(a1:Kg):Option Bool :=
 ((bif (((((((((decide (a1.Kind<1))||(decide (3<a1.Kind)))||(decide (a1.Length<500)))||(decide (1000000<a1.Length)))||(decide (a1.Grade<(-50))))||(decide (50<a1.Grade)))||(decide (a1.Speed<100)))||(decide (10000<a1.Speed)))||(decide (a1.Section<0))) then some true else (
  some (decide (((a0.Sections.length:Nat):Int)<=a1.Section))
 ))).bind fun b1=>
 bif b1 then (
  some false
 ) else (
  bif decide (a1.Kind=2) then (
   some ((decide (100<=a1.Slow))&&(decide (a1.Slow<=a1.Speed)))
  ) else (
   some (decide (a1.Slow=0))
  )
 )
instance (a0:Ja)(a1:Kg):Cp (Iq a0 a1) 225 [Enc.pv a0,Enc.pv a1] Enc.pv:=⟨fun r h=>by
 unfold Iq at h;refine zG f225 ?_;exact w1 a0.Sections (.e (.o 4 4 12 7 (.o 1 4 17 6 (.o 1 4 22 5 (.o 1 4 27 4 (.o 1 4 32 3 (.o 1 4 37 2 (.o 1 4 42 1 (.o 1 4 47 0 (.b 1 7 55 (.g 0 .z (.l 4 .z)) (ec z1 (ec (.o 4 6 68 0 z1) z1)))))))))))) t0⟩
def Fr(a0:Ja)(a1:Int):(Int×(List Int))->Option ((Int×(List Int))⊕((List Int)⊕(List Int))):=fun (x16,x17)=>
 bif decide (x16<((a0.Elements.length:Nat):Int)) then (
  onInl (α:=(List Int)) (β:=((Int×(List Int))⊕((List Int)⊕(List Int)))) (
   (ixO a0.Elements x16).bind fun x30=>
   ((bif ((decide (x30.Section=a1))&&(decide (0<=a1))) then (
    some (decide (a1<((a0.Sections.length:Nat):Int)))
   ) else some false)).bind fun b31=>
   bif b31 then (
    (Qd x17 [x16]).bind fun x32=>
    some (.inl x32)
   ) else (
    some (.inl x17)
   )
  ) fun x29=>
  some (.inl (w64 (x16+1),x29))
 ) else (
  some (.inr (.inl x17))
 )
def Cc(a0:Ja)(a1:Int):Option (List Int) :=
 onInl (Jq (Fr a0 a1) (0,[])) fun x25=>
 some x25
instance (a0:Ja)(a1:Int):Cp (Cc a0 a1) 226 [Enc.pv a0,Enc.pv a1] (fun r=>Jg (.own 100005) r):=⟨fun r h=>by
 unfold Cc at h;refine zG f226 ?_;refine w1 a0.Elements (ee (.l 2 S1)) ?_;intro h;refine Jm (Kk (Wh 5 100005 1 8 kr kr ?_));refine uM 37 0 [11] (fun s (x16,x17)=>⟨(5,Jg (.own 100005) x17)::(11,I6 x16)::gt s [1,2,9,10],gh s [2],[(100005,(((x17).map cellsOf).length,1))],[]⟩) h ?_ ?_
 ·rintro ⟨x16,x17⟩ _ h;unfold Fr at h;refine w1 n0 (ec .s .z) ?_;intro h;refine uJ 37 (fun s x29=>⟨(5,Jg (.own 100005) x29)::gt s [1,2,9,10,11],gh s [2],[(100005,(((x29).map cellsOf).length,1))],[]⟩) h ?_ ?_
  ·intro _ h;exact w1 a0.Sections (.i 1 (.e (.o 5 3 23 0 (.b 1 6 30 (.g 0 (.l 3 .z) .z) (ec (.w 3 z1) .z))))) t0
  intro x29 h;exact w1 n0 z1 t0
 intro x25 s' h hs;exact w1 n0 z1 t0⟩
def Ey(a0:Int):Option Int :=
 bif decide (a0=1) then (
  some 2
 ) else (
  bif decide (a0=2) then (
   some 3
  ) else (
   bif decide (a0=3) then (
    some 4
   ) else (
    some 0
   )
  )
 )
instance (a0:Int):Cp (Ey a0) 260 [Enc.pv a0] Enc.pv:=⟨fun r h=>by
 unfold Ey at h;refine zG f260 ?_;exact w1 n0 (ee (ec z1 (ec z1 (ec z1 z1)))) t0⟩
def Bm(a0:Ja)(a1:Je):Option Bool :=
 ((bif decide (0<=a1.El) then (
  some (decide (a1.El<((a0.Elements.length:Nat):Int)))
 ) else some false)).bind fun b1=>
 ((bif (b1&&(decide (0<=a1.Side))) then (
  (ixO a0.Elements a1.El).bind fun x3=>
  (Ey x3.Kind).bind fun r4=>
  some (decide (a1.Side<r4))
 ) else some false)).bind fun b2=>
 some b2
instance (a0:Ja)(a1:Je):Cp (Bm a0 a1) 227 [Enc.pv a0,Enc.pv a1] Enc.pv:=⟨fun r h=>by
 unfold Bm at h;refine zG f227 ?_;exact w1 a0.Elements (.e (.b 4 7 15 (.g 0 (.l 4 .z) .z) (.o 1 4 20 0 (.b 1 12 33 (.g 0 (.i 6 (.p 2 .z)) .z) z1)))) t0⟩
def Jeo(a0:(List Je))(x8:Int):Int->Option (Int⊕(Unit⊕(Int⊕(Unit⊕Bool)))):=fun x18=>
 bif decide (x18<x8) then (
  (ixO a0 x8).bind fun x21=>
  (ixO a0 x18).bind fun x22=>
  bif Kc x21 x22 then (
   some (.inr (.inr (.inr (.inr true))))
  ) else (
   some (.inl (w64 (x18+1)))
  )
 ) else (
  some (.inr (.inl ()))
 )
def Jev(a0:(List Je)):Int->Option (Int⊕(Unit⊕Bool)):=fun x8=>
 bif decide (x8<((a0.length:Nat):Int)) then (
  onInl (Jq (Jeo a0 x8) 0) fun _=>
  some (.inl (w64 (x8+1)))
 ) else (
  some (.inr (.inl ()))
 )
def Oo(a0:(List Je)):Option Bool :=
 onInl (Jq (Jev a0) 0) fun _=>
 some false
instance (a0:(List Je)):Cp (Oo a0) 228 [Enc.pv a0] Enc.pv:=⟨fun r h=>by
 unfold Oo at h;refine zG f228 ?_;refine w1 a0 (el 1 s1) ?_;intro h;refine uN 25 0 [7] (fun s x8=>⟨(7,I6 x8)::gt s [0,6],[],[],[]⟩) h ?_ ?_
 ·intro x8 _ h;unfold Jev at h;refine w1 n0 (ec s2 .z) ?_;intro h;refine uN 25 2 [11] (fun s x18=>⟨(11,I6 x18)::gt s [0,3,6,7,10],[],[],[]⟩) h ?_ ?_
  ·intro x18 _ h;unfold Jeo at h;exact w1 n0 (ec (ei 2 (.i 3 (ec z1 z1))) .z) t0
  intro _ s' h hs;exact w1 n0 z1 t0
 intro _ s' h hs;exact w1 n0 z1 t0⟩
def Ea(a0:Ja):Int->Option (Int⊕(Unit⊕Int)):=fun x3=>
 bif decide (x3<((a0.Elements.length:Nat):Int)) then (
  (ixO a0.Elements x3).bind fun x6=>
  (Iq a0 x6).bind fun r7=>
  bif (!r7) then (
   some (.inr (.inr 1))
  ) else (
   some (.inl (w64 (x3+1)))
  )
 ) else (
  some (.inr (.inl ()))
 )
def Ed(a0:Ja):Int->Option (Int⊕(Unit⊕Int)):=fun x9=>
 bif decide (x9<((a0.Sections.length:Nat):Int)) then (
  (Cc a0 x9).bind fun r11=>
  bif decide (((r11.length:Nat):Int)=0) then (
   some (.inr (.inr 1))
  ) else (
   some (.inl (w64 (x9+1)))
  )
 ) else (
  some (.inr (.inl ()))
 )
def Dv(a0:Ja):(Int×(List Je))->Option ((Int×(List Je))⊕((List Je)⊕Int)):=fun (x23,x24)=>
 bif decide (x23<((a0.Joints.length:Nat):Int)) then (
  (ixO a0.Joints x23).bind fun x31=>
  (Bm a0 x31.A).bind fun r32=>
  ((bif (!r32) then some true else (
   (Bm a0 x31.B).bind fun r34=>
   some (!r34)
  ))).bind fun b33=>
  bif (b33||(Kc x31.A x31.B)) then (
   some (.inr (.inr 1))
  ) else (
   (Qd x24 [x31.A,x31.B]).bind fun x35=>
   some (.inl (w64 (x23+1),x35))
  )
 ) else (
  some (.inr (.inl x24))
 )
def Zx(a0:Ja):Option Int :=
 onInl (Jq (Ea a0) 0) fun _=>
 onInl (Jq (Ed a0) 0) fun _=>
 onInl (Jq (Dv a0) (0,[])) fun x30=>
 (Oo x30).bind fun r36=>
 bif r36 then (
  some 8
 ) else (
  some 0
 )
instance (a0:Ja):Cp (Zx a0) 153 [Enc.pv a0] Enc.pv:=⟨fun r h=>by
 unfold Zx at h;refine zG f153 ?_;refine w1 a0.Elements (el 2 s1) ?_;intro h;refine uN 69 0 [12] (fun s x3=>⟨(12,I6 x3)::gt s [1,10,11],gh s [1],[],[]⟩) h ?_ ?_
 ·intro x3 _ h;unfold Ea at h;exact w1 n0 (ec (.i 0 (ep 2 (ec z1 z1))) .z) t0
 intro _ s' h hs;refine w1 a0.Sections (.l 2 s1) ?_;intro h;refine uN 69 2 [24] (fun s x9=>⟨(24,I6 x9)::gt s [1,23],gh s [1],[],[]⟩) h ?_ ?_
 ·intro x9 _ h;unfold Ed at h;refine w1 n0 (ec (ep 2 .s) .z) ?_;intro r11 h;exact yl 0 r11 (w1 n0 (ec z1 z1) t0)
 intro _ s' h hs;refine w1 a0.Joints (el 2 S1) ?_;intro h;refine Jm (Kk (Wh 6 100006 2 16 kr kr ?_));refine uM 69 4 [36] (fun s (x23,x24)=>⟨(6,Jg (.own 100006) x24)::(36,I6 x23)::gt s [1,34,35],gh s [1],[(100006,(((x24).map cellsOf).length,2))],[]⟩) h ?_ ?_
 ·rintro ⟨x23,x24⟩ _ h;unfold Dv at h;exact w1 n0 (ec (.i 0 (ep 3 (.b 2 6 51 (.g 0 .z (.p 3 .z)) (.o 1 6 58 0 (ec z1 (.w 6 z2)))))) .z) t0
 intro x30 s' h hs;exact w1 n0 (.p 1 (ec z1 z1)) t0⟩
def Hj(a0:Ja)(a1:Je):Int->Option (Int⊕(Unit⊕(Je×Bool))):=fun x2=>
 bif decide (x2<((a0.Joints.length:Nat):Int)) then (
  (ixO a0.Joints x2).bind fun x4=>
  bif Kc x4.A a1 then (
   some (.inr (.inr (x4.B,true)))
  ) else (
   bif Kc x4.B a1 then (
    some (.inr (.inr (x4.A,true)))
   ) else (
    some (.inl (w64 (x2+1)))
   )
  )
 ) else (
  some (.inr (.inl ()))
 )
def Wn(a0:Ja)(a1:Je):Option (Je×Bool) :=
 onInl (Jq (Hj a0 a1) 0) fun _=>
 some ((Je.mk 0 0),false)
instance (a0:Ja)(a1:Je):Cp (Wn a0 a1) 131 [Enc.pv a0,Enc.pv a1] (fun r=>.tup [Enc.pv r.1,Enc.pv r.2]):=⟨fun r h=>by
 unfold Wn at h;refine zG f131 ?_;refine w1 a0.Joints (el 2 s1) ?_;intro h;refine uN 29 0 [11] (fun s x2=>⟨(11,I6 x2)::gt s [3,4,9,10],gh s [3,4],[],[]⟩) h ?_ ?_
 ·intro x2 _ h;unfold Hj at h;exact w1 n0 (ec (.i 0 (ee (.c z1 (ec z1 z1)))) .z) t0
 intro _ s' h hs;exact w1 n0 z1 t0⟩
def Fv(a0:Ja):(Int×(List Je))->Option ((Int×(List Je))⊕((List Je)⊕Int)):=fun (x8,x9)=>
 bif decide (x8<((a0.Signals.length:Nat):Int)) then (
  (ixO a0.Signals x8).bind fun x14=>
  (Bm a0 x14.At).bind fun r15=>
  bif (((!r15)||(decide (x14.Overlap<0)))||(decide (1000000<x14.Overlap))) then (
   some (.inr (.inr 1))
  ) else (
   (Qd x9 [x14.At]).bind fun x16=>
   some (.inl (w64 (x8+1),x16))
  )
 ) else (
  some (.inr (.inl x9))
 )
def Fo(a0:Ja)(x13:(List Je)):Int->Option (Int⊕(Unit⊕Int)):=fun x23=>
 bif decide (x23<((x13.length:Nat):Int)) then (
  (ixO x13 x23).bind fun x29=>
  (Wn a0 x29).bind fun r30=>
  ((bif (!r30.2) then some true else (
   (ixO a0.Elements r30.1.El).bind fun x32=>
   (ixO a0.Elements x29.El).bind fun x33=>
   some (decide (x32.Section=x33.Section))
  ))).bind fun b31=>
  bif b31 then (
   some (.inr (.inr 14))
  ) else (
   some (.inl (w64 (x23+1)))
  )
 ) else (
  some (.inr (.inl ()))
 )
def Ca(a0:Ja):Option Int :=
 onInl (Jq (Fv a0) (0,[])) fun x13=>
 (Oo x13).bind fun r17=>
 bif r17 then (
  some 8
 ) else (
  onInl (Jq (Fo a0 x13) 0) fun _=>
  some 0
 )
instance (a0:Ja):Cp (Ca a0) 154 [Enc.pv a0] Enc.pv:=⟨fun r h=>by
 unfold Ca at h;refine zG f154 ?_;refine w1 a0.Signals (ee (.l 2 S1)) ?_;intro h;refine Jm (Kk (Wh 3 100003 2 16 kr kr ?_));refine uM 72 0 [13] (fun s (x8,x9)=>⟨(3,Jg (.own 100003) x9)::(13,I6 x8)::gt s [1,11,12],gh s [1],[(100003,(((x9).map cellsOf).length,2))],[]⟩) h ?_ ?_
 ·rintro ⟨x8,x9⟩ _ h;unfold Fv at h;exact w1 n0 (ec (.i 0 (ep 3 (.o 2 4 26 1 (.o 1 4 31 0 (ec z1 (.w 4 z2)))))) .z) t0
 intro x13 s' h hs;refine w1 x13 (.p 1 (ec z1 (.l 1 s1))) ?_;intro _ h;refine uN 72 2 [42] (fun s x23=>⟨(42,I6 x23)::gt s [1,40,41],gh s [1],gT s [100003],[]⟩) h ?_ ?_
 ·intro x23 _ h;unfold Fo at h;exact w1 n0 (ec (.i 0 (ep 2 (.e (.b 3 16 70 (.g 0 .z (.i 4 (.i 6 .z))) (ec z1 z1))))) .z) t0
 intro _ s' h hs;exact w1 n0 z1 t0⟩
def Jbg(a0:(List Int))(x8:Int):Int->Option (Int⊕(Unit⊕(Int⊕(Unit⊕Bool)))):=fun x18=>
 bif decide (x18<x8) then (
  (ixO a0 x8).bind fun x21=>
  (ixO a0 x18).bind fun x22=>
  bif decide (x21=x22) then (
   some (.inr (.inr (.inr (.inr true))))
  ) else (
   some (.inl (w64 (x18+1)))
  )
 ) else (
  some (.inr (.inl ()))
 )
def Jbi(a0:(List Int)):Int->Option (Int⊕(Unit⊕Bool)):=fun x8=>
 bif decide (x8<((a0.length:Nat):Int)) then (
  onInl (Jq (Jbg a0 x8) 0) fun _=>
  some (.inl (w64 (x8+1)))
 ) else (
  some (.inr (.inl ()))
 )
def Lo(a0:(List Int)):Option Bool :=
 onInl (Jq (Jbi a0) 0) fun _=>
 some false
instance (a0:(List Int)):Cp (Lo a0) 229 [Enc.pv a0] Enc.pv:=⟨fun r h=>by
 unfold Lo at h;refine zG f229 ?_;refine w1 a0 (el 1 s1) ?_;intro h;refine uN 25 0 [7] (fun s x8=>⟨(7,I6 x8)::gt s [0,6],[],[],[]⟩) h ?_ ?_
 ·intro x8 _ h;unfold Jbi at h;refine w1 n0 (ec s2 .z) ?_;intro h;refine uN 25 2 [11] (fun s x18=>⟨(11,I6 x18)::gt s [0,3,6,7,10],[],[],[]⟩) h ?_ ?_
  ·intro x18 _ h;unfold Jbg at h;exact w1 n0 (ec (ei 2 (.i 3 (ec z1 z1))) .z) t0
  intro _ s' h hs;exact w1 n0 z1 t0
 intro _ s' h hs;exact w1 n0 z1 t0⟩
def Ft(a0:Ja):(Int×(List Int))->Option ((Int×(List Int))⊕((List Int)⊕Int)):=fun (x12,x13)=>
 bif decide (x12<((a0.Balises.length:Nat):Int)) then (
  (ixO a0.Balises x12).bind fun x20=>
  ((bif (((decide (x20.Id<1))||(decide (1073741824<x20.Id)))||(decide (x20.El<0))) then some true else (
   some (decide (((a0.Elements.length:Nat):Int)<=x20.El))
  ))).bind fun b21=>
  ((bif (b21||(decide (x20.Offset<0))) then some true else (
   (ixO a0.Elements x20.El).bind fun x23=>
   some (decide (x23.Length<x20.Offset))
  ))).bind fun b22=>
  bif b22 then (
   some (.inr (.inr 1))
  ) else (
   (Qd x13 [x20.Id]).bind fun x24=>
   some (.inl (w64 (x12+1),x24))
  )
 ) else (
  some (.inr (.inl x13))
 )
def Ce(a0:Ja):Option Int :=
 onInl (Jq (Ft a0) (0,[])) fun x19=>
 (Lo x19).bind fun r25=>
 bif r25 then (
  some 8
 ) else (
  some 0
 )
instance (a0:Ja):Cp (Ce a0) 155 [Enc.pv a0] Enc.pv:=⟨fun r h=>by
 unfold Ce at h;refine zG f155 ?_;refine w1 a0.Balises (ee (.l 2 S1)) ?_;intro h;refine Jm (Kk (Wh 3 100003 1 8 kr kr ?_));refine uM 59 0 [9] (fun s (x12,x13)=>⟨(3,Jg (.own 100003) x13)::(9,I6 x12)::gt s [1,7,8],gh s [1],[(100003,(((x13).map cellsOf).length,1))],[]⟩) h ?_ ?_
 ·rintro ⟨x12,x13⟩ _ h;unfold Ft at h;exact w1 a0.Elements (ec (.i 0 (.e (.o 4 4 20 1 (.o 1 4 25 0 (.b 1 7 33 (.g 0 .z (.l 4 .z)) (.o 1 4 38 0 (.b 1 11 50 (.g 0 .z (.i 6 .z)) (ec z1 (.w 4 z2))))))))) .z) t0
 intro x19 s' h hs;exact w1 n0 (.p 1 (ec z1 z1)) t0⟩
def Fb(a0:Ja):Option Int :=
 (Ii a0).bind fun r1=>
 bif (!(decide (r1=0))) then (
  some r1
 ) else (
  (Zx a0).bind fun r2=>
  bif (!(decide (r2=0))) then (
   some r2
  ) else (
   (Ca a0).bind fun r3=>
   bif (!(decide (r3=0))) then (
    some r3
   ) else (
    (Ce a0).bind fun r4=>
    some r4
   )
  )
 )
instance (a0:Ja):Cp (Fb a0) 79 [Enc.pv a0] Enc.pv:=⟨fun r h=>by
 unfold Fb at h;refine zG f79 ?_;exact w1 n0 (ep 1 (ee (.c z1 (.p 1 (ee (.c z1 (.p 1 (ee (.c z1 (.p 1 z1)))))))))) t0⟩
def Yl(a0:Ja)(a1:Int):Option Bool :=
 ((bif decide (0<=a1) then (
  some (decide (a1<((a0.Elements.length:Nat):Int)))
 ) else some false)).bind fun b1=>
 some b1
instance (a0:Ja)(a1:Int):Cp (Yl a0 a1) 159 [Enc.pv a0,Enc.pv a1] Enc.pv:=⟨fun r h=>by
 unfold Yl at h;refine zG f159 ?_;exact w1 a0.Elements (.e (.b 3 6 13 (.g 0 (.l 3 .z) .z) z1)) t0⟩
def Cj(a0:Int)(a1:Int)(a2:Int):Option (Int×Bool) :=
 bif ((decide (a0=1))||(decide (a0=3))) then (
  some (0,(((decide ((min a1 a2)=0))&&(decide ((max a1 a2)=1)))||(((decide (a0=3))&&(decide ((min a1 a2)=2)))&&(decide ((max a1 a2)=3)))))
 ) else (
  bif (((decide (a0=2))&&(decide ((min a1 a2)=0)))&&(decide ((max a1 a2)=1))) then (
   some (1,true)
  ) else (
   bif (((decide (a0=2))&&(decide ((min a1 a2)=0)))&&(decide ((max a1 a2)=2))) then (
    some (2,true)
   ) else (
    some (0,false)
   )
  )
 )
instance (a0:Int)(a1:Int)(a2:Int):Cp (Cj a0 a1 a2) 254 [Enc.pv a0,Enc.pv a1,Enc.pv a2] (fun r=>.tup [Enc.pv r.1,Enc.pv r.2]):=⟨fun r h=>by
 unfold Cj at h;refine zC func254 ntmps254 ?_;refine Kb (Vn (zE (Jm (Kb (Vn (zE (Jm (Kb (Vn (zE (Jm (Kb (Kb (Vn (zR 3 ?_)))))))))))))));refine Jaf 3 21 ((decide (a0=1))||(decide (a0=3))) (fun x hx=>?_) ?_
 ·rcases Kdu hx with ⟨hb,hx⟩|⟨hb,hx⟩
  ·refine zS 18 hb ?_;subst hx;exact zF
  refine zS 18 hb ?_;subst hx;exact zF
 refine zN (Jm ?_);rcases Jja h with ⟨hb,h⟩|⟨hb,h⟩
 ·refine zT hb (Kb (Vn (zR 3 ?_)));refine Jaf 3 27 ((decide ((min a1 a2)=0))&&(decide ((max a1 a2)=1))) (fun x hx=>?_) ?_
  ·rcases Jh8 hx with ⟨hb,hx⟩|⟨hb,hx⟩
   ·refine zS 24 hb ?_;subst hx;exact zF
   refine zS 24 hb ?_;subst hx;exact zF
  refine zR 1 ?_;refine Jaf 11 39 (((decide ((min a1 a2)=0))&&(decide ((max a1 a2)=1)))||(((decide (a0=3))&&(decide ((min a1 a2)=2)))&&(decide ((max a1 a2)=3)))) (fun x hx=>?_) ?_
  ·rcases Kdu hx with ⟨hb,hx⟩|⟨hb,hx⟩
   ·refine zS 28 hb ?_;subst hx;exact zF
   refine zS 28 hb (zR 3 ?_);refine Jud 3 34 ((decide (a0=3))&&(decide ((min a1 a2)=2))) (fun x hx=>?_) ?_
   ·rcases Jh8 hx with ⟨hb,hx⟩|⟨hb,hx⟩
    ·refine zS 31 hb ?_;subst hx;exact zF
    refine zS 31 hb ?_;subst hx;exact zF
   refine zR 1 ?_;refine Jud 3 38 (((decide (a0=3))&&(decide ((min a1 a2)=2)))&&(decide ((max a1 a2)=3))) (fun x hx=>?_) ?_
   ·rcases Jh8 hx with ⟨hb,hx⟩|⟨hb,hx⟩
    ·refine zS 35 hb ?_;subst hx;exact zF
    refine zS 35 hb ?_;subst hx;exact zF
   subst hx;exact zF
  refine zE (Jm (Vw (Yw ?_)));cases h;exact zQ
 refine zU hb (Qv (Jm (Kb (Kb (Vn (zR 3 ?_))))));refine Jaf 3 45 ((decide (a0=2))&&(decide ((min a1 a2)=0))) (fun x hx=>?_) ?_
 ·rcases Jh8 hx with ⟨hb,hx⟩|⟨hb,hx⟩
  ·refine zS 42 hb ?_;subst hx;exact zF
  refine zS 42 hb ?_;subst hx;exact zF
 refine zR 1 ?_;refine Jaf 3 49 (((decide (a0=2))&&(decide ((min a1 a2)=0)))&&(decide ((max a1 a2)=1))) (fun x hx=>?_) ?_
 ·rcases Jh8 hx with ⟨hb,hx⟩|⟨hb,hx⟩
  ·refine zS 46 hb ?_;subst hx;exact zF
  refine zS 46 hb ?_;subst hx;exact zF
 refine zN (Jm ?_);rcases Jja h with ⟨hb,h⟩|⟨hb,h⟩
 ·refine zT hb (Kb (Vn (zE (Jm (Vw (Yw ?_))))));cases h;exact zQ
 refine zU hb (Qv (Jm (Kb (Kb (Vn (zR 3 ?_))))));refine Jaf 3 55 ((decide (a0=2))&&(decide ((min a1 a2)=0))) (fun x hx=>?_) ?_
 ·rcases Jh8 hx with ⟨hb,hx⟩|⟨hb,hx⟩
  ·refine zS 52 hb ?_;subst hx;exact zF
  refine zS 52 hb ?_;subst hx;exact zF
 refine zR 1 ?_;refine Jaf 3 59 (((decide (a0=2))&&(decide ((min a1 a2)=0)))&&(decide ((max a1 a2)=2))) (fun x hx=>?_) ?_
 ·rcases Jh8 hx with ⟨hb,hx⟩|⟨hb,hx⟩
  ·refine zS 56 hb ?_;subst hx;exact zF
  refine zS 56 hb ?_;subst hx;exact zF
 refine zN (Jm ?_);rcases Jja h with ⟨hb,h⟩|⟨hb,h⟩
 ·refine zT hb (Kb (Vn (zE (Jm (Vw (Yw ?_))))));cases h;exact zQ
 refine zU hb (Qv (Jm (Kb (Vn (zE (Jm (Vw ?_)))))));cases h;exact zQ⟩
def Gp(a0:Int)(a1:Int):(Int×(List Int))->Option ((Int×(List Int))⊕((List Int)⊕(List Int))):=fun (x12,x13)=>
 bif decide (x12<4) then (
  onInl (α:=(List Int)) (β:=((Int×(List Int))⊕((List Int)⊕(List Int)))) (
   (Cj a0 a1 x12).bind fun r23=>
   bif r23.2 then (
    (Qd x13 [x12]).bind fun x24=>
    some (.inl x24)
   ) else (
    some (.inl x13)
   )
  ) fun x22=>
  some (.inl (w64 (x12+1),x22))
 ) else (
  some (.inr (.inl x13))
 )
def Ee(a0:Int)(a1:Int):Option (List Int) :=
 onInl (Jq (Gp a0 a1) (0,[])) fun x19=>
 some x19
theorem Jk1(a0:Int)(a1:Int)(r:(List Int))(h:Ee a0 a1=some r):Yr prog GlS 201 [Enc.pv a0,Enc.pv a1] (Jg (.own 100005) r):=by
 unfold Ee at h;refine zG f201 ?_;refine w1 n0 (ee S1) ?_;intro h;refine Jm (Kk (Wh 5 100005 1 8 kr kr ?_));refine uM 26 0 [6] (fun s (x12,x13)=>⟨(5,Jg (.own 100005) x13)::(6,I6 x12)::gt s [0,1],[],[(100005,(((x13).map cellsOf).length,1))],[]⟩) h ?_ ?_
 ·rintro ⟨x12,x13⟩ _ h;unfold Gp at h;refine w1 n0 (ec .s .z) ?_;intro h;refine uJ 26 (fun s x22=>⟨(5,Jg (.own 100005) x22)::gt s [0,1,6],[],[(100005,(((x22).map cellsOf).length,1))],[]⟩) h ?_ ?_
  ·intro _ h;exact w1 n0 (.p 3 (ee (.c (.w 3 z1) .z))) t0
  intro x22 h;exact w1 n0 z1 t0
 intro x19 s' h hs;exact w1 n0 z1 t0
instance (a0:Int)(a1:Int):Cp (Ee a0 a1) 201 [Enc.pv a0,Enc.pv a1] Enc.pv:=⟨fun r h=>
 (Jk1 a0 a1 r h).freeze kr kr kr⟩
def Bi(a1:Je)(r3:(List Int)):(Int×(List Jb))->Option ((Int×(List Jb))⊕((List Jb)⊕(List Jb))):=fun (x9,x10)=>
 bif decide (x9<((r3.length:Nat):Int)) then (
  (ixO r3 x9).bind fun x14=>
  (Qd x10 [(Jb.mk a1.El a1.Side x14)]).bind fun x15=>
  some (.inl (w64 (x9+1),x15))
 ) else (
  some (.inr (.inl x10))
 )
def Bb(a0:Ja)(a1:Je):Option (List Jb) :=
 (Yl a0 a1.El).bind fun r1=>
 bif (!r1) then (
  some ([]:(List Jb))
 ) else (
  (ixO a0.Elements a1.El).bind fun x2=>
  (Ee x2.Kind a1.Side).bind fun r3=>
  onInl (Jq (Bi a1 r3) (0,[])) fun x13=>
  some x13
 )
instance (a0:Ja)(a1:Je):Cp (Bb a0 a1) 133 [Enc.pv a0,Enc.pv a1] (fun r=>Jg (.own 100006) r):=⟨fun r h=>by
 unfold Bb at h;refine zG f133 ?_;refine w6 n0 (ep 3 (ec S1 (.i 4 (.p 4 (ee S1))))) ?_ ?_ t0 t0 t0 t0
 ·intro _ h;exact Jm (Wh 4 100006 3 24 kr kr (w1 n0 .z t0))
 intro _ _ r3 h;refine Jm (Kk (Wh 6 100006 3 24 kr kr ?_));refine uM 42 0 [7] (fun s (x9,x10)=>⟨(6,Jg (.own 100006) x10)::(7,I6 x9)::gt s [3,5],gh s [3],[(100006,(((x10).map cellsOf).length,3))],[]⟩) h ?_ ?_
 ·rintro ⟨x9,x10⟩ _ h;unfold Bi at h;exact w1 r3 (.l 2 (ec (.i 7 (.w 3 z2)) .z)) t0
 intro x13 s' h hs;exact w1 n0 z1 t0⟩
def Hm(a0:Ja)(a1:Jb):Option (Int×Bool) :=
 (Yl a0 a1.El).bind fun r1=>
 bif (!r1) then (
  some (0,false)
 ) else (
  (ixO a0.Elements a1.El).bind fun x2=>
  (Cj x2.Kind a1.In a1.Out).bind fun r3=>
  some (r3.1,r3.2)
 )
instance (a0:Ja)(a1:Jb):Cp (Hm a0 a1) 202 [Enc.pv a0,Enc.pv a1] (fun r=>.tup [Enc.pv r.1,Enc.pv r.2]):=⟨fun r h=>by
 unfold Hm at h;refine zG f202 ?_;exact w1 n0 (ep 3 (ec z1 (.i 4 (.p 6 z1)))) t0⟩
def Cq(a0:Ja)(a1:Jb):Option (Je×Bool) :=
 (Wn a0 (Je.mk a1.El a1.Out)).bind fun r1=>
 some (r1.1,r1.2)
instance (a0:Ja)(a1:Jb):Cp (Cq a0 a1) 134 [Enc.pv a0,Enc.pv a1] (fun r=>.tup [Enc.pv r.1,Enc.pv r.2]):=⟨fun r h=>by
 unfold Cq at h;refine zG f134 ?_;exact w1 n0 (ep 6 z1) t0⟩
def Eh(a1:(List Jb))(x23:Int):Int->Option (Int⊕(Unit⊕(Int⊕(Unit⊕Bool)))):=fun x61=>
 bif decide (x61<x23) then (
  (ixO a1 x61).bind fun x64=>
  (ixO a1 x23).bind fun x65=>
  bif decide (x64.El=x65.El) then (
   some (.inr (.inr (.inr (.inr false))))
  ) else (
   some (.inl (w64 (x61+1)))
  )
 ) else (
  some (.inr (.inl ()))
 )
def Lv(a0:Ja)(a1:(List Jb)):Int->Option (Int⊕(Unit⊕Bool)):=fun x23=>
 bif decide (x23<((a1.length:Nat):Int)) then (
  (ixO a1 x23).bind fun x45=>
  (Hm a0 x45).bind fun r46=>
  bif (!r46.2) then (
   some (.inr (.inr false))
  ) else (
   onInl (α:=Unit) (β:=(Int⊕(Unit⊕Bool))) (
    bif decide (0<x23) then (
     (ixO a1 (w64 (x23 - 1))).bind fun x53=>
     (Cq a0 x53).bind fun r54=>
     ((bif (!r54.2) then some true else (
      (ixO a1 x23).bind fun x56=>
      some (!(decide (r54.1.El=x56.El)))
     ))).bind fun b55=>
     ((bif b55 then some true else (
      (ixO a1 x23).bind fun x58=>
      some (!(decide (r54.1.Side=x58.In)))
     ))).bind fun b57=>
     bif b57 then (
      some (.inr (.inr (.inr false)))
     ) else (
      some (.inl ())
     )
    ) else (
     some (.inl ())
    )
   ) fun _=>
   onInl (Jq (Eh a1 x23) 0) fun _=>
   some (.inl (w64 (x23+1)))
  )
 ) else (
  some (.inr (.inl ()))
 )
def Ex(a0:Ja)(a1:(List Jb)):Option Bool :=
 ((bif decide (((a1.length:Nat):Int)=0) then some true else (
  some (decide (64<((a1.length:Nat):Int)))
 ))).bind fun b1=>
 bif b1 then (
  some false
 ) else (
  onInl (Jq (Lv a0 a1) 0) fun _=>
  some true
 )
instance (a0:Ja)(a1:(List Jb)):Cp (Ex a0 a1) 156 [Enc.pv a0,Enc.pv a1] Enc.pv:=⟨fun r h=>by
 unfold Ex at h;refine zG f156 ?_;refine w1 a1 (el 1 (.b 2 4 18 (.g 0 .z (.l 1 .z)) (ec z1 s1))) ?_;intro _ h;refine uN 86 0 [5] (fun s x23=>⟨(5,I6 x23)::gt s [1,2],gh s [2],[],[]⟩) h ?_ ?_
 ·intro x23 _ h;unfold Lv at h;refine w1 a1 (.l 2 (ec (.i 3 (.p 1 (ee (.c z1 .S)))) .z)) ?_;intro _ _ h;refine Qv (Jm ?_);refine uJ 86 (fun s (_:Unit)=>⟨gt s [1,2,5],gh s [2],[],[]⟩) h ?_ ?_
  ·intro _ h;exact w1 n0 (ec (.i 4 (.p 1 (.e (.b 3 9 59 (.g 0 .z (.i 4 .z)) (.b 1 9 69 (.g 0 .z (.i 4 .z)) (ec z1 .z)))))) .z) t0
  intro _ h;refine w1 n0 s1 ?_;intro h;refine uN 86 2 [10] (fun s x61=>⟨(10,I6 x61)::gt s [1,2,5],gh s [2],[],[]⟩) h ?_ ?_
  ·intro x61 _ h;unfold Eh at h;exact w1 n0 (ec (.i 2 (.i 4 (ec z1 z1))) .z) t0
  intro _ s' h hs;exact w1 n0 z1 t0
 intro _ s' h hs;exact w1 n0 z1 t0⟩
def Vv(a0:Ja)(a1:Int):Option Int :=
 ((bif decide (a1<0) then some true else (
  some (decide (((a0.Elements.length:Nat):Int)<=a1))
 ))).bind fun b1=>
 bif b1 then (
  some (-1)
 ) else (
  (ixO a0.Elements a1).bind fun x2=>
  some x2.Section
 )
instance (a0:Ja)(a1:Int):Cp (Vv a0 a1) 69 [Enc.pv a0,Enc.pv a1] Enc.pv:=⟨fun r h=>by
 unfold Vv at h;refine zG f69 ?_;exact w1 a0.Elements (.e (.b 3 6 13 (.g 0 .z (.l 3 .z)) (ec z1 (.i 3 z1)))) t0⟩
def Pz(a0:(List Int))(a1:Int):Int->Option (Int⊕(Unit⊕Bool)):=fun x2=>
 bif decide (x2<((a0.length:Nat):Int)) then (
  (ixO a0 x2).bind fun x4=>
  bif decide (x4=a1) then (
   some (.inr (.inr true))
  ) else (
   some (.inl (w64 (x2+1)))
  )
 ) else (
  some (.inr (.inl ()))
 )
def Rv(a0:(List Int))(a1:Int):Option Bool :=
 onInl (Jq (Pz a0 a1) 0) fun _=>
 some false
instance (a0:(List Int))(a1:Int):Cp (Rv a0 a1) 204 [Enc.pv a0,Enc.pv a1] Enc.pv:=⟨fun r h=>by
 unfold Rv at h;refine zG f204 ?_;refine w1 n0 s2 ?_;intro h;refine uN 18 0 [5] (fun s x2=>⟨(5,I6 x2)::gt s [0,1],[],[],[]⟩) h ?_ ?_
 ·intro x2 _ h;unfold Pz at h;exact w1 a0 (.l 2 (ec (.i 2 (ec z1 z1)) .z)) t0
 intro _ s' h hs;exact w1 n0 z1 t0⟩
end
end PM
