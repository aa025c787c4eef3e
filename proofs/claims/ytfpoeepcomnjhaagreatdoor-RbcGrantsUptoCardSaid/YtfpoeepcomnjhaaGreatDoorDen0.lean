/-
 Plain functions for the program's functions, and the proofs that the program does them. Printed by den.py.
-/
import Derived.Test.YtfpoeepcomnjhaaGreatDoorPmSi
import Derived.Test.YtfpoeepcomnjhaaGreatDoorPmZ
import Derived.Test.YtfpoeepcomnjhaaGreatDoorPmY
import Derived.Test.YtfpoeepcomnjhaaGreatDoorPmM
import Derived.Test.YtfpoeepcomnjhaaGreatDoorPmSt
import Derived.Test.YtfpoeepcomnjhaaGreatDoorPmP
import Derived.Test.YtfpoeepcomnjhaaGreatDoorPmR
import Derived.Test.YtfpoeepcomnjhaaGreatDoorPlA
import Derived.Test.YtfpoeepcomnjhaaGreatDoorProg
import Derived.Test.YtfpoeepcomnjhaaGreatDoorLay
import Derived.Test.YtfpoeepcomnjhaaGreatDoorChecked
namespace PM
noncomputable section
open Go Go.RowKit Go.Proofs Go.Proofs.Tryz
attribute [local irreducible] Jy pwp
structure Qv where
 kind_:Int
 in_:Int
 out_:Int
 need_:Int
instance : Enc Qv:=⟨4,32,fun x=>.agg [I6 x.kind_,I6 x.in_,I6 x.out_,I6 x.need_]⟩
instance : Inhabited Qv:=⟨⟨0,0,0,0⟩⟩
structure Jt where
 Name:ByteArray
 Kind:Int
 Length:Int
 Grade:Int
 Speed:Int
 Slow:Int
 Section:Int
instance : Enc Jt:=⟨7,64,fun x=>.agg [.str x.Name,I6 x.Kind,I6 x.Length,I6 x.Grade,I6 x.Speed,I6 x.Slow,I6 x.Section]⟩
instance : Inhabited Jt:=⟨⟨ByteArray.empty,0,0,0,0,0,0⟩⟩
structure Jf where
 El:Int
 Side:Int
instance : Enc Jf:=⟨2,16,fun x=>.agg [I6 x.El,I6 x.Side]⟩
instance : Inhabited Jf:=⟨⟨0,0⟩⟩
def Kd(x y:Jf):Bool:=(decide (x.El=y.El)&&(decide (x.Side=y.Side)&&true))
instance : DecidableEq Jf:=fun x y=>decidable_of_iff (Kd x y=true) (by cases x; cases y; simp [Kd])
instance : Key Jf:={ (inferInstance:Enc Jf) with deq:=inferInstance,keq:=fun a b=>by cases a with|mk x y=>cases b with|mk x' y'=>(show some (decide (x=x')&&decide (y=y'))=_; simp) }
structure Vk where
 A:Jf
 B:Jf
instance : Enc Vk:=⟨4,32,fun x=>.agg [I6 x.A.El,I6 x.A.Side,I6 x.B.El,I6 x.B.Side]⟩
instance : Inhabited Vk:=⟨⟨default,default⟩⟩
structure Kn where
 Name:ByteArray
 At:Jf
 Overlap:Int
instance : Enc Kn:=⟨4,40,fun x=>.agg [.str x.Name,I6 x.At.El,I6 x.At.Side,I6 x.Overlap]⟩
instance : Inhabited Kn:=⟨⟨ByteArray.empty,default,0⟩⟩
structure Jk where
 Id:Int
 El:Int
 Offset:Int
instance : Enc Jk:=⟨3,24,fun x=>.agg [I6 x.Id,I6 x.El,I6 x.Offset]⟩
instance : Inhabited Jk:=⟨⟨0,0,0⟩⟩
structure Ja where
 Name:ByteArray
 Sections:(List ByteArray)
 Elements:(List Jt)
 Joints:(List Vk)
 Signals:(List Kn)
 Balises:(List Jk)
instance : Enc Ja:=⟨6,136,fun x=>.agg [.str x.Name,Ji .frozen x.Sections,Ji .frozen x.Elements,Ji .frozen x.Joints,Ji .frozen x.Signals,Ji .frozen x.Balises]⟩
instance : Inhabited Ja:=⟨⟨ByteArray.empty,[],[],[],[],[]⟩⟩
structure Kt where
 Id:Int
 Name:ByteArray
 Length:Int
 Speed:Int
 Accel:Int
 Service:Int
 Emergency:Int
 Delay:Int
 Const:Int
 Rate:Int
instance : Enc Kt:=⟨10,88,fun x=>.agg [I6 x.Id,.str x.Name,I6 x.Length,I6 x.Speed,I6 x.Accel,I6 x.Service,I6 x.Emergency,I6 x.Delay,I6 x.Const,I6 x.Rate]⟩
instance : Inhabited Kt:=⟨⟨0,ByteArray.empty,0,0,0,0,0,0,0,0⟩⟩
def Jp5(x y:Kt):Bool:=(decide (x.Id=y.Id)&&(decide (x.Name=y.Name)&&(decide (x.Length=y.Length)&&(decide (x.Speed=y.Speed)&&(decide (x.Accel=y.Accel)&&(decide (x.Service=y.Service)&&(decide (x.Emergency=y.Emergency)&&(decide (x.Delay=y.Delay)&&(decide (x.Const=y.Const)&&(decide (x.Rate=y.Rate)&&true))))))))))
structure Jb where
 El:Int
 In:Int
 Out:Int
instance : Enc Jb:=⟨3,24,fun x=>.agg [I6 x.El,I6 x.In,I6 x.Out]⟩
instance : Inhabited Jb:=⟨⟨0,0,0⟩⟩
def Ml(x y:Jb):Bool:=(decide (x.El=y.El)&&(decide (x.In=y.In)&&(decide (x.Out=y.Out)&&true)))
structure Uv where
 Steps:(List Jb)
 Head:Int
 Length:Int
instance : Enc Uv:=⟨3,40,fun x=>.agg [Ji .frozen x.Steps,I6 x.Head,I6 x.Length]⟩
instance : Inhabited Uv:=⟨⟨[],0,0⟩⟩
structure Jg where
 El:Int
 Pos:Int
instance : Enc Jg:=⟨2,16,fun x=>.agg [I6 x.El,I6 x.Pos]⟩
instance : Inhabited Jg:=⟨⟨0,0⟩⟩
def Wu(x y:Jg):Bool:=(decide (x.El=y.El)&&(decide (x.Pos=y.Pos)&&true))
structure Jh where
 Name:ByteArray
 Entry:Int
 Exit:Int
 Path:(List Jb)
 Points:(List Jg)
 Sections:(List Int)
 Approach:Int
 Length:Int
 Over:(List Jb)
 OverPoints:(List Jg)
 OverSections:(List Int)
 Flank:(List Jg)
 Guards:(List Int)
 Gaps:(List Jf)
instance : Enc Jh:=⟨14,264,fun x=>.agg [.str x.Name,I6 x.Entry,I6 x.Exit,Ji .frozen x.Path,Ji .frozen x.Points,Ji .frozen x.Sections,I6 x.Approach,I6 x.Length,Ji .frozen x.Over,Ji .frozen x.OverPoints,Ji .frozen x.OverSections,Ji .frozen x.Flank,Ji .frozen x.Guards,Ji .frozen x.Gaps]⟩
instance : Inhabited Jh:=⟨⟨ByteArray.empty,0,0,[],[],[],0,0,[],[],[],[],[],[]⟩⟩
structure Jq where
 Routes:(List Jh)
 Points:(List Int)
 Homes:(List Int)
 Sections:Int
 Signals:Int
instance : Enc Jq:=⟨5,88,fun x=>.agg [Ji .frozen x.Routes,Ji .frozen x.Points,Ji .frozen x.Homes,I6 x.Sections,I6 x.Signals]⟩
instance : Inhabited Jq:=⟨⟨[],[],[],0,0⟩⟩
structure Yi where
 x0:(List ByteArray)
 x1:(List ByteArray)
 x2:(List ByteArray)
instance : Enc Yi:=⟨3,72,fun x=>.agg [Ji .frozen x.x0,Ji .frozen x.x1,Ji .frozen x.x2]⟩
instance : Inhabited Yi:=⟨⟨[],[],[]⟩⟩
structure Jr where
 L:(List (List Jb))
instance : Enc Jr:=⟨1,24,fun x=>.agg [Ji .frozen x.L]⟩
instance : Inhabited Jr:=⟨⟨[]⟩⟩
structure Je where
 Id:Int
 Origin:Int
 End:Int
 At:Int
 Steps:(List Jb)
 Routes:(List Int)
 Starts:(List Int)
 Ends:(List Int)
 Done:(List Int)
 Min:Int
 Sent:Int
 Accepted:Int
 Cut:Int
 CutSeq:Int
instance : Enc Je:=⟨14,192,fun x=>.agg [I6 x.Id,I6 x.Origin,I6 x.End,I6 x.At,Ji .frozen x.Steps,Ji .frozen x.Routes,Ji .frozen x.Starts,Ji .frozen x.Ends,Ji .frozen x.Done,I6 x.Min,I6 x.Sent,I6 x.Accepted,I6 x.Cut,I6 x.CutSeq]⟩
instance : Inhabited Je:=⟨⟨0,0,0,0,[],[],[],[],[],0,0,0,0,0⟩⟩
structure Jl where
 Peer:Int
 Out:Int
 In:Int
 Heard:Int
instance : Enc Jl:=⟨4,32,fun x=>.agg [I6 x.Peer,I6 x.Out,I6 x.In,I6 x.Heard]⟩
instance : Inhabited Jl:=⟨⟨0,0,0,0⟩⟩
def Ta(x y:Jl):Bool:=(decide (x.Peer=y.Peer)&&(decide (x.Out=y.Out)&&(decide (x.In=y.In)&&(decide (x.Heard=y.Heard)&&true))))
structure Jm where
 Tracks:(List Je)
 Sessions:(List Jl)
instance : Enc Jm:=⟨2,48,fun x=>.agg [Ji .frozen x.Tracks,Ji .frozen x.Sessions]⟩
instance : Inhabited Jm:=⟨⟨[],[]⟩⟩
structure Uj where
 State:Int
 Rel:Int
 Timer:Int
instance : Enc Uj:=⟨3,24,fun x=>.agg [I6 x.State,I6 x.Rel,I6 x.Timer]⟩
instance : Inhabited Uj:=⟨⟨0,0,0⟩⟩
structure Jx where
 Routes:(List Uj)
 Lies:(List Int)
instance : Enc Jx:=⟨2,48,fun x=>.agg [Ji .frozen x.Routes,Ji .frozen x.Lies]⟩
instance : Inhabited Jx:=⟨⟨[],[]⟩⟩
structure Jj where
 Id:Int
 El:Int
 From:Int
 To:Int
 Speed:Int
 Active:Bool
instance : Enc Jj:=⟨6,48,fun x=>.agg [I6 x.Id,I6 x.El,I6 x.From,I6 x.To,I6 x.Speed,.bool x.Active]⟩
instance : Inhabited Jj:=⟨⟨0,0,0,0,0,false⟩⟩
structure Jc where
 From:Int
 To:Int
 Grade:Int
 Speed:Int
instance : Enc Jc:=⟨4,32,fun x=>.agg [I6 x.From,I6 x.To,I6 x.Grade,I6 x.Speed]⟩
instance : Inhabited Jc:=⟨⟨0,0,0,0⟩⟩
def Td(x y:Jc):Bool:=(decide (x.From=y.From)&&(decide (x.To=y.To)&&(decide (x.Grade=y.Grade)&&(decide (x.Speed=y.Speed)&&true))))
structure Jd where
 Id:Int
 At:Int
instance : Enc Jd:=⟨2,16,fun x=>.agg [I6 x.Id,I6 x.At]⟩
instance : Inhabited Jd:=⟨⟨0,0⟩⟩
def Jas(x y:Jd):Bool:=(decide (x.Id=y.Id)&&(decide (x.At=y.At)&&true))
structure Ka where
 Seq:Int
 End:Int
 Profile:(List Jc)
 Links:(List Jd)
instance : Enc Ka:=⟨4,64,fun x=>.agg [I6 x.Seq,I6 x.End,Ji .frozen x.Profile,Ji .frozen x.Links]⟩
instance : Inhabited Ka:=⟨⟨0,0,[],[]⟩⟩
structure Uw where
 Min:Int
 Speed:Int
 Mode:Int
 Accepted:Int
 Whole:Bool
instance : Enc Uw:=⟨5,40,fun x=>.agg [I6 x.Min,I6 x.Speed,I6 x.Mode,I6 x.Accepted,.bool x.Whole]⟩
instance : Inhabited Uw:=⟨⟨0,0,0,0,false⟩⟩
def Jar(x y:Uw):Bool:=(decide (x.Min=y.Min)&&(decide (x.Speed=y.Speed)&&(decide (x.Mode=y.Mode)&&(decide (x.Accepted=y.Accepted)&&((x.Whole == y.Whole)&&true)))))
structure Jn where
 Kind:Int
 From:Int
 To:Int
 Seq:Int
 Time:Int
 Auth:Ka
 Report:Uw
instance : Enc Jn:=⟨14,144,fun x=>.agg [I6 x.Kind,I6 x.From,I6 x.To,I6 x.Seq,I6 x.Time,I6 x.Auth.Seq,I6 x.Auth.End,Ji .frozen x.Auth.Profile,Ji .frozen x.Auth.Links,I6 x.Report.Min,I6 x.Report.Speed,I6 x.Report.Mode,I6 x.Report.Accepted,.bool x.Report.Whole]⟩
instance : Inhabited Jn:=⟨⟨0,0,0,0,0,default,default⟩⟩
structure Jd9 where
 err_:Int
instance : Enc Jd9:=⟨1,8,fun x=>.agg [I6 x.err_]⟩
instance : Inhabited Jd9:=⟨⟨0⟩⟩
structure Ew where
 from_:Int
 to_:Int
instance : Enc Ew:=⟨2,16,fun x=>.agg [I6 x.from_,I6 x.to_]⟩
instance : Inhabited Ew:=⟨⟨0,0⟩⟩
structure Jac where
instance : Enc Jac:=⟨0,0,fun x=>.agg []⟩
instance : Inhabited Jac:=⟨⟨⟩⟩
structure Jz where
 Layout:Ja
 Table:Jq
 Inter:Jx
 Slow:(List Jj)
 Trains:(List Kt)
 Center:Jm
instance : Enc Jz:=⟨17,368,fun x=>.agg [.str x.Layout.Name,Ji .frozen x.Layout.Sections,Ji .frozen x.Layout.Elements,Ji .frozen x.Layout.Joints,Ji .frozen x.Layout.Signals,Ji .frozen x.Layout.Balises,Ji .frozen x.Table.Routes,Ji .frozen x.Table.Points,Ji .frozen x.Table.Homes,I6 x.Table.Sections,I6 x.Table.Signals,Ji .frozen x.Inter.Routes,Ji .frozen x.Inter.Lies,Ji .frozen x.Slow,Ji .frozen x.Trains,Ji .frozen x.Center.Tracks,Ji .frozen x.Center.Sessions]⟩
instance : Inhabited Jz:=⟨⟨default,default,default,[],[],default⟩⟩
def Qh : List Qv:=[(Qv.mk 1 0 1 0),(Qv.mk 1 1 0 0),(Qv.mk 2 0 1 1),(Qv.mk 2 0 2 2),(Qv.mk 2 1 0 1),(Qv.mk 2 2 0 2),(Qv.mk 3 0 1 0),(Qv.mk 3 1 0 0),(Qv.mk 3 2 3 0),(Qv.mk 3 3 2 0)]
def Ih : List Int:=[0,2,3,4]
def GlS : Nat->Option (List PV)
 | 0=>some (Qh.flatMap cellsOf)
 | 1=>some (Ih.flatMap cellsOf)
 | _=>none
abbrev Cp{α:Type}(D:Option α):=@Ct prog GlS α D
def Xb(a0:Ja):Option Bool :=
 ((bif decide (((a0.Elements.length:Nat):Int)<=40) then (
  some (decide (((a0.Joints.length:Nat):Int)<=80))
 ) else some false)).bind fun b1=>
 ((bif b1 then (
  some (decide (((a0.Signals.length:Nat):Int)<=30))
 ) else some false)).bind fun b2=>
 ((bif b2 then (
  some (decide (((a0.Balises.length:Nat):Int)<=40))
 ) else some false)).bind fun b3=>
 ((bif b3 then (
  some (decide (((a0.Sections.length:Nat):Int)<=40))
 ) else some false)).bind fun b4=>
 some b4
theorem Jlw(a0:Ja)(r:Bool)(h:Xb a0=some r):Yx prog GlS 8 [Enc.pv a0] (Enc.pv r):=by
 unfold Xb at h;refine zG f8 ?_;refine w6 a0.Elements (el 2 (.b 2 5 12 (.g 0 .s .z) (.b 1 5 18 (.g 0 .s .z) (.b 1 5 24 (.g 0 .s .z) (.b 1 5 30 (.g 0 .s .z) z1))))) ?_ ?_ ?_ ?_ t0 t0
 ·intro _ h;exact yl 2 a0.Joints (w1 n0 .z t0)
 ·intro _ _ h;exact yl 2 a0.Signals (w1 n0 .z t0)
 ·intro _ _ _ h;exact yl 2 a0.Balises (w1 n0 .z t0)
 intro _ _ _ _ h;exact yl 2 a0.Sections (w1 n0 .z t0)
def Jgu : (Int×(List Jt))->Option ((Int×(List Jt))⊕((List Jt)⊕Ja)):=fun (x6,x7)=>
 bif decide (x6<(([(ByteArray.mk #[97]),(ByteArray.mk #[98]),(ByteArray.mk #[99])].length:Nat):Int)) then (
  (ixO [(ByteArray.mk #[97]),(ByteArray.mk #[98]),(ByteArray.mk #[99])] x6).bind fun x11=>
  (Qi x7 [(Jt.mk x11 1 20000 0 1000 0 x6)]).bind fun x12=>
  some (.inl (w64 (x6+1),x12))
 ) else (
  some (.inr (.inl x7))
 )
def Je2 : Option Ja :=
 onInl (Jp (Jgu) (0,[])) fun x10=>
 some (Ja.mk (ByteArray.mk #[108,105,110,101]) [(ByteArray.mk #[97]),(ByteArray.mk #[98]),(ByteArray.mk #[99])] x10 [(Vk.mk (Jf.mk 0 1) (Jf.mk 1 0)),(Vk.mk (Jf.mk 1 1) (Jf.mk 2 0))] [(Kn.mk (ByteArray.mk #[115,49]) (Jf.mk 0 1) 0),(Kn.mk (ByteArray.mk #[115,50]) (Jf.mk 1 1) 0)] [])
theorem Jne(r:Ja)(h:Je2=some r):Yx prog GlS 27 [] (Enc.pv r):=by
 unfold Je2 at h;refine zG f27 ?_;refine w1 (([(ByteArray.mk #[97]),(ByteArray.mk #[98]),(ByteArray.mk #[99])]:(List ByteArray))) (ee (.l 2 S1)) ?_;intro h;refine Jo (Ko (Qk (Rt 1 2 200102 7 64 (cs:=[.str (ByteArray.mk #[108,105,110,101]),Ji .full ([(ByteArray.mk #[97]),(ByteArray.mk #[98]),(ByteArray.mk #[99])]:(List ByteArray)),.nil,.nil,Ji .full ([(Kn.mk (ByteArray.mk #[115,49]) (Jf.mk 0 1) 0),(Kn.mk (ByteArray.mk #[115,50]) (Jf.mk 1 1) 0)]:(List Kn)),.nil]) kr kr kr) ?_));refine uM 37 0 [14] (fun s (x6,x7)=>⟨(14,I6 x6)::gt s [0,1,12,13],(1,.cells ([.str (ByteArray.mk #[108,105,110,101]),Ji .full ([(ByteArray.mk #[97]),(ByteArray.mk #[98]),(ByteArray.mk #[99])]:(List ByteArray)),Ji (.own 200102) x7,.nil,Ji .full ([(Kn.mk (ByteArray.mk #[115,49]) (Jf.mk 0 1) 0),(Kn.mk (ByteArray.mk #[115,50]) (Jf.mk 1 1) 0)]:(List Kn)),.nil]))::gh s [0],[(200102,(((x7).map cellsOf).length,7))],[]⟩) h ?_ ?_
 ·rintro ⟨x6,x7⟩ _ h;unfold Jgu at h;exact w1 n0 (ec (.i 1 (ew 6 z2)) .z) t0
 intro x10 s' h hs;exact w1 n0 z2 t0
def Nv(a0:Ja):(Int×(List ByteArray))->Option ((Int×(List ByteArray))⊕((List ByteArray)⊕Yi)):=fun (x7,x8)=>
 bif decide (x7<((a0.Elements.length:Nat):Int)) then (
  (ixO a0.Elements x7).bind fun x12=>
  (Qi x8 [x12.Name]).bind fun x13=>
  some (.inl (w64 (x7+1),x13))
 ) else (
  some (.inr (.inl x8))
 )
def Nu(a0:Ja):(Int×(List ByteArray))->Option ((Int×(List ByteArray))⊕((List ByteArray)⊕Yi)):=fun (x19,x20)=>
 bif decide (x19<((a0.Signals.length:Nat):Int)) then (
  (ixO a0.Signals x19).bind fun x24=>
  (Qi x20 [x24.Name]).bind fun x25=>
  some (.inl (w64 (x19+1),x25))
 ) else (
  some (.inr (.inl x20))
 )
def Mn(a0:Ja):Option Yi :=
 (Qi ([]:(List ByteArray)) a0.Sections).bind fun x1=>
 onInl (Jp (Nv a0) (0,[])) fun x11=>
 onInl (Jp (Nu a0) (0,[])) fun x23=>
 some (Yi.mk x1 x11 x23)
instance (a0:Ja):Cp (Mn a0) 223 [Enc.pv a0] Enc.pv:=⟨fun r h=>by
 unfold Mn at h;refine zG f223 ?_;refine w1 n0 X2 ?_;intro x1 h1 h;refine zR 4 (Cr (tk:=13) h1 kr (w1 a0.Elements (el 2 S1) ?_));intro h;refine Jo (Ko (Qk (Rt 3 1 200301 1 16 (cs:=[Ji (.own 13) x1,.nil,.nil]) kr kr kr) ?_));refine uM 46 0 [18] (fun s (x7,x8)=>⟨(18,I6 x7)::gt s [1,2,3,16,17],(3,.cells ([Ji (.own 13) x1,Ji (.own 200301) x8,.nil]))::gh s [1,2],(200301,(((x8).map cellsOf).length,1))::gT s [13],[]⟩) h ?_ ?_
 ·rintro ⟨x7,x8⟩ _ h;unfold Nv at h;exact w1 n0 (ec (.i 0 (ew 5 z2)) .z) t0
 intro x11 s' h hs;refine w1 a0.Signals (.l 2 S1) ?_;intro h;refine Jo (Ko (Qk (Rt 3 2 200302 1 16 (cs:=[Ji (.own 13) x1,Ji (.own 200301) x11,.nil]) kr kr kr) ?_));refine uM 46 2 [33] (fun s (x19,x20)=>⟨(33,I6 x19)::gt s [2,3,31,32],(3,.cells ([Ji (.own 13) x1,Ji (.own 200301) x11,Ji (.own 200302) x20]))::gh s [2],(200302,(((x20).map cellsOf).length,1))::gT s [13,200301],[]⟩) h ?_ ?_
 ·rintro ⟨x19,x20⟩ _ h;unfold Nu at h;exact w1 n0 (ec (.i 0 (ew 5 z2)) .z) t0
 intro x23 s' h hs;exact w1 n0 z1 t0⟩
def Ry(a0:ByteArray):Int->Option (Int⊕(Unit⊕Bool)):=fun x9=>
 bif decide (x9<((a0.size:Nat):Int)) then (
  (Jpf a0 x9).bind fun x18=>
  ((bif decide (97<=x18) then (
   (Jpf a0 x9).bind fun x20=>
   some (decide (x20<=122))
  ) else some false)).bind fun b19=>
  (Jpf a0 x9).bind fun x21=>
  ((bif decide (48<=x21) then (
   (Jpf a0 x9).bind fun x23=>
   some (decide (x23<=57))
  ) else some false)).bind fun b22=>
  ((bif b22 then some true else (
   (Jpf a0 x9).bind fun x25=>
   some (decide (x25=95))
  ))).bind fun b24=>
  bif ((!b19)&&((!b24)||(decide (x9=0)))) then (
   some (.inr (.inr false))
  ) else (
   some (.inl (w64 (x9+1)))
  )
 ) else (
  some (.inr (.inl ()))
 )
def Ix(a0:ByteArray):Option Bool :=
 onInl (Jp (Ry a0) 0) fun _=>
 some ((decide (1<=((a0.size:Nat):Int)))&&(decide (((a0.size:Nat):Int)<=12)))
instance (a0:ByteArray):Cp (Ix a0) 88 [Enc.pv a0] Enc.pv:=⟨fun r h=>by
 unfold Ix at h;refine zG f88 ?_;refine w1 n0 s2 ?_;intro h;refine uN 56 0 [3] (fun _ x9=>⟨[(0,.str a0),(3,I6 x9)],[],[],[]⟩) h ?_ ?_
 ·intro x9 _ h;unfold Ry at h;refine w1 n0 (ec .x .z) ?_;intro _ h21 h;refine zR 2 (Joa h21 kr ?_);refine w6 n0 (.b 2 5 21 (.g 0 .x .z) X1) ?_ ?_ t0 t0 t0 t0
  ·intro _ _ h23 h;exact zR 2 (Joa h23 kr (w1 n0 .z t0))
  intro _ _ h24 h;refine zR 2 (Joa h24 kr ?_);refine w6 n0 (.b 2 5 31 (.g 0 .x .z) (.b 1 5 37 (.g 0 .z .x) (.e (.o 3 7 47 0 (ec z1 z1))))) ?_ ?_ t0 t0 t0 t0
  ·intro _ _ h26 h;exact zR 2 (Joa h26 kr (w1 n0 .z t0))
  intro _ _ _ h28 h;exact zR 2 (Joa h28 kr (w1 n0 .z t0))
 intro _ s' h hs;exact w1 n0 (.o 4 4 55 0 z1) t0⟩
def Jfe(a0:(List ByteArray))(x8:Int):Int->Option (Int⊕(Unit⊕(Int⊕(Unit⊕Bool)))):=fun x18=>
 bif decide (x18<x8) then (
  (ixO a0 x8).bind fun x21=>
  (ixO a0 x18).bind fun x22=>
  bif decide (x21=x22) then (
   some (.inr (.inr (.inr (.inr true))))
  ) else (
   some (.inl (w64 (x18+1)))
  )
 ) else (
  some (.inr (.inl ()))
 )
def Je8(a0:(List ByteArray)):Int->Option (Int⊕(Unit⊕Bool)):=fun x8=>
 bif decide (x8<((a0.length:Nat):Int)) then (
  onInl (Jp (Jfe a0 x8) 0) fun _=>
  some (.inl (w64 (x8+1)))
 ) else (
  some (.inr (.inl ()))
 )
def Gt(a0:(List ByteArray)):Option Bool :=
 onInl (Jp (Je8 a0) 0) fun _=>
 some false
instance (a0:(List ByteArray)):Cp (Gt a0) 224 [Enc.pv a0] Enc.pv:=⟨fun r h=>by
 unfold Gt at h;refine zG f224 ?_;refine w1 a0 (el 1 s1) ?_;intro h;refine uN 25 0 [7] (fun s x8=>⟨(7,I6 x8)::gt s [0,6],[],[],[]⟩) h ?_ ?_
 ·intro x8 _ h;unfold Je8 at h;refine w1 n0 (ec s2 .z) ?_;intro h;refine uN 25 2 [11] (fun s x18=>⟨(11,I6 x18)::gt s [0,3,6,7,10],[],[],[]⟩) h ?_ ?_
  ·intro x18 _ h;unfold Jfe at h;exact w1 n0 (ec (ei 2 (.i 3 (ec z1 z1))) .z) t0
  intro _ s' h hs;exact w1 n0 z1 t0
 intro _ s' h hs;exact w1 n0 z1 t0⟩
def Nl(x9:(List ByteArray)):Int->Option (Int⊕(Unit⊕Int)):=fun x12=>
 bif decide (x12<((x9.length:Nat):Int)) then (
  (ixO x9 x12).bind fun x15=>
  (Ix x15).bind fun r16=>
  bif (!r16) then (
   some (.inr (.inr 3))
  ) else (
   some (.inl (w64 (x12+1)))
  )
 ) else (
  some (.inr (.inl ()))
 )
def Nd(a0:Ja):Option Int :=
 ((bif decide (((a0.Elements.length:Nat):Int)<1) then some true else (
  some (decide (32<((a0.Elements.length:Nat):Int)))
 ))).bind fun b1=>
 ((bif b1 then some true else (
  some (decide (((a0.Sections.length:Nat):Int)<1))
 ))).bind fun b2=>
 ((bif b2 then some true else (
  some (decide (24<((a0.Sections.length:Nat):Int)))
 ))).bind fun b3=>
 ((bif b3 then some true else (
  some (decide (20<((a0.Signals.length:Nat):Int)))
 ))).bind fun b4=>
 ((bif b4 then some true else (
  some (decide (24<((a0.Balises.length:Nat):Int)))
 ))).bind fun b5=>
 bif b5 then (
  some 2
 ) else (
  (Mn a0).bind fun r6=>
  (Qi [a0.Name] r6.x0).bind fun x7=>
  (Qi x7 r6.x1).bind fun x8=>
  (Qi x8 r6.x2).bind fun x9=>
  onInl (Jp (Nl x9) 0) fun _=>
  (Gt r6.x0).bind fun r17=>
  ((bif r17 then some true else (
   (Gt r6.x1).bind fun r19=>
   some r19
  ))).bind fun b18=>
  ((bif b18 then some true else (
   (Gt r6.x2).bind fun r21=>
   some r21
  ))).bind fun b20=>
  bif b20 then (
   some 8
  ) else (
   some 0
  )
 )
instance (a0:Ja):Cp (Nd a0) 152 [Enc.pv a0] Enc.pv:=⟨fun r h=>by
 unfold Nd at h;refine zG f152 ?_;refine w6 a0.Elements (el 2 (.b 2 5 15 (.g 0 .z (.l 2 .z)) (.b 1 5 21 (.g 0 .z .s) (.b 1 5 27 (.g 0 .z .s) (.b 1 5 33 (.g 0 .z .s) (.b 1 5 39 (.g 0 .z .s) (ec z1 (.p 1 X1)))))))) ?_ ?_ ?_ ?_ ?_ t0
 ·intro _ _ h;exact yl 2 a0.Sections (w1 n0 .z t0)
 ·intro _ _ _ h;exact yl 2 a0.Sections (w1 n0 .z t0)
 ·intro _ _ _ _ h;exact yl 2 a0.Signals (w1 n0 .z t0)
 ·intro _ _ _ _ _ h;exact yl 2 a0.Balises (w1 n0 .z t0)
 intro _ _ _ _ _ _ _ h7 h;refine zR 5 (Cr (tk:=47) h7 kr (w1 n0 (.w 2 (.w 2 .s)) ?_));intro _ x9 h;refine yl 0 x9 (w1 n0 s1 ?_);intro h;refine uN 76 0 [55] (fun s x12=>⟨(55,I6 x12)::gt s [3,53,54],gh s [3],gT s [47],[]⟩) h ?_ ?_
 ·intro x12 _ h;unfold Nl at h;exact w1 n0 (ec (.i 0 (ep 1 (ec z1 z1))) .z) t0
 intro _ s' h hs;exact w1 n0 (.p 2 (.b 1 4 70 (.g 0 .z (.p 2 .z)) (.b 1 4 75 (.g 0 .z (.p 2 .z)) (ec z1 z1)))) t0⟩
def Mq(a0:Ja)(a1:Jt):Option Bool :=
 ((bif (((((((((decide (a1.Kind<1))||(decide (3<a1.Kind)))||(decide (a1.Length<500)))||(decide (1000000<a1.Length)))||(decide (a1.Grade<(-50))))||(decide (50<a1.Grade)))||(decide (a1.Speed<100)))||(decide (10000<a1.Speed)))||(decide (a1.Section<0))) then some true else (
  some (decide (((a0.Sections.length:Nat):Int)<=a1.Section))
 ))).bind fun b1=>
 bif b1 then (
  some false
 ) else (
  bif decide (a1.Kind=2) then (
   some ((decide (100<=a1.Slow))&&(decide (a1.Slow<=a1.Speed)))
  ) else (
   some (decide (a1.Slow=0))
  )
 )
instance (a0:Ja)(a1:Jt):Cp (Mq a0 a1) 225 [Enc.pv a0,Enc.pv a1] Enc.pv:=⟨fun r h=>by
 unfold Mq at h;refine zG f225 ?_;exact w1 a0.Sections (.e (.o 4 4 12 7 (.o 1 4 17 6 (.o 1 4 22 5 (.o 1 4 27 4 (.o 1 4 32 3 (.o 1 4 37 2 (.o 1 4 42 1 (.o 1 4 47 0 (.b 1 7 55 (.g 0 .z (.l 4 .z)) (ec z1 (ec (.o 4 6 68 0 z1) z1)))))))))))) t0⟩
def Hs(a0:Ja)(a1:Int):(Int×(List Int))->Option ((Int×(List Int))⊕((List Int)⊕(List Int))):=fun (x16,x17)=>
 bif decide (x16<((a0.Elements.length:Nat):Int)) then (
  onInl (α:=(List Int)) (β:=((Int×(List Int))⊕((List Int)⊕(List Int)))) (
   (ixO a0.Elements x16).bind fun x30=>
   ((bif ((decide (x30.Section=a1))&&(decide (0<=a1))) then (
    some (decide (a1<((a0.Sections.length:Nat):Int)))
   ) else some false)).bind fun b31=>
   bif b31 then (
    (Qi x17 [x16]).bind fun x32=>
    some (.inl x32)
   ) else (
    some (.inl x17)
   )
  ) fun x29=>
  some (.inl (w64 (x16+1),x29))
 ) else (
  some (.inr (.inl x17))
 )
def Cw(a0:Ja)(a1:Int):Option (List Int) :=
 onInl (Jp (Hs a0 a1) (0,[])) fun x25=>
 some x25
instance (a0:Ja)(a1:Int):Cp (Cw a0 a1) 226 [Enc.pv a0,Enc.pv a1] (fun r=>Ji (.own 100005) r):=⟨fun r h=>by
 unfold Cw at h;refine zG f226 ?_;refine w1 a0.Elements (ee (.l 2 S1)) ?_;intro h;refine Jo (Ko (Wz 5 100005 1 8 kr kr ?_));refine uM 37 0 [11] (fun s (x16,x17)=>⟨(5,Ji (.own 100005) x17)::(11,I6 x16)::gt s [1,2,9,10],gh s [2],[(100005,(((x17).map cellsOf).length,1))],[]⟩) h ?_ ?_
 ·rintro ⟨x16,x17⟩ _ h;unfold Hs at h;refine w1 n0 (ec .s .z) ?_;intro h;refine uJ 37 (fun s x29=>⟨(5,Ji (.own 100005) x29)::gt s [1,2,9,10,11],gh s [2],[(100005,(((x29).map cellsOf).length,1))],[]⟩) h ?_ ?_
  ·intro _ h;exact w1 a0.Sections (.i 1 (.e (.o 5 3 23 0 (.b 1 6 30 (.g 0 (.l 3 .z) .z) (ec (.w 3 z1) .z))))) t0
  intro x29 h;exact w1 n0 z1 t0
 intro x25 s' h hs;exact w1 n0 z1 t0⟩
def Gn(a0:Int):Option Int :=
 bif decide (a0=1) then (
  some 2
 ) else (
  bif decide (a0=2) then (
   some 3
  ) else (
   bif decide (a0=3) then (
    some 4
   ) else (
    some 0
   )
  )
 )
instance (a0:Int):Cp (Gn a0) 260 [Enc.pv a0] Enc.pv:=⟨fun r h=>by
 unfold Gn at h;refine zG f260 ?_;exact w1 n0 (ee (ec z1 (ec z1 (ec z1 z1)))) t0⟩
def Ch(a0:Ja)(a1:Jf):Option Bool :=
 ((bif decide (0<=a1.El) then (
  some (decide (a1.El<((a0.Elements.length:Nat):Int)))
 ) else some false)).bind fun b1=>
 ((bif (b1&&(decide (0<=a1.Side))) then (
  (ixO a0.Elements a1.El).bind fun x3=>
  (Gn x3.Kind).bind fun r4=>
  some (decide (a1.Side<r4))
 ) else some false)).bind fun b2=>
 some b2
instance (a0:Ja)(a1:Jf):Cp (Ch a0 a1) 227 [Enc.pv a0,Enc.pv a1] Enc.pv:=⟨fun r h=>by
 unfold Ch at h;refine zG f227 ?_;exact w1 a0.Elements (.e (.b 4 7 15 (.g 0 (.l 4 .z) .z) (.o 1 4 20 0 (.b 1 12 33 (.g 0 (.i 6 (.p 2 .z)) .z) z1)))) t0⟩
def Jgz(a0:(List Jf))(x8:Int):Int->Option (Int⊕(Unit⊕(Int⊕(Unit⊕Bool)))):=fun x18=>
 bif decide (x18<x8) then (
  (ixO a0 x8).bind fun x21=>
  (ixO a0 x18).bind fun x22=>
  bif Kd x21 x22 then (
   some (.inr (.inr (.inr (.inr true))))
  ) else (
   some (.inl (w64 (x18+1)))
  )
 ) else (
  some (.inr (.inl ()))
 )
def Jfz(a0:(List Jf)):Int->Option (Int⊕(Unit⊕Bool)):=fun x8=>
 bif decide (x8<((a0.length:Nat):Int)) then (
  onInl (Jp (Jgz a0 x8) 0) fun _=>
  some (.inl (w64 (x8+1)))
 ) else (
  some (.inr (.inl ()))
 )
def Ra(a0:(List Jf)):Option Bool :=
 onInl (Jp (Jfz a0) 0) fun _=>
 some false
instance (a0:(List Jf)):Cp (Ra a0) 228 [Enc.pv a0] Enc.pv:=⟨fun r h=>by
 unfold Ra at h;refine zG f228 ?_;refine w1 a0 (el 1 s1) ?_;intro h;refine uN 25 0 [7] (fun s x8=>⟨(7,I6 x8)::gt s [0,6],[],[],[]⟩) h ?_ ?_
 ·intro x8 _ h;unfold Jfz at h;refine w1 n0 (ec s2 .z) ?_;intro h;refine uN 25 2 [11] (fun s x18=>⟨(11,I6 x18)::gt s [0,3,6,7,10],[],[],[]⟩) h ?_ ?_
  ·intro x18 _ h;unfold Jgz at h;exact w1 n0 (ec (ei 2 (.i 3 (ec z1 z1))) .z) t0
  intro _ s' h hs;exact w1 n0 z1 t0
 intro _ s' h hs;exact w1 n0 z1 t0⟩
def Fi(a0:Ja):Int->Option (Int⊕(Unit⊕Int)):=fun x3=>
 bif decide (x3<((a0.Elements.length:Nat):Int)) then (
  (ixO a0.Elements x3).bind fun x6=>
  (Mq a0 x6).bind fun r7=>
  bif (!r7) then (
   some (.inr (.inr 1))
  ) else (
   some (.inl (w64 (x3+1)))
  )
 ) else (
  some (.inr (.inl ()))
 )
def Ff(a0:Ja):Int->Option (Int⊕(Unit⊕Int)):=fun x9=>
 bif decide (x9<((a0.Sections.length:Nat):Int)) then (
  (Cw a0 x9).bind fun r11=>
  bif decide (((r11.length:Nat):Int)=0) then (
   some (.inr (.inr 1))
  ) else (
   some (.inl (w64 (x9+1)))
  )
 ) else (
  some (.inr (.inl ()))
 )
def Fl(a0:Ja):(Int×(List Jf))->Option ((Int×(List Jf))⊕((List Jf)⊕Int)):=fun (x23,x24)=>
 bif decide (x23<((a0.Joints.length:Nat):Int)) then (
  (ixO a0.Joints x23).bind fun x31=>
  (Ch a0 x31.A).bind fun r32=>
  ((bif (!r32) then some true else (
   (Ch a0 x31.B).bind fun r34=>
   some (!r34)
  ))).bind fun b33=>
  bif (b33||(Kd x31.A x31.B)) then (
   some (.inr (.inr 1))
  ) else (
   (Qi x24 [x31.A,x31.B]).bind fun x35=>
   some (.inl (w64 (x23+1),x35))
  )
 ) else (
  some (.inr (.inl x24))
 )
def Bt(a0:Ja):Option Int :=
 onInl (Jp (Fi a0) 0) fun _=>
 onInl (Jp (Ff a0) 0) fun _=>
 onInl (Jp (Fl a0) (0,[])) fun x30=>
 (Ra x30).bind fun r36=>
 bif r36 then (
  some 8
 ) else (
  some 0
 )
instance (a0:Ja):Cp (Bt a0) 153 [Enc.pv a0] Enc.pv:=⟨fun r h=>by
 unfold Bt at h;refine zG f153 ?_;refine w1 a0.Elements (el 2 s1) ?_;intro h;refine uN 69 0 [12] (fun s x3=>⟨(12,I6 x3)::gt s [1,10,11],gh s [1],[],[]⟩) h ?_ ?_
 ·intro x3 _ h;unfold Fi at h;exact w1 n0 (ec (.i 0 (ep 2 (ec z1 z1))) .z) t0
 intro _ s' h hs;refine w1 a0.Sections (.l 2 s1) ?_;intro h;refine uN 69 2 [24] (fun s x9=>⟨(24,I6 x9)::gt s [1,23],gh s [1],[],[]⟩) h ?_ ?_
 ·intro x9 _ h;unfold Ff at h;refine w1 n0 (ec (ep 2 .s) .z) ?_;intro r11 h;exact yl 0 r11 (w1 n0 (ec z1 z1) t0)
 intro _ s' h hs;refine w1 a0.Joints (el 2 S1) ?_;intro h;refine Jo (Ko (Wz 6 100006 2 16 kr kr ?_));refine uM 69 4 [36] (fun s (x23,x24)=>⟨(6,Ji (.own 100006) x24)::(36,I6 x23)::gt s [1,34,35],gh s [1],[(100006,(((x24).map cellsOf).length,2))],[]⟩) h ?_ ?_
 ·rintro ⟨x23,x24⟩ _ h;unfold Fl at h;exact w1 n0 (ec (.i 0 (ep 3 (.b 2 6 51 (.g 0 .z (.p 3 .z)) (.o 1 6 58 0 (ec z1 (.w 6 z2)))))) .z) t0
 intro x30 s' h hs;exact w1 n0 (.p 1 (ec z1 z1)) t0⟩
def Lm(a0:Ja)(a1:Jf):Int->Option (Int⊕(Unit⊕(Jf×Bool))):=fun x2=>
 bif decide (x2<((a0.Joints.length:Nat):Int)) then (
  (ixO a0.Joints x2).bind fun x4=>
  bif Kd x4.A a1 then (
   some (.inr (.inr (x4.B,true)))
  ) else (
   bif Kd x4.B a1 then (
    some (.inr (.inr (x4.A,true)))
   ) else (
    some (.inl (w64 (x2+1)))
   )
  )
 ) else (
  some (.inr (.inl ()))
 )
def Yf(a0:Ja)(a1:Jf):Option (Jf×Bool) :=
 onInl (Jp (Lm a0 a1) 0) fun _=>
 some ((Jf.mk 0 0),false)
instance (a0:Ja)(a1:Jf):Cp (Yf a0 a1) 131 [Enc.pv a0,Enc.pv a1] (fun r=>.tup [Enc.pv r.1,Enc.pv r.2]):=⟨fun r h=>by
 unfold Yf at h;refine zG f131 ?_;refine w1 a0.Joints (el 2 s1) ?_;intro h;refine uN 29 0 [11] (fun s x2=>⟨(11,I6 x2)::gt s [3,4,9,10],gh s [3,4],[],[]⟩) h ?_ ?_
 ·intro x2 _ h;unfold Lm at h;exact w1 n0 (ec (.i 0 (ee (.c z1 (ec z1 z1)))) .z) t0
 intro _ s' h hs;exact w1 n0 z1 t0⟩
def Hm(a0:Ja):(Int×(List Jf))->Option ((Int×(List Jf))⊕((List Jf)⊕Int)):=fun (x8,x9)=>
 bif decide (x8<((a0.Signals.length:Nat):Int)) then (
  (ixO a0.Signals x8).bind fun x14=>
  (Ch a0 x14.At).bind fun r15=>
  bif (((!r15)||(decide (x14.Overlap<0)))||(decide (1000000<x14.Overlap))) then (
   some (.inr (.inr 1))
  ) else (
   (Qi x9 [x14.At]).bind fun x16=>
   some (.inl (w64 (x8+1),x16))
  )
 ) else (
  some (.inr (.inl x9))
 )
def Hg(a0:Ja)(x13:(List Jf)):Int->Option (Int⊕(Unit⊕Int)):=fun x23=>
 bif decide (x23<((x13.length:Nat):Int)) then (
  (ixO x13 x23).bind fun x29=>
  (Yf a0 x29).bind fun r30=>
  ((bif (!r30.2) then some true else (
   (ixO a0.Elements r30.1.El).bind fun x32=>
   (ixO a0.Elements x29.El).bind fun x33=>
   some (decide (x32.Section=x33.Section))
  ))).bind fun b31=>
  bif b31 then (
   some (.inr (.inr 14))
  ) else (
   some (.inl (w64 (x23+1)))
  )
 ) else (
  some (.inr (.inl ()))
 )
def Dg(a0:Ja):Option Int :=
 onInl (Jp (Hm a0) (0,[])) fun x13=>
 (Ra x13).bind fun r17=>
 bif r17 then (
  some 8
 ) else (
  onInl (Jp (Hg a0 x13) 0) fun _=>
  some 0
 )
instance (a0:Ja):Cp (Dg a0) 154 [Enc.pv a0] Enc.pv:=⟨fun r h=>by
 unfold Dg at h;refine zG f154 ?_;refine w1 a0.Signals (ee (.l 2 S1)) ?_;intro h;refine Jo (Ko (Wz 3 100003 2 16 kr kr ?_));refine uM 72 0 [13] (fun s (x8,x9)=>⟨(3,Ji (.own 100003) x9)::(13,I6 x8)::gt s [1,11,12],gh s [1],[(100003,(((x9).map cellsOf).length,2))],[]⟩) h ?_ ?_
 ·rintro ⟨x8,x9⟩ _ h;unfold Hm at h;exact w1 n0 (ec (.i 0 (ep 3 (.o 2 4 26 1 (.o 1 4 31 0 (ec z1 (.w 4 z2)))))) .z) t0
 intro x13 s' h hs;refine w1 x13 (.p 1 (ec z1 (.l 1 s1))) ?_;intro _ h;refine uN 72 2 [42] (fun s x23=>⟨(42,I6 x23)::gt s [1,40,41],gh s [1],gT s [100003],[]⟩) h ?_ ?_
 ·intro x23 _ h;unfold Hg at h;exact w1 n0 (ec (.i 0 (ep 2 (.e (.b 3 16 70 (.g 0 .z (.i 4 (.i 6 .z))) (ec z1 z1))))) .z) t0
 intro _ s' h hs;exact w1 n0 z1 t0⟩
def Jcx(a0:(List Int))(x8:Int):Int->Option (Int⊕(Unit⊕(Int⊕(Unit⊕Bool)))):=fun x18=>
 bif decide (x18<x8) then (
  (ixO a0 x8).bind fun x21=>
  (ixO a0 x18).bind fun x22=>
  bif decide (x21=x22) then (
   some (.inr (.inr (.inr (.inr true))))
  ) else (
   some (.inl (w64 (x18+1)))
  )
 ) else (
  some (.inr (.inl ()))
 )
def Jcp(a0:(List Int)):Int->Option (Int⊕(Unit⊕Bool)):=fun x8=>
 bif decide (x8<((a0.length:Nat):Int)) then (
  onInl (Jp (Jcx a0 x8) 0) fun _=>
  some (.inl (w64 (x8+1)))
 ) else (
  some (.inr (.inl ()))
 )
def Nq(a0:(List Int)):Option Bool :=
 onInl (Jp (Jcp a0) 0) fun _=>
 some false
instance (a0:(List Int)):Cp (Nq a0) 229 [Enc.pv a0] Enc.pv:=⟨fun r h=>by
 unfold Nq at h;refine zG f229 ?_;refine w1 a0 (el 1 s1) ?_;intro h;refine uN 25 0 [7] (fun s x8=>⟨(7,I6 x8)::gt s [0,6],[],[],[]⟩) h ?_ ?_
 ·intro x8 _ h;unfold Jcp at h;refine w1 n0 (ec s2 .z) ?_;intro h;refine uN 25 2 [11] (fun s x18=>⟨(11,I6 x18)::gt s [0,3,6,7,10],[],[],[]⟩) h ?_ ?_
  ·intro x18 _ h;unfold Jcx at h;exact w1 n0 (ec (ei 2 (.i 3 (ec z1 z1))) .z) t0
  intro _ s' h hs;exact w1 n0 z1 t0
 intro _ s' h hs;exact w1 n0 z1 t0⟩
def Hk(a0:Ja):(Int×(List Int))->Option ((Int×(List Int))⊕((List Int)⊕Int)):=fun (x12,x13)=>
 bif decide (x12<((a0.Balises.length:Nat):Int)) then (
  (ixO a0.Balises x12).bind fun x20=>
  ((bif (((decide (x20.Id<1))||(decide (1073741824<x20.Id)))||(decide (x20.El<0))) then some true else (
   some (decide (((a0.Elements.length:Nat):Int)<=x20.El))
  ))).bind fun b21=>
  ((bif (b21||(decide (x20.Offset<0))) then some true else (
   (ixO a0.Elements x20.El).bind fun x23=>
   some (decide (x23.Length<x20.Offset))
  ))).bind fun b22=>
  bif b22 then (
   some (.inr (.inr 1))
  ) else (
   (Qi x13 [x20.Id]).bind fun x24=>
   some (.inl (w64 (x12+1),x24))
  )
 ) else (
  some (.inr (.inl x13))
 )
def Cy(a0:Ja):Option Int :=
 onInl (Jp (Hk a0) (0,[])) fun x19=>
 (Nq x19).bind fun r25=>
 bif r25 then (
  some 8
 ) else (
  some 0
 )
instance (a0:Ja):Cp (Cy a0) 155 [Enc.pv a0] Enc.pv:=⟨fun r h=>by
 unfold Cy at h;refine zG f155 ?_;refine w1 a0.Balises (ee (.l 2 S1)) ?_;intro h;refine Jo (Ko (Wz 3 100003 1 8 kr kr ?_));refine uM 59 0 [9] (fun s (x12,x13)=>⟨(3,Ji (.own 100003) x13)::(9,I6 x12)::gt s [1,7,8],gh s [1],[(100003,(((x13).map cellsOf).length,1))],[]⟩) h ?_ ?_
 ·rintro ⟨x12,x13⟩ _ h;unfold Hk at h;exact w1 a0.Elements (ec (.i 0 (.e (.o 4 4 20 1 (.o 1 4 25 0 (.b 1 7 33 (.g 0 .z (.l 4 .z)) (.o 1 4 38 0 (.b 1 11 50 (.g 0 .z (.i 6 .z)) (ec z1 (.w 4 z2))))))))) .z) t0
 intro x19 s' h hs;exact w1 n0 (.p 1 (ec z1 z1)) t0⟩
def Gr(a0:Ja):Option Int :=
 (Nd a0).bind fun r1=>
 bif (!(decide (r1=0))) then (
  some r1
 ) else (
  (Bt a0).bind fun r2=>
  bif (!(decide (r2=0))) then (
   some r2
  ) else (
   (Dg a0).bind fun r3=>
   bif (!(decide (r3=0))) then (
    some r3
   ) else (
    (Cy a0).bind fun r4=>
    some r4
   )
  )
 )
instance (a0:Ja):Cp (Gr a0) 79 [Enc.pv a0] Enc.pv:=⟨fun r h=>by
 unfold Gr at h;refine zG f79 ?_;exact w1 n0 (ep 1 (ee (.c z1 (.p 1 (ee (.c z1 (.p 1 (ee (.c z1 (.p 1 z1)))))))))) t0⟩
def Zd(a0:Ja)(a1:Int):Option Bool :=
 ((bif decide (0<=a1) then (
  some (decide (a1<((a0.Elements.length:Nat):Int)))
 ) else some false)).bind fun b1=>
 some b1
instance (a0:Ja)(a1:Int):Cp (Zd a0 a1) 159 [Enc.pv a0,Enc.pv a1] Enc.pv:=⟨fun r h=>by
 unfold Zd at h;refine zG f159 ?_;exact w1 a0.Elements (.e (.b 3 6 13 (.g 0 (.l 3 .z) .z) z1)) t0⟩
def Bc(a0:Int)(a1:Int)(a2:Int):Option (Int×Bool) :=
 bif ((decide (a0=1))||(decide (a0=3))) then (
  some (0,(((decide ((min a1 a2)=0))&&(decide ((max a1 a2)=1)))||(((decide (a0=3))&&(decide ((min a1 a2)=2)))&&(decide ((max a1 a2)=3)))))
 ) else (
  bif (((decide (a0=2))&&(decide ((min a1 a2)=0)))&&(decide ((max a1 a2)=1))) then (
   some (1,true)
  ) else (
   bif (((decide (a0=2))&&(decide ((min a1 a2)=0)))&&(decide ((max a1 a2)=2))) then (
    some (2,true)
   ) else (
    some (0,false)
   )
  )
 )
instance (a0:Int)(a1:Int)(a2:Int):Cp (Bc a0 a1 a2) 254 [Enc.pv a0,Enc.pv a1,Enc.pv a2] (fun r=>.tup [Enc.pv r.1,Enc.pv r.2]):=⟨fun r h=>by
 unfold Bc at h;refine zC func254 ntmps254 ?_;refine Kj (Wp (zE (Jo (Kj (Wp (zE (Jo (Kj (Wp (zE (Jo (Kj (Kj (Wp (zR 3 ?_)))))))))))))));refine Jcb 3 21 ((decide (a0=1))||(decide (a0=3))) (fun x hx=>?_) ?_
 ·rcases Kj9 hx with ⟨hb,hx⟩|⟨hb,hx⟩
  ·refine zS 18 hb ?_;subst hx;exact zF
  refine zS 18 hb ?_;subst hx;exact zF
 refine zN (Jo ?_);rcases Jls h with ⟨hb,h⟩|⟨hb,h⟩
 ·refine zT hb (Kj (Wp (zR 3 ?_)));refine Jcb 3 27 ((decide ((min a1 a2)=0))&&(decide ((max a1 a2)=1))) (fun x hx=>?_) ?_
  ·rcases Jmp hx with ⟨hb,hx⟩|⟨hb,hx⟩
   ·refine zS 24 hb ?_;subst hx;exact zF
   refine zS 24 hb ?_;subst hx;exact zF
  refine zR 1 ?_;refine Jcb 11 39 (((decide ((min a1 a2)=0))&&(decide ((max a1 a2)=1)))||(((decide (a0=3))&&(decide ((min a1 a2)=2)))&&(decide ((max a1 a2)=3)))) (fun x hx=>?_) ?_
  ·rcases Kj9 hx with ⟨hb,hx⟩|⟨hb,hx⟩
   ·refine zS 28 hb ?_;subst hx;exact zF
   refine zS 28 hb (zR 3 ?_);refine Kfm 3 34 ((decide (a0=3))&&(decide ((min a1 a2)=2))) (fun x hx=>?_) ?_
   ·rcases Jmp hx with ⟨hb,hx⟩|⟨hb,hx⟩
    ·refine zS 31 hb ?_;subst hx;exact zF
    refine zS 31 hb ?_;subst hx;exact zF
   refine zR 1 ?_;refine Kfm 3 38 (((decide (a0=3))&&(decide ((min a1 a2)=2)))&&(decide ((max a1 a2)=3))) (fun x hx=>?_) ?_
   ·rcases Jmp hx with ⟨hb,hx⟩|⟨hb,hx⟩
    ·refine zS 35 hb ?_;subst hx;exact zF
    refine zS 35 hb ?_;subst hx;exact zF
   subst hx;exact zF
  refine zE (Jo (Wg (Zk ?_)));cases h;exact zQ
 refine zU hb (Vb (Jo (Kj (Kj (Wp (zR 3 ?_))))));refine Jcb 3 45 ((decide (a0=2))&&(decide ((min a1 a2)=0))) (fun x hx=>?_) ?_
 ·rcases Jmp hx with ⟨hb,hx⟩|⟨hb,hx⟩
  ·refine zS 42 hb ?_;subst hx;exact zF
  refine zS 42 hb ?_;subst hx;exact zF
 refine zR 1 ?_;refine Jcb 3 49 (((decide (a0=2))&&(decide ((min a1 a2)=0)))&&(decide ((max a1 a2)=1))) (fun x hx=>?_) ?_
 ·rcases Jmp hx with ⟨hb,hx⟩|⟨hb,hx⟩
  ·refine zS 46 hb ?_;subst hx;exact zF
  refine zS 46 hb ?_;subst hx;exact zF
 refine zN (Jo ?_);rcases Jls h with ⟨hb,h⟩|⟨hb,h⟩
 ·refine zT hb (Kj (Wp (zE (Jo (Wg (Zk ?_))))));cases h;exact zQ
 refine zU hb (Vb (Jo (Kj (Kj (Wp (zR 3 ?_))))));refine Jcb 3 55 ((decide (a0=2))&&(decide ((min a1 a2)=0))) (fun x hx=>?_) ?_
 ·rcases Jmp hx with ⟨hb,hx⟩|⟨hb,hx⟩
  ·refine zS 52 hb ?_;subst hx;exact zF
  refine zS 52 hb ?_;subst hx;exact zF
 refine zR 1 ?_;refine Jcb 3 59 (((decide (a0=2))&&(decide ((min a1 a2)=0)))&&(decide ((max a1 a2)=2))) (fun x hx=>?_) ?_
 ·rcases Jmp hx with ⟨hb,hx⟩|⟨hb,hx⟩
  ·refine zS 56 hb ?_;subst hx;exact zF
  refine zS 56 hb ?_;subst hx;exact zF
 refine zN (Jo ?_);rcases Jls h with ⟨hb,h⟩|⟨hb,h⟩
 ·refine zT hb (Kj (Wp (zE (Jo (Wg (Zk ?_))))));cases h;exact zQ
 refine zU hb (Vb (Jo (Kj (Wp (zE (Jo (Wg ?_)))))));cases h;exact zQ⟩
def Ia(a0:Int)(a1:Int):(Int×(List Int))->Option ((Int×(List Int))⊕((List Int)⊕(List Int))):=fun (x12,x13)=>
 bif decide (x12<4) then (
  onInl (α:=(List Int)) (β:=((Int×(List Int))⊕((List Int)⊕(List Int)))) (
   (Bc a0 a1 x12).bind fun r23=>
   bif r23.2 then (
    (Qi x13 [x12]).bind fun x24=>
    some (.inl x24)
   ) else (
    some (.inl x13)
   )
  ) fun x22=>
  some (.inl (w64 (x12+1),x22))
 ) else (
  some (.inr (.inl x13))
 )
def Fg(a0:Int)(a1:Int):Option (List Int) :=
 onInl (Jp (Ia a0 a1) (0,[])) fun x19=>
 some x19
theorem Jnd(a0:Int)(a1:Int)(r:(List Int))(h:Fg a0 a1=some r):Yx prog GlS 201 [Enc.pv a0,Enc.pv a1] (Ji (.own 100005) r):=by
 unfold Fg at h;refine zG f201 ?_;refine w1 n0 (ee S1) ?_;intro h;refine Jo (Ko (Wz 5 100005 1 8 kr kr ?_));refine uM 26 0 [6] (fun s (x12,x13)=>⟨(5,Ji (.own 100005) x13)::(6,I6 x12)::gt s [0,1],[],[(100005,(((x13).map cellsOf).length,1))],[]⟩) h ?_ ?_
 ·rintro ⟨x12,x13⟩ _ h;unfold Ia at h;refine w1 n0 (ec .s .z) ?_;intro h;refine uJ 26 (fun s x22=>⟨(5,Ji (.own 100005) x22)::gt s [0,1,6],[],[(100005,(((x22).map cellsOf).length,1))],[]⟩) h ?_ ?_
  ·intro _ h;exact w1 n0 (.p 3 (ee (.c (.w 3 z1) .z))) t0
  intro x22 h;exact w1 n0 z1 t0
 intro x19 s' h hs;exact w1 n0 z1 t0
instance (a0:Int)(a1:Int):Cp (Fg a0 a1) 201 [Enc.pv a0,Enc.pv a1] Enc.pv:=⟨fun r h=>
 (Jnd a0 a1 r h).freeze kr kr kr⟩
def Cc(a1:Jf)(r3:(List Int)):(Int×(List Jb))->Option ((Int×(List Jb))⊕((List Jb)⊕(List Jb))):=fun (x9,x10)=>
 bif decide (x9<((r3.length:Nat):Int)) then (
  (ixO r3 x9).bind fun x14=>
  (Qi x10 [(Jb.mk a1.El a1.Side x14)]).bind fun x15=>
  some (.inl (w64 (x9+1),x15))
 ) else (
  some (.inr (.inl x10))
 )
def Br(a0:Ja)(a1:Jf):Option (List Jb) :=
 (Zd a0 a1.El).bind fun r1=>
 bif (!r1) then (
  some ([]:(List Jb))
 ) else (
  (ixO a0.Elements a1.El).bind fun x2=>
  (Fg x2.Kind a1.Side).bind fun r3=>
  onInl (Jp (Cc a1 r3) (0,[])) fun x13=>
  some x13
 )
instance (a0:Ja)(a1:Jf):Cp (Br a0 a1) 133 [Enc.pv a0,Enc.pv a1] (fun r=>Ji (.own 100006) r):=⟨fun r h=>by
 unfold Br at h;refine zG f133 ?_;refine w6 n0 (ep 3 (ec S1 (.i 4 (.p 4 (ee S1))))) ?_ ?_ t0 t0 t0 t0
 ·intro _ h;exact Jo (Wz 4 100006 3 24 kr kr (w1 n0 .z t0))
 intro _ _ r3 h;refine Jo (Ko (Wz 6 100006 3 24 kr kr ?_));refine uM 42 0 [7] (fun s (x9,x10)=>⟨(6,Ji (.own 100006) x10)::(7,I6 x9)::gt s [3,5],gh s [3],[(100006,(((x10).map cellsOf).length,3))],[]⟩) h ?_ ?_
 ·rintro ⟨x9,x10⟩ _ h;unfold Cc at h;exact w1 r3 (.l 2 (ec (.i 7 (.w 3 z2)) .z)) t0
 intro x13 s' h hs;exact w1 n0 z1 t0⟩
def Lv(a0:Ja)(a1:Jb):Option (Int×Bool) :=
 (Zd a0 a1.El).bind fun r1=>
 bif (!r1) then (
  some (0,false)
 ) else (
  (ixO a0.Elements a1.El).bind fun x2=>
  (Bc x2.Kind a1.In a1.Out).bind fun r3=>
  some (r3.1,r3.2)
 )
instance (a0:Ja)(a1:Jb):Cp (Lv a0 a1) 202 [Enc.pv a0,Enc.pv a1] (fun r=>.tup [Enc.pv r.1,Enc.pv r.2]):=⟨fun r h=>by
 unfold Lv at h;refine zG f202 ?_;exact w1 n0 (ep 3 (ec z1 (.i 4 (.p 6 z1)))) t0⟩
def Dk(a0:Ja)(a1:Jb):Option (Jf×Bool) :=
 (Yf a0 (Jf.mk a1.El a1.Out)).bind fun r1=>
 some (r1.1,r1.2)
instance (a0:Ja)(a1:Jb):Cp (Dk a0 a1) 134 [Enc.pv a0,Enc.pv a1] (fun r=>.tup [Enc.pv r.1,Enc.pv r.2]):=⟨fun r h=>by
 unfold Dk at h;refine zG f134 ?_;exact w1 n0 (ep 6 z1) t0⟩
def Fz(a1:(List Jb))(x23:Int):Int->Option (Int⊕(Unit⊕(Int⊕(Unit⊕Bool)))):=fun x61=>
 bif decide (x61<x23) then (
  (ixO a1 x61).bind fun x64=>
  (ixO a1 x23).bind fun x65=>
  bif decide (x64.El=x65.El) then (
   some (.inr (.inr (.inr (.inr false))))
  ) else (
   some (.inl (w64 (x61+1)))
  )
 ) else (
  some (.inr (.inl ()))
 )
def Ny(a0:Ja)(a1:(List Jb)):Int->Option (Int⊕(Unit⊕Bool)):=fun x23=>
 bif decide (x23<((a1.length:Nat):Int)) then (
  (ixO a1 x23).bind fun x45=>
  (Lv a0 x45).bind fun r46=>
  bif (!r46.2) then (
   some (.inr (.inr false))
  ) else (
   onInl (α:=Unit) (β:=(Int⊕(Unit⊕Bool))) (
    bif decide (0<x23) then (
     (ixO a1 (w64 (x23 - 1))).bind fun x53=>
     (Dk a0 x53).bind fun r54=>
     ((bif (!r54.2) then some true else (
      (ixO a1 x23).bind fun x56=>
      some (!(decide (r54.1.El=x56.El)))
     ))).bind fun b55=>
     ((bif b55 then some true else (
      (ixO a1 x23).bind fun x58=>
      some (!(decide (r54.1.Side=x58.In)))
     ))).bind fun b57=>
     bif b57 then (
      some (.inr (.inr (.inr false)))
     ) else (
      some (.inl ())
     )
    ) else (
     some (.inl ())
    )
   ) fun _=>
   onInl (Jp (Fz a1 x23) 0) fun _=>
   some (.inl (w64 (x23+1)))
  )
 ) else (
  some (.inr (.inl ()))
 )
def Yz(a0:Ja)(a1:(List Jb)):Option Bool :=
 ((bif decide (((a1.length:Nat):Int)=0) then some true else (
  some (decide (64<((a1.length:Nat):Int)))
 ))).bind fun b1=>
 bif b1 then (
  some false
 ) else (
  onInl (Jp (Ny a0 a1) 0) fun _=>
  some true
 )
instance (a0:Ja)(a1:(List Jb)):Cp (Yz a0 a1) 156 [Enc.pv a0,Enc.pv a1] Enc.pv:=⟨fun r h=>by
 unfold Yz at h;refine zG f156 ?_;refine w1 a1 (el 1 (.b 2 4 18 (.g 0 .z (.l 1 .z)) (ec z1 s1))) ?_;intro _ h;refine uN 86 0 [5] (fun s x23=>⟨(5,I6 x23)::gt s [1,2],gh s [2],[],[]⟩) h ?_ ?_
 ·intro x23 _ h;unfold Ny at h;refine w1 a1 (.l 2 (ec (.i 3 (.p 1 (ee (.c z1 .S)))) .z)) ?_;intro _ _ h;refine Vb (Jo ?_);refine uJ 86 (fun s (_:Unit)=>⟨gt s [1,2,5],gh s [2],[],[]⟩) h ?_ ?_
  ·intro _ h;exact w1 n0 (ec (.i 4 (.p 1 (.e (.b 3 9 59 (.g 0 .z (.i 4 .z)) (.b 1 9 69 (.g 0 .z (.i 4 .z)) (ec z1 .z)))))) .z) t0
  intro _ h;refine w1 n0 s1 ?_;intro h;refine uN 86 2 [10] (fun s x61=>⟨(10,I6 x61)::gt s [1,2,5],gh s [2],[],[]⟩) h ?_ ?_
  ·intro x61 _ h;unfold Fz at h;exact w1 n0 (ec (.i 2 (.i 4 (ec z1 z1))) .z) t0
  intro _ s' h hs;exact w1 n0 z1 t0
 intro _ s' h hs;exact w1 n0 z1 t0⟩
def Vt(a0:Ja)(a1:Int):Option Int :=
 ((bif decide (a1<0) then some true else (
  some (decide (((a0.Elements.length:Nat):Int)<=a1))
 ))).bind fun b1=>
 bif b1 then (
  some (-1)
 ) else (
  (ixO a0.Elements a1).bind fun x2=>
  some x2.Section
 )
instance (a0:Ja)(a1:Int):Cp (Vt a0 a1) 69 [Enc.pv a0,Enc.pv a1] Enc.pv:=⟨fun r h=>by
 unfold Vt at h;refine zG f69 ?_;exact w1 a0.Elements (.e (.b 3 6 13 (.g 0 .z (.l 3 .z)) (ec z1 (.i 3 z1)))) t0⟩
def Xi(a0:(List Int))(a1:Int):Int->Option (Int⊕(Unit⊕Bool)):=fun x2=>
 bif decide (x2<((a0.length:Nat):Int)) then (
  (ixO a0 x2).bind fun x4=>
  bif decide (x4=a1) then (
   some (.inr (.inr true))
  ) else (
   some (.inl (w64 (x2+1)))
  )
 ) else (
  some (.inr (.inl ()))
 )
def Xn(a0:(List Int))(a1:Int):Option Bool :=
 onInl (Jp (Xi a0 a1) 0) fun _=>
 some false
instance (a0:(List Int))(a1:Int):Cp (Xn a0 a1) 204 [Enc.pv a0,Enc.pv a1] Enc.pv:=⟨fun r h=>by
 unfold Xn at h;refine zG f204 ?_;refine w1 n0 s2 ?_;intro h;refine uN 18 0 [5] (fun s x2=>⟨(5,I6 x2)::gt s [0,1],[],[],[]⟩) h ?_ ?_
 ·intro x2 _ h;unfold Xi at h;exact w1 a0 (.l 2 (ec (.i 2 (ec z1 z1)) .z)) t0
 intro _ s' h hs;exact w1 n0 z1 t0⟩
end
end PM
