/-
 Plain functions for the program's functions, and the proofs that the program does them. Printed by den.py.
-/
import Derived.Test.YtfpoeepcomnjhaaGreatDoorPmSi
import Derived.Test.YtfpoeepcomnjhaaGreatDoorPmZ
import Derived.Test.YtfpoeepcomnjhaaGreatDoorPmY
import Derived.Test.YtfpoeepcomnjhaaGreatDoorPmM
import Derived.Test.YtfpoeepcomnjhaaGreatDoorPmSt
import Derived.Test.YtfpoeepcomnjhaaGreatDoorPmP
import Derived.Test.YtfpoeepcomnjhaaGreatDoorPmR
import Derived.Test.YtfpoeepcomnjhaaGreatDoorPlA
import Derived.Test.YtfpoeepcomnjhaaGreatDoorProg
import Derived.Test.YtfpoeepcomnjhaaGreatDoorLay
import Derived.Test.YtfpoeepcomnjhaaGreatDoorChecked
namespace PM
noncomputable section
open Go Go.RowKit Go.Proofs
attribute [local irreducible] Jv pwp
structure Qr where
 kind_:Int
 in_:Int
 out_:Int
 need_:Int
instance : Enc Qr:=⟨4,32,fun x=>.agg [I6 x.kind_,I6 x.in_,I6 x.out_,I6 x.need_]⟩
instance : Inhabited Qr:=⟨⟨0,0,0,0⟩⟩
structure Ju where
 Name:ByteArray
 Kind:Int
 Length:Int
 Grade:Int
 Speed:Int
 Slow:Int
 Section:Int
instance : Enc Ju:=⟨7,64,fun x=>.agg [.str x.Name,I6 x.Kind,I6 x.Length,I6 x.Grade,I6 x.Speed,I6 x.Slow,I6 x.Section]⟩
instance : Inhabited Ju:=⟨⟨ByteArray.empty,0,0,0,0,0,0⟩⟩
structure Je where
 El:Int
 Side:Int
instance : Enc Je:=⟨2,16,fun x=>.agg [I6 x.El,I6 x.Side]⟩
instance : Inhabited Je:=⟨⟨0,0⟩⟩
def Kb (x y:Je):Bool:=(decide (x.El=y.El)&&(decide (x.Side=y.Side)&&true))
instance : DecidableEq Je:=fun x y=>decidable_of_iff (Kb x y=true) (by cases x; cases y; simp [Kb])
instance : Key Je:={ (inferInstance:Enc Je) with deq:=inferInstance,keq:=fun a b=>by cases a with|mk x y=>cases b with|mk x' y'=>(show some (decide (x=x')&&decide (y=y'))=_; simp) }
structure Vb where
 A:Je
 B:Je
instance : Enc Vb:=⟨4,32,fun x=>.agg [I6 x.A.El,I6 x.A.Side,I6 x.B.El,I6 x.B.Side]⟩
instance : Inhabited Vb:=⟨⟨default,default⟩⟩
structure Kl where
 Name:ByteArray
 At:Je
 Overlap:Int
instance : Enc Kl:=⟨4,40,fun x=>.agg [.str x.Name,I6 x.At.El,I6 x.At.Side,I6 x.Overlap]⟩
instance : Inhabited Kl:=⟨⟨ByteArray.empty,default,0⟩⟩
structure Jj where
 Id:Int
 El:Int
 Offset:Int
instance : Enc Jj:=⟨3,24,fun x=>.agg [I6 x.Id,I6 x.El,I6 x.Offset]⟩
instance : Inhabited Jj:=⟨⟨0,0,0⟩⟩
structure Ja where
 Name:ByteArray
 Sections:(List ByteArray)
 Elements:(List Ju)
 Joints:(List Vb)
 Signals:(List Kl)
 Balises:(List Jj)
instance : Enc Ja:=⟨6,136,fun x=>.agg [.str x.Name,Jh .frozen x.Sections,Jh .frozen x.Elements,Jh .frozen x.Joints,Jh .frozen x.Signals,Jh .frozen x.Balises]⟩
instance : Inhabited Ja:=⟨⟨ByteArray.empty,[],[],[],[],[]⟩⟩
structure Kr where
 Id:Int
 Name:ByteArray
 Length:Int
 Speed:Int
 Accel:Int
 Service:Int
 Emergency:Int
 Delay:Int
 Const:Int
 Rate:Int
instance : Enc Kr:=⟨10,88,fun x=>.agg [I6 x.Id,.str x.Name,I6 x.Length,I6 x.Speed,I6 x.Accel,I6 x.Service,I6 x.Emergency,I6 x.Delay,I6 x.Const,I6 x.Rate]⟩
instance : Inhabited Kr:=⟨⟨0,ByteArray.empty,0,0,0,0,0,0,0,0⟩⟩
def Jmu (x y:Kr):Bool:=(decide (x.Id=y.Id)&&(decide (x.Name=y.Name)&&(decide (x.Length=y.Length)&&(decide (x.Speed=y.Speed)&&(decide (x.Accel=y.Accel)&&(decide (x.Service=y.Service)&&(decide (x.Emergency=y.Emergency)&&(decide (x.Delay=y.Delay)&&(decide (x.Const=y.Const)&&(decide (x.Rate=y.Rate)&&true))))))))))
structure Jb where
 El:Int
 In:Int
 Out:Int
instance : Enc Jb:=⟨3,24,fun x=>.agg [I6 x.El,I6 x.In,I6 x.Out]⟩
instance : Inhabited Jb:=⟨⟨0,0,0⟩⟩
def Jbd (x y:Jb):Bool:=(decide (x.El=y.El)&&(decide (x.In=y.In)&&(decide (x.Out=y.Out)&&true)))
structure Uo where
 Steps:(List Jb)
 Head:Int
 Length:Int
instance : Enc Uo:=⟨3,40,fun x=>.agg [Jh .frozen x.Steps,I6 x.Head,I6 x.Length]⟩
instance : Inhabited Uo:=⟨⟨[],0,0⟩⟩
structure Jf where
 El:Int
 Pos:Int
instance : Enc Jf:=⟨2,16,fun x=>.agg [I6 x.El,I6 x.Pos]⟩
instance : Inhabited Jf:=⟨⟨0,0⟩⟩
def Wo (x y:Jf):Bool:=(decide (x.El=y.El)&&(decide (x.Pos=y.Pos)&&true))
structure Ji where
 Name:ByteArray
 Entry:Int
 Exit:Int
 Path:(List Jb)
 Points:(List Jf)
 Sections:(List Int)
 Approach:Int
 Length:Int
 Over:(List Jb)
 OverPoints:(List Jf)
 OverSections:(List Int)
 Flank:(List Jf)
 Guards:(List Int)
 Gaps:(List Je)
instance : Enc Ji:=⟨14,264,fun x=>.agg [.str x.Name,I6 x.Entry,I6 x.Exit,Jh .frozen x.Path,Jh .frozen x.Points,Jh .frozen x.Sections,I6 x.Approach,I6 x.Length,Jh .frozen x.Over,Jh .frozen x.OverPoints,Jh .frozen x.OverSections,Jh .frozen x.Flank,Jh .frozen x.Guards,Jh .frozen x.Gaps]⟩
instance : Inhabited Ji:=⟨⟨ByteArray.empty,0,0,[],[],[],0,0,[],[],[],[],[],[]⟩⟩
structure Jx where
 Routes:(List Ji)
 Points:(List Int)
 Homes:(List Int)
 Sections:Int
 Signals:Int
instance : Enc Jx:=⟨5,88,fun x=>.agg [Jh .frozen x.Routes,Jh .frozen x.Points,Jh .frozen x.Homes,I6 x.Sections,I6 x.Signals]⟩
instance : Inhabited Jx:=⟨⟨[],[],[],0,0⟩⟩
structure Yc where
 x0:(List ByteArray)
 x1:(List ByteArray)
 x2:(List ByteArray)
instance : Enc Yc:=⟨3,72,fun x=>.agg [Jh .frozen x.x0,Jh .frozen x.x1,Jh .frozen x.x2]⟩
instance : Inhabited Yc:=⟨⟨[],[],[]⟩⟩
structure Jm where
 L:(List (List Jb))
instance : Enc Jm:=⟨1,24,fun x=>.agg [Jh .frozen x.L]⟩
instance : Inhabited Jm:=⟨⟨[]⟩⟩
structure Jg where
 Id:Int
 Origin:Int
 End:Int
 At:Int
 Steps:(List Jb)
 Routes:(List Int)
 Starts:(List Int)
 Ends:(List Int)
 Done:(List Int)
 Min:Int
 Sent:Int
 Accepted:Int
 Cut:Int
 CutSeq:Int
instance : Enc Jg:=⟨14,192,fun x=>.agg [I6 x.Id,I6 x.Origin,I6 x.End,I6 x.At,Jh .frozen x.Steps,Jh .frozen x.Routes,Jh .frozen x.Starts,Jh .frozen x.Ends,Jh .frozen x.Done,I6 x.Min,I6 x.Sent,I6 x.Accepted,I6 x.Cut,I6 x.CutSeq]⟩
instance : Inhabited Jg:=⟨⟨0,0,0,0,[],[],[],[],[],0,0,0,0,0⟩⟩
structure Jl where
 Peer:Int
 Out:Int
 In:Int
 Heard:Int
instance : Enc Jl:=⟨4,32,fun x=>.agg [I6 x.Peer,I6 x.Out,I6 x.In,I6 x.Heard]⟩
instance : Inhabited Jl:=⟨⟨0,0,0,0⟩⟩
structure Jn where
 Tracks:(List Jg)
 Sessions:(List Jl)
instance : Enc Jn:=⟨2,48,fun x=>.agg [Jh .frozen x.Tracks,Jh .frozen x.Sessions]⟩
instance : Inhabited Jn:=⟨⟨[],[]⟩⟩
structure Ud where
 State:Int
 Rel:Int
 Timer:Int
instance : Enc Ud:=⟨3,24,fun x=>.agg [I6 x.State,I6 x.Rel,I6 x.Timer]⟩
instance : Inhabited Ud:=⟨⟨0,0,0⟩⟩
structure Kd where
 Routes:(List Ud)
 Lies:(List Int)
instance : Enc Kd:=⟨2,48,fun x=>.agg [Jh .frozen x.Routes,Jh .frozen x.Lies]⟩
instance : Inhabited Kd:=⟨⟨[],[]⟩⟩
structure Jk where
 Id:Int
 El:Int
 From:Int
 To:Int
 Speed:Int
 Active:Bool
instance : Enc Jk:=⟨6,48,fun x=>.agg [I6 x.Id,I6 x.El,I6 x.From,I6 x.To,I6 x.Speed,.bool x.Active]⟩
instance : Inhabited Jk:=⟨⟨0,0,0,0,0,false⟩⟩
structure Jd where
 From:Int
 To:Int
 Grade:Int
 Speed:Int
instance : Enc Jd:=⟨4,32,fun x=>.agg [I6 x.From,I6 x.To,I6 x.Grade,I6 x.Speed]⟩
instance : Inhabited Jd:=⟨⟨0,0,0,0⟩⟩
structure Jc where
 Id:Int
 At:Int
instance : Enc Jc:=⟨2,16,fun x=>.agg [I6 x.Id,I6 x.At]⟩
instance : Inhabited Jc:=⟨⟨0,0⟩⟩
structure Qd where
 Seq:Int
 End:Int
 Profile:(List Jd)
 Links:(List Jc)
instance : Enc Qd:=⟨4,64,fun x=>.agg [I6 x.Seq,I6 x.End,Jh .frozen x.Profile,Jh .frozen x.Links]⟩
instance : Inhabited Qd:=⟨⟨0,0,[],[]⟩⟩
structure Cj where
 Min:Int
 Speed:Int
 Mode:Int
 Accepted:Int
 Whole:Bool
instance : Enc Cj:=⟨5,40,fun x=>.agg [I6 x.Min,I6 x.Speed,I6 x.Mode,I6 x.Accepted,.bool x.Whole]⟩
instance : Inhabited Cj:=⟨⟨0,0,0,0,false⟩⟩
structure Kn where
 Kind:Int
 From:Int
 To:Int
 Seq:Int
 Time:Int
 Auth:Qd
 Report:Cj
instance : Enc Kn:=⟨14,144,fun x=>.agg [I6 x.Kind,I6 x.From,I6 x.To,I6 x.Seq,I6 x.Time,I6 x.Auth.Seq,I6 x.Auth.End,Jh .frozen x.Auth.Profile,Jh .frozen x.Auth.Links,I6 x.Report.Min,I6 x.Report.Speed,I6 x.Report.Mode,I6 x.Report.Accepted,.bool x.Report.Whole]⟩
instance : Inhabited Kn:=⟨⟨0,0,0,0,0,default,default⟩⟩
structure Jbv where
 err_:Int
instance : Enc Jbv:=⟨1,8,fun x=>.agg [I6 x.err_]⟩
instance : Inhabited Jbv:=⟨⟨0⟩⟩
structure Dc where
 from_:Int
 to_:Int
instance : Enc Dc:=⟨2,16,fun x=>.agg [I6 x.from_,I6 x.to_]⟩
instance : Inhabited Dc:=⟨⟨0,0⟩⟩
structure Rp where
instance : Enc Rp:=⟨0,0,fun x=>.agg []⟩
instance : Inhabited Rp:=⟨⟨⟩⟩
structure Jp where
 Layout:Ja
 Table:Jx
 Inter:Kd
 Slow:(List Jk)
 Trains:(List Kr)
 Center:Jn
instance : Enc Jp:=⟨17,368,fun x=>.agg [.str x.Layout.Name,Jh .frozen x.Layout.Sections,Jh .frozen x.Layout.Elements,Jh .frozen x.Layout.Joints,Jh .frozen x.Layout.Signals,Jh .frozen x.Layout.Balises,Jh .frozen x.Table.Routes,Jh .frozen x.Table.Points,Jh .frozen x.Table.Homes,I6 x.Table.Sections,I6 x.Table.Signals,Jh .frozen x.Inter.Routes,Jh .frozen x.Inter.Lies,Jh .frozen x.Slow,Jh .frozen x.Trains,Jh .frozen x.Center.Tracks,Jh .frozen x.Center.Sessions]⟩
instance : Inhabited Jp:=⟨⟨default,default,default,[],[],default⟩⟩
def Qh : List Qr:=[(Qr.mk 1 0 1 0),(Qr.mk 1 1 0 0),(Qr.mk 2 0 1 1),(Qr.mk 2 0 2 2),(Qr.mk 2 1 0 1),(Qr.mk 2 2 0 2),(Qr.mk 3 0 1 0),(Qr.mk 3 1 0 0),(Qr.mk 3 2 3 0),(Qr.mk 3 3 2 0)]
def Hc : List Int:=[0,2,3,4]
def GlS : Nat->Option (List PV)
 | 0=>some (Qh.flatMap cellsOf)
 | 1=>some (Hc.flatMap cellsOf)
 | _=>none
def Rj (a0:Ja):Option Bool :=
 ((bif decide (((a0.Elements.length:Nat):Int)<=40) then (
  some (decide (((a0.Joints.length:Nat):Int)<=80))
 ) else some false):Option Bool).bind fun b1 =>
 ((bif b1 then (
  some (decide (((a0.Signals.length:Nat):Int)<=30))
 ) else some false):Option Bool).bind fun b2 =>
 ((bif b2 then (
  some (decide (((a0.Balises.length:Nat):Int)<=40))
 ) else some false):Option Bool).bind fun b3 =>
 ((bif b3 then (
  some (decide (((a0.Sections.length:Nat):Int)<=40))
 ) else some false):Option Bool).bind fun b4 =>
 some b4
theorem Jih (a0:Ja) (r:Bool) (h:Rj a0=some r):Yy Tryz.prog GlS 8 [Enc.pv a0] (Enc.pv r):=by
 unfold Rj at h;refine zC Tryz.func8 Tryz.ntmps8 ?_;refine w6 a0.Elements (.e (.l 2 (.b 2 5 12 (.g 0 .s .z) (.b 1 5 18 (.g 0 .s .z) (.b 1 5 24 (.g 0 .s .z) (.b 1 5 30 (.g 0 .s .z) (.e .z))))))) ?_ ?_ ?_ ?_ t0 t0
 ·intro _ h;exact yl 2 a0.Joints (w1 n0 .z t0)
 ·intro _ _ h;exact yl 2 a0.Signals (w1 n0 .z t0)
 ·intro _ _ _ h;exact yl 2 a0.Balises (w1 n0 .z t0)
 intro _ _ _ _ h;exact yl 2 a0.Sections (w1 n0 .z t0)
def Jd5 : (Int×(List Ju))->Option ((Int×(List Ju))⊕((List Ju)⊕Ja)):=fun (x6,x7) =>
 bif decide (x6<(([(ByteArray.mk #[97]),(ByteArray.mk #[98]),(ByteArray.mk #[99])].length:Nat):Int)) then (
  (ixO [(ByteArray.mk #[97]),(ByteArray.mk #[98]),(ByteArray.mk #[99])] x6).bind fun x11 =>
  (Uq x7 [(Ju.mk x11 1 20000 0 1000 0 x6)]).bind fun x12 =>
  some (.inl (w64 (x6+1),x12))
 ) else (
  some (.inr (.inl x7))
 )
def Jcy : Option Ja :=
 onInl (Js (Jd5) (0,[])) fun x10 =>
 some (Ja.mk (ByteArray.mk #[108,105,110,101]) [(ByteArray.mk #[97]),(ByteArray.mk #[98]),(ByteArray.mk #[99])] x10 [(Vb.mk (Je.mk 0 1) (Je.mk 1 0)),(Vb.mk (Je.mk 1 1) (Je.mk 2 0))] [(Kl.mk (ByteArray.mk #[115,49]) (Je.mk 0 1) 0),(Kl.mk (ByteArray.mk #[115,50]) (Je.mk 1 1) 0)] [])
theorem Jkq (r:Ja) (h:Jcy=some r):Yy Tryz.prog GlS 27 [] (Enc.pv r):=by
 unfold Jcy at h;refine zC Tryz.func27 Tryz.ntmps27 ?_;refine w1 (([(ByteArray.mk #[97]),(ByteArray.mk #[98]),(ByteArray.mk #[99])]:(List ByteArray))) (.e (.e (.l 2 (.e .S)))) ?_;intro h;refine Jo (Kq (Qx (Pa 1 2 200102 7 64 (cs:=[.str (ByteArray.mk #[108,105,110,101]),Jh .full ([(ByteArray.mk #[97]),(ByteArray.mk #[98]),(ByteArray.mk #[99])]:(List ByteArray)),.nil,.nil,Jh .full ([(Kl.mk (ByteArray.mk #[115,49]) (Je.mk 0 1) 0),(Kl.mk (ByteArray.mk #[115,50]) (Je.mk 1 1) 0)]:(List Kl)),.nil]) kr kr kr) ?_));refine yM 37 0 [14] (fun (x6,x7)=>⟨[(0,.ref 0 0),(1,.ref 1 0),(12,Jh .full ([(ByteArray.mk #[97]),(ByteArray.mk #[98]),(ByteArray.mk #[99])]:(List ByteArray))),(13,I6 (([(ByteArray.mk #[97]),(ByteArray.mk #[98]),(ByteArray.mk #[99])].length:Nat):Int)),(14,I6 x6)],[(0,.cells ([.str ByteArray.empty,.nil,.nil,.nil,.nil,.nil])),(1,.cells ([.str (ByteArray.mk #[108,105,110,101]),Jh .full ([(ByteArray.mk #[97]),(ByteArray.mk #[98]),(ByteArray.mk #[99])]:(List ByteArray)),Jh (.own 200102) x7,.nil,Jh .full ([(Kl.mk (ByteArray.mk #[115,49]) (Je.mk 0 1) 0),(Kl.mk (ByteArray.mk #[115,50]) (Je.mk 1 1) 0)]:(List Kl)),.nil]))],[(200102,(((x7).map cellsOf).length,7))],[]⟩) h ?_ ?_
 ·rintro ⟨x6,x7⟩ _ h;unfold Jd5 at h;exact w1 n0 (.e (.c (.i 1 (.e (.w 6 (.e (.e .z))))) .z)) t0
 intro x10 s' h hs;exact w1 n0 (.e (.e .z)) t0
def Lu (a0:Ja):(Int×(List ByteArray))->Option ((Int×(List ByteArray))⊕((List ByteArray)⊕Yc)):=fun (x7,x8) =>
 bif decide (x7<((a0.Elements.length:Nat):Int)) then (
  (ixO a0.Elements x7).bind fun x12 =>
  (Uq x8 [x12.Name]).bind fun x13 =>
  some (.inl (w64 (x7+1),x13))
 ) else (
  some (.inr (.inl x8))
 )
def Lt (a0:Ja):(Int×(List ByteArray))->Option ((Int×(List ByteArray))⊕((List ByteArray)⊕Yc)):=fun (x19,x20) =>
 bif decide (x19<((a0.Signals.length:Nat):Int)) then (
  (ixO a0.Signals x19).bind fun x24 =>
  (Uq x20 [x24.Name]).bind fun x25 =>
  some (.inl (w64 (x19+1),x25))
 ) else (
  some (.inr (.inl x20))
 )
def Lc (a0:Ja):Option Yc :=
 (Uq ([]:(List ByteArray)) a0.Sections).bind fun x1 =>
 onInl (Js (Lu a0) (0,[])) fun x11 =>
 onInl (Js (Lt a0) (0,[])) fun x23 =>
 some (Yc.mk x1 x11 x23)
instance Kbh (a0:Ja):Ct Tryz.prog GlS (Lc a0) 223 [Enc.pv a0] Enc.pv:=⟨fun r h=>by
 unfold Lc at h;refine zC Tryz.func223 Tryz.ntmps223 ?_;refine w1 n0 (.e (.e .x)) ?_;intro x1 h1 h;refine zR 4 (Jbe (tk:=13) h1 kr (w1 a0.Elements (.e (.l 2 (.e .S))) ?_));intro h;refine Jo (Kq (Qx (Pa 3 1 200301 1 16 (cs:=[Jh (.own 13) x1,.nil,.nil]) kr kr kr) ?_));refine yM 46 0 [18] (fun (x7,x8)=>⟨[(1,.ref 1 0),(2,.ref 2 0),(3,.ref 3 0),(16,Jh .frozen a0.Elements),(17,I6 ((a0.Elements.length:Nat):Int)),(18,I6 x7)],[(1,.cells (cellsOf a0)),(2,.cells ([.nil,.nil,.nil])),(3,.cells ([Jh (.own 13) x1,Jh (.own 200301) x8,.nil]))],[(13,(((x1).map cellsOf).length,1)),(200301,(((x8).map cellsOf).length,1))],[]⟩) h ?_ ?_
 ·rintro ⟨x7,x8⟩ _ h;unfold Lu at h;exact w1 n0 (.e (.c (.i 0 (.e (.w 5 (.e (.e .z))))) .z)) t0
 intro x11 s' h hs;refine w1 a0.Signals (.l 2 (.e .S)) ?_;intro h;refine Jo (Kq (Qx (Pa 3 2 200302 1 16 (cs:=[Jh (.own 13) x1,Jh (.own 200301) x11,.nil]) kr kr kr) ?_));refine yM 46 2 [33] (fun (x19,x20)=>⟨[(2,.ref 2 0),(3,.ref 3 0),(31,Jh .frozen a0.Signals),(32,I6 ((a0.Signals.length:Nat):Int)),(33,I6 x19)],[(2,.cells ([.nil,.nil,.nil])),(3,.cells ([Jh (.own 13) x1,Jh (.own 200301) x11,Jh (.own 200302) x20]))],[(13,(((x1).map cellsOf).length,1)),(200301,(((x11).map cellsOf).length,1)),(200302,(((x20).map cellsOf).length,1))],[]⟩) h ?_ ?_
 ·rintro ⟨x19,x20⟩ _ h;unfold Lt at h;exact w1 n0 (.e (.c (.i 0 (.e (.w 5 (.e (.e .z))))) .z)) t0
 intro x23 s' h hs;exact w1 n0 (.e .z) t0⟩
def Ni (a0:ByteArray):Int->Option (Int⊕(Unit⊕Bool)):=fun x9 =>
 bif decide (x9<((a0.size:Nat):Int)) then (
  (Jns a0 x9).bind fun x18 =>
  ((bif decide (97<=x18) then (
   (Jns a0 x9).bind fun x20 =>
   some (decide (x20<=122))
  ) else some false):Option Bool).bind fun b19 =>
  (Jns a0 x9).bind fun x21 =>
  ((bif decide (48<=x21) then (
   (Jns a0 x9).bind fun x23 =>
   some (decide (x23<=57))
  ) else some false):Option Bool).bind fun b22 =>
  ((bif b22 then some true else (
   (Jns a0 x9).bind fun x25 =>
   some (decide (x25=95))
  )):Option Bool).bind fun b24 =>
  bif ((!b19)&&((!b24)||(decide (x9=0)))) then (
   some (.inr (.inr false))
  ) else (
   some (.inl (w64 (x9+1)))
  )
 ) else (
  some (.inr (.inl ()))
 )
def Hi (a0:ByteArray):Option Bool :=
 onInl (Js (Ni a0) 0) fun _ =>
 some ((decide (1<=((a0.size:Nat):Int)))&&(decide (((a0.size:Nat):Int)<=12)))
instance Kdc (a0:ByteArray):Ct Tryz.prog GlS (Hi a0) 88 [Enc.pv a0] Enc.pv:=⟨fun r h=>by
 unfold Hi at h;refine zC Tryz.func88 Tryz.ntmps88 ?_;refine w1 n0 (.e (.e .s)) ?_;intro h;refine yN 56 0 [3] (fun x9=>⟨[(0,.str a0),(3,I6 x9)],[],[],[]⟩) h ?_ ?_
 ·intro x9 _ h;unfold Ni at h;refine w1 n0 (.e (.c .x .z)) ?_;intro _ h21 h;refine zR 2 (Jl5 h21 kr ?_);refine w6 n0 (.b 2 5 21 (.g 0 .x .z) (.e .x)) ?_ ?_ t0 t0 t0 t0
  ·intro _ _ h23 h;exact zR 2 (Jl5 h23 kr (w1 n0 .z t0))
  intro _ _ h24 h;refine zR 2 (Jl5 h24 kr ?_);refine w6 n0 (.b 2 5 31 (.g 0 .x .z) (.b 1 5 37 (.g 0 .z .x) (.e (.o 3 7 47 0 (.e (.c (.e .z) (.e .z))))))) ?_ ?_ t0 t0 t0 t0
  ·intro _ _ h26 h;exact zR 2 (Jl5 h26 kr (w1 n0 .z t0))
  intro _ _ _ h28 h;exact zR 2 (Jl5 h28 kr (w1 n0 .z t0))
 intro _ s' h hs;exact w1 n0 (.o 4 4 55 0 (.e .z)) t0⟩
def Jc1 (a0:(List ByteArray)) (x8:Int):Int->Option (Int⊕(Unit⊕(Int⊕(Unit⊕Bool)))):=fun x18 =>
 bif decide (x18<x8) then (
  (ixO a0 x8).bind fun x21 =>
  (ixO a0 x18).bind fun x22 =>
  bif decide (x21=x22) then (
   some (.inr (.inr (.inr (.inr true))))
  ) else (
   some (.inl (w64 (x18+1)))
  )
 ) else (
  some (.inr (.inl ()))
 )
def Jc2 (a0:(List ByteArray)):Int->Option (Int⊕(Unit⊕Bool)):=fun x8 =>
 bif decide (x8<((a0.length:Nat):Int)) then (
  onInl (Js (Jc1 a0 x8) 0) fun _ =>
  some (.inl (w64 (x8+1)))
 ) else (
  some (.inr (.inl ()))
 )
def Fe (a0:(List ByteArray)):Option Bool :=
 onInl (Js (Jc2 a0) 0) fun _ =>
 some false
instance Kcj (a0:(List ByteArray)):Ct Tryz.prog GlS (Fe a0) 224 [Enc.pv a0] Enc.pv:=⟨fun r h=>by
 unfold Fe at h;refine zC Tryz.func224 Tryz.ntmps224 ?_;refine w1 a0 (.e (.l 1 (.e .s))) ?_;intro h;refine yN 25 0 [7] (fun x8=>⟨[(0,Jh .frozen a0),(6,I6 ((a0.length:Nat):Int)),(7,I6 x8)],[],[],[]⟩) h ?_ ?_
 ·intro x8 _ h;unfold Jc2 at h;refine w1 n0 (.e (.c (.e (.e .s)) .z)) ?_;intro h;refine yN 25 2 [11] (fun x18=>⟨[(0,Jh .frozen a0),(3,I6 x8),(6,I6 ((a0.length:Nat):Int)),(7,I6 x8),(10,I6 x8),(11,I6 x18)],[],[],[]⟩) h ?_ ?_
  ·intro x18 _ h;unfold Jc1 at h;exact w1 n0 (.e (.c (.e (.i 2 (.i 3 (.e (.c (.e .z) (.e .z)))))) .z)) t0
  intro _ s' h hs;exact w1 n0 (.e .z) t0
 intro _ s' h hs;exact w1 n0 (.e .z) t0⟩
def Lx (x9:(List ByteArray)):Int->Option (Int⊕(Unit⊕Int)):=fun x12 =>
 bif decide (x12<((x9.length:Nat):Int)) then (
  (ixO x9 x12).bind fun x15 =>
  (Hi x15).bind fun r16 =>
  bif (!r16) then (
   some (.inr (.inr 3))
  ) else (
   some (.inl (w64 (x12+1)))
  )
 ) else (
  some (.inr (.inl ()))
 )
def Le (a0:Ja):Option Int :=
 ((bif decide (((a0.Elements.length:Nat):Int)<1) then some true else (
  some (decide (32<((a0.Elements.length:Nat):Int)))
 )):Option Bool).bind fun b1 =>
 ((bif b1 then some true else (
  some (decide (((a0.Sections.length:Nat):Int)<1))
 )):Option Bool).bind fun b2 =>
 ((bif b2 then some true else (
  some (decide (24<((a0.Sections.length:Nat):Int)))
 )):Option Bool).bind fun b3 =>
 ((bif b3 then some true else (
  some (decide (20<((a0.Signals.length:Nat):Int)))
 )):Option Bool).bind fun b4 =>
 ((bif b4 then some true else (
  some (decide (24<((a0.Balises.length:Nat):Int)))
 )):Option Bool).bind fun b5 =>
 bif b5 then (
  some 2
 ) else (
  (Lc a0).bind fun r6 =>
  (Uq [a0.Name] r6.x0).bind fun x7 =>
  (Uq x7 r6.x1).bind fun x8 =>
  (Uq x8 r6.x2).bind fun x9 =>
  onInl (Js (Lx x9) 0) fun _ =>
  (Fe r6.x0).bind fun r17 =>
  ((bif r17 then some true else (
   (Fe r6.x1).bind fun r19 =>
   some r19
  )):Option Bool).bind fun b18 =>
  ((bif b18 then some true else (
   (Fe r6.x2).bind fun r21 =>
   some r21
  )):Option Bool).bind fun b20 =>
  bif b20 then (
   some 8
  ) else (
   some 0
  )
 )
instance Kce (a0:Ja):Ct Tryz.prog GlS (Le a0) 152 [Enc.pv a0] Enc.pv:=⟨fun r h=>by
 unfold Le at h;refine zC Tryz.func152 Tryz.ntmps152 ?_;refine w6 a0.Elements (.e (.l 2 (.b 2 5 15 (.g 0 .z (.l 2 .z)) (.b 1 5 21 (.g 0 .z .s) (.b 1 5 27 (.g 0 .z .s) (.b 1 5 33 (.g 0 .z .s) (.b 1 5 39 (.g 0 .z .s) (.e (.c (.e .z) (.p 1 (.e .x))))))))))) ?_ ?_ ?_ ?_ ?_ t0
 ·intro _ _ h;exact yl 2 a0.Sections (w1 n0 .z t0)
 ·intro _ _ _ h;exact yl 2 a0.Sections (w1 n0 .z t0)
 ·intro _ _ _ _ h;exact yl 2 a0.Signals (w1 n0 .z t0)
 ·intro _ _ _ _ _ h;exact yl 2 a0.Balises (w1 n0 .z t0)
 intro _ _ _ _ _ r6 _ h7 h;refine zR 5 (Jbe (tk:=47) h7 kr (w1 n0 (.w 2 (.w 2 .s)) ?_));intro _ x9 h;refine yl 0 x9 (w1 n0 (.e .s) ?_);intro h;refine yN 76 0 [55] (fun x12=>⟨[(3,.ref 3 0),(53,Jh (.own 47) x9),(54,I6 ((x9.length:Nat):Int)),(55,I6 x12)],[(3,.cells (cellsOf r6))],[(47,(((x9).map cellsOf).length,1))],[]⟩) h ?_ ?_
 ·intro x12 _ h;unfold Lx at h;exact w1 n0 (.e (.c (.i 0 (.e (.p 1 (.e (.c (.e .z) (.e .z)))))) .z)) t0
 intro _ s' h hs;exact w1 n0 (.p 2 (.b 1 4 70 (.g 0 .z (.p 2 .z)) (.b 1 4 75 (.g 0 .z (.p 2 .z)) (.e (.c (.e .z) (.e .z)))))) t0⟩
def Lh (a0:Ja) (a1:Ju):Option Bool :=
 ((bif (((((((((decide (a1.Kind<1))||(decide (3<a1.Kind)))||(decide (a1.Length<500)))||(decide (1000000<a1.Length)))||(decide (a1.Grade<(-50))))||(decide (50<a1.Grade)))||(decide (a1.Speed<100)))||(decide (10000<a1.Speed)))||(decide (a1.Section<0))) then some true else (
  some (decide (((a0.Sections.length:Nat):Int)<=a1.Section))
 )):Option Bool).bind fun b1 =>
 bif b1 then (
  some false
 ) else (
  bif decide (a1.Kind=2) then (
   some ((decide (100<=a1.Slow))&&(decide (a1.Slow<=a1.Speed)))
  ) else (
   some (decide (a1.Slow=0))
  )
 )
instance Kas (a0:Ja) (a1:Ju):Ct Tryz.prog GlS (Lh a0 a1) 225 [Enc.pv a0,Enc.pv a1] Enc.pv:=⟨fun r h=>by
 unfold Lh at h;refine zC Tryz.func225 Tryz.ntmps225 ?_;exact w1 a0.Sections (.e (.o 4 4 12 7 (.o 1 4 17 6 (.o 1 4 22 5 (.o 1 4 27 4 (.o 1 4 32 3 (.o 1 4 37 2 (.o 1 4 42 1 (.o 1 4 47 0 (.b 1 7 55 (.g 0 .z (.l 4 .z)) (.e (.c (.e .z) (.e (.c (.o 4 6 68 0 (.e .z)) (.e .z))))))))))))))) t0⟩
def Ge (a0:Ja) (a1:Int):(Int×(List Int))->Option ((Int×(List Int))⊕((List Int)⊕(List Int))):=fun (x16,x17) =>
 bif decide (x16<((a0.Elements.length:Nat):Int)) then (
  onInl (α:=(List Int)) (β:=((Int×(List Int))⊕((List Int)⊕(List Int)))) (
   (ixO a0.Elements x16).bind fun x30 =>
   ((bif ((decide (x30.Section=a1))&&(decide (0<=a1))) then (
    some (decide (a1<((a0.Sections.length:Nat):Int)))
   ) else some false):Option Bool).bind fun b31 =>
   bif b31 then (
    (Uq x17 [x16]).bind fun x32 =>
    some (.inl x32)
   ) else (
    some (.inl x17)
   )
  ) fun x29 =>
  some (.inl (w64 (x16+1),x29))
 ) else (
  some (.inr (.inl x17))
 )
def Cb (a0:Ja) (a1:Int):Option (List Int) :=
 onInl (Js (Ge a0 a1) (0,[])) fun x25 =>
 some x25
instance Jxp (a0:Ja) (a1:Int):Ct Tryz.prog GlS (Cb a0 a1) 226 [Enc.pv a0,Enc.pv a1] (fun r=>Jh (.own 100005) r):=⟨fun r h=>by
 unfold Cb at h;refine zC Tryz.func226 Tryz.ntmps226 ?_;refine w1 a0.Elements (.e (.e (.l 2 (.e .S)))) ?_;intro h;refine Jo (Kq (Zh 5 100005 1 8 kr kr ?_));refine yM 37 0 [11] (fun (x16,x17)=>⟨[(1,I6 a1),(2,.ref 2 0),(5,Jh (.own 100005) x17),(9,Jh .frozen a0.Elements),(10,I6 ((a0.Elements.length:Nat):Int)),(11,I6 x16)],[(2,.cells (cellsOf a0))],[(100005,(((x17).map cellsOf).length,1))],[]⟩) h ?_ ?_
 ·rintro ⟨x16,x17⟩ _ h;unfold Ge at h;refine w1 n0 (.e (.c .s .z)) ?_;intro h;refine yJ 37 (fun x29=>⟨[(1,I6 a1),(2,.ref 2 0),(5,Jh (.own 100005) x29),(9,Jh .frozen a0.Elements),(10,I6 ((a0.Elements.length:Nat):Int)),(11,I6 x16)],[(2,.cells (cellsOf a0))],[(100005,(((x29).map cellsOf).length,1))],[]⟩) h ?_ ?_
  ·intro _ h;exact w1 a0.Sections (.i 1 (.e (.o 5 3 23 0 (.b 1 6 30 (.g 0 (.l 3 .z) .z) (.e (.c (.w 3 (.e .z)) .z)))))) t0
  intro x29 h;exact w1 n0 (.e .z) t0
 intro x25 s' h hs;exact w1 n0 (.e .z) t0⟩
def Fh (a0:Int):Option Int :=
 bif decide (a0=1) then (
  some 2
 ) else (
  bif decide (a0=2) then (
   some 3
  ) else (
   bif decide (a0=3) then (
    some 4
   ) else (
    some 0
   )
  )
 )
instance Kb3 (a0:Int):Ct Tryz.prog GlS (Fh a0) 260 [Enc.pv a0] Enc.pv:=⟨fun r h=>by
 unfold Fh at h;refine zC Tryz.func260 Tryz.ntmps260 ?_;exact w1 n0 (.e (.e (.e (.c (.e .z) (.e (.c (.e .z) (.e (.c (.e .z) (.e .z))))))))) t0⟩
def Bl (a0:Ja) (a1:Je):Option Bool :=
 ((bif decide (0<=a1.El) then (
  some (decide (a1.El<((a0.Elements.length:Nat):Int)))
 ) else some false):Option Bool).bind fun b1 =>
 ((bif (b1&&(decide (0<=a1.Side))) then (
  (ixO a0.Elements a1.El).bind fun x3 =>
  (Fh x3.Kind).bind fun r4 =>
  some (decide (a1.Side<r4))
 ) else some false):Option Bool).bind fun b2 =>
 some b2
instance Jy1 (a0:Ja) (a1:Je):Ct Tryz.prog GlS (Bl a0 a1) 227 [Enc.pv a0,Enc.pv a1] Enc.pv:=⟨fun r h=>by
 unfold Bl at h;refine zC Tryz.func227 Tryz.ntmps227 ?_;exact w1 a0.Elements (.e (.b 4 7 15 (.g 0 (.l 4 .z) .z) (.o 1 4 20 0 (.b 1 12 33 (.g 0 (.i 6 (.p 2 .z)) .z) (.e .z))))) t0⟩
def Jeq (a0:(List Je)) (x8:Int):Int->Option (Int⊕(Unit⊕(Int⊕(Unit⊕Bool)))):=fun x18 =>
 bif decide (x18<x8) then (
  (ixO a0 x8).bind fun x21 =>
  (ixO a0 x18).bind fun x22 =>
  bif Kb x21 x22 then (
   some (.inr (.inr (.inr (.inr true))))
  ) else (
   some (.inl (w64 (x18+1)))
  )
 ) else (
  some (.inr (.inl ()))
 )
def Jdz (a0:(List Je)):Int->Option (Int⊕(Unit⊕Bool)):=fun x8 =>
 bif decide (x8<((a0.length:Nat):Int)) then (
  onInl (Js (Jeq a0 x8) 0) fun _ =>
  some (.inl (w64 (x8+1)))
 ) else (
  some (.inr (.inl ()))
 )
def Ny (a0:(List Je)):Option Bool :=
 onInl (Js (Jdz a0) 0) fun _ =>
 some false
instance Kcs (a0:(List Je)):Ct Tryz.prog GlS (Ny a0) 228 [Enc.pv a0] Enc.pv:=⟨fun r h=>by
 unfold Ny at h;refine zC Tryz.func228 Tryz.ntmps228 ?_;refine w1 a0 (.e (.l 1 (.e .s))) ?_;intro h;refine yN 25 0 [7] (fun x8=>⟨[(0,Jh .frozen a0),(6,I6 ((a0.length:Nat):Int)),(7,I6 x8)],[],[],[]⟩) h ?_ ?_
 ·intro x8 _ h;unfold Jdz at h;refine w1 n0 (.e (.c (.e (.e .s)) .z)) ?_;intro h;refine yN 25 2 [11] (fun x18=>⟨[(0,Jh .frozen a0),(3,I6 x8),(6,I6 ((a0.length:Nat):Int)),(7,I6 x8),(10,I6 x8),(11,I6 x18)],[],[],[]⟩) h ?_ ?_
  ·intro x18 _ h;unfold Jeq at h;exact w1 n0 (.e (.c (.e (.i 2 (.i 3 (.e (.c (.e .z) (.e .z)))))) .z)) t0
  intro _ s' h hs;exact w1 n0 (.e .z) t0
 intro _ s' h hs;exact w1 n0 (.e .z) t0⟩
def Dw (a0:Ja):Int->Option (Int⊕(Unit⊕Int)):=fun x3 =>
 bif decide (x3<((a0.Elements.length:Nat):Int)) then (
  (ixO a0.Elements x3).bind fun x6 =>
  (Lh a0 x6).bind fun r7 =>
  bif (!r7) then (
   some (.inr (.inr 1))
  ) else (
   some (.inl (w64 (x3+1)))
  )
 ) else (
  some (.inr (.inl ()))
 )
def Eg (a0:Ja):Int->Option (Int⊕(Unit⊕Int)):=fun x9 =>
 bif decide (x9<((a0.Sections.length:Nat):Int)) then (
  (Cb a0 x9).bind fun r11 =>
  bif decide (((r11.length:Nat):Int)=0) then (
   some (.inr (.inr 1))
  ) else (
   some (.inl (w64 (x9+1)))
  )
 ) else (
  some (.inr (.inl ()))
 )
def Ec (a0:Ja):(Int×(List Je))->Option ((Int×(List Je))⊕((List Je)⊕Int)):=fun (x23,x24) =>
 bif decide (x23<((a0.Joints.length:Nat):Int)) then (
  (ixO a0.Joints x23).bind fun x31 =>
  (Bl a0 x31.A).bind fun r32 =>
  ((bif (!r32) then some true else (
   (Bl a0 x31.B).bind fun r34 =>
   some (!r34)
  )):Option Bool).bind fun b33 =>
  bif (b33||(Kb x31.A x31.B)) then (
   some (.inr (.inr 1))
  ) else (
   (Uq x24 [x31.A,x31.B]).bind fun x35 =>
   some (.inl (w64 (x23+1),x35))
  )
 ) else (
  some (.inr (.inl x24))
 )
def Bb (a0:Ja):Option Int :=
 onInl (Js (Dw a0) 0) fun _ =>
 onInl (Js (Eg a0) 0) fun _ =>
 onInl (Js (Ec a0) (0,[])) fun x30 =>
 (Ny x30).bind fun r36 =>
 bif r36 then (
  some 8
 ) else (
  some 0
 )
instance Jvv (a0:Ja):Ct Tryz.prog GlS (Bb a0) 153 [Enc.pv a0] Enc.pv:=⟨fun r h=>by
 unfold Bb at h;refine zC Tryz.func153 Tryz.ntmps153 ?_;refine w1 a0.Elements (.e (.l 2 (.e .s))) ?_;intro h;refine yN 69 0 [12] (fun x3=>⟨[(1,.ref 1 0),(10,Jh .frozen a0.Elements),(11,I6 ((a0.Elements.length:Nat):Int)),(12,I6 x3)],[(1,.cells (cellsOf a0))],[],[]⟩) h ?_ ?_
 ·intro x3 _ h;unfold Dw at h;exact w1 n0 (.e (.c (.i 0 (.e (.p 2 (.e (.c (.e .z) (.e .z)))))) .z)) t0
 intro _ s' h hs;refine w1 a0.Sections (.l 2 (.e .s)) ?_;intro h;refine yN 69 2 [24] (fun x9=>⟨[(1,.ref 1 0),(23,I6 ((a0.Sections.length:Nat):Int)),(24,I6 x9)],[(1,.cells (cellsOf a0))],[],[]⟩) h ?_ ?_
 ·intro x9 _ h;unfold Eg at h;refine w1 n0 (.e (.c (.e (.p 2 .s)) .z)) ?_;intro r11 h;exact yl 0 r11 (w1 n0 (.e (.c (.e .z) (.e .z))) t0)
 intro _ s' h hs;refine w1 a0.Joints (.e (.l 2 (.e .S))) ?_;intro h;refine Jo (Kq (Zh 6 100006 2 16 kr kr ?_));refine yM 69 4 [36] (fun (x23,x24)=>⟨[(1,.ref 1 0),(6,Jh (.own 100006) x24),(34,Jh .frozen a0.Joints),(35,I6 ((a0.Joints.length:Nat):Int)),(36,I6 x23)],[(1,.cells (cellsOf a0))],[(100006,(((x24).map cellsOf).length,2))],[]⟩) h ?_ ?_
 ·rintro ⟨x23,x24⟩ _ h;unfold Ec at h;exact w1 n0 (.e (.c (.i 0 (.e (.p 3 (.b 2 6 51 (.g 0 .z (.p 3 .z)) (.o 1 6 58 0 (.e (.c (.e .z) (.w 6 (.e (.e .z)))))))))) .z)) t0
 intro x30 s' h hs;exact w1 n0 (.p 1 (.e (.c (.e .z) (.e .z)))) t0⟩
def Ht (a0:Ja) (a1:Je):Int->Option (Int⊕(Unit⊕(Je×Bool))):=fun x2 =>
 bif decide (x2<((a0.Joints.length:Nat):Int)) then (
  (ixO a0.Joints x2).bind fun x4 =>
  bif Kb x4.A a1 then (
   some (.inr (.inr (x4.B,true)))
  ) else (
   bif Kb x4.B a1 then (
    some (.inr (.inr (x4.A,true)))
   ) else (
    some (.inl (w64 (x2+1)))
   )
  )
 ) else (
  some (.inr (.inl ()))
 )
def Wx (a0:Ja) (a1:Je):Option (Je×Bool) :=
 onInl (Js (Ht a0 a1) 0) fun _ =>
 some ((Je.mk 0 0),false)
instance Jzw (a0:Ja) (a1:Je):Ct Tryz.prog GlS (Wx a0 a1) 131 [Enc.pv a0,Enc.pv a1] (fun r=>.tup [Enc.pv r.1,Enc.pv r.2]):=⟨fun r h=>by
 unfold Wx at h;refine zC Tryz.func131 Tryz.ntmps131 ?_;refine w1 a0.Joints (.e (.l 2 (.e .s))) ?_;intro h;refine yN 29 0 [11] (fun x2=>⟨[(3,.ref 3 0),(4,.ref 4 0),(9,Jh .frozen a0.Joints),(10,I6 ((a0.Joints.length:Nat):Int)),(11,I6 x2)],[(3,.cells (cellsOf a1)),(4,.cells ([I6 0,I6 0]))],[],[]⟩) h ?_ ?_
 ·intro x2 _ h;unfold Ht at h;exact w1 n0 (.e (.c (.i 0 (.e (.e (.c (.e .z) (.e (.c (.e .z) (.e .z))))))) .z)) t0
 intro _ s' h hs;exact w1 n0 (.e .z) t0⟩
def Gj (a0:Ja):(Int×(List Je))->Option ((Int×(List Je))⊕((List Je)⊕Int)):=fun (x8,x9) =>
 bif decide (x8<((a0.Signals.length:Nat):Int)) then (
  (ixO a0.Signals x8).bind fun x14 =>
  (Bl a0 x14.At).bind fun r15 =>
  bif (((!r15)||(decide (x14.Overlap<0)))||(decide (1000000<x14.Overlap))) then (
   some (.inr (.inr 1))
  ) else (
   (Uq x9 [x14.At]).bind fun x16 =>
   some (.inl (w64 (x8+1),x16))
  )
 ) else (
  some (.inr (.inl x9))
 )
def Fx (a0:Ja) (x13:(List Je)):Int->Option (Int⊕(Unit⊕Int)):=fun x23 =>
 bif decide (x23<((x13.length:Nat):Int)) then (
  (ixO x13 x23).bind fun x29 =>
  (Wx a0 x29).bind fun r30 =>
  ((bif (!r30.2) then some true else (
   (ixO a0.Elements r30.1.El).bind fun x32 =>
   (ixO a0.Elements x29.El).bind fun x33 =>
   some (decide (x32.Section=x33.Section))
  )):Option Bool).bind fun b31 =>
  bif b31 then (
   some (.inr (.inr 14))
  ) else (
   some (.inl (w64 (x23+1)))
  )
 ) else (
  some (.inr (.inl ()))
 )
def Bz (a0:Ja):Option Int :=
 onInl (Js (Gj a0) (0,[])) fun x13 =>
 (Ny x13).bind fun r17 =>
 bif r17 then (
  some 8
 ) else (
  onInl (Js (Fx a0 x13) 0) fun _ =>
  some 0
 )
instance Jyl (a0:Ja):Ct Tryz.prog GlS (Bz a0) 154 [Enc.pv a0] Enc.pv:=⟨fun r h=>by
 unfold Bz at h;refine zC Tryz.func154 Tryz.ntmps154 ?_;refine w1 a0.Signals (.e (.e (.l 2 (.e .S)))) ?_;intro h;refine Jo (Kq (Zh 3 100003 2 16 kr kr ?_));refine yM 72 0 [13] (fun (x8,x9)=>⟨[(1,.ref 1 0),(3,Jh (.own 100003) x9),(11,Jh .frozen a0.Signals),(12,I6 ((a0.Signals.length:Nat):Int)),(13,I6 x8)],[(1,.cells (cellsOf a0))],[(100003,(((x9).map cellsOf).length,2))],[]⟩) h ?_ ?_
 ·rintro ⟨x8,x9⟩ _ h;unfold Gj at h;exact w1 n0 (.e (.c (.i 0 (.e (.p 3 (.o 2 4 26 1 (.o 1 4 31 0 (.e (.c (.e .z) (.w 4 (.e (.e .z)))))))))) .z)) t0
 intro x13 s' h hs;refine w1 x13 (.p 1 (.e (.c (.e .z) (.l 1 (.e .s))))) ?_;intro _ h;refine yN 72 2 [42] (fun x23=>⟨[(1,.ref 1 0),(40,Jh (.own 100003) x13),(41,I6 ((x13.length:Nat):Int)),(42,I6 x23)],[(1,.cells (cellsOf a0))],[(100003,(((x13).map cellsOf).length,2))],[]⟩) h ?_ ?_
 ·intro x23 _ h;unfold Fx at h;exact w1 n0 (.e (.c (.i 0 (.e (.p 2 (.e (.b 3 16 70 (.g 0 .z (.i 4 (.i 6 .z))) (.e (.c (.e .z) (.e .z)))))))) .z)) t0
 intro _ s' h hs;exact w1 n0 (.e .z) t0⟩
def Jax (a0:(List Int)) (x8:Int):Int->Option (Int⊕(Unit⊕(Int⊕(Unit⊕Bool)))):=fun x18 =>
 bif decide (x18<x8) then (
  (ixO a0 x8).bind fun x21 =>
  (ixO a0 x18).bind fun x22 =>
  bif decide (x21=x22) then (
   some (.inr (.inr (.inr (.inr true))))
  ) else (
   some (.inl (w64 (x18+1)))
  )
 ) else (
  some (.inr (.inl ()))
 )
def Ja1 (a0:(List Int)):Int->Option (Int⊕(Unit⊕Bool)):=fun x8 =>
 bif decide (x8<((a0.length:Nat):Int)) then (
  onInl (Js (Jax a0 x8) 0) fun _ =>
  some (.inl (w64 (x8+1)))
 ) else (
  some (.inr (.inl ()))
 )
def Lm (a0:(List Int)):Option Bool :=
 onInl (Js (Ja1 a0) 0) fun _ =>
 some false
instance Jx2 (a0:(List Int)):Ct Tryz.prog GlS (Lm a0) 229 [Enc.pv a0] Enc.pv:=⟨fun r h=>by
 unfold Lm at h;refine zC Tryz.func229 Tryz.ntmps229 ?_;refine w1 a0 (.e (.l 1 (.e .s))) ?_;intro h;refine yN 25 0 [7] (fun x8=>⟨[(0,Jh .frozen a0),(6,I6 ((a0.length:Nat):Int)),(7,I6 x8)],[],[],[]⟩) h ?_ ?_
 ·intro x8 _ h;unfold Ja1 at h;refine w1 n0 (.e (.c (.e (.e .s)) .z)) ?_;intro h;refine yN 25 2 [11] (fun x18=>⟨[(0,Jh .frozen a0),(3,I6 x8),(6,I6 ((a0.length:Nat):Int)),(7,I6 x8),(10,I6 x8),(11,I6 x18)],[],[],[]⟩) h ?_ ?_
  ·intro x18 _ h;unfold Jax at h;exact w1 n0 (.e (.c (.e (.i 2 (.i 3 (.e (.c (.e .z) (.e .z)))))) .z)) t0
  intro _ s' h hs;exact w1 n0 (.e .z) t0
 intro _ s' h hs;exact w1 n0 (.e .z) t0⟩
def Ga (a0:Ja):(Int×(List Int))->Option ((Int×(List Int))⊕((List Int)⊕Int)):=fun (x12,x13) =>
 bif decide (x12<((a0.Balises.length:Nat):Int)) then (
  (ixO a0.Balises x12).bind fun x20 =>
  ((bif (((decide (x20.Id<1))||(decide (1073741824<x20.Id)))||(decide (x20.El<0))) then some true else (
   some (decide (((a0.Elements.length:Nat):Int)<=x20.El))
  )):Option Bool).bind fun b21 =>
  ((bif (b21||(decide (x20.Offset<0))) then some true else (
   (ixO a0.Elements x20.El).bind fun x23 =>
   some (decide (x23.Length<x20.Offset))
  )):Option Bool).bind fun b22 =>
  bif b22 then (
   some (.inr (.inr 1))
  ) else (
   (Uq x13 [x20.Id]).bind fun x24 =>
   some (.inl (w64 (x12+1),x24))
  )
 ) else (
  some (.inr (.inl x13))
 )
def Bx (a0:Ja):Option Int :=
 onInl (Js (Ga a0) (0,[])) fun x19 =>
 (Lm x19).bind fun r25 =>
 bif r25 then (
  some 8
 ) else (
  some 0
 )
instance Jw1 (a0:Ja):Ct Tryz.prog GlS (Bx a0) 155 [Enc.pv a0] Enc.pv:=⟨fun r h=>by
 unfold Bx at h;refine zC Tryz.func155 Tryz.ntmps155 ?_;refine w1 a0.Balises (.e (.e (.l 2 (.e .S)))) ?_;intro h;refine Jo (Kq (Zh 3 100003 1 8 kr kr ?_));refine yM 59 0 [9] (fun (x12,x13)=>⟨[(1,.ref 1 0),(3,Jh (.own 100003) x13),(7,Jh .frozen a0.Balises),(8,I6 ((a0.Balises.length:Nat):Int)),(9,I6 x12)],[(1,.cells (cellsOf a0))],[(100003,(((x13).map cellsOf).length,1))],[]⟩) h ?_ ?_
 ·rintro ⟨x12,x13⟩ _ h;unfold Ga at h;exact w1 a0.Elements (.e (.c (.i 0 (.e (.o 4 4 20 1 (.o 1 4 25 0 (.b 1 7 33 (.g 0 .z (.l 4 .z)) (.o 1 4 38 0 (.b 1 11 50 (.g 0 .z (.i 6 .z)) (.e (.c (.e .z) (.w 4 (.e (.e .z)))))))))))) .z)) t0
 intro x19 s' h hs;exact w1 n0 (.p 1 (.e (.c (.e .z) (.e .z)))) t0⟩
def Fg (a0:Ja):Option Int :=
 (Le a0).bind fun r1 =>
 bif (!(decide (r1=0))) then (
  some r1
 ) else (
  (Bb a0).bind fun r2 =>
  bif (!(decide (r2=0))) then (
   some r2
  ) else (
   (Bz a0).bind fun r3 =>
   bif (!(decide (r3=0))) then (
    some r3
   ) else (
    (Bx a0).bind fun r4 =>
    some r4
   )
  )
 )
instance Kbg (a0:Ja):Ct Tryz.prog GlS (Fg a0) 79 [Enc.pv a0] Enc.pv:=⟨fun r h=>by
 unfold Fg at h;refine zC Tryz.func79 Tryz.ntmps79 ?_;exact w1 n0 (.e (.p 1 (.e (.e (.c (.e .z) (.p 1 (.e (.e (.c (.e .z) (.p 1 (.e (.e (.c (.e .z) (.p 1 (.e .z))))))))))))))) t0⟩
def Yt (a0:Ja) (a1:Int):Option Bool :=
 ((bif decide (0<=a1) then (
  some (decide (a1<((a0.Elements.length:Nat):Int)))
 ) else some false):Option Bool).bind fun b1 =>
 some b1
instance Jz8 (a0:Ja) (a1:Int):Ct Tryz.prog GlS (Yt a0 a1) 159 [Enc.pv a0,Enc.pv a1] Enc.pv:=⟨fun r h=>by
 unfold Yt at h;refine zC Tryz.func159 Tryz.ntmps159 ?_;exact w1 a0.Elements (.e (.b 3 6 13 (.g 0 (.l 3 .z) .z) (.e .z))) t0⟩
def Co (a0:Int) (a1:Int) (a2:Int):Option (Int×Bool) :=
 bif ((decide (a0=1))||(decide (a0=3))) then (
  some (0,(((decide ((min a1 a2)=0))&&(decide ((max a1 a2)=1)))||(((decide (a0=3))&&(decide ((min a1 a2)=2)))&&(decide ((max a1 a2)=3)))))
 ) else (
  bif (((decide (a0=2))&&(decide ((min a1 a2)=0)))&&(decide ((max a1 a2)=1))) then (
   some (1,true)
  ) else (
   bif (((decide (a0=2))&&(decide ((min a1 a2)=0)))&&(decide ((max a1 a2)=2))) then (
    some (2,true)
   ) else (
    some (0,false)
   )
  )
 )
instance Kcy (a0:Int) (a1:Int) (a2:Int):Ct Tryz.prog GlS (Co a0 a1 a2) 254 [Enc.pv a0,Enc.pv a1,Enc.pv a2] (fun r=>.tup [Enc.pv r.1,Enc.pv r.2]):=⟨fun r h=>by
 unfold Co at h;refine zC Tryz.func254 Tryz.ntmps254 ?_;refine Kj (Wj (zE (Jo (Kj (Wj (zE (Jo (Kj (Wj (zE (Jo (Kj (Kj (Wj (zR 3 ?_)))))))))))))));refine Xc 3 21 ((decide (a0=1))||(decide (a0=3))) (fun x hx=>?_) ?_
 ·rcases Klk hx with ⟨hb,hx⟩|⟨hb,hx⟩
  ·refine zS 18 hb ?_;subst hx;exact zF
  refine zS 18 hb ?_;subst hx;exact zF
 refine zN (Jo ?_);rcases Jjl h with ⟨hb,h⟩|⟨hb,h⟩
 ·refine zT hb (Kj (Wj (zR 3 ?_)));refine Xc 3 27 ((decide ((min a1 a2)=0))&&(decide ((max a1 a2)=1))) (fun x hx=>?_) ?_
  ·rcases Jkb hx with ⟨hb,hx⟩|⟨hb,hx⟩
   ·refine zS 24 hb ?_;subst hx;exact zF
   refine zS 24 hb ?_;subst hx;exact zF
  refine zR 1 ?_;refine Xc 11 39 (((decide ((min a1 a2)=0))&&(decide ((max a1 a2)=1)))||(((decide (a0=3))&&(decide ((min a1 a2)=2)))&&(decide ((max a1 a2)=3)))) (fun x hx=>?_) ?_
  ·rcases Klk hx with ⟨hb,hx⟩|⟨hb,hx⟩
   ·refine zS 28 hb ?_;subst hx;exact zF
   refine zS 28 hb (zR 3 ?_);refine Kfl 3 34 ((decide (a0=3))&&(decide ((min a1 a2)=2))) (fun x hx=>?_) ?_
   ·rcases Jkb hx with ⟨hb,hx⟩|⟨hb,hx⟩
    ·refine zS 31 hb ?_;subst hx;exact zF
    refine zS 31 hb ?_;subst hx;exact zF
   refine zR 1 ?_;refine Kfl 3 38 (((decide (a0=3))&&(decide ((min a1 a2)=2)))&&(decide ((max a1 a2)=3))) (fun x hx=>?_) ?_
   ·rcases Jkb hx with ⟨hb,hx⟩|⟨hb,hx⟩
    ·refine zS 35 hb ?_;subst hx;exact zF
    refine zS 35 hb ?_;subst hx;exact zF
   subst hx;exact zF
  refine zE (Jo (Wf (Za ?_)));cases h;exact zQ
 refine zU hb (Ve (Jo (Kj (Kj (Wj (zR 3 ?_))))));refine Xc 3 45 ((decide (a0=2))&&(decide ((min a1 a2)=0))) (fun x hx=>?_) ?_
 ·rcases Jkb hx with ⟨hb,hx⟩|⟨hb,hx⟩
  ·refine zS 42 hb ?_;subst hx;exact zF
  refine zS 42 hb ?_;subst hx;exact zF
 refine zR 1 ?_;refine Xc 3 49 (((decide (a0=2))&&(decide ((min a1 a2)=0)))&&(decide ((max a1 a2)=1))) (fun x hx=>?_) ?_
 ·rcases Jkb hx with ⟨hb,hx⟩|⟨hb,hx⟩
  ·refine zS 46 hb ?_;subst hx;exact zF
  refine zS 46 hb ?_;subst hx;exact zF
 refine zN (Jo ?_);rcases Jjl h with ⟨hb,h⟩|⟨hb,h⟩
 ·refine zT hb (Kj (Wj (zE (Jo (Wf (Za ?_))))));cases h;exact zQ
 refine zU hb (Ve (Jo (Kj (Kj (Wj (zR 3 ?_))))));refine Xc 3 55 ((decide (a0=2))&&(decide ((min a1 a2)=0))) (fun x hx=>?_) ?_
 ·rcases Jkb hx with ⟨hb,hx⟩|⟨hb,hx⟩
  ·refine zS 52 hb ?_;subst hx;exact zF
  refine zS 52 hb ?_;subst hx;exact zF
 refine zR 1 ?_;refine Xc 3 59 (((decide (a0=2))&&(decide ((min a1 a2)=0)))&&(decide ((max a1 a2)=2))) (fun x hx=>?_) ?_
 ·rcases Jkb hx with ⟨hb,hx⟩|⟨hb,hx⟩
  ·refine zS 56 hb ?_;subst hx;exact zF
  refine zS 56 hb ?_;subst hx;exact zF
 refine zN (Jo ?_);rcases Jjl h with ⟨hb,h⟩|⟨hb,h⟩
 ·refine zT hb (Kj (Wj (zE (Jo (Wf (Za ?_))))));cases h;exact zQ
 refine zU hb (Ve (Jo (Kj (Wj (zE (Jo (Wf ?_)))))));cases h;exact zQ⟩
def Gq (a0:Int) (a1:Int):(Int×(List Int))->Option ((Int×(List Int))⊕((List Int)⊕(List Int))):=fun (x12,x13) =>
 bif decide (x12<4) then (
  onInl (α:=(List Int)) (β:=((Int×(List Int))⊕((List Int)⊕(List Int)))) (
   (Co a0 a1 x12).bind fun r23 =>
   bif r23.2 then (
    (Uq x13 [x12]).bind fun x24 =>
    some (.inl x24)
   ) else (
    some (.inl x13)
   )
  ) fun x22 =>
  some (.inl (w64 (x12+1),x22))
 ) else (
  some (.inr (.inl x13))
 )
def Ed (a0:Int) (a1:Int):Option (List Int) :=
 onInl (Js (Gq a0 a1) (0,[])) fun x19 =>
 some x19
theorem Jkt (a0:Int) (a1:Int) (r:(List Int)) (h:Ed a0 a1=some r):Yy Tryz.prog GlS 201 [Enc.pv a0,Enc.pv a1] (Jh (.own 100005) r):=by
 unfold Ed at h;refine zC Tryz.func201 Tryz.ntmps201 ?_;refine w1 n0 (.e (.e (.e .S))) ?_;intro h;refine Jo (Kq (Zh 5 100005 1 8 kr kr ?_));refine yM 26 0 [6] (fun (x12,x13)=>⟨[(0,I6 a0),(1,I6 a1),(5,Jh (.own 100005) x13),(6,I6 x12)],[],[(100005,(((x13).map cellsOf).length,1))],[]⟩) h ?_ ?_
 ·rintro ⟨x12,x13⟩ _ h;unfold Gq at h;refine w1 n0 (.e (.c .s .z)) ?_;intro h;refine yJ 26 (fun x22=>⟨[(0,I6 a0),(1,I6 a1),(5,Jh (.own 100005) x22),(6,I6 x12)],[],[(100005,(((x22).map cellsOf).length,1))],[]⟩) h ?_ ?_
  ·intro _ h;exact w1 n0 (.p 3 (.e (.e (.c (.w 3 (.e .z)) .z)))) t0
  intro x22 h;exact w1 n0 (.e .z) t0
 intro x19 s' h hs;exact w1 n0 (.e .z) t0
instance Kcu (a0:Int) (a1:Int):Ct Tryz.prog GlS (Ed a0 a1) 201 [Enc.pv a0,Enc.pv a1] Enc.pv:=⟨fun r h =>
 (Jkt a0 a1 r h).freeze kr kr kr⟩
def Bm (a1:Je) (r3:(List Int)):(Int×(List Jb))->Option ((Int×(List Jb))⊕((List Jb)⊕(List Jb))):=fun (x9,x10) =>
 bif decide (x9<((r3.length:Nat):Int)) then (
  (ixO r3 x9).bind fun x14 =>
  (Uq x10 [(Jb.mk a1.El a1.Side x14)]).bind fun x15 =>
  some (.inl (w64 (x9+1),x15))
 ) else (
  some (.inr (.inl x10))
 )
def Zw (a0:Ja) (a1:Je):Option (List Jb) :=
 (Yt a0 a1.El).bind fun r1 =>
 bif (!r1) then (
  some ([]:(List Jb))
 ) else (
  (ixO a0.Elements a1.El).bind fun x2 =>
  (Ed x2.Kind a1.Side).bind fun r3 =>
  onInl (Js (Bm a1 r3) (0,[])) fun x13 =>
  some x13
 )
instance Jv2 (a0:Ja) (a1:Je):Ct Tryz.prog GlS (Zw a0 a1) 133 [Enc.pv a0,Enc.pv a1] (fun r=>Jh (.own 100006) r):=⟨fun r h=>by
 unfold Zw at h;refine zC Tryz.func133 Tryz.ntmps133 ?_;refine w6 n0 (.e (.p 3 (.e (.c (.e .S) (.i 4 (.p 4 (.e (.e (.e .S))))))))) ?_ ?_ t0 t0 t0 t0
 ·intro _ h;exact Jo (Zh 4 100006 3 24 kr kr (w1 n0 .z t0))
 intro _ _ r3 h;refine Jo (Kq (Zh 6 100006 3 24 kr kr ?_));refine yM 42 0 [7] (fun (x9,x10)=>⟨[(3,.ref 3 0),(5,Jh .frozen r3),(6,Jh (.own 100006) x10),(7,I6 x9)],[(3,.cells (cellsOf a1))],[(100006,(((x10).map cellsOf).length,3))],[]⟩) h ?_ ?_
 ·rintro ⟨x9,x10⟩ _ h;unfold Bm at h;exact w1 r3 (.l 2 (.e (.c (.i 7 (.w 3 (.e (.e .z)))) .z))) t0
 intro x13 s' h hs;exact w1 n0 (.e .z) t0⟩
def Ic (a0:Ja) (a1:Jb):Option (Int×Bool) :=
 (Yt a0 a1.El).bind fun r1 =>
 bif (!r1) then (
  some (0,false)
 ) else (
  (ixO a0.Elements a1.El).bind fun x2 =>
  (Co x2.Kind a1.In a1.Out).bind fun r3 =>
  some (r3.1,r3.2)
 )
instance Kda (a0:Ja) (a1:Jb):Ct Tryz.prog GlS (Ic a0 a1) 202 [Enc.pv a0,Enc.pv a1] (fun r=>.tup [Enc.pv r.1,Enc.pv r.2]):=⟨fun r h=>by
 unfold Ic at h;refine zC Tryz.func202 Tryz.ntmps202 ?_;exact w1 n0 (.e (.p 3 (.e (.c (.e .z) (.i 4 (.p 6 (.e .z))))))) t0⟩
def Cn (a0:Ja) (a1:Jb):Option (Je×Bool) :=
 (Wx a0 (Je.mk a1.El a1.Out)).bind fun r1 =>
 some (r1.1,r1.2)
instance Kc1 (a0:Ja) (a1:Jb):Ct Tryz.prog GlS (Cn a0 a1) 134 [Enc.pv a0,Enc.pv a1] (fun r=>.tup [Enc.pv r.1,Enc.pv r.2]):=⟨fun r h=>by
 unfold Cn at h;refine zC Tryz.func134 Tryz.ntmps134 ?_;exact w1 n0 (.e (.p 6 (.e .z))) t0⟩
def Eh (a1:(List Jb)) (x23:Int):Int->Option (Int⊕(Unit⊕(Int⊕(Unit⊕Bool)))):=fun x61 =>
 bif decide (x61<x23) then (
  (ixO a1 x61).bind fun x64 =>
  (ixO a1 x23).bind fun x65 =>
  bif decide (x64.El=x65.El) then (
   some (.inr (.inr (.inr (.inr false))))
  ) else (
   some (.inl (w64 (x61+1)))
  )
 ) else (
  some (.inr (.inl ()))
 )
def Lw (a0:Ja) (a1:(List Jb)):Int->Option (Int⊕(Unit⊕Bool)):=fun x23 =>
 bif decide (x23<((a1.length:Nat):Int)) then (
  (ixO a1 x23).bind fun x45 =>
  (Ic a0 x45).bind fun r46 =>
  bif (!r46.2) then (
   some (.inr (.inr false))
  ) else (
   onInl (α:=Unit) (β:=(Int⊕(Unit⊕Bool))) (
    bif decide (0<x23) then (
     (ixO a1 (w64 (x23 - 1))).bind fun x53 =>
     (Cn a0 x53).bind fun r54 =>
     ((bif (!r54.2) then some true else (
      (ixO a1 x23).bind fun x56 =>
      some (!(decide (r54.1.El=x56.El)))
     )):Option Bool).bind fun b55 =>
     ((bif b55 then some true else (
      (ixO a1 x23).bind fun x58 =>
      some (!(decide (r54.1.Side=x58.In)))
     )):Option Bool).bind fun b57 =>
     bif b57 then (
      some (.inr (.inr (.inr false)))
     ) else (
      some (.inl ())
     )
    ) else (
     some (.inl ())
    )
   ) fun _ =>
   onInl (Js (Eh a1 x23) 0) fun _ =>
   some (.inl (w64 (x23+1)))
  )
 ) else (
  some (.inr (.inl ()))
 )
def Ff (a0:Ja) (a1:(List Jb)):Option Bool :=
 ((bif decide (((a1.length:Nat):Int)=0) then some true else (
  some (decide (64<((a1.length:Nat):Int)))
 )):Option Bool).bind fun b1 =>
 bif b1 then (
  some false
 ) else (
  onInl (Js (Lw a0 a1) 0) fun _ =>
  some true
 )
instance Kbq (a0:Ja) (a1:(List Jb)):Ct Tryz.prog GlS (Ff a0 a1) 156 [Enc.pv a0,Enc.pv a1] Enc.pv:=⟨fun r h=>by
 unfold Ff at h;refine zC Tryz.func156 Tryz.ntmps156 ?_;refine w1 a1 (.e (.l 1 (.b 2 4 18 (.g 0 .z (.l 1 .z)) (.e (.c (.e .z) (.e .s)))))) ?_;intro _ h;refine yN 86 0 [5] (fun x23=>⟨[(1,Jh .frozen a1),(2,.ref 2 0),(5,I6 x23)],[(2,.cells (cellsOf a0))],[],[]⟩) h ?_ ?_
 ·intro x23 _ h;unfold Lw at h;refine w1 a1 (.l 2 (.e (.c (.i 3 (.p 1 (.e (.e (.c (.e .z) .S))))) .z))) ?_;intro _ _ h;refine Ve (Jo ?_);refine yJ 86 (fun (_:Unit)=>⟨[(1,Jh .frozen a1),(2,.ref 2 0),(5,I6 x23)],[(2,.cells (cellsOf a0))],[],[]⟩) h ?_ ?_
  ·intro _ h;exact w1 n0 (.e (.c (.i 4 (.p 1 (.e (.b 3 9 59 (.g 0 .z (.i 4 .z)) (.b 1 9 69 (.g 0 .z (.i 4 .z)) (.e (.c (.e .z) .z))))))) .z)) t0
  intro _ h;refine w1 n0 (.e .s) ?_;intro h;refine yN 86 2 [10] (fun x61=>⟨[(1,Jh .frozen a1),(2,.ref 2 0),(5,I6 x23),(10,I6 x61)],[(2,.cells (cellsOf a0))],[],[]⟩) h ?_ ?_
  ·intro x61 _ h;unfold Eh at h;exact w1 n0 (.e (.c (.i 2 (.i 4 (.e (.c (.e .z) (.e .z))))) .z)) t0
  intro _ s' h hs;exact w1 n0 (.e .z) t0
 intro _ s' h hs;exact w1 n0 (.e .z) t0⟩
def Wh (a0:Ja) (a1:Int):Option Int :=
 ((bif decide (a1<0) then some true else (
  some (decide (((a0.Elements.length:Nat):Int)<=a1))
 )):Option Bool).bind fun b1 =>
 bif b1 then (
  some (-1)
 ) else (
  (ixO a0.Elements a1).bind fun x2 =>
  some x2.Section
 )
instance Jxa (a0:Ja) (a1:Int):Ct Tryz.prog GlS (Wh a0 a1) 69 [Enc.pv a0,Enc.pv a1] Enc.pv:=⟨fun r h=>by
 unfold Wh at h;refine zC Tryz.func69 Tryz.ntmps69 ?_;exact w1 a0.Elements (.e (.b 3 6 13 (.g 0 .z (.l 3 .z)) (.e (.c (.e .z) (.i 3 (.e .z)))))) t0⟩
def Pw (a0:(List Int)) (a1:Int):Int->Option (Int⊕(Unit⊕Bool)):=fun x2 =>
 bif decide (x2<((a0.length:Nat):Int)) then (
  (ixO a0 x2).bind fun x4 =>
  bif decide (x4=a1) then (
   some (.inr (.inr true))
  ) else (
   some (.inl (w64 (x2+1)))
  )
 ) else (
  some (.inr (.inl ()))
 )
def Rr (a0:(List Int)) (a1:Int):Option Bool :=
 onInl (Js (Pw a0 a1) 0) fun _ =>
 some false
instance Ke9 (a0:(List Int)) (a1:Int):Ct Tryz.prog GlS (Rr a0 a1) 204 [Enc.pv a0,Enc.pv a1] Enc.pv:=⟨fun r h=>by
 unfold Rr at h;refine zC Tryz.func204 Tryz.ntmps204 ?_;refine w1 n0 (.e (.e .s)) ?_;intro h;refine yN 18 0 [5] (fun x2=>⟨[(0,Jh .frozen a0),(1,I6 a1),(5,I6 x2)],[],[],[]⟩) h ?_ ?_
 ·intro x2 _ h;unfold Pw at h;exact w1 a0 (.l 2 (.e (.c (.i 2 (.e (.c (.e .z) (.e .z)))) .z))) t0
 intro _ s' h hs;exact w1 n0 (.e .z) t0⟩
end
end PM
