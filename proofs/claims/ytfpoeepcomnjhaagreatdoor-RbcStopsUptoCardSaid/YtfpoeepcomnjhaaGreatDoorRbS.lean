/-
 THE BASE OF THE CARDS: the types of the arguments, and what the rows' list says of the package tables. Printed by tyf.py.
-/
import Derived.Test.YtfpoeepcomnjhaaGreatDoorPlnA
import Derived.Test.YtfpoeepcomnjhaaGreatDoorFrA
import Derived.WalkKit
import Derived.ProofKit
namespace Go.Proofs.YtfpoeepcomnjhaaGreatDoor
open Go.ChangeShapes Go.WideShapes Go.ChangeAt Go.RowKit PM
theorem own : ownKnob Tryz.prog.godebug=none:=by kernel_rfl
theorem laidOut : laidOutB Tryz.prog=true:=by kernel_rfl
theorem ty9 : Yt Tryz.prog 9 ByteArray false:=Jy6 Tryz.underlying9 (by kernel_rfl)
theorem ty22 : Yt Tryz.prog 22 (List ByteArray) true:=Br ty9 Tryz.underlying22 (by kernel_rfl)
theorem ty3 : Yt Tryz.prog 3 Int false:=Jx7 Tryz.underlying3 (by kernel_rfl)
abbrev P_T_api_Element:=ByteArray×Int×Int×Int×Int×Int×Int×Unit
def un_T_api_Element (x:Ke):P_T_api_Element:=(x.Name,x.Kind,x.Length,x.Grade,x.Speed,x.Slow,x.Section,())
def mk_T_api_Element (b:P_T_api_Element):Ke:=⟨b.1,b.2.1,b.2.2.1,b.2.2.2.1,b.2.2.2.2.1,b.2.2.2.2.2.1,b.2.2.2.2.2.2.1⟩
instance : Dt Ke:=Sp un_T_api_Element
theorem ty134 : Yt Tryz.prog 134 Ke false :=
 Vl (k:=7) (b:=64) un_T_api_Element mk_T_api_Element Tryz.underlying134 (by kernel_rfl) rfl (by decide) (Ki ty9 (off':=1) (by rfl) (Ki ty3 (off':=2) (by rfl) (Ki ty3 (off':=3) (by rfl) (Ki ty3 (off':=4) (by rfl) (Ki ty3 (off':=5) (by rfl) (Ki ty3 (off':=6) (by rfl) (Ki ty3 (off':=7) (by rfl) (Yj 7)))))))) (fun _=>rfl) (fun _=>rfl) (fun _=>rfl) (fun _=>rfl)
theorem ty23 : Yt Tryz.prog 23 (List Ke) true:=Br ty134 Tryz.underlying23 (by kernel_rfl)
abbrev P_T_api_End:=Int×Int×Unit
def un_T_api_End (x:Jo):P_T_api_End:=(x.El,x.Side,())
def mk_T_api_End (b:P_T_api_End):Jo:=⟨b.1,b.2.1⟩
instance : Dt Jo:=Sp un_T_api_End
theorem ty130 : Yt Tryz.prog 130 Jo false :=
 Vl (k:=2) (b:=16) un_T_api_End mk_T_api_End Tryz.underlying130 (by kernel_rfl) rfl (by decide) (Ki ty3 (off':=1) (by rfl) (Ki ty3 (off':=2) (by rfl) (Yj 2))) (fun _=>rfl) (fun _=>rfl) (fun _=>rfl) (fun _=>rfl)
abbrev P_T_api_Joint:=Jo×Jo×Unit
def un_T_api_Joint (x:Qu):P_T_api_Joint:=(x.A,x.B,())
def mk_T_api_Joint (b:P_T_api_Joint):Qu:=⟨b.1,b.2.1⟩
instance : Dt Qu:=Sp un_T_api_Joint
theorem ty136 : Yt Tryz.prog 136 Qu false :=
 Vl (k:=4) (b:=32) un_T_api_Joint mk_T_api_Joint Tryz.underlying136 (by kernel_rfl) rfl (by decide) (Ki ty130 (off':=2) (by rfl) (Ki ty130 (off':=4) (by rfl) (Yj 4))) (fun _=>rfl) (fun _=>rfl) (fun _=>rfl) (fun _=>rfl)
theorem ty24 : Yt Tryz.prog 24 (List Qu) true:=Br ty136 Tryz.underlying24 (by kernel_rfl)
abbrev P_T_api_Signal:=ByteArray×Jo×Int×Unit
def un_T_api_Signal (x:Kl):P_T_api_Signal:=(x.Name,x.At,x.Overlap,())
def mk_T_api_Signal (b:P_T_api_Signal):Kl:=⟨b.1,b.2.1,b.2.2.1⟩
instance : Dt Kl:=Sp un_T_api_Signal
theorem ty132 : Yt Tryz.prog 132 Kl false :=
 Vl (k:=4) (b:=40) un_T_api_Signal mk_T_api_Signal Tryz.underlying132 (by kernel_rfl) rfl (by decide) (Ki ty9 (off':=1) (by rfl) (Ki ty130 (off':=3) (by rfl) (Ki ty3 (off':=4) (by rfl) (Yj 4)))) (fun _=>rfl) (fun _=>rfl) (fun _=>rfl) (fun _=>rfl)
theorem ty25 : Yt Tryz.prog 25 (List Kl) true:=Br ty132 Tryz.underlying25 (by kernel_rfl)
abbrev P_T_api_Balise:=Int×Int×Int×Unit
def un_T_api_Balise (x:Jx):P_T_api_Balise:=(x.Id,x.El,x.Offset,())
def mk_T_api_Balise (b:P_T_api_Balise):Jx:=⟨b.1,b.2.1,b.2.2.1⟩
instance : Dt Jx:=Sp un_T_api_Balise
theorem ty251 : Yt Tryz.prog 251 Jx false :=
 Vl (k:=3) (b:=24) un_T_api_Balise mk_T_api_Balise Tryz.underlying251 (by kernel_rfl) rfl (by decide) (Ki ty3 (off':=1) (by rfl) (Ki ty3 (off':=2) (by rfl) (Ki ty3 (off':=3) (by rfl) (Yj 3)))) (fun _=>rfl) (fun _=>rfl) (fun _=>rfl) (fun _=>rfl)
theorem ty26 : Yt Tryz.prog 26 (List Jx) true:=Br ty251 Tryz.underlying26 (by kernel_rfl)
abbrev P_T_api_Layout:=ByteArray×(List ByteArray)×(List Ke)×(List Qu)×(List Kl)×(List Jx)×Unit
def un_T_api_Layout (x:Ji):P_T_api_Layout:=(x.Name,x.Sections,x.Elements,x.Joints,x.Signals,x.Balises,())
def mk_T_api_Layout (b:P_T_api_Layout):Ji:=⟨b.1,b.2.1,b.2.2.1,b.2.2.2.1,b.2.2.2.2.1,b.2.2.2.2.2.1⟩
instance : Dt Ji:=Sp un_T_api_Layout
theorem ty28 : Yt Tryz.prog 28 Ji true :=
 Vl (k:=6) (b:=136) un_T_api_Layout mk_T_api_Layout Tryz.underlying28 (by kernel_rfl) rfl (by decide) (Ki ty9 (off':=1) (by rfl) (Ki ty22 (off':=2) (by rfl) (Ki ty23 (off':=3) (by rfl) (Ki ty24 (off':=4) (by rfl) (Ki ty25 (off':=5) (by rfl) (Ki ty26 (off':=6) (by rfl) (Yj 6))))))) (fun _=>rfl) (fun _=>rfl) (fun _=>rfl) (fun _=>rfl)
abbrev P_T_api_Step:=Int×Int×Int×Unit
def un_T_api_Step (x:Jf):P_T_api_Step:=(x.El,x.In,x.Out,())
def mk_T_api_Step (b:P_T_api_Step):Jf:=⟨b.1,b.2.1,b.2.2.1⟩
instance : Dt Jf:=Sp un_T_api_Step
theorem ty143 : Yt Tryz.prog 143 Jf false :=
 Vl (k:=3) (b:=24) un_T_api_Step mk_T_api_Step Tryz.underlying143 (by kernel_rfl) rfl (by decide) (Ki ty3 (off':=1) (by rfl) (Ki ty3 (off':=2) (by rfl) (Ki ty3 (off':=3) (by rfl) (Yj 3)))) (fun _=>rfl) (fun _=>rfl) (fun _=>rfl) (fun _=>rfl)
theorem ty33 : Yt Tryz.prog 33 (List Jf) true:=Br ty143 Tryz.underlying33 (by kernel_rfl)
abbrev P_T_api_Setting:=Int×Int×Unit
def un_T_api_Setting (x:Jr):P_T_api_Setting:=(x.El,x.Pos,())
def mk_T_api_Setting (b:P_T_api_Setting):Jr:=⟨b.1,b.2.1⟩
instance : Dt Jr:=Sp un_T_api_Setting
theorem ty186 : Yt Tryz.prog 186 Jr false :=
 Vl (k:=2) (b:=16) un_T_api_Setting mk_T_api_Setting Tryz.underlying186 (by kernel_rfl) rfl (by decide) (Ki ty3 (off':=1) (by rfl) (Ki ty3 (off':=2) (by rfl) (Yj 2))) (fun _=>rfl) (fun _=>rfl) (fun _=>rfl) (fun _=>rfl)
theorem ty117 : Yt Tryz.prog 117 (List Jr) true:=Br ty186 Tryz.underlying117 (by kernel_rfl)
theorem ty46 : Yt Tryz.prog 46 (List Int) true:=Br ty3 Tryz.underlying46 (by kernel_rfl)
theorem ty118 : Yt Tryz.prog 118 (List Jo) true:=Br ty130 Tryz.underlying118 (by kernel_rfl)
abbrev P_T_api_Route:=ByteArray×Int×Int×(List Jf)×(List Jr)×(List Int)×Int×Int×(List Jf)×(List Jr)×(List Int)×(List Jr)×(List Int)×(List Jo)×Unit
def un_T_api_Route (x:Ju):P_T_api_Route:=(x.Name,x.Entry,x.Exit,x.Path,x.Points,x.Sections,x.Approach,x.Length,x.Over,x.OverPoints,x.OverSections,x.Flank,x.Guards,x.Gaps,())
def mk_T_api_Route (b:P_T_api_Route):Ju:=⟨b.1,b.2.1,b.2.2.1,b.2.2.2.1,b.2.2.2.2.1,b.2.2.2.2.2.1,b.2.2.2.2.2.2.1,b.2.2.2.2.2.2.2.1,b.2.2.2.2.2.2.2.2.1,b.2.2.2.2.2.2.2.2.2.1,b.2.2.2.2.2.2.2.2.2.2.1,b.2.2.2.2.2.2.2.2.2.2.2.1,b.2.2.2.2.2.2.2.2.2.2.2.2.1,b.2.2.2.2.2.2.2.2.2.2.2.2.2.1⟩
instance : Dt Ju:=Sp un_T_api_Route
theorem ty120 : Yt Tryz.prog 120 Ju true :=
 Vl (k:=14) (b:=264) un_T_api_Route mk_T_api_Route Tryz.underlying120 (by kernel_rfl) rfl (by decide) (Ki ty9 (off':=1) (by rfl) (Ki ty3 (off':=2) (by rfl) (Ki ty3 (off':=3) (by rfl) (Ki ty33 (off':=4) (by rfl) (Ki ty117 (off':=5) (by rfl) (Ki ty46 (off':=6) (by rfl) (Ki ty3 (off':=7) (by rfl) (Ki ty3 (off':=8) (by rfl) (Ki ty33 (off':=9) (by rfl) (Ki ty117 (off':=10) (by rfl) (Ki ty46 (off':=11) (by rfl) (Ki ty117 (off':=12) (by rfl) (Ki ty46 (off':=13) (by rfl) (Ki ty118 (off':=14) (by rfl) (Yj 14))))))))))))))) (fun _=>rfl) (fun _=>rfl) (fun _=>rfl) (fun _=>rfl)
theorem ty45 : Yt Tryz.prog 45 (List Ju) true:=Br ty120 Tryz.underlying45 (by kernel_rfl)
abbrev P_T_api_Table:=(List Ju)×(List Int)×(List Int)×Int×Int×Unit
def un_T_api_Table (x:Kz):P_T_api_Table:=(x.Routes,x.Points,x.Homes,x.Sections,x.Signals,())
def mk_T_api_Table (b:P_T_api_Table):Kz:=⟨b.1,b.2.1,b.2.2.1,b.2.2.2.1,b.2.2.2.2.1⟩
instance : Dt Kz:=Sp un_T_api_Table
theorem ty48 : Yt Tryz.prog 48 Kz true :=
 Vl (k:=5) (b:=88) un_T_api_Table mk_T_api_Table Tryz.underlying48 (by kernel_rfl) rfl (by decide) (Ki ty45 (off':=1) (by rfl) (Ki ty46 (off':=2) (by rfl) (Ki ty46 (off':=3) (by rfl) (Ki ty3 (off':=4) (by rfl) (Ki ty3 (off':=5) (by rfl) (Yj 5)))))) (fun _=>rfl) (fun _=>rfl) (fun _=>rfl) (fun _=>rfl)
abbrev P_T_api_RouteState:=Int×Int×Int×Unit
def un_T_api_RouteState (x:Qn):P_T_api_RouteState:=(x.State,x.Rel,x.Timer,())
def mk_T_api_RouteState (b:P_T_api_RouteState):Qn:=⟨b.1,b.2.1,b.2.2.1⟩
instance : Dt Qn:=Sp un_T_api_RouteState
theorem ty78 : Yt Tryz.prog 78 Qn false :=
 Vl (k:=3) (b:=24) un_T_api_RouteState mk_T_api_RouteState Tryz.underlying78 (by kernel_rfl) rfl (by decide) (Ki ty3 (off':=1) (by rfl) (Ki ty3 (off':=2) (by rfl) (Ki ty3 (off':=3) (by rfl) (Yj 3)))) (fun _=>rfl) (fun _=>rfl) (fun _=>rfl) (fun _=>rfl)
theorem ty49 : Yt Tryz.prog 49 (List Qn) true:=Br ty78 Tryz.underlying49 (by kernel_rfl)
abbrev P_T_api_Inter:=(List Qn)×(List Int)×Unit
def un_T_api_Inter (x:Qf):P_T_api_Inter:=(x.Routes,x.Lies,())
def mk_T_api_Inter (b:P_T_api_Inter):Qf:=⟨b.1,b.2.1⟩
instance : Dt Qf:=Sp un_T_api_Inter
theorem ty51 : Yt Tryz.prog 51 Qf true :=
 Vl (k:=2) (b:=48) un_T_api_Inter mk_T_api_Inter Tryz.underlying51 (by kernel_rfl) rfl (by decide) (Ki ty49 (off':=1) (by rfl) (Ki ty46 (off':=2) (by rfl) (Yj 2))) (fun _=>rfl) (fun _=>rfl) (fun _=>rfl) (fun _=>rfl)
theorem ty4 : Yt Tryz.prog 4 Bool false:=Jwu Tryz.underlying4 (by kernel_rfl)
abbrev P_T_api_Restriction:=Int×Int×Int×Int×Int×Bool×Unit
def un_T_api_Restriction (x:Kf):P_T_api_Restriction:=(x.Id,x.El,x.From,x.To,x.Speed,x.Active,())
def mk_T_api_Restriction (b:P_T_api_Restriction):Kf:=⟨b.1,b.2.1,b.2.2.1,b.2.2.2.1,b.2.2.2.2.1,b.2.2.2.2.2.1⟩
instance : Dt Kf:=Sp un_T_api_Restriction
theorem ty277 : Yt Tryz.prog 277 Kf false :=
 Vl (k:=6) (b:=48) un_T_api_Restriction mk_T_api_Restriction Tryz.underlying277 (by kernel_rfl) rfl (by decide) (Ki ty3 (off':=1) (by rfl) (Ki ty3 (off':=2) (by rfl) (Ki ty3 (off':=3) (by rfl) (Ki ty3 (off':=4) (by rfl) (Ki ty3 (off':=5) (by rfl) (Ki ty4 (off':=6) (by rfl) (Yj 6))))))) (fun _=>rfl) (fun _=>rfl) (fun _=>rfl) (fun _=>rfl)
theorem ty52 : Yt Tryz.prog 52 (List Kf) true:=Br ty277 Tryz.underlying52 (by kernel_rfl)
abbrev P_T_api_Train:=Int×ByteArray×Int×Int×Int×Int×Int×Int×Int×Int×Unit
def un_T_api_Train (x:Qd):P_T_api_Train:=(x.Id,x.Name,x.Length,x.Speed,x.Accel,x.Service,x.Emergency,x.Delay,x.Const,x.Rate,())
def mk_T_api_Train (b:P_T_api_Train):Qd:=⟨b.1,b.2.1,b.2.2.1,b.2.2.2.1,b.2.2.2.2.1,b.2.2.2.2.2.1,b.2.2.2.2.2.2.1,b.2.2.2.2.2.2.2.1,b.2.2.2.2.2.2.2.2.1,b.2.2.2.2.2.2.2.2.2.1⟩
instance : Dt Qd:=Sp un_T_api_Train
theorem ty85 : Yt Tryz.prog 85 Qd false :=
 Vl (k:=10) (b:=88) un_T_api_Train mk_T_api_Train Tryz.underlying85 (by kernel_rfl) rfl (by decide) (Ki ty3 (off':=1) (by rfl) (Ki ty9 (off':=2) (by rfl) (Ki ty3 (off':=3) (by rfl) (Ki ty3 (off':=4) (by rfl) (Ki ty3 (off':=5) (by rfl) (Ki ty3 (off':=6) (by rfl) (Ki ty3 (off':=7) (by rfl) (Ki ty3 (off':=8) (by rfl) (Ki ty3 (off':=9) (by rfl) (Ki ty3 (off':=10) (by rfl) (Yj 10))))))))))) (fun _=>rfl) (fun _=>rfl) (fun _=>rfl) (fun _=>rfl)
theorem ty29 : Yt Tryz.prog 29 (List Qd) true:=Br ty85 Tryz.underlying29 (by kernel_rfl)
abbrev P_T_api_Track:=Int×Int×Int×Int×(List Jf)×(List Int)×(List Int)×(List Int)×(List Int)×Int×Int×Int×Int×Int×Unit
def un_T_api_Track (x:Jg):P_T_api_Track:=(x.Id,x.Origin,x.End,x.At,x.Steps,x.Routes,x.Starts,x.Ends,x.Done,x.Min,x.Sent,x.Accepted,x.Cut,x.CutSeq,())
def mk_T_api_Track (b:P_T_api_Track):Jg:=⟨b.1,b.2.1,b.2.2.1,b.2.2.2.1,b.2.2.2.2.1,b.2.2.2.2.2.1,b.2.2.2.2.2.2.1,b.2.2.2.2.2.2.2.1,b.2.2.2.2.2.2.2.2.1,b.2.2.2.2.2.2.2.2.2.1,b.2.2.2.2.2.2.2.2.2.2.1,b.2.2.2.2.2.2.2.2.2.2.2.1,b.2.2.2.2.2.2.2.2.2.2.2.2.1,b.2.2.2.2.2.2.2.2.2.2.2.2.2.1⟩
instance : Dt Jg:=Sp un_T_api_Track
theorem ty76 : Yt Tryz.prog 76 Jg true :=
 Vl (k:=14) (b:=192) un_T_api_Track mk_T_api_Track Tryz.underlying76 (by kernel_rfl) rfl (by decide) (Ki ty3 (off':=1) (by rfl) (Ki ty3 (off':=2) (by rfl) (Ki ty3 (off':=3) (by rfl) (Ki ty3 (off':=4) (by rfl) (Ki ty33 (off':=5) (by rfl) (Ki ty46 (off':=6) (by rfl) (Ki ty46 (off':=7) (by rfl) (Ki ty46 (off':=8) (by rfl) (Ki ty46 (off':=9) (by rfl) (Ki ty3 (off':=10) (by rfl) (Ki ty3 (off':=11) (by rfl) (Ki ty3 (off':=12) (by rfl) (Ki ty3 (off':=13) (by rfl) (Ki ty3 (off':=14) (by rfl) (Yj 14))))))))))))))) (fun _=>rfl) (fun _=>rfl) (fun _=>rfl) (fun _=>rfl)
theorem ty36 : Yt Tryz.prog 36 (List Jg) true:=Br ty76 Tryz.underlying36 (by kernel_rfl)
abbrev P_T_api_Session:=Int×Int×Int×Int×Unit
def un_T_api_Session (x:Jk):P_T_api_Session:=(x.Peer,x.Out,x.In,x.Heard,())
def mk_T_api_Session (b:P_T_api_Session):Jk:=⟨b.1,b.2.1,b.2.2.1,b.2.2.2.1⟩
instance : Dt Jk:=Sp un_T_api_Session
theorem ty91 : Yt Tryz.prog 91 Jk false :=
 Vl (k:=4) (b:=32) un_T_api_Session mk_T_api_Session Tryz.underlying91 (by kernel_rfl) rfl (by decide) (Ki ty3 (off':=1) (by rfl) (Ki ty3 (off':=2) (by rfl) (Ki ty3 (off':=3) (by rfl) (Ki ty3 (off':=4) (by rfl) (Yj 4))))) (fun _=>rfl) (fun _=>rfl) (fun _=>rfl) (fun _=>rfl)
theorem ty37 : Yt Tryz.prog 37 (List Jk) true:=Br ty91 Tryz.underlying37 (by kernel_rfl)
abbrev P_T_api_Center:=(List Jg)×(List Jk)×Unit
def un_T_api_Center (x:Jw):P_T_api_Center:=(x.Tracks,x.Sessions,())
def mk_T_api_Center (b:P_T_api_Center):Jw:=⟨b.1,b.2.1⟩
instance : Dt Jw:=Sp un_T_api_Center
theorem ty39 : Yt Tryz.prog 39 Jw true :=
 Vl (k:=2) (b:=48) un_T_api_Center mk_T_api_Center Tryz.underlying39 (by kernel_rfl) rfl (by decide) (Ki ty36 (off':=1) (by rfl) (Ki ty37 (off':=2) (by rfl) (Yj 2))) (fun _=>rfl) (fun _=>rfl) (fun _=>rfl) (fun _=>rfl)
abbrev P_T_signallinglaw47_Case:=Ji×Kz×Qf×(List Kf)×(List Qd)×Jw×Unit
def un_T_signallinglaw47_Case (x:Qa):P_T_signallinglaw47_Case:=(x.Layout,x.Table,x.Inter,x.Slow,x.Trains,x.Center,())
def mk_T_signallinglaw47_Case (b:P_T_signallinglaw47_Case):Qa:=⟨b.1,b.2.1,b.2.2.1,b.2.2.2.1,b.2.2.2.2.1,b.2.2.2.2.2.1⟩
instance : Dt Qa:=Sp un_T_signallinglaw47_Case
theorem ty54 : Yt Tryz.prog 54 Qa true :=
 Vl (k:=17) (b:=368) un_T_signallinglaw47_Case mk_T_signallinglaw47_Case Tryz.underlying54 (by kernel_rfl) rfl (by decide) (Ki ty28 (off':=6) (by rfl) (Ki ty48 (off':=11) (by rfl) (Ki ty51 (off':=13) (by rfl) (Ki ty52 (off':=14) (by rfl) (Ki ty29 (off':=15) (by rfl) (Ki ty39 (off':=17) (by rfl) (Yj 17))))))) (fun _=>rfl) (fun _=>rfl) (fun _=>rfl) (fun _=>rfl)
abbrev P_T_rail_passage:=Int×Int×Int×Int×Unit
def un_T_rail_passage (x:Qs):P_T_rail_passage:=(x.kind_,x.in_,x.out_,x.need_,())
def mk_T_rail_passage (b:P_T_rail_passage):Qs:=⟨b.1,b.2.1,b.2.2.1,b.2.2.2.1⟩
instance : Dt Qs:=Sp un_T_rail_passage
theorem ty311 : Yt Tryz.prog 311 Qs false :=
 Vl (k:=4) (b:=32) un_T_rail_passage mk_T_rail_passage Tryz.underlying311 (by kernel_rfl) rfl (by decide) (Ki ty3 (off':=1) (by rfl) (Ki ty3 (off':=2) (by rfl) (Ki ty3 (off':=3) (by rfl) (Ki ty3 (off':=4) (by rfl) (Yj 4))))) (fun _=>rfl) (fun _=>rfl) (fun _=>rfl) (fun _=>rfl)
def dat_tab_rail_passages : List (DataW Unit):=match (Rows.laid_signalling_rail_passages:DataW Unit) with
 | .agg l=>l
 | _=>[]
theorem all_tab_rail_passages : Kv Dt.dat Ww dat_tab_rail_passages :=
 .cons ⟨_,rfl,_,_,rfl,rfl,_,_,rfl,rfl,_,_,rfl,rfl,_,_,rfl,rfl,rfl⟩ (.cons ⟨_,rfl,_,_,rfl,rfl,_,_,rfl,rfl,_,_,rfl,rfl,_,_,rfl,rfl,rfl⟩ (.cons ⟨_,rfl,_,_,rfl,rfl,_,_,rfl,rfl,_,_,rfl,rfl,_,_,rfl,rfl,rfl⟩ (.cons ⟨_,rfl,_,_,rfl,rfl,_,_,rfl,rfl,_,_,rfl,rfl,_,_,rfl,rfl,rfl⟩ (.cons ⟨_,rfl,_,_,rfl,rfl,_,_,rfl,rfl,_,_,rfl,rfl,_,_,rfl,rfl,rfl⟩ (.cons ⟨_,rfl,_,_,rfl,rfl,_,_,rfl,rfl,_,_,rfl,rfl,_,_,rfl,rfl,rfl⟩ (.cons ⟨_,rfl,_,_,rfl,rfl,_,_,rfl,rfl,_,_,rfl,rfl,_,_,rfl,rfl,rfl⟩ (.cons ⟨_,rfl,_,_,rfl,rfl,_,_,rfl,rfl,_,_,rfl,rfl,_,_,rfl,rfl,rfl⟩ (.cons ⟨_,rfl,_,_,rfl,rfl,_,_,rfl,rfl,_,_,rfl,rfl,_,_,rfl,rfl,rfl⟩ (.cons ⟨_,rfl,_,_,rfl,rfl,_,_,rfl,rfl,_,_,rfl,rfl,_,_,rfl,rfl,rfl⟩ (.nil))))))))))
def dat_tab_rail_sides : List (DataW Unit):=match (Rows.laid_signalling_rail_sides:DataW Unit) with
 | .agg l=>l
 | _=>[]
theorem all_tab_rail_sides : Kv Dt.dat Cu dat_tab_rail_sides :=
 .cons rfl (.cons rfl (.cons rfl (.cons rfl (.nil))))
def laidL : List (String×DataW Unit):=[("signalling/rail.sides", Rows.laid_signalling_rail_sides),("signalling/rail.passages", Rows.laid_signalling_rail_passages)]
theorem globs (W:World) (h:laidMetH Tryz.prog laidL W):∀ i cs,GlS i=some cs→Ck (Bk W) W cs i:=by
 intro i cs hi
 match i,hi with
 | 0,hi =>
  cases hi
  exact Jr3 (g:=0) ty311 rfl (name := "signalling/rail.passages") (by kernel_rfl) (by kernel_rfl) Tryz.underlying312 (by kernel_rfl) (tab:=Ww) (dsx:=dat_tab_rail_passages) all_tab_rail_passages (by kernel_rfl) (.tail _ (.head _)) (by kernel_rfl) h
 | 1,hi =>
  cases hi
  exact Jr3 (g:=1) ty3 rfl (name := "signalling/rail.sides") (by kernel_rfl) (by kernel_rfl) Tryz.underlying315 (by kernel_rfl) (tab:=Cu) (dsx:=dat_tab_rail_sides) all_tab_rail_sides (by kernel_rfl) (.head _) (by kernel_rfl) h
theorem sizL_len {α:Type} [Dt α] (h:∀ a:α,1≤Dt.siz a):∀ l:List α,l.length≤Jpf l
 | []=>Nat.le_refl _
 | x::xs=>by have:=sizL_len h xs; have:=h x; simp only [Jpf,List.length_cons]; omega
theorem szs_hd {α β:Type} [Enc α] [Dt α] [DtL β] (b:α×β):Dt.siz b.1≤DtL.szs b:=Nat.le_add_right _ _
theorem siz_lst {α:Type} [Enc α] [Dt α] (L:List α):Dt.siz L=Jpf L+1:=rfl
theorem siz_case (x:Qa):Dt.siz x=(Dt.siz x.Layout+(Dt.siz x.Table+(Dt.siz x.Inter+(Dt.siz x.Slow+(Dt.siz x.Trains+(Dt.siz x.Center+0))))))+1:=rfl
theorem siz_table (x:Kz):Dt.siz x=(Dt.siz x.Routes+(Dt.siz x.Points+(Dt.siz x.Homes+(1+(1+0)))))+1:=rfl
theorem siz_center (x:Jw):Dt.siz x=(Dt.siz x.Tracks+(Dt.siz x.Sessions+0))+1:=rfl
theorem bulkX_of {x:Qa} (h:Dt.siz x≤1048576):Jt7 x:=by
 rw [siz_case,siz_table,siz_center] at h
 have e1:=siz_lst x.Table.Routes
 have e2:=siz_lst x.Center.Tracks
 have h1:=sizL_len (α:=Ju) (fun a=>by show 1≤_+1; omega) x.Table.Routes
 have h2:=sizL_len (α:=Jg) (fun a=>by show 1≤_+1; omega) x.Center.Tracks
 exact ⟨by omega,by omega⟩
theorem rbcStops_in (b:Qa×Int×Int×Int×Unit) (h:DtL.szs b≤1048576∧DtL.rngs b):Yu b.1 b.2.1 b.2.2.1 b.2.2.2.1=some true :=
 Jnv (bulkX_of (Nat.le_trans (szs_hd b) h.1)) _ _ _
end Go.Proofs.YtfpoeepcomnjhaaGreatDoor
