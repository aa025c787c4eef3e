/-
 THE BASE OF THE CARDS: the types of the arguments, and what the rows' list says of the package tables. Printed by tyf.py.
-/
import Derived.Test.YtfpoeepcomnjhaaGreatDoorPlnA
import Derived.Test.YtfpoeepcomnjhaaGreatDoorFrA
import Derived.WalkKit
import Derived.ProofKit
namespace Go.Proofs.YtfpoeepcomnjhaaGreatDoor
open Go.ChangeShapes Go.WideShapes Go.ChangeAt Go.RowKit PM
theorem own : ownKnob Tryz.prog.godebug=none:=by kernel_rfl
theorem laidOut : laidOutB Tryz.prog=true:=by kernel_rfl
theorem ty9 : Ch Tryz.prog 9 ByteArray false:=Kkk Tryz.underlying9 (by kernel_rfl)
theorem ty22 : Ch Tryz.prog 22 (List ByteArray) true:=Eb ty9 Tryz.underlying22 (by kernel_rfl)
theorem ty3 : Ch Tryz.prog 3 Int false:=Kk1 Tryz.underlying3 (by kernel_rfl)
abbrev P_T_api_Element:=ByteArray×Int×Int×Int×Int×Int×Int×Unit
def un_T_api_Element (x:Ju):P_T_api_Element:=(x.Name,x.Kind,x.Length,x.Grade,x.Speed,x.Slow,x.Section,())
def mk_T_api_Element (b:P_T_api_Element):Ju:=⟨b.1,b.2.1,b.2.2.1,b.2.2.2.1,b.2.2.2.2.1,b.2.2.2.2.2.1,b.2.2.2.2.2.2.1⟩
instance : Dt Ju:=Jbg un_T_api_Element
theorem ty134 : Ch Tryz.prog 134 Ju false :=
 Vl (k:=7) (b:=64) un_T_api_Element mk_T_api_Element Tryz.underlying134 (by kernel_rfl) rfl (by decide) (Jt ty9 (off':=1) (by rfl) (Jt ty3 (off':=2) (by rfl) (Jt ty3 (off':=3) (by rfl) (Jt ty3 (off':=4) (by rfl) (Jt ty3 (off':=5) (by rfl) (Jt ty3 (off':=6) (by rfl) (Jt ty3 (off':=7) (by rfl) (Zp 7)))))))) (fun _=>rfl) (fun _=>rfl) (fun _=>rfl) (fun _=>rfl)
theorem ty23 : Ch Tryz.prog 23 (List Ju) true:=Eb ty134 Tryz.underlying23 (by kernel_rfl)
abbrev P_T_api_End:=Int×Int×Unit
def un_T_api_End (x:Je):P_T_api_End:=(x.El,x.Side,())
def mk_T_api_End (b:P_T_api_End):Je:=⟨b.1,b.2.1⟩
instance : Dt Je:=Jbg un_T_api_End
theorem ty130 : Ch Tryz.prog 130 Je false :=
 Vl (k:=2) (b:=16) un_T_api_End mk_T_api_End Tryz.underlying130 (by kernel_rfl) rfl (by decide) (Jt ty3 (off':=1) (by rfl) (Jt ty3 (off':=2) (by rfl) (Zp 2))) (fun _=>rfl) (fun _=>rfl) (fun _=>rfl) (fun _=>rfl)
abbrev P_T_api_Joint:=Je×Je×Unit
def un_T_api_Joint (x:Vb):P_T_api_Joint:=(x.A,x.B,())
def mk_T_api_Joint (b:P_T_api_Joint):Vb:=⟨b.1,b.2.1⟩
instance : Dt Vb:=Jbg un_T_api_Joint
theorem ty136 : Ch Tryz.prog 136 Vb false :=
 Vl (k:=4) (b:=32) un_T_api_Joint mk_T_api_Joint Tryz.underlying136 (by kernel_rfl) rfl (by decide) (Jt ty130 (off':=2) (by rfl) (Jt ty130 (off':=4) (by rfl) (Zp 4))) (fun _=>rfl) (fun _=>rfl) (fun _=>rfl) (fun _=>rfl)
theorem ty24 : Ch Tryz.prog 24 (List Vb) true:=Eb ty136 Tryz.underlying24 (by kernel_rfl)
abbrev P_T_api_Signal:=ByteArray×Je×Int×Unit
def un_T_api_Signal (x:Kl):P_T_api_Signal:=(x.Name,x.At,x.Overlap,())
def mk_T_api_Signal (b:P_T_api_Signal):Kl:=⟨b.1,b.2.1,b.2.2.1⟩
instance : Dt Kl:=Jbg un_T_api_Signal
theorem ty132 : Ch Tryz.prog 132 Kl false :=
 Vl (k:=4) (b:=40) un_T_api_Signal mk_T_api_Signal Tryz.underlying132 (by kernel_rfl) rfl (by decide) (Jt ty9 (off':=1) (by rfl) (Jt ty130 (off':=3) (by rfl) (Jt ty3 (off':=4) (by rfl) (Zp 4)))) (fun _=>rfl) (fun _=>rfl) (fun _=>rfl) (fun _=>rfl)
theorem ty25 : Ch Tryz.prog 25 (List Kl) true:=Eb ty132 Tryz.underlying25 (by kernel_rfl)
abbrev P_T_api_Balise:=Int×Int×Int×Unit
def un_T_api_Balise (x:Jj):P_T_api_Balise:=(x.Id,x.El,x.Offset,())
def mk_T_api_Balise (b:P_T_api_Balise):Jj:=⟨b.1,b.2.1,b.2.2.1⟩
instance : Dt Jj:=Jbg un_T_api_Balise
theorem ty251 : Ch Tryz.prog 251 Jj false :=
 Vl (k:=3) (b:=24) un_T_api_Balise mk_T_api_Balise Tryz.underlying251 (by kernel_rfl) rfl (by decide) (Jt ty3 (off':=1) (by rfl) (Jt ty3 (off':=2) (by rfl) (Jt ty3 (off':=3) (by rfl) (Zp 3)))) (fun _=>rfl) (fun _=>rfl) (fun _=>rfl) (fun _=>rfl)
theorem ty26 : Ch Tryz.prog 26 (List Jj) true:=Eb ty251 Tryz.underlying26 (by kernel_rfl)
abbrev P_T_api_Layout:=ByteArray×(List ByteArray)×(List Ju)×(List Vb)×(List Kl)×(List Jj)×Unit
def un_T_api_Layout (x:Ja):P_T_api_Layout:=(x.Name,x.Sections,x.Elements,x.Joints,x.Signals,x.Balises,())
def mk_T_api_Layout (b:P_T_api_Layout):Ja:=⟨b.1,b.2.1,b.2.2.1,b.2.2.2.1,b.2.2.2.2.1,b.2.2.2.2.2.1⟩
instance : Dt Ja:=Jbg un_T_api_Layout
theorem ty28 : Ch Tryz.prog 28 Ja true :=
 Vl (k:=6) (b:=136) un_T_api_Layout mk_T_api_Layout Tryz.underlying28 (by kernel_rfl) rfl (by decide) (Jt ty9 (off':=1) (by rfl) (Jt ty22 (off':=2) (by rfl) (Jt ty23 (off':=3) (by rfl) (Jt ty24 (off':=4) (by rfl) (Jt ty25 (off':=5) (by rfl) (Jt ty26 (off':=6) (by rfl) (Zp 6))))))) (fun _=>rfl) (fun _=>rfl) (fun _=>rfl) (fun _=>rfl)
abbrev P_T_api_Step:=Int×Int×Int×Unit
def un_T_api_Step (x:Jb):P_T_api_Step:=(x.El,x.In,x.Out,())
def mk_T_api_Step (b:P_T_api_Step):Jb:=⟨b.1,b.2.1,b.2.2.1⟩
instance : Dt Jb:=Jbg un_T_api_Step
theorem ty143 : Ch Tryz.prog 143 Jb false :=
 Vl (k:=3) (b:=24) un_T_api_Step mk_T_api_Step Tryz.underlying143 (by kernel_rfl) rfl (by decide) (Jt ty3 (off':=1) (by rfl) (Jt ty3 (off':=2) (by rfl) (Jt ty3 (off':=3) (by rfl) (Zp 3)))) (fun _=>rfl) (fun _=>rfl) (fun _=>rfl) (fun _=>rfl)
theorem ty33 : Ch Tryz.prog 33 (List Jb) true:=Eb ty143 Tryz.underlying33 (by kernel_rfl)
abbrev P_T_api_Setting:=Int×Int×Unit
def un_T_api_Setting (x:Jf):P_T_api_Setting:=(x.El,x.Pos,())
def mk_T_api_Setting (b:P_T_api_Setting):Jf:=⟨b.1,b.2.1⟩
instance : Dt Jf:=Jbg un_T_api_Setting
theorem ty186 : Ch Tryz.prog 186 Jf false :=
 Vl (k:=2) (b:=16) un_T_api_Setting mk_T_api_Setting Tryz.underlying186 (by kernel_rfl) rfl (by decide) (Jt ty3 (off':=1) (by rfl) (Jt ty3 (off':=2) (by rfl) (Zp 2))) (fun _=>rfl) (fun _=>rfl) (fun _=>rfl) (fun _=>rfl)
theorem ty117 : Ch Tryz.prog 117 (List Jf) true:=Eb ty186 Tryz.underlying117 (by kernel_rfl)
theorem ty46 : Ch Tryz.prog 46 (List Int) true:=Eb ty3 Tryz.underlying46 (by kernel_rfl)
theorem ty118 : Ch Tryz.prog 118 (List Je) true:=Eb ty130 Tryz.underlying118 (by kernel_rfl)
abbrev P_T_api_Route:=ByteArray×Int×Int×(List Jb)×(List Jf)×(List Int)×Int×Int×(List Jb)×(List Jf)×(List Int)×(List Jf)×(List Int)×(List Je)×Unit
def un_T_api_Route (x:Ji):P_T_api_Route:=(x.Name,x.Entry,x.Exit,x.Path,x.Points,x.Sections,x.Approach,x.Length,x.Over,x.OverPoints,x.OverSections,x.Flank,x.Guards,x.Gaps,())
def mk_T_api_Route (b:P_T_api_Route):Ji:=⟨b.1,b.2.1,b.2.2.1,b.2.2.2.1,b.2.2.2.2.1,b.2.2.2.2.2.1,b.2.2.2.2.2.2.1,b.2.2.2.2.2.2.2.1,b.2.2.2.2.2.2.2.2.1,b.2.2.2.2.2.2.2.2.2.1,b.2.2.2.2.2.2.2.2.2.2.1,b.2.2.2.2.2.2.2.2.2.2.2.1,b.2.2.2.2.2.2.2.2.2.2.2.2.1,b.2.2.2.2.2.2.2.2.2.2.2.2.2.1⟩
instance : Dt Ji:=Jbg un_T_api_Route
theorem ty120 : Ch Tryz.prog 120 Ji true :=
 Vl (k:=14) (b:=264) un_T_api_Route mk_T_api_Route Tryz.underlying120 (by kernel_rfl) rfl (by decide) (Jt ty9 (off':=1) (by rfl) (Jt ty3 (off':=2) (by rfl) (Jt ty3 (off':=3) (by rfl) (Jt ty33 (off':=4) (by rfl) (Jt ty117 (off':=5) (by rfl) (Jt ty46 (off':=6) (by rfl) (Jt ty3 (off':=7) (by rfl) (Jt ty3 (off':=8) (by rfl) (Jt ty33 (off':=9) (by rfl) (Jt ty117 (off':=10) (by rfl) (Jt ty46 (off':=11) (by rfl) (Jt ty117 (off':=12) (by rfl) (Jt ty46 (off':=13) (by rfl) (Jt ty118 (off':=14) (by rfl) (Zp 14))))))))))))))) (fun _=>rfl) (fun _=>rfl) (fun _=>rfl) (fun _=>rfl)
theorem ty45 : Ch Tryz.prog 45 (List Ji) true:=Eb ty120 Tryz.underlying45 (by kernel_rfl)
abbrev P_T_api_Table:=(List Ji)×(List Int)×(List Int)×Int×Int×Unit
def un_T_api_Table (x:Jx):P_T_api_Table:=(x.Routes,x.Points,x.Homes,x.Sections,x.Signals,())
def mk_T_api_Table (b:P_T_api_Table):Jx:=⟨b.1,b.2.1,b.2.2.1,b.2.2.2.1,b.2.2.2.2.1⟩
instance : Dt Jx:=Jbg un_T_api_Table
theorem ty48 : Ch Tryz.prog 48 Jx true :=
 Vl (k:=5) (b:=88) un_T_api_Table mk_T_api_Table Tryz.underlying48 (by kernel_rfl) rfl (by decide) (Jt ty45 (off':=1) (by rfl) (Jt ty46 (off':=2) (by rfl) (Jt ty46 (off':=3) (by rfl) (Jt ty3 (off':=4) (by rfl) (Jt ty3 (off':=5) (by rfl) (Zp 5)))))) (fun _=>rfl) (fun _=>rfl) (fun _=>rfl) (fun _=>rfl)
abbrev P_T_api_RouteState:=Int×Int×Int×Unit
def un_T_api_RouteState (x:Ud):P_T_api_RouteState:=(x.State,x.Rel,x.Timer,())
def mk_T_api_RouteState (b:P_T_api_RouteState):Ud:=⟨b.1,b.2.1,b.2.2.1⟩
instance : Dt Ud:=Jbg un_T_api_RouteState
theorem ty78 : Ch Tryz.prog 78 Ud false :=
 Vl (k:=3) (b:=24) un_T_api_RouteState mk_T_api_RouteState Tryz.underlying78 (by kernel_rfl) rfl (by decide) (Jt ty3 (off':=1) (by rfl) (Jt ty3 (off':=2) (by rfl) (Jt ty3 (off':=3) (by rfl) (Zp 3)))) (fun _=>rfl) (fun _=>rfl) (fun _=>rfl) (fun _=>rfl)
theorem ty49 : Ch Tryz.prog 49 (List Ud) true:=Eb ty78 Tryz.underlying49 (by kernel_rfl)
abbrev P_T_api_Inter:=(List Ud)×(List Int)×Unit
def un_T_api_Inter (x:Kd):P_T_api_Inter:=(x.Routes,x.Lies,())
def mk_T_api_Inter (b:P_T_api_Inter):Kd:=⟨b.1,b.2.1⟩
instance : Dt Kd:=Jbg un_T_api_Inter
theorem ty51 : Ch Tryz.prog 51 Kd true :=
 Vl (k:=2) (b:=48) un_T_api_Inter mk_T_api_Inter Tryz.underlying51 (by kernel_rfl) rfl (by decide) (Jt ty49 (off':=1) (by rfl) (Jt ty46 (off':=2) (by rfl) (Zp 2))) (fun _=>rfl) (fun _=>rfl) (fun _=>rfl) (fun _=>rfl)
theorem ty4 : Ch Tryz.prog 4 Bool false:=Khw Tryz.underlying4 (by kernel_rfl)
abbrev P_T_api_Restriction:=Int×Int×Int×Int×Int×Bool×Unit
def un_T_api_Restriction (x:Jk):P_T_api_Restriction:=(x.Id,x.El,x.From,x.To,x.Speed,x.Active,())
def mk_T_api_Restriction (b:P_T_api_Restriction):Jk:=⟨b.1,b.2.1,b.2.2.1,b.2.2.2.1,b.2.2.2.2.1,b.2.2.2.2.2.1⟩
instance : Dt Jk:=Jbg un_T_api_Restriction
theorem ty277 : Ch Tryz.prog 277 Jk false :=
 Vl (k:=6) (b:=48) un_T_api_Restriction mk_T_api_Restriction Tryz.underlying277 (by kernel_rfl) rfl (by decide) (Jt ty3 (off':=1) (by rfl) (Jt ty3 (off':=2) (by rfl) (Jt ty3 (off':=3) (by rfl) (Jt ty3 (off':=4) (by rfl) (Jt ty3 (off':=5) (by rfl) (Jt ty4 (off':=6) (by rfl) (Zp 6))))))) (fun _=>rfl) (fun _=>rfl) (fun _=>rfl) (fun _=>rfl)
theorem ty52 : Ch Tryz.prog 52 (List Jk) true:=Eb ty277 Tryz.underlying52 (by kernel_rfl)
abbrev P_T_api_Train:=Int×ByteArray×Int×Int×Int×Int×Int×Int×Int×Int×Unit
def un_T_api_Train (x:Kr):P_T_api_Train:=(x.Id,x.Name,x.Length,x.Speed,x.Accel,x.Service,x.Emergency,x.Delay,x.Const,x.Rate,())
def mk_T_api_Train (b:P_T_api_Train):Kr:=⟨b.1,b.2.1,b.2.2.1,b.2.2.2.1,b.2.2.2.2.1,b.2.2.2.2.2.1,b.2.2.2.2.2.2.1,b.2.2.2.2.2.2.2.1,b.2.2.2.2.2.2.2.2.1,b.2.2.2.2.2.2.2.2.2.1⟩
instance : Dt Kr:=Jbg un_T_api_Train
theorem ty85 : Ch Tryz.prog 85 Kr false :=
 Vl (k:=10) (b:=88) un_T_api_Train mk_T_api_Train Tryz.underlying85 (by kernel_rfl) rfl (by decide) (Jt ty3 (off':=1) (by rfl) (Jt ty9 (off':=2) (by rfl) (Jt ty3 (off':=3) (by rfl) (Jt ty3 (off':=4) (by rfl) (Jt ty3 (off':=5) (by rfl) (Jt ty3 (off':=6) (by rfl) (Jt ty3 (off':=7) (by rfl) (Jt ty3 (off':=8) (by rfl) (Jt ty3 (off':=9) (by rfl) (Jt ty3 (off':=10) (by rfl) (Zp 10))))))))))) (fun _=>rfl) (fun _=>rfl) (fun _=>rfl) (fun _=>rfl)
theorem ty29 : Ch Tryz.prog 29 (List Kr) true:=Eb ty85 Tryz.underlying29 (by kernel_rfl)
abbrev P_T_api_Track:=Int×Int×Int×Int×(List Jb)×(List Int)×(List Int)×(List Int)×(List Int)×Int×Int×Int×Int×Int×Unit
def un_T_api_Track (x:Jg):P_T_api_Track:=(x.Id,x.Origin,x.End,x.At,x.Steps,x.Routes,x.Starts,x.Ends,x.Done,x.Min,x.Sent,x.Accepted,x.Cut,x.CutSeq,())
def mk_T_api_Track (b:P_T_api_Track):Jg:=⟨b.1,b.2.1,b.2.2.1,b.2.2.2.1,b.2.2.2.2.1,b.2.2.2.2.2.1,b.2.2.2.2.2.2.1,b.2.2.2.2.2.2.2.1,b.2.2.2.2.2.2.2.2.1,b.2.2.2.2.2.2.2.2.2.1,b.2.2.2.2.2.2.2.2.2.2.1,b.2.2.2.2.2.2.2.2.2.2.2.1,b.2.2.2.2.2.2.2.2.2.2.2.2.1,b.2.2.2.2.2.2.2.2.2.2.2.2.2.1⟩
instance : Dt Jg:=Jbg un_T_api_Track
theorem ty76 : Ch Tryz.prog 76 Jg true :=
 Vl (k:=14) (b:=192) un_T_api_Track mk_T_api_Track Tryz.underlying76 (by kernel_rfl) rfl (by decide) (Jt ty3 (off':=1) (by rfl) (Jt ty3 (off':=2) (by rfl) (Jt ty3 (off':=3) (by rfl) (Jt ty3 (off':=4) (by rfl) (Jt ty33 (off':=5) (by rfl) (Jt ty46 (off':=6) (by rfl) (Jt ty46 (off':=7) (by rfl) (Jt ty46 (off':=8) (by rfl) (Jt ty46 (off':=9) (by rfl) (Jt ty3 (off':=10) (by rfl) (Jt ty3 (off':=11) (by rfl) (Jt ty3 (off':=12) (by rfl) (Jt ty3 (off':=13) (by rfl) (Jt ty3 (off':=14) (by rfl) (Zp 14))))))))))))))) (fun _=>rfl) (fun _=>rfl) (fun _=>rfl) (fun _=>rfl)
theorem ty36 : Ch Tryz.prog 36 (List Jg) true:=Eb ty76 Tryz.underlying36 (by kernel_rfl)
abbrev P_T_api_Session:=Int×Int×Int×Int×Unit
def un_T_api_Session (x:Jl):P_T_api_Session:=(x.Peer,x.Out,x.In,x.Heard,())
def mk_T_api_Session (b:P_T_api_Session):Jl:=⟨b.1,b.2.1,b.2.2.1,b.2.2.2.1⟩
instance : Dt Jl:=Jbg un_T_api_Session
theorem ty91 : Ch Tryz.prog 91 Jl false :=
 Vl (k:=4) (b:=32) un_T_api_Session mk_T_api_Session Tryz.underlying91 (by kernel_rfl) rfl (by decide) (Jt ty3 (off':=1) (by rfl) (Jt ty3 (off':=2) (by rfl) (Jt ty3 (off':=3) (by rfl) (Jt ty3 (off':=4) (by rfl) (Zp 4))))) (fun _=>rfl) (fun _=>rfl) (fun _=>rfl) (fun _=>rfl)
theorem ty37 : Ch Tryz.prog 37 (List Jl) true:=Eb ty91 Tryz.underlying37 (by kernel_rfl)
abbrev P_T_api_Center:=(List Jg)×(List Jl)×Unit
def un_T_api_Center (x:Jn):P_T_api_Center:=(x.Tracks,x.Sessions,())
def mk_T_api_Center (b:P_T_api_Center):Jn:=⟨b.1,b.2.1⟩
instance : Dt Jn:=Jbg un_T_api_Center
theorem ty39 : Ch Tryz.prog 39 Jn true :=
 Vl (k:=2) (b:=48) un_T_api_Center mk_T_api_Center Tryz.underlying39 (by kernel_rfl) rfl (by decide) (Jt ty36 (off':=1) (by rfl) (Jt ty37 (off':=2) (by rfl) (Zp 2))) (fun _=>rfl) (fun _=>rfl) (fun _=>rfl) (fun _=>rfl)
abbrev P_T_signallinglaw47_Case:=Ja×Jx×Kd×(List Jk)×(List Kr)×Jn×Unit
def un_T_signallinglaw47_Case (x:Jp):P_T_signallinglaw47_Case:=(x.Layout,x.Table,x.Inter,x.Slow,x.Trains,x.Center,())
def mk_T_signallinglaw47_Case (b:P_T_signallinglaw47_Case):Jp:=⟨b.1,b.2.1,b.2.2.1,b.2.2.2.1,b.2.2.2.2.1,b.2.2.2.2.2.1⟩
instance : Dt Jp:=Jbg un_T_signallinglaw47_Case
theorem ty54 : Ch Tryz.prog 54 Jp true :=
 Vl (k:=17) (b:=368) un_T_signallinglaw47_Case mk_T_signallinglaw47_Case Tryz.underlying54 (by kernel_rfl) rfl (by decide) (Jt ty28 (off':=6) (by rfl) (Jt ty48 (off':=11) (by rfl) (Jt ty51 (off':=13) (by rfl) (Jt ty52 (off':=14) (by rfl) (Jt ty29 (off':=15) (by rfl) (Jt ty39 (off':=17) (by rfl) (Zp 17))))))) (fun _=>rfl) (fun _=>rfl) (fun _=>rfl) (fun _=>rfl)
abbrev P_T_rail_passage:=Int×Int×Int×Int×Unit
def un_T_rail_passage (x:Qr):P_T_rail_passage:=(x.kind_,x.in_,x.out_,x.need_,())
def mk_T_rail_passage (b:P_T_rail_passage):Qr:=⟨b.1,b.2.1,b.2.2.1,b.2.2.2.1⟩
instance : Dt Qr:=Jbg un_T_rail_passage
theorem ty311 : Ch Tryz.prog 311 Qr false :=
 Vl (k:=4) (b:=32) un_T_rail_passage mk_T_rail_passage Tryz.underlying311 (by kernel_rfl) rfl (by decide) (Jt ty3 (off':=1) (by rfl) (Jt ty3 (off':=2) (by rfl) (Jt ty3 (off':=3) (by rfl) (Jt ty3 (off':=4) (by rfl) (Zp 4))))) (fun _=>rfl) (fun _=>rfl) (fun _=>rfl) (fun _=>rfl)
def dat_tab_rail_passages : List (DataW Unit):=match (Rows.laid_signalling_rail_passages:DataW Unit) with
 | .agg l=>l
 | _=>[]
theorem all_tab_rail_passages : Kf Dt.dat Qh dat_tab_rail_passages :=
 .cons ⟨_,rfl,_,_,rfl,rfl,_,_,rfl,rfl,_,_,rfl,rfl,_,_,rfl,rfl,rfl⟩ (.cons ⟨_,rfl,_,_,rfl,rfl,_,_,rfl,rfl,_,_,rfl,rfl,_,_,rfl,rfl,rfl⟩ (.cons ⟨_,rfl,_,_,rfl,rfl,_,_,rfl,rfl,_,_,rfl,rfl,_,_,rfl,rfl,rfl⟩ (.cons ⟨_,rfl,_,_,rfl,rfl,_,_,rfl,rfl,_,_,rfl,rfl,_,_,rfl,rfl,rfl⟩ (.cons ⟨_,rfl,_,_,rfl,rfl,_,_,rfl,rfl,_,_,rfl,rfl,_,_,rfl,rfl,rfl⟩ (.cons ⟨_,rfl,_,_,rfl,rfl,_,_,rfl,rfl,_,_,rfl,rfl,_,_,rfl,rfl,rfl⟩ (.cons ⟨_,rfl,_,_,rfl,rfl,_,_,rfl,rfl,_,_,rfl,rfl,_,_,rfl,rfl,rfl⟩ (.cons ⟨_,rfl,_,_,rfl,rfl,_,_,rfl,rfl,_,_,rfl,rfl,_,_,rfl,rfl,rfl⟩ (.cons ⟨_,rfl,_,_,rfl,rfl,_,_,rfl,rfl,_,_,rfl,rfl,_,_,rfl,rfl,rfl⟩ (.cons ⟨_,rfl,_,_,rfl,rfl,_,_,rfl,rfl,_,_,rfl,rfl,_,_,rfl,rfl,rfl⟩ (.nil))))))))))
def dat_tab_rail_sides : List (DataW Unit):=match (Rows.laid_signalling_rail_sides:DataW Unit) with
 | .agg l=>l
 | _=>[]
theorem all_tab_rail_sides : Kf Dt.dat Hc dat_tab_rail_sides :=
 .cons rfl (.cons rfl (.cons rfl (.cons rfl (.nil))))
def laidL : List (String×DataW Unit):=[("signalling/rail.sides", Rows.laid_signalling_rail_sides),("signalling/rail.passages", Rows.laid_signalling_rail_passages)]
theorem globs (W:World) (h:laidMetH Tryz.prog laidL W):∀ i cs,GlS i=some cs→Fo (Bk W) W cs i:=by
 intro i cs hi
 match i,hi with
 | 0,hi =>
  cases hi
  exact Jzy (g:=0) ty311 rfl (name := "signalling/rail.passages") (by kernel_rfl) (by kernel_rfl) Tryz.underlying312 (by kernel_rfl) (tab:=Qh) (dsx:=dat_tab_rail_passages) all_tab_rail_passages (by kernel_rfl) (.tail _ (.head _)) (by kernel_rfl) h
 | 1,hi =>
  cases hi
  exact Jzy (g:=1) ty3 rfl (name := "signalling/rail.sides") (by kernel_rfl) (by kernel_rfl) Tryz.underlying315 (by kernel_rfl) (tab:=Hc) (dsx:=dat_tab_rail_sides) all_tab_rail_sides (by kernel_rfl) (.head _) (by kernel_rfl) h
theorem sizL_len {α:Type} [Dt α] (h:∀ a:α,1≤Dt.siz a):∀ l:List α,l.length≤Jfr l
 | []=>Nat.le_refl _
 | x::xs=>by have:=sizL_len h xs; have:=h x; simp only [Jfr,List.length_cons]; omega
theorem sizL_mem {α:Type} [Dt α] {x:α}:∀ {l:List α},x∈l→Dt.siz x≤Jfr l
 | y::ys,h=>by
  rcases List.mem_cons.1 h with rfl|h
  ·simp only [Jfr]; omega
  ·have:=sizL_mem h; simp only [Jfr]; omega
theorem siz_layout (l:Ja):Dt.siz l=(l.Name.size+1)+((Jfr l.Sections+1)+((Jfr l.Elements+1)+((Jfr l.Joints+1)+((Jfr l.Signals+1)+((Jfr l.Balises+1)+0)))))+1:=rfl
theorem siz_pos_el (x:Ju):x.Name.size+1≤Dt.siz x:=by
 show x.Name.size+1≤(x.Name.size+1)+_+1
 omega
theorem siz_pos_sg (x:Kl):x.Name.size+1≤Dt.siz x:=by
 show x.Name.size+1≤(x.Name.size+1)+_+1
 omega
theorem sm_of {l:Ja} (h:Dt.siz l≤1048576):Sm l:=by
 rw [siz_layout] at h
 have h1:=sizL_len (α:=ByteArray) (fun a=>by show 1≤a.size+1; omega) l.Sections
 have h2:=sizL_len (α:=Ju) (fun a=>by have:=siz_pos_el a; omega) l.Elements
 have h3:=sizL_len (α:=Vb) (fun a=>by show 1≤_+1; omega) l.Joints
 have h4:=sizL_len (α:=Kl) (fun a=>by have:=siz_pos_sg a; omega) l.Signals
 have h5:=sizL_len (α:=Jj) (fun a=>by show 1≤_+1; omega) l.Balises
 refine ⟨by omega,by omega,by omega,by omega,by omega,by omega,fun x hx=>?_,fun x hx=>?_,fun x hx=>?_⟩
 ·have:=sizL_mem hx
  have e:Dt.siz x=x.size+1:=rfl
  omega
 ·have:=sizL_mem hx; have:=siz_pos_el x; omega
 ·have:=sizL_mem hx; have:=siz_pos_sg x; omega
theorem szs_hd {α β:Type} [Enc α] [Dt α] [DtL β] (b:α×β):Dt.siz b.1≤DtL.szs b:=Nat.le_add_right _ _
theorem siz_lst {α:Type} [Enc α] [Dt α] (L:List α):Dt.siz L=Jfr L+1:=rfl
theorem siz_case (x:Jp):Dt.siz x=(Dt.siz x.Layout+(Dt.siz x.Table+(Dt.siz x.Inter+(Dt.siz x.Slow+(Dt.siz x.Trains+(Dt.siz x.Center+0))))))+1:=rfl
theorem siz_table (x:Jx):Dt.siz x=(Dt.siz x.Routes+(Dt.siz x.Points+(Dt.siz x.Homes+(1+(1+0)))))+1:=rfl
theorem siz_center (x:Jn):Dt.siz x=(Dt.siz x.Tracks+(Dt.siz x.Sessions+0))+1:=rfl
theorem bulkX_of {x:Jp} (h:Dt.siz x≤1048576):Kd8 x:=by
 rw [siz_case,siz_table,siz_center] at h
 have e1:=siz_lst x.Table.Routes
 have e2:=siz_lst x.Center.Tracks
 have h1:=sizL_len (α:=Ji) (fun a=>by show 1≤_+1; omega) x.Table.Routes
 have h2:=sizL_len (α:=Jg) (fun a=>by show 1≤_+1; omega) x.Center.Tracks
 exact ⟨by omega,by omega⟩
theorem siz_train (t:Kr):t.Name.size+1≤Dt.siz t:=by
 show t.Name.size+1≤(1+((t.Name.size+1)+_))+1
 omega
theorem bulkY_of {x:Jp} (h:Dt.siz x≤1048576):Kf0 x:=by
 have hb:=bulkX_of h
 rw [siz_case] at h
 have e1:=siz_lst x.Trains
 refine ⟨hb,sm_of (by omega),fun t ht=>?_⟩
 have e2:=sizL_mem ht
 have e3:=siz_train t
 omega
theorem rbcExclusive_in (b:Jp×Int×Unit) (h:DtL.szs b≤1048576∧DtL.rngs b):Wq b.1 b.2.1=some true :=
 Jib (bulkY_of (Nat.le_trans (szs_hd b) h.1)) _
end Go.Proofs.YtfpoeepcomnjhaaGreatDoor
