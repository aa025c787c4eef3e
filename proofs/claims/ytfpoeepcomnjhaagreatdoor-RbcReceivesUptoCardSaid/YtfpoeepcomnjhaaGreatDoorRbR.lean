/-
 THE BASE OF THE CARDS: the types of the arguments, and what the rows' list says of the package tables. Printed by tyf.py.
-/
import Derived.Test.YtfpoeepcomnjhaaGreatDoorPlnA
import Derived.Test.YtfpoeepcomnjhaaGreatDoorFrA
import Derived.WalkKit
import Derived.ProofKit
namespace Go.Proofs.YtfpoeepcomnjhaaGreatDoor
open Go.ChangeShapes Go.WideShapes Go.ChangeAt Go.RowKit PM
theorem own : ownKnob Tryz.prog.godebug=none:=by kernel_rfl
theorem laidOut : laidOutB Tryz.prog=true:=by kernel_rfl
theorem ty9 : Zd Tryz.prog 9 ByteArray false:=Ke0 Tryz.underlying9 (by kernel_rfl)
theorem ty22 : Zd Tryz.prog 22 (List ByteArray) true:=Ci ty9 Tryz.underlying22 (by kernel_rfl)
theorem ty3 : Zd Tryz.prog 3 Int false:=Kec Tryz.underlying3 (by kernel_rfl)
abbrev P_T_api_Element:=ByteArray×Int×Int×Int×Int×Int×Int×Unit
def un_T_api_Element (x:Kg):P_T_api_Element:=(x.Name,x.Kind,x.Length,x.Grade,x.Speed,x.Slow,x.Section,())
def mk_T_api_Element (b:P_T_api_Element):Kg:=⟨b.1,b.2.1,b.2.2.1,b.2.2.2.1,b.2.2.2.2.1,b.2.2.2.2.2.1,b.2.2.2.2.2.2.1⟩
instance : Dt Kg:=Sg un_T_api_Element
theorem ty134 : Zd Tryz.prog 134 Kg false :=
 Ua (k:=7) (b:=64) un_T_api_Element mk_T_api_Element Tryz.underlying134 (by kernel_rfl) rfl (by decide) (Jl ty9 (off':=1) (by rfl) (Jl ty3 (off':=2) (by rfl) (Jl ty3 (off':=3) (by rfl) (Jl ty3 (off':=4) (by rfl) (Jl ty3 (off':=5) (by rfl) (Jl ty3 (off':=6) (by rfl) (Jl ty3 (off':=7) (by rfl) (Wg 7)))))))) (fun _=>rfl) (fun _=>rfl) (fun _=>rfl) (fun _=>rfl)
theorem ty23 : Zd Tryz.prog 23 (List Kg) true:=Ci ty134 Tryz.underlying23 (by kernel_rfl)
abbrev P_T_api_End:=Int×Int×Unit
def un_T_api_End (x:Je):P_T_api_End:=(x.El,x.Side,())
def mk_T_api_End (b:P_T_api_End):Je:=⟨b.1,b.2.1⟩
instance : Dt Je:=Sg un_T_api_End
theorem ty130 : Zd Tryz.prog 130 Je false :=
 Ua (k:=2) (b:=16) un_T_api_End mk_T_api_End Tryz.underlying130 (by kernel_rfl) rfl (by decide) (Jl ty3 (off':=1) (by rfl) (Jl ty3 (off':=2) (by rfl) (Wg 2))) (fun _=>rfl) (fun _=>rfl) (fun _=>rfl) (fun _=>rfl)
abbrev P_T_api_Joint:=Je×Je×Unit
def un_T_api_Joint (x:Uu):P_T_api_Joint:=(x.A,x.B,())
def mk_T_api_Joint (b:P_T_api_Joint):Uu:=⟨b.1,b.2.1⟩
instance : Dt Uu:=Sg un_T_api_Joint
theorem ty136 : Zd Tryz.prog 136 Uu false :=
 Ua (k:=4) (b:=32) un_T_api_Joint mk_T_api_Joint Tryz.underlying136 (by kernel_rfl) rfl (by decide) (Jl ty130 (off':=2) (by rfl) (Jl ty130 (off':=4) (by rfl) (Wg 4))) (fun _=>rfl) (fun _=>rfl) (fun _=>rfl) (fun _=>rfl)
theorem ty24 : Zd Tryz.prog 24 (List Uu) true:=Ci ty136 Tryz.underlying24 (by kernel_rfl)
abbrev P_T_api_Signal:=ByteArray×Je×Int×Unit
def un_T_api_Signal (x:Kj):P_T_api_Signal:=(x.Name,x.At,x.Overlap,())
def mk_T_api_Signal (b:P_T_api_Signal):Kj:=⟨b.1,b.2.1,b.2.2.1⟩
instance : Dt Kj:=Sg un_T_api_Signal
theorem ty132 : Zd Tryz.prog 132 Kj false :=
 Ua (k:=4) (b:=40) un_T_api_Signal mk_T_api_Signal Tryz.underlying132 (by kernel_rfl) rfl (by decide) (Jl ty9 (off':=1) (by rfl) (Jl ty130 (off':=3) (by rfl) (Jl ty3 (off':=4) (by rfl) (Wg 4)))) (fun _=>rfl) (fun _=>rfl) (fun _=>rfl) (fun _=>rfl)
theorem ty25 : Zd Tryz.prog 25 (List Kj) true:=Ci ty132 Tryz.underlying25 (by kernel_rfl)
abbrev P_T_api_Balise:=Int×Int×Int×Unit
def un_T_api_Balise (x:Jn):P_T_api_Balise:=(x.Id,x.El,x.Offset,())
def mk_T_api_Balise (b:P_T_api_Balise):Jn:=⟨b.1,b.2.1,b.2.2.1⟩
instance : Dt Jn:=Sg un_T_api_Balise
theorem ty251 : Zd Tryz.prog 251 Jn false :=
 Ua (k:=3) (b:=24) un_T_api_Balise mk_T_api_Balise Tryz.underlying251 (by kernel_rfl) rfl (by decide) (Jl ty3 (off':=1) (by rfl) (Jl ty3 (off':=2) (by rfl) (Jl ty3 (off':=3) (by rfl) (Wg 3)))) (fun _=>rfl) (fun _=>rfl) (fun _=>rfl) (fun _=>rfl)
theorem ty26 : Zd Tryz.prog 26 (List Jn) true:=Ci ty251 Tryz.underlying26 (by kernel_rfl)
abbrev P_T_api_Layout:=ByteArray×(List ByteArray)×(List Kg)×(List Uu)×(List Kj)×(List Jn)×Unit
def un_T_api_Layout (x:Ja):P_T_api_Layout:=(x.Name,x.Sections,x.Elements,x.Joints,x.Signals,x.Balises,())
def mk_T_api_Layout (b:P_T_api_Layout):Ja:=⟨b.1,b.2.1,b.2.2.1,b.2.2.2.1,b.2.2.2.2.1,b.2.2.2.2.2.1⟩
instance : Dt Ja:=Sg un_T_api_Layout
theorem ty28 : Zd Tryz.prog 28 Ja true :=
 Ua (k:=6) (b:=136) un_T_api_Layout mk_T_api_Layout Tryz.underlying28 (by kernel_rfl) rfl (by decide) (Jl ty9 (off':=1) (by rfl) (Jl ty22 (off':=2) (by rfl) (Jl ty23 (off':=3) (by rfl) (Jl ty24 (off':=4) (by rfl) (Jl ty25 (off':=5) (by rfl) (Jl ty26 (off':=6) (by rfl) (Wg 6))))))) (fun _=>rfl) (fun _=>rfl) (fun _=>rfl) (fun _=>rfl)
abbrev P_T_api_Step:=Int×Int×Int×Unit
def un_T_api_Step (x:Jb):P_T_api_Step:=(x.El,x.In,x.Out,())
def mk_T_api_Step (b:P_T_api_Step):Jb:=⟨b.1,b.2.1,b.2.2.1⟩
instance : Dt Jb:=Sg un_T_api_Step
theorem ty143 : Zd Tryz.prog 143 Jb false :=
 Ua (k:=3) (b:=24) un_T_api_Step mk_T_api_Step Tryz.underlying143 (by kernel_rfl) rfl (by decide) (Jl ty3 (off':=1) (by rfl) (Jl ty3 (off':=2) (by rfl) (Jl ty3 (off':=3) (by rfl) (Wg 3)))) (fun _=>rfl) (fun _=>rfl) (fun _=>rfl) (fun _=>rfl)
theorem ty33 : Zd Tryz.prog 33 (List Jb) true:=Ci ty143 Tryz.underlying33 (by kernel_rfl)
abbrev P_T_api_Setting:=Int×Int×Unit
def un_T_api_Setting (x:Jf):P_T_api_Setting:=(x.El,x.Pos,())
def mk_T_api_Setting (b:P_T_api_Setting):Jf:=⟨b.1,b.2.1⟩
instance : Dt Jf:=Sg un_T_api_Setting
theorem ty186 : Zd Tryz.prog 186 Jf false :=
 Ua (k:=2) (b:=16) un_T_api_Setting mk_T_api_Setting Tryz.underlying186 (by kernel_rfl) rfl (by decide) (Jl ty3 (off':=1) (by rfl) (Jl ty3 (off':=2) (by rfl) (Wg 2))) (fun _=>rfl) (fun _=>rfl) (fun _=>rfl) (fun _=>rfl)
theorem ty117 : Zd Tryz.prog 117 (List Jf) true:=Ci ty186 Tryz.underlying117 (by kernel_rfl)
theorem ty46 : Zd Tryz.prog 46 (List Int) true:=Ci ty3 Tryz.underlying46 (by kernel_rfl)
theorem ty118 : Zd Tryz.prog 118 (List Je) true:=Ci ty130 Tryz.underlying118 (by kernel_rfl)
abbrev P_T_api_Route:=ByteArray×Int×Int×(List Jb)×(List Jf)×(List Int)×Int×Int×(List Jb)×(List Jf)×(List Int)×(List Jf)×(List Int)×(List Je)×Unit
def un_T_api_Route (x:Ji):P_T_api_Route:=(x.Name,x.Entry,x.Exit,x.Path,x.Points,x.Sections,x.Approach,x.Length,x.Over,x.OverPoints,x.OverSections,x.Flank,x.Guards,x.Gaps,())
def mk_T_api_Route (b:P_T_api_Route):Ji:=⟨b.1,b.2.1,b.2.2.1,b.2.2.2.1,b.2.2.2.2.1,b.2.2.2.2.2.1,b.2.2.2.2.2.2.1,b.2.2.2.2.2.2.2.1,b.2.2.2.2.2.2.2.2.1,b.2.2.2.2.2.2.2.2.2.1,b.2.2.2.2.2.2.2.2.2.2.1,b.2.2.2.2.2.2.2.2.2.2.2.1,b.2.2.2.2.2.2.2.2.2.2.2.2.1,b.2.2.2.2.2.2.2.2.2.2.2.2.2.1⟩
instance : Dt Ji:=Sg un_T_api_Route
theorem ty120 : Zd Tryz.prog 120 Ji true :=
 Ua (k:=14) (b:=264) un_T_api_Route mk_T_api_Route Tryz.underlying120 (by kernel_rfl) rfl (by decide) (Jl ty9 (off':=1) (by rfl) (Jl ty3 (off':=2) (by rfl) (Jl ty3 (off':=3) (by rfl) (Jl ty33 (off':=4) (by rfl) (Jl ty117 (off':=5) (by rfl) (Jl ty46 (off':=6) (by rfl) (Jl ty3 (off':=7) (by rfl) (Jl ty3 (off':=8) (by rfl) (Jl ty33 (off':=9) (by rfl) (Jl ty117 (off':=10) (by rfl) (Jl ty46 (off':=11) (by rfl) (Jl ty117 (off':=12) (by rfl) (Jl ty46 (off':=13) (by rfl) (Jl ty118 (off':=14) (by rfl) (Wg 14))))))))))))))) (fun _=>rfl) (fun _=>rfl) (fun _=>rfl) (fun _=>rfl)
theorem ty45 : Zd Tryz.prog 45 (List Ji) true:=Ci ty120 Tryz.underlying45 (by kernel_rfl)
abbrev P_T_api_Table:=(List Ji)×(List Int)×(List Int)×Int×Int×Unit
def un_T_api_Table (x:Jw):P_T_api_Table:=(x.Routes,x.Points,x.Homes,x.Sections,x.Signals,())
def mk_T_api_Table (b:P_T_api_Table):Jw:=⟨b.1,b.2.1,b.2.2.1,b.2.2.2.1,b.2.2.2.2.1⟩
instance : Dt Jw:=Sg un_T_api_Table
theorem ty48 : Zd Tryz.prog 48 Jw true :=
 Ua (k:=5) (b:=88) un_T_api_Table mk_T_api_Table Tryz.underlying48 (by kernel_rfl) rfl (by decide) (Jl ty45 (off':=1) (by rfl) (Jl ty46 (off':=2) (by rfl) (Jl ty46 (off':=3) (by rfl) (Jl ty3 (off':=4) (by rfl) (Jl ty3 (off':=5) (by rfl) (Wg 5)))))) (fun _=>rfl) (fun _=>rfl) (fun _=>rfl) (fun _=>rfl)
abbrev P_T_api_RouteState:=Int×Int×Int×Unit
def un_T_api_RouteState (x:Qh):P_T_api_RouteState:=(x.State,x.Rel,x.Timer,())
def mk_T_api_RouteState (b:P_T_api_RouteState):Qh:=⟨b.1,b.2.1,b.2.2.1⟩
instance : Dt Qh:=Sg un_T_api_RouteState
theorem ty78 : Zd Tryz.prog 78 Qh false :=
 Ua (k:=3) (b:=24) un_T_api_RouteState mk_T_api_RouteState Tryz.underlying78 (by kernel_rfl) rfl (by decide) (Jl ty3 (off':=1) (by rfl) (Jl ty3 (off':=2) (by rfl) (Jl ty3 (off':=3) (by rfl) (Wg 3)))) (fun _=>rfl) (fun _=>rfl) (fun _=>rfl) (fun _=>rfl)
theorem ty49 : Zd Tryz.prog 49 (List Qh) true:=Ci ty78 Tryz.underlying49 (by kernel_rfl)
abbrev P_T_api_Inter:=(List Qh)×(List Int)×Unit
def un_T_api_Inter (x:Ko):P_T_api_Inter:=(x.Routes,x.Lies,())
def mk_T_api_Inter (b:P_T_api_Inter):Ko:=⟨b.1,b.2.1⟩
instance : Dt Ko:=Sg un_T_api_Inter
theorem ty51 : Zd Tryz.prog 51 Ko true :=
 Ua (k:=2) (b:=48) un_T_api_Inter mk_T_api_Inter Tryz.underlying51 (by kernel_rfl) rfl (by decide) (Jl ty49 (off':=1) (by rfl) (Jl ty46 (off':=2) (by rfl) (Wg 2))) (fun _=>rfl) (fun _=>rfl) (fun _=>rfl) (fun _=>rfl)
theorem ty4 : Zd Tryz.prog 4 Bool false:=Kbk Tryz.underlying4 (by kernel_rfl)
abbrev P_T_api_Restriction:=Int×Int×Int×Int×Int×Bool×Unit
def un_T_api_Restriction (x:Jy):P_T_api_Restriction:=(x.Id,x.El,x.From,x.To,x.Speed,x.Active,())
def mk_T_api_Restriction (b:P_T_api_Restriction):Jy:=⟨b.1,b.2.1,b.2.2.1,b.2.2.2.1,b.2.2.2.2.1,b.2.2.2.2.2.1⟩
instance : Dt Jy:=Sg un_T_api_Restriction
theorem ty277 : Zd Tryz.prog 277 Jy false :=
 Ua (k:=6) (b:=48) un_T_api_Restriction mk_T_api_Restriction Tryz.underlying277 (by kernel_rfl) rfl (by decide) (Jl ty3 (off':=1) (by rfl) (Jl ty3 (off':=2) (by rfl) (Jl ty3 (off':=3) (by rfl) (Jl ty3 (off':=4) (by rfl) (Jl ty3 (off':=5) (by rfl) (Jl ty4 (off':=6) (by rfl) (Wg 6))))))) (fun _=>rfl) (fun _=>rfl) (fun _=>rfl) (fun _=>rfl)
theorem ty52 : Zd Tryz.prog 52 (List Jy) true:=Ci ty277 Tryz.underlying52 (by kernel_rfl)
abbrev P_T_api_Train:=Int×ByteArray×Int×Int×Int×Int×Int×Int×Int×Int×Unit
def un_T_api_Train (x:Jr):P_T_api_Train:=(x.Id,x.Name,x.Length,x.Speed,x.Accel,x.Service,x.Emergency,x.Delay,x.Const,x.Rate,())
def mk_T_api_Train (b:P_T_api_Train):Jr:=⟨b.1,b.2.1,b.2.2.1,b.2.2.2.1,b.2.2.2.2.1,b.2.2.2.2.2.1,b.2.2.2.2.2.2.1,b.2.2.2.2.2.2.2.1,b.2.2.2.2.2.2.2.2.1,b.2.2.2.2.2.2.2.2.2.1⟩
instance : Dt Jr:=Sg un_T_api_Train
theorem ty85 : Zd Tryz.prog 85 Jr false :=
 Ua (k:=10) (b:=88) un_T_api_Train mk_T_api_Train Tryz.underlying85 (by kernel_rfl) rfl (by decide) (Jl ty3 (off':=1) (by rfl) (Jl ty9 (off':=2) (by rfl) (Jl ty3 (off':=3) (by rfl) (Jl ty3 (off':=4) (by rfl) (Jl ty3 (off':=5) (by rfl) (Jl ty3 (off':=6) (by rfl) (Jl ty3 (off':=7) (by rfl) (Jl ty3 (off':=8) (by rfl) (Jl ty3 (off':=9) (by rfl) (Jl ty3 (off':=10) (by rfl) (Wg 10))))))))))) (fun _=>rfl) (fun _=>rfl) (fun _=>rfl) (fun _=>rfl)
theorem ty29 : Zd Tryz.prog 29 (List Jr) true:=Ci ty85 Tryz.underlying29 (by kernel_rfl)
abbrev P_T_api_Track:=Int×Int×Int×Int×(List Jb)×(List Int)×(List Int)×(List Int)×(List Int)×Int×Int×Int×Int×Int×Unit
def un_T_api_Track (x:Jd):P_T_api_Track:=(x.Id,x.Origin,x.End,x.At,x.Steps,x.Routes,x.Starts,x.Ends,x.Done,x.Min,x.Sent,x.Accepted,x.Cut,x.CutSeq,())
def mk_T_api_Track (b:P_T_api_Track):Jd:=⟨b.1,b.2.1,b.2.2.1,b.2.2.2.1,b.2.2.2.2.1,b.2.2.2.2.2.1,b.2.2.2.2.2.2.1,b.2.2.2.2.2.2.2.1,b.2.2.2.2.2.2.2.2.1,b.2.2.2.2.2.2.2.2.2.1,b.2.2.2.2.2.2.2.2.2.2.1,b.2.2.2.2.2.2.2.2.2.2.2.1,b.2.2.2.2.2.2.2.2.2.2.2.2.1,b.2.2.2.2.2.2.2.2.2.2.2.2.2.1⟩
instance : Dt Jd:=Sg un_T_api_Track
theorem ty76 : Zd Tryz.prog 76 Jd true :=
 Ua (k:=14) (b:=192) un_T_api_Track mk_T_api_Track Tryz.underlying76 (by kernel_rfl) rfl (by decide) (Jl ty3 (off':=1) (by rfl) (Jl ty3 (off':=2) (by rfl) (Jl ty3 (off':=3) (by rfl) (Jl ty3 (off':=4) (by rfl) (Jl ty33 (off':=5) (by rfl) (Jl ty46 (off':=6) (by rfl) (Jl ty46 (off':=7) (by rfl) (Jl ty46 (off':=8) (by rfl) (Jl ty46 (off':=9) (by rfl) (Jl ty3 (off':=10) (by rfl) (Jl ty3 (off':=11) (by rfl) (Jl ty3 (off':=12) (by rfl) (Jl ty3 (off':=13) (by rfl) (Jl ty3 (off':=14) (by rfl) (Wg 14))))))))))))))) (fun _=>rfl) (fun _=>rfl) (fun _=>rfl) (fun _=>rfl)
theorem ty36 : Zd Tryz.prog 36 (List Jd) true:=Ci ty76 Tryz.underlying36 (by kernel_rfl)
abbrev P_T_api_Session:=Int×Int×Int×Int×Unit
def un_T_api_Session (x:Jk):P_T_api_Session:=(x.Peer,x.Out,x.In,x.Heard,())
def mk_T_api_Session (b:P_T_api_Session):Jk:=⟨b.1,b.2.1,b.2.2.1,b.2.2.2.1⟩
instance : Dt Jk:=Sg un_T_api_Session
theorem ty91 : Zd Tryz.prog 91 Jk false :=
 Ua (k:=4) (b:=32) un_T_api_Session mk_T_api_Session Tryz.underlying91 (by kernel_rfl) rfl (by decide) (Jl ty3 (off':=1) (by rfl) (Jl ty3 (off':=2) (by rfl) (Jl ty3 (off':=3) (by rfl) (Jl ty3 (off':=4) (by rfl) (Wg 4))))) (fun _=>rfl) (fun _=>rfl) (fun _=>rfl) (fun _=>rfl)
theorem ty37 : Zd Tryz.prog 37 (List Jk) true:=Ci ty91 Tryz.underlying37 (by kernel_rfl)
abbrev P_T_api_Center:=(List Jd)×(List Jk)×Unit
def un_T_api_Center (x:Jj):P_T_api_Center:=(x.Tracks,x.Sessions,())
def mk_T_api_Center (b:P_T_api_Center):Jj:=⟨b.1,b.2.1⟩
instance : Dt Jj:=Sg un_T_api_Center
theorem ty39 : Zd Tryz.prog 39 Jj true :=
 Ua (k:=2) (b:=48) un_T_api_Center mk_T_api_Center Tryz.underlying39 (by kernel_rfl) rfl (by decide) (Jl ty36 (off':=1) (by rfl) (Jl ty37 (off':=2) (by rfl) (Wg 2))) (fun _=>rfl) (fun _=>rfl) (fun _=>rfl) (fun _=>rfl)
abbrev P_T_signallinglaw47_Case:=Ja×Jw×Ko×(List Jy)×(List Jr)×Jj×Unit
def un_T_signallinglaw47_Case (x:Jv):P_T_signallinglaw47_Case:=(x.Layout,x.Table,x.Inter,x.Slow,x.Trains,x.Center,())
def mk_T_signallinglaw47_Case (b:P_T_signallinglaw47_Case):Jv:=⟨b.1,b.2.1,b.2.2.1,b.2.2.2.1,b.2.2.2.2.1,b.2.2.2.2.2.1⟩
instance : Dt Jv:=Sg un_T_signallinglaw47_Case
theorem ty54 : Zd Tryz.prog 54 Jv true :=
 Ua (k:=17) (b:=368) un_T_signallinglaw47_Case mk_T_signallinglaw47_Case Tryz.underlying54 (by kernel_rfl) rfl (by decide) (Jl ty28 (off':=6) (by rfl) (Jl ty48 (off':=11) (by rfl) (Jl ty51 (off':=13) (by rfl) (Jl ty52 (off':=14) (by rfl) (Jl ty29 (off':=15) (by rfl) (Jl ty39 (off':=17) (by rfl) (Wg 17))))))) (fun _=>rfl) (fun _=>rfl) (fun _=>rfl) (fun _=>rfl)
abbrev P_T_api_Segment:=Int×Int×Int×Int×Unit
def un_T_api_Segment (x:Jh):P_T_api_Segment:=(x.From,x.To,x.Grade,x.Speed,())
def mk_T_api_Segment (b:P_T_api_Segment):Jh:=⟨b.1,b.2.1,b.2.2.1,b.2.2.2.1⟩
instance : Dt Jh:=Sg un_T_api_Segment
theorem ty170 : Zd Tryz.prog 170 Jh false :=
 Ua (k:=4) (b:=32) un_T_api_Segment mk_T_api_Segment Tryz.underlying170 (by kernel_rfl) rfl (by decide) (Jl ty3 (off':=1) (by rfl) (Jl ty3 (off':=2) (by rfl) (Jl ty3 (off':=3) (by rfl) (Jl ty3 (off':=4) (by rfl) (Wg 4))))) (fun _=>rfl) (fun _=>rfl) (fun _=>rfl) (fun _=>rfl)
theorem ty61 : Zd Tryz.prog 61 (List Jh) true:=Ci ty170 Tryz.underlying61 (by kernel_rfl)
abbrev P_T_api_Linked:=Int×Int×Unit
def un_T_api_Linked (x:Jc):P_T_api_Linked:=(x.Id,x.At,())
def mk_T_api_Linked (b:P_T_api_Linked):Jc:=⟨b.1,b.2.1⟩
instance : Dt Jc:=Sg un_T_api_Linked
theorem ty173 : Zd Tryz.prog 173 Jc false :=
 Ua (k:=2) (b:=16) un_T_api_Linked mk_T_api_Linked Tryz.underlying173 (by kernel_rfl) rfl (by decide) (Jl ty3 (off':=1) (by rfl) (Jl ty3 (off':=2) (by rfl) (Wg 2))) (fun _=>rfl) (fun _=>rfl) (fun _=>rfl) (fun _=>rfl)
theorem ty62 : Zd Tryz.prog 62 (List Jc) true:=Ci ty173 Tryz.underlying62 (by kernel_rfl)
abbrev P_T_api_Authority:=Int×Int×(List Jh)×(List Jc)×Unit
def un_T_api_Authority (x:Jz):P_T_api_Authority:=(x.Seq,x.End,x.Profile,x.Links,())
def mk_T_api_Authority (b:P_T_api_Authority):Jz:=⟨b.1,b.2.1,b.2.2.1,b.2.2.2.1⟩
instance : Dt Jz:=Sg un_T_api_Authority
theorem ty64 : Zd Tryz.prog 64 Jz true :=
 Ua (k:=4) (b:=64) un_T_api_Authority mk_T_api_Authority Tryz.underlying64 (by kernel_rfl) rfl (by decide) (Jl ty3 (off':=1) (by rfl) (Jl ty3 (off':=2) (by rfl) (Jl ty61 (off':=3) (by rfl) (Jl ty62 (off':=4) (by rfl) (Wg 4))))) (fun _=>rfl) (fun _=>rfl) (fun _=>rfl) (fun _=>rfl)
abbrev P_T_api_Report:=Int×Int×Int×Int×Bool×Unit
def un_T_api_Report (x:Ki):P_T_api_Report:=(x.Min,x.Speed,x.Mode,x.Accepted,x.Whole,())
def mk_T_api_Report (b:P_T_api_Report):Ki:=⟨b.1,b.2.1,b.2.2.1,b.2.2.2.1,b.2.2.2.2.1⟩
instance : Dt Ki:=Sg un_T_api_Report
theorem ty66 : Zd Tryz.prog 66 Ki false :=
 Ua (k:=5) (b:=40) un_T_api_Report mk_T_api_Report Tryz.underlying66 (by kernel_rfl) rfl (by decide) (Jl ty3 (off':=1) (by rfl) (Jl ty3 (off':=2) (by rfl) (Jl ty3 (off':=3) (by rfl) (Jl ty3 (off':=4) (by rfl) (Jl ty4 (off':=5) (by rfl) (Wg 5)))))) (fun _=>rfl) (fun _=>rfl) (fun _=>rfl) (fun _=>rfl)
abbrev P_T_api_Message:=Int×Int×Int×Int×Int×Jz×Ki×Unit
def un_T_api_Message (x:Jo):P_T_api_Message:=(x.Kind,x.From,x.To,x.Seq,x.Time,x.Auth,x.Report,())
def mk_T_api_Message (b:P_T_api_Message):Jo:=⟨b.1,b.2.1,b.2.2.1,b.2.2.2.1,b.2.2.2.2.1,b.2.2.2.2.2.1,b.2.2.2.2.2.2.1⟩
instance : Dt Jo:=Sg un_T_api_Message
theorem ty68 : Zd Tryz.prog 68 Jo true :=
 Ua (k:=14) (b:=144) un_T_api_Message mk_T_api_Message Tryz.underlying68 (by kernel_rfl) rfl (by decide) (Jl ty3 (off':=1) (by rfl) (Jl ty3 (off':=2) (by rfl) (Jl ty3 (off':=3) (by rfl) (Jl ty3 (off':=4) (by rfl) (Jl ty3 (off':=5) (by rfl) (Jl ty64 (off':=9) (by rfl) (Jl ty66 (off':=14) (by rfl) (Wg 14)))))))) (fun _=>rfl) (fun _=>rfl) (fun _=>rfl) (fun _=>rfl)
abbrev P_T_rail_passage:=Int×Int×Int×Int×Unit
def un_T_rail_passage (x:Qc):P_T_rail_passage:=(x.kind_,x.in_,x.out_,x.need_,())
def mk_T_rail_passage (b:P_T_rail_passage):Qc:=⟨b.1,b.2.1,b.2.2.1,b.2.2.2.1⟩
instance : Dt Qc:=Sg un_T_rail_passage
theorem ty311 : Zd Tryz.prog 311 Qc false :=
 Ua (k:=4) (b:=32) un_T_rail_passage mk_T_rail_passage Tryz.underlying311 (by kernel_rfl) rfl (by decide) (Jl ty3 (off':=1) (by rfl) (Jl ty3 (off':=2) (by rfl) (Jl ty3 (off':=3) (by rfl) (Jl ty3 (off':=4) (by rfl) (Wg 4))))) (fun _=>rfl) (fun _=>rfl) (fun _=>rfl) (fun _=>rfl)
def dat_tab_rail_passages : List (DataW Unit):=match (Rows.laid_signalling_rail_passages:DataW Unit) with
 | .agg l=>l
 | _=>[]
theorem all_tab_rail_passages : Ke Dt.dat Qy dat_tab_rail_passages :=
 .cons ⟨_,rfl,_,_,rfl,rfl,_,_,rfl,rfl,_,_,rfl,rfl,_,_,rfl,rfl,rfl⟩ (.cons ⟨_,rfl,_,_,rfl,rfl,_,_,rfl,rfl,_,_,rfl,rfl,_,_,rfl,rfl,rfl⟩ (.cons ⟨_,rfl,_,_,rfl,rfl,_,_,rfl,rfl,_,_,rfl,rfl,_,_,rfl,rfl,rfl⟩ (.cons ⟨_,rfl,_,_,rfl,rfl,_,_,rfl,rfl,_,_,rfl,rfl,_,_,rfl,rfl,rfl⟩ (.cons ⟨_,rfl,_,_,rfl,rfl,_,_,rfl,rfl,_,_,rfl,rfl,_,_,rfl,rfl,rfl⟩ (.cons ⟨_,rfl,_,_,rfl,rfl,_,_,rfl,rfl,_,_,rfl,rfl,_,_,rfl,rfl,rfl⟩ (.cons ⟨_,rfl,_,_,rfl,rfl,_,_,rfl,rfl,_,_,rfl,rfl,_,_,rfl,rfl,rfl⟩ (.cons ⟨_,rfl,_,_,rfl,rfl,_,_,rfl,rfl,_,_,rfl,rfl,_,_,rfl,rfl,rfl⟩ (.cons ⟨_,rfl,_,_,rfl,rfl,_,_,rfl,rfl,_,_,rfl,rfl,_,_,rfl,rfl,rfl⟩ (.cons ⟨_,rfl,_,_,rfl,rfl,_,_,rfl,rfl,_,_,rfl,rfl,_,_,rfl,rfl,rfl⟩ (.nil))))))))))
def dat_tab_rail_sides : List (DataW Unit):=match (Rows.laid_signalling_rail_sides:DataW Unit) with
 | .agg l=>l
 | _=>[]
theorem all_tab_rail_sides : Ke Dt.dat Gt dat_tab_rail_sides :=
 .cons rfl (.cons rfl (.cons rfl (.cons rfl (.nil))))
def laidL : List (String×DataW Unit):=[("signalling/rail.sides", Rows.laid_signalling_rail_sides),("signalling/rail.passages", Rows.laid_signalling_rail_passages)]
theorem globs (W:World) (h:laidMetH Tryz.prog laidL W):∀ i cs,GlS i=some cs->Fi (Bk W) W cs i:=by
 intro i cs hi
 match i,hi with
 | 0,hi =>
  cases hi;exact Jv7 (g:=0) ty311 rfl (name := "signalling/rail.passages") (by kernel_rfl) (by kernel_rfl) Tryz.underlying312 (by kernel_rfl) (tab:=Qy) (dsx:=dat_tab_rail_passages) all_tab_rail_passages (by kernel_rfl) (.tail _ (.head _)) (by kernel_rfl) h
 | 1,hi =>
  cases hi;exact Jv7 (g:=1) ty3 rfl (name := "signalling/rail.sides") (by kernel_rfl) (by kernel_rfl) Tryz.underlying315 (by kernel_rfl) (tab:=Gt) (dsx:=dat_tab_rail_sides) all_tab_rail_sides (by kernel_rfl) (.head _) (by kernel_rfl) h
theorem sizL_len {α:Type} [Dt α] (h:∀ a:α,1<=Dt.siz a):∀ l:List α,l.length<=Jf9 l
 | []=>Nat.le_refl _
 | x::xs=>by have:=sizL_len h xs; have:=h x; simp only [Jf9,List.length_cons]; omega
theorem sizL_mem {α:Type} [Dt α] {x:α}:∀ {l:List α},x∈l->Dt.siz x<=Jf9 l
 | y::ys,h=>by
  rcases List.mem_cons.1 h with rfl|h
  ·simp only [Jf9]; omega
  ·have:=sizL_mem h; simp only [Jf9]; omega
theorem siz_layout (l:Ja):Dt.siz l=(l.Name.size+1)+((Jf9 l.Sections+1)+((Jf9 l.Elements+1)+((Jf9 l.Joints+1)+((Jf9 l.Signals+1)+((Jf9 l.Balises+1)+0)))))+1:=rfl
theorem siz_pos_el (x:Kg):x.Name.size+1<=Dt.siz x:=by
 show x.Name.size+1<=(x.Name.size+1)+_+1;omega
theorem siz_pos_sg (x:Kj):x.Name.size+1<=Dt.siz x:=by
 show x.Name.size+1<=(x.Name.size+1)+_+1;omega
theorem sm_of {l:Ja} (h:Dt.siz l<=1048576):Sm l:=by
 rw [siz_layout] at h;have h1:=sizL_len (α:=ByteArray) (fun a=>by show 1<=a.size+1; omega) l.Sections;have h2:=sizL_len (α:=Kg) (fun a=>by have:=siz_pos_el a; omega) l.Elements;have h3:=sizL_len (α:=Uu) (fun a=>by show 1<=_+1; omega) l.Joints;have h4:=sizL_len (α:=Kj) (fun a=>by have:=siz_pos_sg a; omega) l.Signals;have h5:=sizL_len (α:=Jn) (fun a=>by show 1<=_+1; omega) l.Balises;refine ⟨by omega,by omega,by omega,by omega,by omega,by omega,fun x hx=>?_,fun x hx=>?_,fun x hx=>?_⟩
 ·have:=sizL_mem hx;have e:Dt.siz x=x.size+1:=rfl;omega
 ·have:=sizL_mem hx; have:=siz_pos_el x; omega
 ·have:=sizL_mem hx; have:=siz_pos_sg x; omega
theorem szs_hd {α β:Type} [Enc α] [Dt α] [DtL β] (b:α×β):Dt.siz b.1<=DtL.szs b:=Nat.le_add_right _ _
theorem siz_lst {α:Type} [Enc α] [Dt α] (L:List α):Dt.siz L=Jf9 L+1:=rfl
theorem siz_case (x:Jv):Dt.siz x=(Dt.siz x.Layout+(Dt.siz x.Table+(Dt.siz x.Inter+(Dt.siz x.Slow+(Dt.siz x.Trains+(Dt.siz x.Center+0))))))+1:=rfl
theorem siz_table (x:Jw):Dt.siz x=(Dt.siz x.Routes+(Dt.siz x.Points+(Dt.siz x.Homes+(1+(1+0)))))+1:=rfl
theorem siz_center (x:Jj):Dt.siz x=(Dt.siz x.Tracks+(Dt.siz x.Sessions+0))+1:=rfl
theorem bulkX_of {x:Jv} (h:Dt.siz x<=1048576):Jza x:=by
 rw [siz_case,siz_table,siz_center] at h;have e1:=siz_lst x.Table.Routes;have e2:=siz_lst x.Center.Tracks;have h1:=sizL_len (α:=Ji) (fun a=>by show 1<=_+1; omega) x.Table.Routes;have h2:=sizL_len (α:=Jd) (fun a=>by show 1<=_+1; omega) x.Center.Tracks;exact ⟨by omega,by omega⟩
theorem siz_train (t:Jr):t.Name.size+1<=Dt.siz t:=by
 show t.Name.size+1<=(1+((t.Name.size+1)+_))+1;omega
theorem bulkY_of {x:Jv} (h:Dt.siz x<=1048576):Jy9 x:=by
 have hb:=bulkX_of h;rw [siz_case] at h;have e1:=siz_lst x.Trains;refine ⟨hb,sm_of (by omega),fun t ht=>?_⟩;have e2:=sizL_mem ht;have e3:=siz_train t;omega
theorem rbcReceives_in (b:Jv×Jo×Int×Unit) (h:DtL.szs b<=1048576/\DtL.rngs b):Wv b.1 b.2.1 b.2.2.1=some true:=by
 have h1:=Nat.le_trans (szs_hd b) h.1;have h2:=h1;rw [siz_case] at h2;have e1:=siz_lst b.1.Trains;have e2:=sizL_len (α:=Jr) (fun a=>by have:=siz_train a; omega) b.1.Trains;exact Jku (bulkY_of h1) _ (by omega)
end Go.Proofs.YtfpoeepcomnjhaaGreatDoor
