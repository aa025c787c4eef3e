/-
 THE BASE OF THE CARDS: the types of the arguments, and what the rows' list says of the package tables. Printed by tyf.py.
-/
import Derived.Test.YtfpoeepcomnjhaaGreatDoorPlnB
import Derived.Test.YtfpoeepcomnjhaaGreatDoorFrA
import Derived.WalkKit
import Derived.ProofKit
namespace Go.Proofs.YtfpoeepcomnjhaaGreatDoor
open Go.ChangeShapes Go.WideShapes Go.ChangeAt Go.RowKit PM
theorem own : ownKnob Tryz.prog.godebug=none:=by kernel_rfl
theorem laidOut : laidOutB Tryz.prog=true:=by kernel_rfl
theorem ty9 : Dh Tryz.prog 9 ByteArray false:=Kk8 Tryz.underlying9 (by kernel_rfl)
theorem ty22 : Dh Tryz.prog 22 (List ByteArray) true:=Fh ty9 Tryz.underlying22 (by kernel_rfl)
theorem ty3 : Dh Tryz.prog 3 Int false:=Kj5 Tryz.underlying3 (by kernel_rfl)
abbrev P_T_api_Element:=ByteArray×Int×Int×Int×Int×Int×Int×Unit
def un_T_api_Element (x:Jt):P_T_api_Element:=(x.Name,x.Kind,x.Length,x.Grade,x.Speed,x.Slow,x.Section,())
def mk_T_api_Element (b:P_T_api_Element):Jt:=⟨b.1,b.2.1,b.2.2.1,b.2.2.2.1,b.2.2.2.2.1,b.2.2.2.2.2.1,b.2.2.2.2.2.2.1⟩
instance : Dt Jt:=Jdg un_T_api_Element
theorem ty134 : Dh Tryz.prog 134 Jt false :=
 Wa (k:=7) (b:=64) un_T_api_Element mk_T_api_Element Tryz.underlying134 (by kernel_rfl) rfl (by decide) (Jw ty9 (off':=1) (by rfl) (Jw ty3 (off':=2) (by rfl) (Jw ty3 (off':=3) (by rfl) (Jw ty3 (off':=4) (by rfl) (Jw ty3 (off':=5) (by rfl) (Jw ty3 (off':=6) (by rfl) (Jw ty3 (off':=7) (by rfl) (Zx 7)))))))) (fun _=>rfl) (fun _=>rfl) (fun _=>rfl) (fun _=>rfl)
theorem ty23 : Dh Tryz.prog 23 (List Jt) true:=Fh ty134 Tryz.underlying23 (by kernel_rfl)
abbrev P_T_api_End:=Int×Int×Unit
def un_T_api_End (x:Jf):P_T_api_End:=(x.El,x.Side,())
def mk_T_api_End (b:P_T_api_End):Jf:=⟨b.1,b.2.1⟩
instance : Dt Jf:=Jdg un_T_api_End
theorem ty130 : Dh Tryz.prog 130 Jf false :=
 Wa (k:=2) (b:=16) un_T_api_End mk_T_api_End Tryz.underlying130 (by kernel_rfl) rfl (by decide) (Jw ty3 (off':=1) (by rfl) (Jw ty3 (off':=2) (by rfl) (Zx 2))) (fun _=>rfl) (fun _=>rfl) (fun _=>rfl) (fun _=>rfl)
abbrev P_T_api_Joint:=Jf×Jf×Unit
def un_T_api_Joint (x:Vk):P_T_api_Joint:=(x.A,x.B,())
def mk_T_api_Joint (b:P_T_api_Joint):Vk:=⟨b.1,b.2.1⟩
instance : Dt Vk:=Jdg un_T_api_Joint
theorem ty136 : Dh Tryz.prog 136 Vk false :=
 Wa (k:=4) (b:=32) un_T_api_Joint mk_T_api_Joint Tryz.underlying136 (by kernel_rfl) rfl (by decide) (Jw ty130 (off':=2) (by rfl) (Jw ty130 (off':=4) (by rfl) (Zx 4))) (fun _=>rfl) (fun _=>rfl) (fun _=>rfl) (fun _=>rfl)
theorem ty24 : Dh Tryz.prog 24 (List Vk) true:=Fh ty136 Tryz.underlying24 (by kernel_rfl)
abbrev P_T_api_Signal:=ByteArray×Jf×Int×Unit
def un_T_api_Signal (x:Kn):P_T_api_Signal:=(x.Name,x.At,x.Overlap,())
def mk_T_api_Signal (b:P_T_api_Signal):Kn:=⟨b.1,b.2.1,b.2.2.1⟩
instance : Dt Kn:=Jdg un_T_api_Signal
theorem ty132 : Dh Tryz.prog 132 Kn false :=
 Wa (k:=4) (b:=40) un_T_api_Signal mk_T_api_Signal Tryz.underlying132 (by kernel_rfl) rfl (by decide) (Jw ty9 (off':=1) (by rfl) (Jw ty130 (off':=3) (by rfl) (Jw ty3 (off':=4) (by rfl) (Zx 4)))) (fun _=>rfl) (fun _=>rfl) (fun _=>rfl) (fun _=>rfl)
theorem ty25 : Dh Tryz.prog 25 (List Kn) true:=Fh ty132 Tryz.underlying25 (by kernel_rfl)
abbrev P_T_api_Balise:=Int×Int×Int×Unit
def un_T_api_Balise (x:Jk):P_T_api_Balise:=(x.Id,x.El,x.Offset,())
def mk_T_api_Balise (b:P_T_api_Balise):Jk:=⟨b.1,b.2.1,b.2.2.1⟩
instance : Dt Jk:=Jdg un_T_api_Balise
theorem ty251 : Dh Tryz.prog 251 Jk false :=
 Wa (k:=3) (b:=24) un_T_api_Balise mk_T_api_Balise Tryz.underlying251 (by kernel_rfl) rfl (by decide) (Jw ty3 (off':=1) (by rfl) (Jw ty3 (off':=2) (by rfl) (Jw ty3 (off':=3) (by rfl) (Zx 3)))) (fun _=>rfl) (fun _=>rfl) (fun _=>rfl) (fun _=>rfl)
theorem ty26 : Dh Tryz.prog 26 (List Jk) true:=Fh ty251 Tryz.underlying26 (by kernel_rfl)
abbrev P_T_api_Layout:=ByteArray×(List ByteArray)×(List Jt)×(List Vk)×(List Kn)×(List Jk)×Unit
def un_T_api_Layout (x:Ja):P_T_api_Layout:=(x.Name,x.Sections,x.Elements,x.Joints,x.Signals,x.Balises,())
def mk_T_api_Layout (b:P_T_api_Layout):Ja:=⟨b.1,b.2.1,b.2.2.1,b.2.2.2.1,b.2.2.2.2.1,b.2.2.2.2.2.1⟩
instance : Dt Ja:=Jdg un_T_api_Layout
theorem ty28 : Dh Tryz.prog 28 Ja true :=
 Wa (k:=6) (b:=136) un_T_api_Layout mk_T_api_Layout Tryz.underlying28 (by kernel_rfl) rfl (by decide) (Jw ty9 (off':=1) (by rfl) (Jw ty22 (off':=2) (by rfl) (Jw ty23 (off':=3) (by rfl) (Jw ty24 (off':=4) (by rfl) (Jw ty25 (off':=5) (by rfl) (Jw ty26 (off':=6) (by rfl) (Zx 6))))))) (fun _=>rfl) (fun _=>rfl) (fun _=>rfl) (fun _=>rfl)
abbrev P_T_api_Step:=Int×Int×Int×Unit
def un_T_api_Step (x:Jb):P_T_api_Step:=(x.El,x.In,x.Out,())
def mk_T_api_Step (b:P_T_api_Step):Jb:=⟨b.1,b.2.1,b.2.2.1⟩
instance : Dt Jb:=Jdg un_T_api_Step
theorem ty143 : Dh Tryz.prog 143 Jb false :=
 Wa (k:=3) (b:=24) un_T_api_Step mk_T_api_Step Tryz.underlying143 (by kernel_rfl) rfl (by decide) (Jw ty3 (off':=1) (by rfl) (Jw ty3 (off':=2) (by rfl) (Jw ty3 (off':=3) (by rfl) (Zx 3)))) (fun _=>rfl) (fun _=>rfl) (fun _=>rfl) (fun _=>rfl)
theorem ty33 : Dh Tryz.prog 33 (List Jb) true:=Fh ty143 Tryz.underlying33 (by kernel_rfl)
abbrev P_T_api_Setting:=Int×Int×Unit
def un_T_api_Setting (x:Jg):P_T_api_Setting:=(x.El,x.Pos,())
def mk_T_api_Setting (b:P_T_api_Setting):Jg:=⟨b.1,b.2.1⟩
instance : Dt Jg:=Jdg un_T_api_Setting
theorem ty186 : Dh Tryz.prog 186 Jg false :=
 Wa (k:=2) (b:=16) un_T_api_Setting mk_T_api_Setting Tryz.underlying186 (by kernel_rfl) rfl (by decide) (Jw ty3 (off':=1) (by rfl) (Jw ty3 (off':=2) (by rfl) (Zx 2))) (fun _=>rfl) (fun _=>rfl) (fun _=>rfl) (fun _=>rfl)
theorem ty117 : Dh Tryz.prog 117 (List Jg) true:=Fh ty186 Tryz.underlying117 (by kernel_rfl)
theorem ty46 : Dh Tryz.prog 46 (List Int) true:=Fh ty3 Tryz.underlying46 (by kernel_rfl)
theorem ty118 : Dh Tryz.prog 118 (List Jf) true:=Fh ty130 Tryz.underlying118 (by kernel_rfl)
abbrev P_T_api_Route:=ByteArray×Int×Int×(List Jb)×(List Jg)×(List Int)×Int×Int×(List Jb)×(List Jg)×(List Int)×(List Jg)×(List Int)×(List Jf)×Unit
def un_T_api_Route (x:Jh):P_T_api_Route:=(x.Name,x.Entry,x.Exit,x.Path,x.Points,x.Sections,x.Approach,x.Length,x.Over,x.OverPoints,x.OverSections,x.Flank,x.Guards,x.Gaps,())
def mk_T_api_Route (b:P_T_api_Route):Jh:=⟨b.1,b.2.1,b.2.2.1,b.2.2.2.1,b.2.2.2.2.1,b.2.2.2.2.2.1,b.2.2.2.2.2.2.1,b.2.2.2.2.2.2.2.1,b.2.2.2.2.2.2.2.2.1,b.2.2.2.2.2.2.2.2.2.1,b.2.2.2.2.2.2.2.2.2.2.1,b.2.2.2.2.2.2.2.2.2.2.2.1,b.2.2.2.2.2.2.2.2.2.2.2.2.1,b.2.2.2.2.2.2.2.2.2.2.2.2.2.1⟩
instance : Dt Jh:=Jdg un_T_api_Route
theorem ty120 : Dh Tryz.prog 120 Jh true :=
 Wa (k:=14) (b:=264) un_T_api_Route mk_T_api_Route Tryz.underlying120 (by kernel_rfl) rfl (by decide) (Jw ty9 (off':=1) (by rfl) (Jw ty3 (off':=2) (by rfl) (Jw ty3 (off':=3) (by rfl) (Jw ty33 (off':=4) (by rfl) (Jw ty117 (off':=5) (by rfl) (Jw ty46 (off':=6) (by rfl) (Jw ty3 (off':=7) (by rfl) (Jw ty3 (off':=8) (by rfl) (Jw ty33 (off':=9) (by rfl) (Jw ty117 (off':=10) (by rfl) (Jw ty46 (off':=11) (by rfl) (Jw ty117 (off':=12) (by rfl) (Jw ty46 (off':=13) (by rfl) (Jw ty118 (off':=14) (by rfl) (Zx 14))))))))))))))) (fun _=>rfl) (fun _=>rfl) (fun _=>rfl) (fun _=>rfl)
theorem ty45 : Dh Tryz.prog 45 (List Jh) true:=Fh ty120 Tryz.underlying45 (by kernel_rfl)
abbrev P_T_api_Table:=(List Jh)×(List Int)×(List Int)×Int×Int×Unit
def un_T_api_Table (x:Jq):P_T_api_Table:=(x.Routes,x.Points,x.Homes,x.Sections,x.Signals,())
def mk_T_api_Table (b:P_T_api_Table):Jq:=⟨b.1,b.2.1,b.2.2.1,b.2.2.2.1,b.2.2.2.2.1⟩
instance : Dt Jq:=Jdg un_T_api_Table
theorem ty48 : Dh Tryz.prog 48 Jq true :=
 Wa (k:=5) (b:=88) un_T_api_Table mk_T_api_Table Tryz.underlying48 (by kernel_rfl) rfl (by decide) (Jw ty45 (off':=1) (by rfl) (Jw ty46 (off':=2) (by rfl) (Jw ty46 (off':=3) (by rfl) (Jw ty3 (off':=4) (by rfl) (Jw ty3 (off':=5) (by rfl) (Zx 5)))))) (fun _=>rfl) (fun _=>rfl) (fun _=>rfl) (fun _=>rfl)
abbrev P_T_api_RouteState:=Int×Int×Int×Unit
def un_T_api_RouteState (x:Uj):P_T_api_RouteState:=(x.State,x.Rel,x.Timer,())
def mk_T_api_RouteState (b:P_T_api_RouteState):Uj:=⟨b.1,b.2.1,b.2.2.1⟩
instance : Dt Uj:=Jdg un_T_api_RouteState
theorem ty78 : Dh Tryz.prog 78 Uj false :=
 Wa (k:=3) (b:=24) un_T_api_RouteState mk_T_api_RouteState Tryz.underlying78 (by kernel_rfl) rfl (by decide) (Jw ty3 (off':=1) (by rfl) (Jw ty3 (off':=2) (by rfl) (Jw ty3 (off':=3) (by rfl) (Zx 3)))) (fun _=>rfl) (fun _=>rfl) (fun _=>rfl) (fun _=>rfl)
theorem ty49 : Dh Tryz.prog 49 (List Uj) true:=Fh ty78 Tryz.underlying49 (by kernel_rfl)
abbrev P_T_api_Inter:=(List Uj)×(List Int)×Unit
def un_T_api_Inter (x:Jx):P_T_api_Inter:=(x.Routes,x.Lies,())
def mk_T_api_Inter (b:P_T_api_Inter):Jx:=⟨b.1,b.2.1⟩
instance : Dt Jx:=Jdg un_T_api_Inter
theorem ty51 : Dh Tryz.prog 51 Jx true :=
 Wa (k:=2) (b:=48) un_T_api_Inter mk_T_api_Inter Tryz.underlying51 (by kernel_rfl) rfl (by decide) (Jw ty49 (off':=1) (by rfl) (Jw ty46 (off':=2) (by rfl) (Zx 2))) (fun _=>rfl) (fun _=>rfl) (fun _=>rfl) (fun _=>rfl)
theorem ty4 : Dh Tryz.prog 4 Bool false:=Khi Tryz.underlying4 (by kernel_rfl)
abbrev P_T_api_Restriction:=Int×Int×Int×Int×Int×Bool×Unit
def un_T_api_Restriction (x:Jj):P_T_api_Restriction:=(x.Id,x.El,x.From,x.To,x.Speed,x.Active,())
def mk_T_api_Restriction (b:P_T_api_Restriction):Jj:=⟨b.1,b.2.1,b.2.2.1,b.2.2.2.1,b.2.2.2.2.1,b.2.2.2.2.2.1⟩
instance : Dt Jj:=Jdg un_T_api_Restriction
theorem ty277 : Dh Tryz.prog 277 Jj false :=
 Wa (k:=6) (b:=48) un_T_api_Restriction mk_T_api_Restriction Tryz.underlying277 (by kernel_rfl) rfl (by decide) (Jw ty3 (off':=1) (by rfl) (Jw ty3 (off':=2) (by rfl) (Jw ty3 (off':=3) (by rfl) (Jw ty3 (off':=4) (by rfl) (Jw ty3 (off':=5) (by rfl) (Jw ty4 (off':=6) (by rfl) (Zx 6))))))) (fun _=>rfl) (fun _=>rfl) (fun _=>rfl) (fun _=>rfl)
theorem ty52 : Dh Tryz.prog 52 (List Jj) true:=Fh ty277 Tryz.underlying52 (by kernel_rfl)
abbrev P_T_api_Train:=Int×ByteArray×Int×Int×Int×Int×Int×Int×Int×Int×Unit
def un_T_api_Train (x:Kt):P_T_api_Train:=(x.Id,x.Name,x.Length,x.Speed,x.Accel,x.Service,x.Emergency,x.Delay,x.Const,x.Rate,())
def mk_T_api_Train (b:P_T_api_Train):Kt:=⟨b.1,b.2.1,b.2.2.1,b.2.2.2.1,b.2.2.2.2.1,b.2.2.2.2.2.1,b.2.2.2.2.2.2.1,b.2.2.2.2.2.2.2.1,b.2.2.2.2.2.2.2.2.1,b.2.2.2.2.2.2.2.2.2.1⟩
instance : Dt Kt:=Jdg un_T_api_Train
theorem ty85 : Dh Tryz.prog 85 Kt false :=
 Wa (k:=10) (b:=88) un_T_api_Train mk_T_api_Train Tryz.underlying85 (by kernel_rfl) rfl (by decide) (Jw ty3 (off':=1) (by rfl) (Jw ty9 (off':=2) (by rfl) (Jw ty3 (off':=3) (by rfl) (Jw ty3 (off':=4) (by rfl) (Jw ty3 (off':=5) (by rfl) (Jw ty3 (off':=6) (by rfl) (Jw ty3 (off':=7) (by rfl) (Jw ty3 (off':=8) (by rfl) (Jw ty3 (off':=9) (by rfl) (Jw ty3 (off':=10) (by rfl) (Zx 10))))))))))) (fun _=>rfl) (fun _=>rfl) (fun _=>rfl) (fun _=>rfl)
theorem ty29 : Dh Tryz.prog 29 (List Kt) true:=Fh ty85 Tryz.underlying29 (by kernel_rfl)
abbrev P_T_api_Track:=Int×Int×Int×Int×(List Jb)×(List Int)×(List Int)×(List Int)×(List Int)×Int×Int×Int×Int×Int×Unit
def un_T_api_Track (x:Je):P_T_api_Track:=(x.Id,x.Origin,x.End,x.At,x.Steps,x.Routes,x.Starts,x.Ends,x.Done,x.Min,x.Sent,x.Accepted,x.Cut,x.CutSeq,())
def mk_T_api_Track (b:P_T_api_Track):Je:=⟨b.1,b.2.1,b.2.2.1,b.2.2.2.1,b.2.2.2.2.1,b.2.2.2.2.2.1,b.2.2.2.2.2.2.1,b.2.2.2.2.2.2.2.1,b.2.2.2.2.2.2.2.2.1,b.2.2.2.2.2.2.2.2.2.1,b.2.2.2.2.2.2.2.2.2.2.1,b.2.2.2.2.2.2.2.2.2.2.2.1,b.2.2.2.2.2.2.2.2.2.2.2.2.1,b.2.2.2.2.2.2.2.2.2.2.2.2.2.1⟩
instance : Dt Je:=Jdg un_T_api_Track
theorem ty76 : Dh Tryz.prog 76 Je true :=
 Wa (k:=14) (b:=192) un_T_api_Track mk_T_api_Track Tryz.underlying76 (by kernel_rfl) rfl (by decide) (Jw ty3 (off':=1) (by rfl) (Jw ty3 (off':=2) (by rfl) (Jw ty3 (off':=3) (by rfl) (Jw ty3 (off':=4) (by rfl) (Jw ty33 (off':=5) (by rfl) (Jw ty46 (off':=6) (by rfl) (Jw ty46 (off':=7) (by rfl) (Jw ty46 (off':=8) (by rfl) (Jw ty46 (off':=9) (by rfl) (Jw ty3 (off':=10) (by rfl) (Jw ty3 (off':=11) (by rfl) (Jw ty3 (off':=12) (by rfl) (Jw ty3 (off':=13) (by rfl) (Jw ty3 (off':=14) (by rfl) (Zx 14))))))))))))))) (fun _=>rfl) (fun _=>rfl) (fun _=>rfl) (fun _=>rfl)
theorem ty36 : Dh Tryz.prog 36 (List Je) true:=Fh ty76 Tryz.underlying36 (by kernel_rfl)
abbrev P_T_api_Session:=Int×Int×Int×Int×Unit
def un_T_api_Session (x:Jl):P_T_api_Session:=(x.Peer,x.Out,x.In,x.Heard,())
def mk_T_api_Session (b:P_T_api_Session):Jl:=⟨b.1,b.2.1,b.2.2.1,b.2.2.2.1⟩
instance : Dt Jl:=Jdg un_T_api_Session
theorem ty91 : Dh Tryz.prog 91 Jl false :=
 Wa (k:=4) (b:=32) un_T_api_Session mk_T_api_Session Tryz.underlying91 (by kernel_rfl) rfl (by decide) (Jw ty3 (off':=1) (by rfl) (Jw ty3 (off':=2) (by rfl) (Jw ty3 (off':=3) (by rfl) (Jw ty3 (off':=4) (by rfl) (Zx 4))))) (fun _=>rfl) (fun _=>rfl) (fun _=>rfl) (fun _=>rfl)
theorem ty37 : Dh Tryz.prog 37 (List Jl) true:=Fh ty91 Tryz.underlying37 (by kernel_rfl)
abbrev P_T_api_Center:=(List Je)×(List Jl)×Unit
def un_T_api_Center (x:Jm):P_T_api_Center:=(x.Tracks,x.Sessions,())
def mk_T_api_Center (b:P_T_api_Center):Jm:=⟨b.1,b.2.1⟩
instance : Dt Jm:=Jdg un_T_api_Center
theorem ty39 : Dh Tryz.prog 39 Jm true :=
 Wa (k:=2) (b:=48) un_T_api_Center mk_T_api_Center Tryz.underlying39 (by kernel_rfl) rfl (by decide) (Jw ty36 (off':=1) (by rfl) (Jw ty37 (off':=2) (by rfl) (Zx 2))) (fun _=>rfl) (fun _=>rfl) (fun _=>rfl) (fun _=>rfl)
abbrev P_T_signallinglaw47_Case:=Ja×Jq×Jx×(List Jj)×(List Kt)×Jm×Unit
def un_T_signallinglaw47_Case (x:Jz):P_T_signallinglaw47_Case:=(x.Layout,x.Table,x.Inter,x.Slow,x.Trains,x.Center,())
def mk_T_signallinglaw47_Case (b:P_T_signallinglaw47_Case):Jz:=⟨b.1,b.2.1,b.2.2.1,b.2.2.2.1,b.2.2.2.2.1,b.2.2.2.2.2.1⟩
instance : Dt Jz:=Jdg un_T_signallinglaw47_Case
theorem ty54 : Dh Tryz.prog 54 Jz true :=
 Wa (k:=17) (b:=368) un_T_signallinglaw47_Case mk_T_signallinglaw47_Case Tryz.underlying54 (by kernel_rfl) rfl (by decide) (Jw ty28 (off':=6) (by rfl) (Jw ty48 (off':=11) (by rfl) (Jw ty51 (off':=13) (by rfl) (Jw ty52 (off':=14) (by rfl) (Jw ty29 (off':=15) (by rfl) (Jw ty39 (off':=17) (by rfl) (Zx 17))))))) (fun _=>rfl) (fun _=>rfl) (fun _=>rfl) (fun _=>rfl)
abbrev P_T_rail_passage:=Int×Int×Int×Int×Unit
def un_T_rail_passage (x:Qv):P_T_rail_passage:=(x.kind_,x.in_,x.out_,x.need_,())
def mk_T_rail_passage (b:P_T_rail_passage):Qv:=⟨b.1,b.2.1,b.2.2.1,b.2.2.2.1⟩
instance : Dt Qv:=Jdg un_T_rail_passage
theorem ty311 : Dh Tryz.prog 311 Qv false :=
 Wa (k:=4) (b:=32) un_T_rail_passage mk_T_rail_passage Tryz.underlying311 (by kernel_rfl) rfl (by decide) (Jw ty3 (off':=1) (by rfl) (Jw ty3 (off':=2) (by rfl) (Jw ty3 (off':=3) (by rfl) (Jw ty3 (off':=4) (by rfl) (Zx 4))))) (fun _=>rfl) (fun _=>rfl) (fun _=>rfl) (fun _=>rfl)
def dat_tab_rail_passages : List (DataW Unit):=match (Rows.laid_signalling_rail_passages:DataW Unit) with
 | .agg l=>l
 | _=>[]
theorem all_tab_rail_passages : Kg Dt.dat Qh dat_tab_rail_passages :=
 .cons ⟨_,rfl,_,_,rfl,rfl,_,_,rfl,rfl,_,_,rfl,rfl,_,_,rfl,rfl,rfl⟩ (.cons ⟨_,rfl,_,_,rfl,rfl,_,_,rfl,rfl,_,_,rfl,rfl,_,_,rfl,rfl,rfl⟩ (.cons ⟨_,rfl,_,_,rfl,rfl,_,_,rfl,rfl,_,_,rfl,rfl,_,_,rfl,rfl,rfl⟩ (.cons ⟨_,rfl,_,_,rfl,rfl,_,_,rfl,rfl,_,_,rfl,rfl,_,_,rfl,rfl,rfl⟩ (.cons ⟨_,rfl,_,_,rfl,rfl,_,_,rfl,rfl,_,_,rfl,rfl,_,_,rfl,rfl,rfl⟩ (.cons ⟨_,rfl,_,_,rfl,rfl,_,_,rfl,rfl,_,_,rfl,rfl,_,_,rfl,rfl,rfl⟩ (.cons ⟨_,rfl,_,_,rfl,rfl,_,_,rfl,rfl,_,_,rfl,rfl,_,_,rfl,rfl,rfl⟩ (.cons ⟨_,rfl,_,_,rfl,rfl,_,_,rfl,rfl,_,_,rfl,rfl,_,_,rfl,rfl,rfl⟩ (.cons ⟨_,rfl,_,_,rfl,rfl,_,_,rfl,rfl,_,_,rfl,rfl,_,_,rfl,rfl,rfl⟩ (.cons ⟨_,rfl,_,_,rfl,rfl,_,_,rfl,rfl,_,_,rfl,rfl,_,_,rfl,rfl,rfl⟩ (.nil))))))))))
def dat_tab_rail_sides : List (DataW Unit):=match (Rows.laid_signalling_rail_sides:DataW Unit) with
 | .agg l=>l
 | _=>[]
theorem all_tab_rail_sides : Kg Dt.dat Ih dat_tab_rail_sides :=
 .cons rfl (.cons rfl (.cons rfl (.cons rfl (.nil))))
def laidL : List (String×DataW Unit):=[("signalling/rail.sides", Rows.laid_signalling_rail_sides),("signalling/rail.passages", Rows.laid_signalling_rail_passages)]
theorem globs (W:World) (h:laidMetH Tryz.prog laidL W):∀ i cs,GlS i=some cs->Gw (Bk W) W cs i:=by
 intro i cs hi
 match i,hi with
 | 0,hi =>
  cases hi;exact Ka4 (g:=0) ty311 rfl (name := "signalling/rail.passages") (by kernel_rfl) (by kernel_rfl) Tryz.underlying312 (by kernel_rfl) (tab:=Qh) (dsx:=dat_tab_rail_passages) all_tab_rail_passages (by kernel_rfl) (.tail _ (.head _)) (by kernel_rfl) h
 | 1,hi =>
  cases hi;exact Ka4 (g:=1) ty3 rfl (name := "signalling/rail.sides") (by kernel_rfl) (by kernel_rfl) Tryz.underlying315 (by kernel_rfl) (tab:=Ih) (dsx:=dat_tab_rail_sides) all_tab_rail_sides (by kernel_rfl) (.head _) (by kernel_rfl) h
theorem sizL_len {α:Type} [Dt α] (h:∀ a:α,1<=Dt.siz a):∀ l:List α,l.length<=Jhr l
 | []=>Nat.le_refl _
 | x::xs=>by have:=sizL_len h xs; have:=h x; simp only [Jhr,List.length_cons]; omega
theorem sizL_mem {α:Type} [Dt α] {x:α}:∀ {l:List α},x∈l->Dt.siz x<=Jhr l
 | y::ys,h=>by
  rcases List.mem_cons.1 h with rfl|h
  ·simp only [Jhr]; omega
  ·have:=sizL_mem h; simp only [Jhr]; omega
theorem siz_layout (l:Ja):Dt.siz l=(l.Name.size+1)+((Jhr l.Sections+1)+((Jhr l.Elements+1)+((Jhr l.Joints+1)+((Jhr l.Signals+1)+((Jhr l.Balises+1)+0)))))+1:=rfl
theorem siz_pos_el (x:Jt):x.Name.size+1<=Dt.siz x:=by
 show x.Name.size+1<=(x.Name.size+1)+_+1;omega
theorem siz_pos_sg (x:Kn):x.Name.size+1<=Dt.siz x:=by
 show x.Name.size+1<=(x.Name.size+1)+_+1;omega
theorem sm_of {l:Ja} (h:Dt.siz l<=1048576):Sm l:=by
 rw [siz_layout] at h;have h1:=sizL_len (α:=ByteArray) (fun a=>by show 1<=a.size+1; omega) l.Sections;have h2:=sizL_len (α:=Jt) (fun a=>by have:=siz_pos_el a; omega) l.Elements;have h3:=sizL_len (α:=Vk) (fun a=>by show 1<=_+1; omega) l.Joints;have h4:=sizL_len (α:=Kn) (fun a=>by have:=siz_pos_sg a; omega) l.Signals;have h5:=sizL_len (α:=Jk) (fun a=>by show 1<=_+1; omega) l.Balises;refine ⟨by omega,by omega,by omega,by omega,by omega,by omega,fun x hx=>?_,fun x hx=>?_,fun x hx=>?_⟩
 ·have:=sizL_mem hx;have e:Dt.siz x=x.size+1:=rfl;omega
 ·have:=sizL_mem hx; have:=siz_pos_el x; omega
 ·have:=sizL_mem hx; have:=siz_pos_sg x; omega
theorem szs_hd {α β:Type} [Enc α] [Dt α] [DtL β] (b:α×β):Dt.siz b.1<=DtL.szs b:=Nat.le_add_right _ _
theorem siz_lst {α:Type} [Enc α] [Dt α] (L:List α):Dt.siz L=Jhr L+1:=rfl
theorem siz_case (x:Jz):Dt.siz x=(Dt.siz x.Layout+(Dt.siz x.Table+(Dt.siz x.Inter+(Dt.siz x.Slow+(Dt.siz x.Trains+(Dt.siz x.Center+0))))))+1:=rfl
theorem siz_table (x:Jq):Dt.siz x=(Dt.siz x.Routes+(Dt.siz x.Points+(Dt.siz x.Homes+(1+(1+0)))))+1:=rfl
theorem siz_center (x:Jm):Dt.siz x=(Dt.siz x.Tracks+(Dt.siz x.Sessions+0))+1:=rfl
theorem bulkX_of {x:Jz} (h:Dt.siz x<=1048576):Kgj x:=by
 rw [siz_case,siz_table,siz_center] at h;have e1:=siz_lst x.Table.Routes;have e2:=siz_lst x.Center.Tracks;have h1:=sizL_len (α:=Jh) (fun a=>by show 1<=_+1; omega) x.Table.Routes;have h2:=sizL_len (α:=Je) (fun a=>by show 1<=_+1; omega) x.Center.Tracks;exact ⟨by omega,by omega⟩
theorem siz_train (t:Kt):t.Name.size+1<=Dt.siz t:=by
 show t.Name.size+1<=(1+((t.Name.size+1)+_))+1;omega
theorem bulkY_of {x:Jz} (h:Dt.siz x<=1048576):Ket x:=by
 have hb:=bulkX_of h;rw [siz_case] at h;have e1:=siz_lst x.Trains;refine ⟨hb,sm_of (by omega),fun t ht=>?_⟩;have e2:=sizL_mem ht;have e3:=siz_train t;omega
theorem rbcGrants_in (b:Jz×Int×Unit) (h:DtL.szs b<=1048576/\DtL.rngs b):Zm b.1 b.2.1=some true :=
 Jro (bulkY_of (Nat.le_trans (szs_hd b) h.1)) _
end Go.Proofs.YtfpoeepcomnjhaaGreatDoor
