/-
 THE BASE OF THE CARDS: the types of the arguments, and what the rows' list says of the package tables. Printed by tyf.py.
-/
import Derived.Test.YtmklahiganfdmaaGreatDoorPlnC
import Derived.Test.YtmklahiganfdmaaGreatDoorFrA
import Derived.WalkKit
import Derived.ProofKit
namespace Go.Proofs.YtmklahiganfdmaaGreatDoor
open Go.ChangeShapes Go.WideShapes Go.ChangeAt Go.RowKit PM
theorem own : ownKnob Tryz.prog.godebug=none:=by kernel_rfl
theorem laidOut : laidOutB Tryz.prog=true:=by kernel_rfl
theorem ty9 : Dj Tryz.prog 9 ByteArray false:=Kc6 Tryz.underlying9 (by kernel_rfl)
theorem ty22 : Dj Tryz.prog 22 (List ByteArray) true:=Mk ty9 Tryz.underlying22 (by kernel_rfl)
theorem ty3 : Dj Tryz.prog 3 Int false:=Kc0 Tryz.underlying3 (by kernel_rfl)
abbrev P_T_api_Element:=ByteArray×Int×Int×Int×Int×Int×Int×Unit
def un_T_api_Element (x:Jw):P_T_api_Element:=(x.Name,x.Kind,x.Length,x.Grade,x.Speed,x.Slow,x.Section,())
def mk_T_api_Element (b:P_T_api_Element):Jw:=⟨b.1,b.2.1,b.2.2.1,b.2.2.2.1,b.2.2.2.2.1,b.2.2.2.2.2.1,b.2.2.2.2.2.2.1⟩
instance : Dt Jw:=Je5 un_T_api_Element
theorem ty88 : Dj Tryz.prog 88 Jw false :=
 Zc (k:=7) (b:=64) un_T_api_Element mk_T_api_Element Tryz.underlying88 (by kernel_rfl) rfl (by decide) (Kp ty9 (off':=1) (by rfl) (Kp ty3 (off':=2) (by rfl) (Kp ty3 (off':=3) (by rfl) (Kp ty3 (off':=4) (by rfl) (Kp ty3 (off':=5) (by rfl) (Kp ty3 (off':=6) (by rfl) (Kp ty3 (off':=7) (by rfl) (Fy 7)))))))) (fun _=>rfl) (fun _=>rfl) (fun _=>rfl) (fun _=>rfl)
theorem ty23 : Dj Tryz.prog 23 (List Jw) true:=Mk ty88 Tryz.underlying23 (by kernel_rfl)
abbrev P_T_api_End:=Int×Int×Unit
def un_T_api_End (x:Jj):P_T_api_End:=(x.El,x.Side,())
def mk_T_api_End (b:P_T_api_End):Jj:=⟨b.1,b.2.1⟩
instance : Dt Jj:=Je5 un_T_api_End
theorem ty90 : Dj Tryz.prog 90 Jj false :=
 Zc (k:=2) (b:=16) un_T_api_End mk_T_api_End Tryz.underlying90 (by kernel_rfl) rfl (by decide) (Kp ty3 (off':=1) (by rfl) (Kp ty3 (off':=2) (by rfl) (Fy 2))) (fun _=>rfl) (fun _=>rfl) (fun _=>rfl) (fun _=>rfl)
abbrev P_T_api_Joint:=Jj×Jj×Unit
def un_T_api_Joint (x:Qg):P_T_api_Joint:=(x.A,x.B,())
def mk_T_api_Joint (b:P_T_api_Joint):Qg:=⟨b.1,b.2.1⟩
instance : Dt Qg:=Je5 un_T_api_Joint
theorem ty92 : Dj Tryz.prog 92 Qg false :=
 Zc (k:=4) (b:=32) un_T_api_Joint mk_T_api_Joint Tryz.underlying92 (by kernel_rfl) rfl (by decide) (Kp ty90 (off':=2) (by rfl) (Kp ty90 (off':=4) (by rfl) (Fy 4))) (fun _=>rfl) (fun _=>rfl) (fun _=>rfl) (fun _=>rfl)
theorem ty24 : Dj Tryz.prog 24 (List Qg) true:=Mk ty92 Tryz.underlying24 (by kernel_rfl)
abbrev P_T_api_Signal:=ByteArray×Jj×Int×Unit
def un_T_api_Signal (x:Ki):P_T_api_Signal:=(x.Name,x.At,x.Overlap,())
def mk_T_api_Signal (b:P_T_api_Signal):Ki:=⟨b.1,b.2.1,b.2.2.1⟩
instance : Dt Ki:=Je5 un_T_api_Signal
theorem ty94 : Dj Tryz.prog 94 Ki false :=
 Zc (k:=4) (b:=40) un_T_api_Signal mk_T_api_Signal Tryz.underlying94 (by kernel_rfl) rfl (by decide) (Kp ty9 (off':=1) (by rfl) (Kp ty90 (off':=3) (by rfl) (Kp ty3 (off':=4) (by rfl) (Fy 4)))) (fun _=>rfl) (fun _=>rfl) (fun _=>rfl) (fun _=>rfl)
theorem ty25 : Dj Tryz.prog 25 (List Ki) true:=Mk ty94 Tryz.underlying25 (by kernel_rfl)
abbrev P_T_api_Balise:=Int×Int×Int×Unit
def un_T_api_Balise (x:Jt):P_T_api_Balise:=(x.Id,x.El,x.Offset,())
def mk_T_api_Balise (b:P_T_api_Balise):Jt:=⟨b.1,b.2.1,b.2.2.1⟩
instance : Dt Jt:=Je5 un_T_api_Balise
theorem ty138 : Dj Tryz.prog 138 Jt false :=
 Zc (k:=3) (b:=24) un_T_api_Balise mk_T_api_Balise Tryz.underlying138 (by kernel_rfl) rfl (by decide) (Kp ty3 (off':=1) (by rfl) (Kp ty3 (off':=2) (by rfl) (Kp ty3 (off':=3) (by rfl) (Fy 3)))) (fun _=>rfl) (fun _=>rfl) (fun _=>rfl) (fun _=>rfl)
theorem ty26 : Dj Tryz.prog 26 (List Jt) true:=Mk ty138 Tryz.underlying26 (by kernel_rfl)
abbrev P_T_api_Layout:=ByteArray×(List ByteArray)×(List Jw)×(List Qg)×(List Ki)×(List Jt)×Unit
def un_T_api_Layout (x:Je):P_T_api_Layout:=(x.Name,x.Sections,x.Elements,x.Joints,x.Signals,x.Balises,())
def mk_T_api_Layout (b:P_T_api_Layout):Je:=⟨b.1,b.2.1,b.2.2.1,b.2.2.2.1,b.2.2.2.2.1,b.2.2.2.2.2.1⟩
instance : Dt Je:=Je5 un_T_api_Layout
theorem ty28 : Dj Tryz.prog 28 Je true :=
 Zc (k:=6) (b:=136) un_T_api_Layout mk_T_api_Layout Tryz.underlying28 (by kernel_rfl) rfl (by decide) (Kp ty9 (off':=1) (by rfl) (Kp ty22 (off':=2) (by rfl) (Kp ty23 (off':=3) (by rfl) (Kp ty24 (off':=4) (by rfl) (Kp ty25 (off':=5) (by rfl) (Kp ty26 (off':=6) (by rfl) (Fy 6))))))) (fun _=>rfl) (fun _=>rfl) (fun _=>rfl) (fun _=>rfl)
abbrev P_T_api_Step:=Int×Int×Int×Unit
def un_T_api_Step (x:Jd):P_T_api_Step:=(x.El,x.In,x.Out,())
def mk_T_api_Step (b:P_T_api_Step):Jd:=⟨b.1,b.2.1,b.2.2.1⟩
instance : Dt Jd:=Je5 un_T_api_Step
theorem ty58 : Dj Tryz.prog 58 Jd false :=
 Zc (k:=3) (b:=24) un_T_api_Step mk_T_api_Step Tryz.underlying58 (by kernel_rfl) rfl (by decide) (Kp ty3 (off':=1) (by rfl) (Kp ty3 (off':=2) (by rfl) (Kp ty3 (off':=3) (by rfl) (Fy 3)))) (fun _=>rfl) (fun _=>rfl) (fun _=>rfl) (fun _=>rfl)
theorem ty33 : Dj Tryz.prog 33 (List Jd) true:=Mk ty58 Tryz.underlying33 (by kernel_rfl)
abbrev P_T_api_Setting:=Int×Int×Unit
def un_T_api_Setting (x:Jh):P_T_api_Setting:=(x.El,x.Pos,())
def mk_T_api_Setting (b:P_T_api_Setting):Jh:=⟨b.1,b.2.1⟩
instance : Dt Jh:=Je5 un_T_api_Setting
theorem ty104 : Dj Tryz.prog 104 Jh false :=
 Zc (k:=2) (b:=16) un_T_api_Setting mk_T_api_Setting Tryz.underlying104 (by kernel_rfl) rfl (by decide) (Kp ty3 (off':=1) (by rfl) (Kp ty3 (off':=2) (by rfl) (Fy 2))) (fun _=>rfl) (fun _=>rfl) (fun _=>rfl) (fun _=>rfl)
theorem ty66 : Dj Tryz.prog 66 (List Jh) true:=Mk ty104 Tryz.underlying66 (by kernel_rfl)
theorem ty30 : Dj Tryz.prog 30 (List Int) true:=Mk ty3 Tryz.underlying30 (by kernel_rfl)
theorem ty67 : Dj Tryz.prog 67 (List Jj) true:=Mk ty90 Tryz.underlying67 (by kernel_rfl)
abbrev P_T_api_Route:=ByteArray×Int×Int×(List Jd)×(List Jh)×(List Int)×Int×Int×(List Jd)×(List Jh)×(List Int)×(List Jh)×(List Int)×(List Jj)×Unit
def un_T_api_Route (x:Jm):P_T_api_Route:=(x.Name,x.Entry,x.Exit,x.Path,x.Points,x.Sections,x.Approach,x.Length,x.Over,x.OverPoints,x.OverSections,x.Flank,x.Guards,x.Gaps,())
def mk_T_api_Route (b:P_T_api_Route):Jm:=⟨b.1,b.2.1,b.2.2.1,b.2.2.2.1,b.2.2.2.2.1,b.2.2.2.2.2.1,b.2.2.2.2.2.2.1,b.2.2.2.2.2.2.2.1,b.2.2.2.2.2.2.2.2.1,b.2.2.2.2.2.2.2.2.2.1,b.2.2.2.2.2.2.2.2.2.2.1,b.2.2.2.2.2.2.2.2.2.2.2.1,b.2.2.2.2.2.2.2.2.2.2.2.2.1,b.2.2.2.2.2.2.2.2.2.2.2.2.2.1⟩
instance : Dt Jm:=Je5 un_T_api_Route
theorem ty69 : Dj Tryz.prog 69 Jm true :=
 Zc (k:=14) (b:=264) un_T_api_Route mk_T_api_Route Tryz.underlying69 (by kernel_rfl) rfl (by decide) (Kp ty9 (off':=1) (by rfl) (Kp ty3 (off':=2) (by rfl) (Kp ty3 (off':=3) (by rfl) (Kp ty33 (off':=4) (by rfl) (Kp ty66 (off':=5) (by rfl) (Kp ty30 (off':=6) (by rfl) (Kp ty3 (off':=7) (by rfl) (Kp ty3 (off':=8) (by rfl) (Kp ty33 (off':=9) (by rfl) (Kp ty66 (off':=10) (by rfl) (Kp ty30 (off':=11) (by rfl) (Kp ty66 (off':=12) (by rfl) (Kp ty30 (off':=13) (by rfl) (Kp ty67 (off':=14) (by rfl) (Fy 14))))))))))))))) (fun _=>rfl) (fun _=>rfl) (fun _=>rfl) (fun _=>rfl)
theorem ty29 : Dj Tryz.prog 29 (List Jm) true:=Mk ty69 Tryz.underlying29 (by kernel_rfl)
abbrev P_T_api_Table:=(List Jm)×(List Int)×(List Int)×Int×Int×Unit
def un_T_api_Table (x:Qa):P_T_api_Table:=(x.Routes,x.Points,x.Homes,x.Sections,x.Signals,())
def mk_T_api_Table (b:P_T_api_Table):Qa:=⟨b.1,b.2.1,b.2.2.1,b.2.2.2.1,b.2.2.2.2.1⟩
instance : Dt Qa:=Je5 un_T_api_Table
theorem ty32 : Dj Tryz.prog 32 Qa true :=
 Zc (k:=5) (b:=88) un_T_api_Table mk_T_api_Table Tryz.underlying32 (by kernel_rfl) rfl (by decide) (Kp ty29 (off':=1) (by rfl) (Kp ty30 (off':=2) (by rfl) (Kp ty30 (off':=3) (by rfl) (Kp ty3 (off':=4) (by rfl) (Kp ty3 (off':=5) (by rfl) (Fy 5)))))) (fun _=>rfl) (fun _=>rfl) (fun _=>rfl) (fun _=>rfl)
abbrev P_T_api_Track:=Int×Int×Int×Int×(List Jd)×(List Int)×(List Int)×(List Int)×(List Int)×Int×Int×Int×Int×Int×Unit
def un_T_api_Track (x:Kj):P_T_api_Track:=(x.Id,x.Origin,x.End,x.At,x.Steps,x.Routes,x.Starts,x.Ends,x.Done,x.Min,x.Sent,x.Accepted,x.Cut,x.CutSeq,())
def mk_T_api_Track (b:P_T_api_Track):Kj:=⟨b.1,b.2.1,b.2.2.1,b.2.2.2.1,b.2.2.2.2.1,b.2.2.2.2.2.1,b.2.2.2.2.2.2.1,b.2.2.2.2.2.2.2.1,b.2.2.2.2.2.2.2.2.1,b.2.2.2.2.2.2.2.2.2.1,b.2.2.2.2.2.2.2.2.2.2.1,b.2.2.2.2.2.2.2.2.2.2.2.1,b.2.2.2.2.2.2.2.2.2.2.2.2.1,b.2.2.2.2.2.2.2.2.2.2.2.2.2.1⟩
instance : Dt Kj:=Je5 un_T_api_Track
theorem ty35 : Dj Tryz.prog 35 Kj true :=
 Zc (k:=14) (b:=192) un_T_api_Track mk_T_api_Track Tryz.underlying35 (by kernel_rfl) rfl (by decide) (Kp ty3 (off':=1) (by rfl) (Kp ty3 (off':=2) (by rfl) (Kp ty3 (off':=3) (by rfl) (Kp ty3 (off':=4) (by rfl) (Kp ty33 (off':=5) (by rfl) (Kp ty30 (off':=6) (by rfl) (Kp ty30 (off':=7) (by rfl) (Kp ty30 (off':=8) (by rfl) (Kp ty30 (off':=9) (by rfl) (Kp ty3 (off':=10) (by rfl) (Kp ty3 (off':=11) (by rfl) (Kp ty3 (off':=12) (by rfl) (Kp ty3 (off':=13) (by rfl) (Kp ty3 (off':=14) (by rfl) (Fy 14))))))))))))))) (fun _=>rfl) (fun _=>rfl) (fun _=>rfl) (fun _=>rfl)
theorem ty4 : Dj Tryz.prog 4 Bool false:=Kaw Tryz.underlying4 (by kernel_rfl)
abbrev P_T_api_Restriction:=Int×Int×Int×Int×Int×Bool×Unit
def un_T_api_Restriction (x:Ju):P_T_api_Restriction:=(x.Id,x.El,x.From,x.To,x.Speed,x.Active,())
def mk_T_api_Restriction (b:P_T_api_Restriction):Ju:=⟨b.1,b.2.1,b.2.2.1,b.2.2.2.1,b.2.2.2.2.1,b.2.2.2.2.2.1⟩
instance : Dt Ju:=Je5 un_T_api_Restriction
theorem ty128 : Dj Tryz.prog 128 Ju false :=
 Zc (k:=6) (b:=48) un_T_api_Restriction mk_T_api_Restriction Tryz.underlying128 (by kernel_rfl) rfl (by decide) (Kp ty3 (off':=1) (by rfl) (Kp ty3 (off':=2) (by rfl) (Kp ty3 (off':=3) (by rfl) (Kp ty3 (off':=4) (by rfl) (Kp ty3 (off':=5) (by rfl) (Kp ty4 (off':=6) (by rfl) (Fy 6))))))) (fun _=>rfl) (fun _=>rfl) (fun _=>rfl) (fun _=>rfl)
theorem ty36 : Dj Tryz.prog 36 (List Ju) true:=Mk ty128 Tryz.underlying36 (by kernel_rfl)
abbrev P_T_rail_passage:=Int×Int×Int×Int×Unit
def un_T_rail_passage (x:Ud):P_T_rail_passage:=(x.kind_,x.in_,x.out_,x.need_,())
def mk_T_rail_passage (b:P_T_rail_passage):Ud:=⟨b.1,b.2.1,b.2.2.1,b.2.2.2.1⟩
instance : Dt Ud:=Je5 un_T_rail_passage
theorem ty179 : Dj Tryz.prog 179 Ud false :=
 Zc (k:=4) (b:=32) un_T_rail_passage mk_T_rail_passage Tryz.underlying179 (by kernel_rfl) rfl (by decide) (Kp ty3 (off':=1) (by rfl) (Kp ty3 (off':=2) (by rfl) (Kp ty3 (off':=3) (by rfl) (Kp ty3 (off':=4) (by rfl) (Fy 4))))) (fun _=>rfl) (fun _=>rfl) (fun _=>rfl) (fun _=>rfl)
def dat_tab_rail_passages : List (DataW Unit):=match (Rows.laid_signalling_rail_passages:DataW Unit) with
 | .agg l=>l
 | _=>[]
theorem all_tab_rail_passages : Kz Dt.dat Qs dat_tab_rail_passages :=
 .cons ⟨_,rfl,_,_,rfl,rfl,_,_,rfl,rfl,_,_,rfl,rfl,_,_,rfl,rfl,rfl⟩ (.cons ⟨_,rfl,_,_,rfl,rfl,_,_,rfl,rfl,_,_,rfl,rfl,_,_,rfl,rfl,rfl⟩ (.cons ⟨_,rfl,_,_,rfl,rfl,_,_,rfl,rfl,_,_,rfl,rfl,_,_,rfl,rfl,rfl⟩ (.cons ⟨_,rfl,_,_,rfl,rfl,_,_,rfl,rfl,_,_,rfl,rfl,_,_,rfl,rfl,rfl⟩ (.cons ⟨_,rfl,_,_,rfl,rfl,_,_,rfl,rfl,_,_,rfl,rfl,_,_,rfl,rfl,rfl⟩ (.cons ⟨_,rfl,_,_,rfl,rfl,_,_,rfl,rfl,_,_,rfl,rfl,_,_,rfl,rfl,rfl⟩ (.cons ⟨_,rfl,_,_,rfl,rfl,_,_,rfl,rfl,_,_,rfl,rfl,_,_,rfl,rfl,rfl⟩ (.cons ⟨_,rfl,_,_,rfl,rfl,_,_,rfl,rfl,_,_,rfl,rfl,_,_,rfl,rfl,rfl⟩ (.cons ⟨_,rfl,_,_,rfl,rfl,_,_,rfl,rfl,_,_,rfl,rfl,_,_,rfl,rfl,rfl⟩ (.cons ⟨_,rfl,_,_,rfl,rfl,_,_,rfl,rfl,_,_,rfl,rfl,_,_,rfl,rfl,rfl⟩ (.nil))))))))))
def laidL : List (String×DataW Unit):=[("signalling/rail.passages", Rows.laid_signalling_rail_passages)]
theorem globs (W:World) (h:laidMetH Tryz.prog laidL W):∀ i cs,GlS i=some cs→Gv (Bk W) W cs i:=by
 intro i cs hi
 match i,hi with
 | 0,hi =>
  cases hi
  exact Kbj (g:=0) ty179 rfl (name := "signalling/rail.passages") (by kernel_rfl) (by kernel_rfl) Tryz.underlying180 (by kernel_rfl) (tab:=Qs) (dsx:=dat_tab_rail_passages) all_tab_rail_passages (by kernel_rfl) (.head _) (by kernel_rfl) h
theorem sizL_len {α:Type} [Dt α] (h:∀ a:α,1≤Dt.siz a):∀ l:List α,l.length≤Jej l
 | []=>Nat.le_refl _
 | x::xs=>by have:=sizL_len h xs; have:=h x; simp only [Jej,List.length_cons]; omega
theorem sizL_mem {α:Type} [Dt α] {x:α}:∀ {l:List α},x∈l→Dt.siz x≤Jej l
 | y::ys,h=>by
  rcases List.mem_cons.1 h with rfl|h
  ·simp only [Jej]; omega
  ·have:=sizL_mem h; simp only [Jej]; omega
theorem siz_layout (l:Je):Dt.siz l=(l.Name.size+1)+((Jej l.Sections+1)+((Jej l.Elements+1)+((Jej l.Joints+1)+((Jej l.Signals+1)+((Jej l.Balises+1)+0)))))+1:=rfl
theorem siz_pos_el (x:Jw):x.Name.size+1≤Dt.siz x:=by
 show x.Name.size+1≤(x.Name.size+1)+_+1
 omega
theorem siz_pos_sg (x:Ki):x.Name.size+1≤Dt.siz x:=by
 show x.Name.size+1≤(x.Name.size+1)+_+1
 omega
theorem sm_of {l:Je} (h:Dt.siz l≤1048576):Sm l:=by
 rw [siz_layout] at h
 have h1:=sizL_len (α:=ByteArray) (fun a=>by show 1≤a.size+1; omega) l.Sections
 have h2:=sizL_len (α:=Jw) (fun a=>by have:=siz_pos_el a; omega) l.Elements
 have h3:=sizL_len (α:=Qg) (fun a=>by show 1≤_+1; omega) l.Joints
 have h4:=sizL_len (α:=Ki) (fun a=>by have:=siz_pos_sg a; omega) l.Signals
 have h5:=sizL_len (α:=Jt) (fun a=>by show 1≤_+1; omega) l.Balises
 refine ⟨by omega,by omega,by omega,by omega,by omega,by omega,fun x hx=>?_,fun x hx=>?_,fun x hx=>?_⟩
 ·have:=sizL_mem hx
  have e:Dt.siz x=x.size+1:=rfl
  omega
 ·have:=sizL_mem hx; have:=siz_pos_el x; omega
 ·have:=sizL_mem hx; have:=siz_pos_sg x; omega
theorem authorityGrows_in (b:Je×Qa×Kj×(List Ju)×Int×Int×Unit) (h:DtL.szs b≤1048576∧DtL.rngs b):Vk b.1 b.2.1 b.2.2.1 b.2.2.2.1 b.2.2.2.2.1 b.2.2.2.2.2.1=some true :=
 Jer (sm_of (by have h:=h.1; have e:DtL.szs b=Dt.siz b.1+(Dt.siz b.2.1+(Dt.siz b.2.2.1+(Dt.siz b.2.2.2.1+(Dt.siz b.2.2.2.2.1+(Dt.siz b.2.2.2.2.2.1+0))))):=rfl; omega)) _ _ _ _ _
end Go.Proofs.YtmklahiganfdmaaGreatDoor
