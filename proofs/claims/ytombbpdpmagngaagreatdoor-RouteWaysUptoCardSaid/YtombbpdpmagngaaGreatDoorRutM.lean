/-
 THE BASE OF THE CARDS: the types of the arguments, and what the rows' list says of the package tables. Printed by tyf.py.
-/
import Derived.Test.YtombbpdpmagngaaGreatDoorPlnB
import Derived.Test.YtombbpdpmagngaaGreatDoorFrI
import Derived.WalkKit
import Derived.ProofKit
namespace Go.Proofs.YtombbpdpmagngaaGreatDoor
open Go.ChangeShapes Go.WideShapes Go.ChangeAt Go.RowKit PM
theorem own : ownKnob Tryz.prog.godebug=none:=by kernel_rfl
theorem laidOut : laidOutB Tryz.prog=true:=by kernel_rfl
theorem ty9 : Iu Tryz.prog 9 ByteArray false:=Jwc Tryz.underlying9 (by kernel_rfl)
theorem ty22 : Iu Tryz.prog 22 (List ByteArray) true:=Jbn ty9 Tryz.underlying22 (by kernel_rfl)
theorem ty3 : Iu Tryz.prog 3 Int false:=Jwh Tryz.underlying3 (by kernel_rfl)
abbrev P_T_api_Element:=ByteArray×Int×Int×Int×Int×Int×Int×Unit
def un_T_api_Element (x:Jq):P_T_api_Element:=(x.Name,x.Kind,x.Length,x.Grade,x.Speed,x.Slow,x.Section,())
def mk_T_api_Element (b:P_T_api_Element):Jq:=⟨b.1,b.2.1,b.2.2.1,b.2.2.2.1,b.2.2.2.2.1,b.2.2.2.2.2.1,b.2.2.2.2.2.2.1⟩
instance : Dt Jq:=Jjw un_T_api_Element
theorem ty63 : Iu Tryz.prog 63 Jq false :=
 Hf (k:=7) (b:=64) un_T_api_Element mk_T_api_Element Tryz.underlying63 (by kernel_rfl) rfl (by decide) (Ql ty9 (off':=1) (by rfl) (Ql ty3 (off':=2) (by rfl) (Ql ty3 (off':=3) (by rfl) (Ql ty3 (off':=4) (by rfl) (Ql ty3 (off':=5) (by rfl) (Ql ty3 (off':=6) (by rfl) (Ql ty3 (off':=7) (by rfl) (Pi 7)))))))) (fun _=>rfl) (fun _=>rfl) (fun _=>rfl) (fun _=>rfl)
theorem ty23 : Iu Tryz.prog 23 (List Jq) true:=Jbn ty63 Tryz.underlying23 (by kernel_rfl)
abbrev P_T_api_End:=Int×Int×Unit
def un_T_api_End (x:Jg):P_T_api_End:=(x.El,x.Side,())
def mk_T_api_End (b:P_T_api_End):Jg:=⟨b.1,b.2.1⟩
instance : Dt Jg:=Jjw un_T_api_End
theorem ty47 : Iu Tryz.prog 47 Jg false :=
 Hf (k:=2) (b:=16) un_T_api_End mk_T_api_End Tryz.underlying47 (by kernel_rfl) rfl (by decide) (Ql ty3 (off':=1) (by rfl) (Ql ty3 (off':=2) (by rfl) (Pi 2))) (fun _=>rfl) (fun _=>rfl) (fun _=>rfl) (fun _=>rfl)
abbrev P_T_api_Joint:=Jg×Jg×Unit
def un_T_api_Joint (x:Jx):P_T_api_Joint:=(x.A,x.B,())
def mk_T_api_Joint (b:P_T_api_Joint):Jx:=⟨b.1,b.2.1⟩
instance : Dt Jx:=Jjw un_T_api_Joint
theorem ty90 : Iu Tryz.prog 90 Jx false :=
 Hf (k:=4) (b:=32) un_T_api_Joint mk_T_api_Joint Tryz.underlying90 (by kernel_rfl) rfl (by decide) (Ql ty47 (off':=2) (by rfl) (Ql ty47 (off':=4) (by rfl) (Pi 4))) (fun _=>rfl) (fun _=>rfl) (fun _=>rfl) (fun _=>rfl)
theorem ty24 : Iu Tryz.prog 24 (List Jx) true:=Jbn ty90 Tryz.underlying24 (by kernel_rfl)
abbrev P_T_api_Signal:=ByteArray×Jg×Int×Unit
def un_T_api_Signal (x:Js):P_T_api_Signal:=(x.Name,x.At,x.Overlap,())
def mk_T_api_Signal (b:P_T_api_Signal):Js:=⟨b.1,b.2.1,b.2.2.1⟩
instance : Dt Js:=Jjw un_T_api_Signal
theorem ty49 : Iu Tryz.prog 49 Js false :=
 Hf (k:=4) (b:=40) un_T_api_Signal mk_T_api_Signal Tryz.underlying49 (by kernel_rfl) rfl (by decide) (Ql ty9 (off':=1) (by rfl) (Ql ty47 (off':=3) (by rfl) (Ql ty3 (off':=4) (by rfl) (Pi 4)))) (fun _=>rfl) (fun _=>rfl) (fun _=>rfl) (fun _=>rfl)
theorem ty25 : Iu Tryz.prog 25 (List Js) true:=Jbn ty49 Tryz.underlying25 (by kernel_rfl)
abbrev P_T_api_Balise:=Int×Int×Int×Unit
def un_T_api_Balise (x:Kh):P_T_api_Balise:=(x.Id,x.El,x.Offset,())
def mk_T_api_Balise (b:P_T_api_Balise):Kh:=⟨b.1,b.2.1,b.2.2.1⟩
instance : Dt Kh:=Jjw un_T_api_Balise
theorem ty113 : Iu Tryz.prog 113 Kh false :=
 Hf (k:=3) (b:=24) un_T_api_Balise mk_T_api_Balise Tryz.underlying113 (by kernel_rfl) rfl (by decide) (Ql ty3 (off':=1) (by rfl) (Ql ty3 (off':=2) (by rfl) (Ql ty3 (off':=3) (by rfl) (Pi 3)))) (fun _=>rfl) (fun _=>rfl) (fun _=>rfl) (fun _=>rfl)
theorem ty26 : Iu Tryz.prog 26 (List Kh) true:=Jbn ty113 Tryz.underlying26 (by kernel_rfl)
abbrev P_T_api_Layout:=ByteArray×(List ByteArray)×(List Jq)×(List Jx)×(List Js)×(List Kh)×Unit
def un_T_api_Layout (x:Jd):P_T_api_Layout:=(x.Name,x.Sections,x.Elements,x.Joints,x.Signals,x.Balises,())
def mk_T_api_Layout (b:P_T_api_Layout):Jd:=⟨b.1,b.2.1,b.2.2.1,b.2.2.2.1,b.2.2.2.2.1,b.2.2.2.2.2.1⟩
instance : Dt Jd:=Jjw un_T_api_Layout
theorem ty28 : Iu Tryz.prog 28 Jd true :=
 Hf (k:=6) (b:=136) un_T_api_Layout mk_T_api_Layout Tryz.underlying28 (by kernel_rfl) rfl (by decide) (Ql ty9 (off':=1) (by rfl) (Ql ty22 (off':=2) (by rfl) (Ql ty23 (off':=3) (by rfl) (Ql ty24 (off':=4) (by rfl) (Ql ty25 (off':=5) (by rfl) (Ql ty26 (off':=6) (by rfl) (Pi 6))))))) (fun _=>rfl) (fun _=>rfl) (fun _=>rfl) (fun _=>rfl)
abbrev P_T_api_Step:=Int×Int×Int×Unit
def un_T_api_Step (x:Jb):P_T_api_Step:=(x.El,x.In,x.Out,())
def mk_T_api_Step (b:P_T_api_Step):Jb:=⟨b.1,b.2.1,b.2.2.1⟩
instance : Dt Jb:=Jjw un_T_api_Step
theorem ty66 : Iu Tryz.prog 66 Jb false :=
 Hf (k:=3) (b:=24) un_T_api_Step mk_T_api_Step Tryz.underlying66 (by kernel_rfl) rfl (by decide) (Ql ty3 (off':=1) (by rfl) (Ql ty3 (off':=2) (by rfl) (Ql ty3 (off':=3) (by rfl) (Pi 3)))) (fun _=>rfl) (fun _=>rfl) (fun _=>rfl) (fun _=>rfl)
theorem ty40 : Iu Tryz.prog 40 (List Jb) true:=Jbn ty66 Tryz.underlying40 (by kernel_rfl)
abbrev P_T_rail_passage:=Int×Int×Int×Int×Unit
def un_T_rail_passage (x:Qd):P_T_rail_passage:=(x.kind_,x.in_,x.out_,x.need_,())
def mk_T_rail_passage (b:P_T_rail_passage):Qd:=⟨b.1,b.2.1,b.2.2.1,b.2.2.2.1⟩
instance : Dt Qd:=Jjw un_T_rail_passage
theorem ty132 : Iu Tryz.prog 132 Qd false :=
 Hf (k:=4) (b:=32) un_T_rail_passage mk_T_rail_passage Tryz.underlying132 (by kernel_rfl) rfl (by decide) (Ql ty3 (off':=1) (by rfl) (Ql ty3 (off':=2) (by rfl) (Ql ty3 (off':=3) (by rfl) (Ql ty3 (off':=4) (by rfl) (Pi 4))))) (fun _=>rfl) (fun _=>rfl) (fun _=>rfl) (fun _=>rfl)
def dat_tab_rail_passages : List (DataW Unit):=match (Rows.laid_signalling_rail_passages:DataW Unit) with
 | .agg l=>l
 | _=>[]
theorem all_tab_rail_passages : Ko Dt.dat Kj dat_tab_rail_passages :=
 .cons ⟨_,rfl,_,_,rfl,rfl,_,_,rfl,rfl,_,_,rfl,rfl,_,_,rfl,rfl,rfl⟩ (.cons ⟨_,rfl,_,_,rfl,rfl,_,_,rfl,rfl,_,_,rfl,rfl,_,_,rfl,rfl,rfl⟩ (.cons ⟨_,rfl,_,_,rfl,rfl,_,_,rfl,rfl,_,_,rfl,rfl,_,_,rfl,rfl,rfl⟩ (.cons ⟨_,rfl,_,_,rfl,rfl,_,_,rfl,rfl,_,_,rfl,rfl,_,_,rfl,rfl,rfl⟩ (.cons ⟨_,rfl,_,_,rfl,rfl,_,_,rfl,rfl,_,_,rfl,rfl,_,_,rfl,rfl,rfl⟩ (.cons ⟨_,rfl,_,_,rfl,rfl,_,_,rfl,rfl,_,_,rfl,rfl,_,_,rfl,rfl,rfl⟩ (.cons ⟨_,rfl,_,_,rfl,rfl,_,_,rfl,rfl,_,_,rfl,rfl,_,_,rfl,rfl,rfl⟩ (.cons ⟨_,rfl,_,_,rfl,rfl,_,_,rfl,rfl,_,_,rfl,rfl,_,_,rfl,rfl,rfl⟩ (.cons ⟨_,rfl,_,_,rfl,rfl,_,_,rfl,rfl,_,_,rfl,rfl,_,_,rfl,rfl,rfl⟩ (.cons ⟨_,rfl,_,_,rfl,rfl,_,_,rfl,rfl,_,_,rfl,rfl,_,_,rfl,rfl,rfl⟩ (.nil))))))))))
theorem ty144 : Iu Tryz.prog 144 U64 false:=Jwo Tryz.underlying144 (by kernel_rfl)
def dat_tab_strconv_uint64pow10 : List (DataW Unit):=match (Rows.laid_internal_strconv_uint64pow10:DataW Unit) with
 | .agg l=>l
 | _=>[]
theorem all_tab_strconv_uint64pow10 : Ko Dt.dat Bn dat_tab_strconv_uint64pow10 :=
 .cons rfl (.cons rfl (.cons rfl (.cons rfl (.cons rfl (.cons rfl (.cons rfl (.cons rfl (.cons rfl (.cons rfl (.cons rfl (.cons rfl (.cons rfl (.cons rfl (.cons rfl (.cons rfl (.cons rfl (.cons rfl (.cons rfl (.cons rfl (.nil))))))))))))))))))))
def dat_tab_rail_sides : List (DataW Unit):=match (Rows.laid_signalling_rail_sides:DataW Unit) with
 | .agg l=>l
 | _=>[]
theorem all_tab_rail_sides : Ko Dt.dat Ee dat_tab_rail_sides :=
 .cons rfl (.cons rfl (.cons rfl (.cons rfl (.nil))))
def laidL : List (String×DataW Unit):=[("math/bits.deBruijn32tab", Rows.laid_math_bits_deBruijn32tab),("math/bits.deBruijn64tab", Rows.laid_math_bits_deBruijn64tab),("internal/strconv.uint64pow10", Rows.laid_internal_strconv_uint64pow10),("signalling/rail.sides", Rows.laid_signalling_rail_sides),("signalling/rail.passages", Rows.laid_signalling_rail_passages)]
theorem globs (W:World) (h:laidMetH Tryz.prog laidL W):∀ i cs,GlS i=some cs→Dq (Bk W) W cs i:=by
 intro i cs hi
 match i,hi with
 | 0,hi =>
  cases hi
  exact Jmd (g:=0) ty132 rfl (name := "signalling/rail.passages") (by kernel_rfl) (by kernel_rfl) Tryz.underlying133 (by kernel_rfl) (tab:=Kj) (dsx:=dat_tab_rail_passages) all_tab_rail_passages (by kernel_rfl) (.tail _ (.tail _ (.tail _ (.tail _ (.head _))))) (by kernel_rfl) h
 | 1,hi =>
  cases hi
  exact Jmd (g:=1) ty144 rfl (name := "internal/strconv.uint64pow10") (by kernel_rfl) (by kernel_rfl) Tryz.underlying156 (by kernel_rfl) (tab:=Bn) (dsx:=dat_tab_strconv_uint64pow10) all_tab_strconv_uint64pow10 (by kernel_rfl) (.tail _ (.tail _ (.head _))) (by kernel_rfl) h
 | 2,hi =>
  cases hi
  exact Jmd (g:=2) ty3 rfl (name := "signalling/rail.sides") (by kernel_rfl) (by kernel_rfl) Tryz.underlying158 (by kernel_rfl) (tab:=Ee) (dsx:=dat_tab_rail_sides) all_tab_rail_sides (by kernel_rfl) (.tail _ (.tail _ (.tail _ (.head _)))) (by kernel_rfl) h
theorem sizL_len {α:Type} [Dt α] (h:∀ a:α,1≤Dt.siz a):∀ l:List α,l.length≤Jcd l
 | []=>Nat.le_refl _
 | x::xs=>by have:=sizL_len h xs; have:=h x; simp only [Jcd,List.length_cons]; omega
theorem sizL_mem {α:Type} [Dt α] {x:α}:∀ {l:List α},x∈l→Dt.siz x≤Jcd l
 | y::ys,h=>by
  rcases List.mem_cons.1 h with rfl|h
  ·simp only [Jcd]; omega
  ·have:=sizL_mem h; simp only [Jcd]; omega
theorem siz_layout (l:Jd):Dt.siz l=(l.Name.size+1)+((Jcd l.Sections+1)+((Jcd l.Elements+1)+((Jcd l.Joints+1)+((Jcd l.Signals+1)+((Jcd l.Balises+1)+0)))))+1:=rfl
theorem siz_pos_el (x:Jq):x.Name.size+1≤Dt.siz x:=by
 show x.Name.size+1≤(x.Name.size+1)+_+1
 omega
theorem siz_pos_sg (x:Js):x.Name.size+1≤Dt.siz x:=by
 show x.Name.size+1≤(x.Name.size+1)+_+1
 omega
theorem sm_of {l:Jd} (h:Dt.siz l≤1048576):Sm l:=by
 rw [siz_layout] at h
 have h1:=sizL_len (α:=ByteArray) (fun a=>by show 1≤a.size+1; omega) l.Sections
 have h2:=sizL_len (α:=Jq) (fun a=>by have:=siz_pos_el a; omega) l.Elements
 have h3:=sizL_len (α:=Jx) (fun a=>by show 1≤_+1; omega) l.Joints
 have h4:=sizL_len (α:=Js) (fun a=>by have:=siz_pos_sg a; omega) l.Signals
 have h5:=sizL_len (α:=Kh) (fun a=>by show 1≤_+1; omega) l.Balises
 refine ⟨by omega,by omega,by omega,by omega,by omega,by omega,fun x hx=>?_,fun x hx=>?_,fun x hx=>?_⟩
 ·have:=sizL_mem hx
  have e:Dt.siz x=x.size+1:=rfl
  omega
 ·have:=sizL_mem hx; have:=siz_pos_el x; omega
 ·have:=sizL_mem hx; have:=siz_pos_sg x; omega
theorem szs_two {α β:Type} [Enc α] [Dt α] [Enc β] [Dt β] (b:α×β×Unit):DtL.szs b=Dt.siz b.1+(Dt.siz b.2.1+0):=rfl
theorem szs_one {α:Type} [Enc α] [Dt α] (b:α×Unit):DtL.szs b=Dt.siz b.1+0:=rfl
theorem szs_three {α β γ:Type} [Enc α] [Dt α] [Enc β] [Dt β] [Enc γ] [Dt γ] (b:α×β×γ×Unit):DtL.szs b=Dt.siz b.1+(Dt.siz b.2.1+(Dt.siz b.2.2.1+0)):=rfl
theorem routeFrom_in (b:Jd×Int×Unit) (h:DtL.szs b≤1048576∧DtL.rngs b):Wl b.1 b.2.1=some true:=by
 have h:=h.1
 rw [szs_two] at h
 exact Jjr (sm_of (Nat.le_trans (Nat.le_add_right _ _) h)) _
theorem routeFields_in (b:Jd×Int×Unit) (h:DtL.szs b≤1048576∧DtL.rngs b):Vm b.1 b.2.1=some true:=by
 have h:=h.1
 rw [szs_two] at h
 exact Jgc (sm_of (Nat.le_trans (Nat.le_add_right _ _) h)) _
theorem routeAll_in (b:Jd×Unit) (h:DtL.szs b≤1048576∧DtL.rngs b):Yk b.1=some true:=by
 have h:=h.1
 rw [szs_one] at h
 exact Jlc (sm_of (Nat.le_trans (Nat.le_add_right _ _) h))
theorem routeNames_in (b:Jd×Unit) (h:DtL.szs b≤1048576∧DtL.rngs b):Vw b.1=some true:=by
 have h:=h.1
 rw [szs_one] at h
 exact Jhv (sm_of (Nat.le_trans (Nat.le_add_right _ _) h))
theorem routeWays_in (b:Jd×Int×List Jb×Unit) (h:DtL.szs b≤1048576∧DtL.rngs b):Wi b.1 b.2.1 b.2.2.1=some true:=by
 have h:=h.1
 rw [szs_three] at h
 exact Jjx (sm_of (Nat.le_trans (Nat.le_add_right _ _) h)) _ _
end Go.Proofs.YtombbpdpmagngaaGreatDoor
