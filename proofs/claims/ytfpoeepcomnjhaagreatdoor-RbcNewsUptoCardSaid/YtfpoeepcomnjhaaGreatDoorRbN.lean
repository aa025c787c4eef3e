/-
 THE BASE OF THE CARDS: the types of the arguments, and what the rows' list says of the package tables. Printed by tyf.py.
-/
import Derived.Test.YtfpoeepcomnjhaaGreatDoorPlnA
import Derived.Test.YtfpoeepcomnjhaaGreatDoorFrA
import Derived.WalkKit
import Derived.ProofKit
namespace Go.Proofs.YtfpoeepcomnjhaaGreatDoor
open Go.ChangeShapes Go.WideShapes Go.ChangeAt Go.RowKit PM
theorem own : ownKnob Tryz.prog.godebug=none:=by kernel_rfl
theorem laidOut : laidOutB Tryz.prog=true:=by kernel_rfl
theorem ty9 : Md Tryz.prog 9 ByteArray false:=Kcq Tryz.underlying9 (by kernel_rfl)
theorem ty22 : Md Tryz.prog 22 (List ByteArray) true:=Jaa ty9 Tryz.underlying22 (by kernel_rfl)
theorem ty3 : Md Tryz.prog 3 Int false:=Kck Tryz.underlying3 (by kernel_rfl)
abbrev P_T_api_Element:=ByteArray×Int×Int×Int×Int×Int×Int×Unit
def un_T_api_Element (x:Kv):P_T_api_Element:=(x.Name,x.Kind,x.Length,x.Grade,x.Speed,x.Slow,x.Section,())
def mk_T_api_Element (b:P_T_api_Element):Kv:=⟨b.1,b.2.1,b.2.2.1,b.2.2.2.1,b.2.2.2.2.1,b.2.2.2.2.2.1,b.2.2.2.2.2.2.1⟩
instance : Dt Kv:=Jl7 un_T_api_Element
theorem ty134 : Md Tryz.prog 134 Kv false :=
 Eu (k:=7) (b:=64) un_T_api_Element mk_T_api_Element Tryz.underlying134 (by kernel_rfl) rfl (by decide) (Qf ty9 (off':=1) (by rfl) (Qf ty3 (off':=2) (by rfl) (Qf ty3 (off':=3) (by rfl) (Qf ty3 (off':=4) (by rfl) (Qf ty3 (off':=5) (by rfl) (Qf ty3 (off':=6) (by rfl) (Qf ty3 (off':=7) (by rfl) (Ox 7)))))))) (fun _=>rfl) (fun _=>rfl) (fun _=>rfl) (fun _=>rfl)
theorem ty23 : Md Tryz.prog 23 (List Kv) true:=Jaa ty134 Tryz.underlying23 (by kernel_rfl)
abbrev P_T_api_End:=Int×Int×Unit
def un_T_api_End (x:Jo):P_T_api_End:=(x.El,x.Side,())
def mk_T_api_End (b:P_T_api_End):Jo:=⟨b.1,b.2.1⟩
instance : Dt Jo:=Jl7 un_T_api_End
theorem ty130 : Md Tryz.prog 130 Jo false :=
 Eu (k:=2) (b:=16) un_T_api_End mk_T_api_End Tryz.underlying130 (by kernel_rfl) rfl (by decide) (Qf ty3 (off':=1) (by rfl) (Qf ty3 (off':=2) (by rfl) (Ox 2))) (fun _=>rfl) (fun _=>rfl) (fun _=>rfl) (fun _=>rfl)
abbrev P_T_api_Joint:=Jo×Jo×Unit
def un_T_api_Joint (x:Qu):P_T_api_Joint:=(x.A,x.B,())
def mk_T_api_Joint (b:P_T_api_Joint):Qu:=⟨b.1,b.2.1⟩
instance : Dt Qu:=Jl7 un_T_api_Joint
theorem ty136 : Md Tryz.prog 136 Qu false :=
 Eu (k:=4) (b:=32) un_T_api_Joint mk_T_api_Joint Tryz.underlying136 (by kernel_rfl) rfl (by decide) (Qf ty130 (off':=2) (by rfl) (Qf ty130 (off':=4) (by rfl) (Ox 4))) (fun _=>rfl) (fun _=>rfl) (fun _=>rfl) (fun _=>rfl)
theorem ty24 : Md Tryz.prog 24 (List Qu) true:=Jaa ty136 Tryz.underlying24 (by kernel_rfl)
abbrev P_T_api_Signal:=ByteArray×Jo×Int×Unit
def un_T_api_Signal (x:Ky):P_T_api_Signal:=(x.Name,x.At,x.Overlap,())
def mk_T_api_Signal (b:P_T_api_Signal):Ky:=⟨b.1,b.2.1,b.2.2.1⟩
instance : Dt Ky:=Jl7 un_T_api_Signal
theorem ty132 : Md Tryz.prog 132 Ky false :=
 Eu (k:=4) (b:=40) un_T_api_Signal mk_T_api_Signal Tryz.underlying132 (by kernel_rfl) rfl (by decide) (Qf ty9 (off':=1) (by rfl) (Qf ty130 (off':=3) (by rfl) (Qf ty3 (off':=4) (by rfl) (Ox 4)))) (fun _=>rfl) (fun _=>rfl) (fun _=>rfl) (fun _=>rfl)
theorem ty25 : Md Tryz.prog 25 (List Ky) true:=Jaa ty132 Tryz.underlying25 (by kernel_rfl)
abbrev P_T_api_Balise:=Int×Int×Int×Unit
def un_T_api_Balise (x:Ju):P_T_api_Balise:=(x.Id,x.El,x.Offset,())
def mk_T_api_Balise (b:P_T_api_Balise):Ju:=⟨b.1,b.2.1,b.2.2.1⟩
instance : Dt Ju:=Jl7 un_T_api_Balise
theorem ty251 : Md Tryz.prog 251 Ju false :=
 Eu (k:=3) (b:=24) un_T_api_Balise mk_T_api_Balise Tryz.underlying251 (by kernel_rfl) rfl (by decide) (Qf ty3 (off':=1) (by rfl) (Qf ty3 (off':=2) (by rfl) (Qf ty3 (off':=3) (by rfl) (Ox 3)))) (fun _=>rfl) (fun _=>rfl) (fun _=>rfl) (fun _=>rfl)
theorem ty26 : Md Tryz.prog 26 (List Ju) true:=Jaa ty251 Tryz.underlying26 (by kernel_rfl)
abbrev P_T_api_Layout:=ByteArray×(List ByteArray)×(List Kv)×(List Qu)×(List Ky)×(List Ju)×Unit
def un_T_api_Layout (x:Jd):P_T_api_Layout:=(x.Name,x.Sections,x.Elements,x.Joints,x.Signals,x.Balises,())
def mk_T_api_Layout (b:P_T_api_Layout):Jd:=⟨b.1,b.2.1,b.2.2.1,b.2.2.2.1,b.2.2.2.2.1,b.2.2.2.2.2.1⟩
instance : Dt Jd:=Jl7 un_T_api_Layout
theorem ty28 : Md Tryz.prog 28 Jd true :=
 Eu (k:=6) (b:=136) un_T_api_Layout mk_T_api_Layout Tryz.underlying28 (by kernel_rfl) rfl (by decide) (Qf ty9 (off':=1) (by rfl) (Qf ty22 (off':=2) (by rfl) (Qf ty23 (off':=3) (by rfl) (Qf ty24 (off':=4) (by rfl) (Qf ty25 (off':=5) (by rfl) (Qf ty26 (off':=6) (by rfl) (Ox 6))))))) (fun _=>rfl) (fun _=>rfl) (fun _=>rfl) (fun _=>rfl)
abbrev P_T_api_Train:=Int×ByteArray×Int×Int×Int×Int×Int×Int×Int×Int×Unit
def un_T_api_Train (x:Kk):P_T_api_Train:=(x.Id,x.Name,x.Length,x.Speed,x.Accel,x.Service,x.Emergency,x.Delay,x.Const,x.Rate,())
def mk_T_api_Train (b:P_T_api_Train):Kk:=⟨b.1,b.2.1,b.2.2.1,b.2.2.2.1,b.2.2.2.2.1,b.2.2.2.2.2.1,b.2.2.2.2.2.2.1,b.2.2.2.2.2.2.2.1,b.2.2.2.2.2.2.2.2.1,b.2.2.2.2.2.2.2.2.2.1⟩
instance : Dt Kk:=Jl7 un_T_api_Train
theorem ty85 : Md Tryz.prog 85 Kk false :=
 Eu (k:=10) (b:=88) un_T_api_Train mk_T_api_Train Tryz.underlying85 (by kernel_rfl) rfl (by decide) (Qf ty3 (off':=1) (by rfl) (Qf ty9 (off':=2) (by rfl) (Qf ty3 (off':=3) (by rfl) (Qf ty3 (off':=4) (by rfl) (Qf ty3 (off':=5) (by rfl) (Qf ty3 (off':=6) (by rfl) (Qf ty3 (off':=7) (by rfl) (Qf ty3 (off':=8) (by rfl) (Qf ty3 (off':=9) (by rfl) (Qf ty3 (off':=10) (by rfl) (Ox 10))))))))))) (fun _=>rfl) (fun _=>rfl) (fun _=>rfl) (fun _=>rfl)
theorem ty29 : Md Tryz.prog 29 (List Kk) true:=Jaa ty85 Tryz.underlying29 (by kernel_rfl)
abbrev P_T_api_Step:=Int×Int×Int×Unit
def un_T_api_Step (x:Jh):P_T_api_Step:=(x.El,x.In,x.Out,())
def mk_T_api_Step (b:P_T_api_Step):Jh:=⟨b.1,b.2.1,b.2.2.1⟩
instance : Dt Jh:=Jl7 un_T_api_Step
theorem ty143 : Md Tryz.prog 143 Jh false :=
 Eu (k:=3) (b:=24) un_T_api_Step mk_T_api_Step Tryz.underlying143 (by kernel_rfl) rfl (by decide) (Qf ty3 (off':=1) (by rfl) (Qf ty3 (off':=2) (by rfl) (Qf ty3 (off':=3) (by rfl) (Ox 3)))) (fun _=>rfl) (fun _=>rfl) (fun _=>rfl) (fun _=>rfl)
theorem ty33 : Md Tryz.prog 33 (List Jh) true:=Jaa ty143 Tryz.underlying33 (by kernel_rfl)
abbrev P_T_api_Body:=(List Jh)×Int×Int×Unit
def un_T_api_Body (x:Kh):P_T_api_Body:=(x.Steps,x.Head,x.Length,())
def mk_T_api_Body (b:P_T_api_Body):Kh:=⟨b.1,b.2.1,b.2.2.1⟩
instance : Dt Kh:=Jl7 un_T_api_Body
theorem ty35 : Md Tryz.prog 35 Kh true :=
 Eu (k:=3) (b:=40) un_T_api_Body mk_T_api_Body Tryz.underlying35 (by kernel_rfl) rfl (by decide) (Qf ty33 (off':=1) (by rfl) (Qf ty3 (off':=2) (by rfl) (Qf ty3 (off':=3) (by rfl) (Ox 3)))) (fun _=>rfl) (fun _=>rfl) (fun _=>rfl) (fun _=>rfl)
theorem ty30 : Md Tryz.prog 30 (List Kh) true:=Jaa ty35 Tryz.underlying30 (by kernel_rfl)
abbrev P_T_rail_passage:=Int×Int×Int×Int×Unit
def un_T_rail_passage (x:Qq):P_T_rail_passage:=(x.kind_,x.in_,x.out_,x.need_,())
def mk_T_rail_passage (b:P_T_rail_passage):Qq:=⟨b.1,b.2.1,b.2.2.1,b.2.2.2.1⟩
instance : Dt Qq:=Jl7 un_T_rail_passage
theorem ty311 : Md Tryz.prog 311 Qq false :=
 Eu (k:=4) (b:=32) un_T_rail_passage mk_T_rail_passage Tryz.underlying311 (by kernel_rfl) rfl (by decide) (Qf ty3 (off':=1) (by rfl) (Qf ty3 (off':=2) (by rfl) (Qf ty3 (off':=3) (by rfl) (Qf ty3 (off':=4) (by rfl) (Ox 4))))) (fun _=>rfl) (fun _=>rfl) (fun _=>rfl) (fun _=>rfl)
def dat_tab_rail_passages : List (DataW Unit):=match (Rows.laid_signalling_rail_passages:DataW Unit) with
 | .agg l=>l
 | _=>[]
theorem all_tab_rail_passages : Kp Dt.dat Qn dat_tab_rail_passages :=
 .cons ⟨_,rfl,_,_,rfl,rfl,_,_,rfl,rfl,_,_,rfl,rfl,_,_,rfl,rfl,rfl⟩ (.cons ⟨_,rfl,_,_,rfl,rfl,_,_,rfl,rfl,_,_,rfl,rfl,_,_,rfl,rfl,rfl⟩ (.cons ⟨_,rfl,_,_,rfl,rfl,_,_,rfl,rfl,_,_,rfl,rfl,_,_,rfl,rfl,rfl⟩ (.cons ⟨_,rfl,_,_,rfl,rfl,_,_,rfl,rfl,_,_,rfl,rfl,_,_,rfl,rfl,rfl⟩ (.cons ⟨_,rfl,_,_,rfl,rfl,_,_,rfl,rfl,_,_,rfl,rfl,_,_,rfl,rfl,rfl⟩ (.cons ⟨_,rfl,_,_,rfl,rfl,_,_,rfl,rfl,_,_,rfl,rfl,_,_,rfl,rfl,rfl⟩ (.cons ⟨_,rfl,_,_,rfl,rfl,_,_,rfl,rfl,_,_,rfl,rfl,_,_,rfl,rfl,rfl⟩ (.cons ⟨_,rfl,_,_,rfl,rfl,_,_,rfl,rfl,_,_,rfl,rfl,_,_,rfl,rfl,rfl⟩ (.cons ⟨_,rfl,_,_,rfl,rfl,_,_,rfl,rfl,_,_,rfl,rfl,_,_,rfl,rfl,rfl⟩ (.cons ⟨_,rfl,_,_,rfl,rfl,_,_,rfl,rfl,_,_,rfl,rfl,_,_,rfl,rfl,rfl⟩ (.nil))))))))))
def dat_tab_rail_sides : List (DataW Unit):=match (Rows.laid_signalling_rail_sides:DataW Unit) with
 | .agg l=>l
 | _=>[]
theorem all_tab_rail_sides : Kp Dt.dat Fq dat_tab_rail_sides :=
 .cons rfl (.cons rfl (.cons rfl (.cons rfl (.nil))))
def laidL : List (String×DataW Unit):=[("signalling/rail.sides", Rows.laid_signalling_rail_sides),("signalling/rail.passages", Rows.laid_signalling_rail_passages)]
theorem globs (W:World) (h:laidMetH Tryz.prog laidL W):∀ i cs,GlS i=some cs→Ex (Bk W) W cs i:=by
 intro i cs hi
 match i,hi with
 | 0,hi =>
  cases hi
  exact Jv8 (g:=0) ty311 rfl (name := "signalling/rail.passages") (by kernel_rfl) (by kernel_rfl) Tryz.underlying312 (by kernel_rfl) (tab:=Qn) (dsx:=dat_tab_rail_passages) all_tab_rail_passages (by kernel_rfl) (.tail _ (.head _)) (by kernel_rfl) h
 | 1,hi =>
  cases hi
  exact Jv8 (g:=1) ty3 rfl (name := "signalling/rail.sides") (by kernel_rfl) (by kernel_rfl) Tryz.underlying315 (by kernel_rfl) (tab:=Fq) (dsx:=dat_tab_rail_sides) all_tab_rail_sides (by kernel_rfl) (.head _) (by kernel_rfl) h
theorem sizL_len {α:Type} [Dt α] (h:∀ a:α,1≤Dt.siz a):∀ l:List α,l.length≤Jgb l
 | []=>Nat.le_refl _
 | x::xs=>by have:=sizL_len h xs; have:=h x; simp only [Jgb,List.length_cons]; omega
theorem sizL_mem {α:Type} [Dt α] {x:α}:∀ {l:List α},x∈l→Dt.siz x≤Jgb l
 | y::ys,h=>by
  rcases List.mem_cons.1 h with rfl|h
  ·simp only [Jgb]; omega
  ·have:=sizL_mem h; simp only [Jgb]; omega
theorem siz_layout (l:Jd):Dt.siz l=(l.Name.size+1)+((Jgb l.Sections+1)+((Jgb l.Elements+1)+((Jgb l.Joints+1)+((Jgb l.Signals+1)+((Jgb l.Balises+1)+0)))))+1:=rfl
theorem siz_pos_el (x:Kv):x.Name.size+1≤Dt.siz x:=by
 show x.Name.size+1≤(x.Name.size+1)+_+1
 omega
theorem siz_pos_sg (x:Ky):x.Name.size+1≤Dt.siz x:=by
 show x.Name.size+1≤(x.Name.size+1)+_+1
 omega
theorem sm_of {l:Jd} (h:Dt.siz l≤1048576):Sm l:=by
 rw [siz_layout] at h
 have h1:=sizL_len (α:=ByteArray) (fun a=>by show 1≤a.size+1; omega) l.Sections
 have h2:=sizL_len (α:=Kv) (fun a=>by have:=siz_pos_el a; omega) l.Elements
 have h3:=sizL_len (α:=Qu) (fun a=>by show 1≤_+1; omega) l.Joints
 have h4:=sizL_len (α:=Ky) (fun a=>by have:=siz_pos_sg a; omega) l.Signals
 have h5:=sizL_len (α:=Ju) (fun a=>by show 1≤_+1; omega) l.Balises
 refine ⟨by omega,by omega,by omega,by omega,by omega,by omega,fun x hx=>?_,fun x hx=>?_,fun x hx=>?_⟩
 ·have:=sizL_mem hx
  have e:Dt.siz x=x.size+1:=rfl
  omega
 ·have:=sizL_mem hx; have:=siz_pos_el x; omega
 ·have:=sizL_mem hx; have:=siz_pos_sg x; omega
theorem szs_hd {α β:Type} [Enc α] [Dt α] [DtL β] (b:α×β):Dt.siz b.1≤DtL.szs b:=Nat.le_add_right _ _
theorem szs_tl {α β:Type} [Enc α] [Dt α] [DtL β] (b:α×β):DtL.szs b.2≤DtL.szs b:=Nat.le_add_left _ _
theorem siz_lst {α:Type} [Enc α] [Dt α] (L:List α):Dt.siz L=Jgb L+1:=rfl
theorem siz_train (t:Kk):t.Name.size+1≤Dt.siz t:=by
 show t.Name.size+1≤(1+((t.Name.size+1)+_))+1
 omega
theorem rbcNews_in (b:Jd×List Kk×List Kh×Unit) (h:DtL.szs b≤1048576∧DtL.rngs b):Bt b.1 b.2.1 b.2.2.1=some true:=by
 have h0:=Nat.le_trans (szs_hd b) h.1
 have h1:=Nat.le_trans (szs_hd b.2) (Nat.le_trans (szs_tl b) h.1)
 have h2:=Nat.le_trans (szs_hd b.2.2) (Nat.le_trans (szs_tl b.2) (Nat.le_trans (szs_tl b) h.1))
 rw [siz_lst] at h1 h2
 have l1:=sizL_len (α:=Kk) (fun a=>by show 1≤_+1; omega) b.2.1
 have l2:=sizL_len (α:=Kh) (fun a=>by show 1≤_+1; omega) b.2.2.1
 refine Jud (sm_of h0) (by omega) (by omega) fun t ht=>?_
 have e1:=sizL_mem ht
 have e2:=siz_train t
 omega
end Go.Proofs.YtfpoeepcomnjhaaGreatDoor
