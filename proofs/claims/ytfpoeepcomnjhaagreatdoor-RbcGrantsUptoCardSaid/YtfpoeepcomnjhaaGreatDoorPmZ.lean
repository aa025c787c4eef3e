/-
 THE PURE MACHINE, Z: short forms (what the kernel checks comes by itself), for squeeze.py.
-/
import Derived.Test.YtfpoeepcomnjhaaGreatDoorPmV
namespace PM
open Go Go.RowKit
abbrev I6(n:Int):PV:=.int .i64 n
section
variable {P:Program} {Gl:GL} {d:Bool} {L Ls:List (Oper×Gd)} {s s1:PSt} {Q:PSt->Prop} {α:Type} [Enc α]
omit [Enc α] in
theorem zE(h2:Q (pxr P Gl L s).1)(h:(pxr P Gl L s).2=true:=by kernel_rfl):Jy P Gl d L s (Up Q):=Kjc h h2
omit [Enc α] in
theorem zN(h2:Q s)(h:L.isEmpty=true:=by kernel_rfl):Jy P Gl d L s (Up Q):=Klg h h2
omit [Enc α] in
theorem zR(n:Nat)(h2:Jy P Gl d (L.drop n) (pxr P Gl (L.take n) s).1 Q)(h:(pxr P Gl (L.take n) s).2=true:=by kernel_rfl):Jy P Gl d L s Q:=Oo n h h2
omit [Enc α] in
theorem zF(h:(pxr P Gl L s).2=true:=by kernel_rfl)(h2:(((pxr P Gl L s).1).H,((pxr P Gl L s).1).T,((pxr P Gl L s).1).X,(((pxr P Gl L s).1).tm.length,((pxr P Gl L s).1).m),Jgw s1.tm ((pxr P Gl L s).1).tm)=(s1.H,s1.T,s1.X,(s1.tm.length,s1.m),s1.tm):=by kernel_rfl):Jy P Gl d L s fun s'=>Yg s' s1:=Kdz h h2
omit [Enc α] in
theorem zS{b c:Bool}(t:Nat)(hb:b=c)(h:Jy P Gl d (settle t c L) s Q)(hg:s.get t=.bool b:=by kernel_rfl)(hs:Je4 t L=true:=by kernel_rfl):Jy P Gl d L s Q:=Jbx t hb hg hs h
end
section
variable {P:Program} {Gl:GL} {x y:Code} {s:PSt} {Q:Exit->PSt->Prop}
theorem zT{c:Operand}{b:Bool}(hb:b=true)(hp:pwp P Gl x Q s)(h:s.ev c=.bool b:=by kernel_rfl):pwp P Gl (.cond c x y) Q s:=Jb3 hb h hp
theorem zU{c:Operand}{b:Bool}(hb:b=false)(hp:pwp P Gl y Q s)(h:s.ev c=.bool b:=by kernel_rfl):pwp P Gl (.cond c x y) Q s:=Jbv hb h hp
theorem zQ{rs:List ResultVar}{r:PV}(h:(Jie P Gl rs s).map (fun v=>(Jda v,Fk r v))=some (true,r):=by kernel_rfl)(hl:Hr (fun _=>none) (Jqt r) r=true:=by kernel_rfl)(ht:(Wc r).map (fun x=>s.T x.1)=(Wc r).map fun x=>some x.2:=by kernel_rfl):Jj7 P Gl rs r .ret s:=Kbf h hl ht
end
section
variable {σ α β:Type} {n id:Nat} {Q:Exit->PSt->Prop} {s:PSt} {r:α⊕β}
end
section
variable {P:Program} {Gl:GL} {d:Bool} {L Ls:List (Oper×Gd)} {s:PSt} {Q:PSt->Prop} {α:Type} [Enc α]
omit [Enc α] in
theorem zP{f:FuncId}{as:List PV}{r:PV}(hc:Yx P Gl f as r)(h2:Jy P Gl d (L.drop 1) ((addToks ((Uk L).getD 0) s (Wc r)).put (Uk L) (Jau ((Uk L).getD 0) r)) Q)(h:(Jlz L s).map (fun x=>(x.1,Rg as x.2))=some (f,as):=by kernel_rfl)(ht:Jwf d ((Uk L).getD 0) s.T (Wc r)=true:=by kernel_rfl):Jy P Gl d L s Q:=Kf7 hc h ht h2
end
section
variable {P:Program} {Gl:GL} {s:PSt} {Q:Exit->PSt->Prop}
theorem zD{id:Nat}{ops:Array Oper}(h:Jy P Gl true (Jeg ops) s (Up (Q .normal)))(hm:P.follows .mixedOrders=true:=by kernel_rfl)(hB:Kcg (Jpe ops.toList []) ops ops.size 0 (Array.replicate ops.size false)=true:=by kernel_rfl) :
  pwp P Gl (.region id ops true) Q s:=Kex hm hB h
theorem zC{f:FuncId}{fn:Func}{c:Code}{args:List PV}{r:PV}{n:Nat}{rs:List ResultVar}(hf:P.funcs[f]? = some fn)(hn:fn.ntmps=n)(h:pwp P Gl c (Jj7 P Gl rs r) (st0 args n))(hname:(fn.name == "runtime.NumGoroutine")=false:=by rfl)(hb:fn.body=some c:=by rfl)(hrs:fn.results.toList=rs:=by rfl)(hflat:args.all Cn=true:=by rfl):Yx P Gl f args r:=Jj2 hf hname hb hn hrs hflat h
end
end PM
