/-
 THE PURE MACHINE, Z: short forms (what the kernel checks comes by itself), for squeeze.py.
-/
import Derived.Test.YtfpoeepcomnjhaaGreatDoorPmV
namespace PM
open Go Go.RowKit
section
variable {P:Program} {Gl:Nat→Option (List PV)} {d:Bool} {L Ls:List (Oper×Gd)} {s s1:PSt} {Q:PSt→Prop} {α:Type} [Enc α]
omit [Enc α] in
theorem zE (h2:Q (pxr P Gl L s).1) (h:(pxr P Gl L s).2=true:=by kernel_rfl):Kp P Gl d L s (Up Q):=Jzr h h2
omit [Enc α] in
theorem zN (h2:Q s) (h:L.isEmpty=true:=by kernel_rfl):Kp P Gl d L s (Up Q):=Jzq h h2
omit [Enc α] in
theorem zR (n:Nat) (h2:Kp P Gl d (L.drop n) (pxr P Gl (L.take n) s).1 Q) (h:(pxr P Gl (L.take n) s).2=true:=by kernel_rfl):Kp P Gl d L s Q:=Jzp n h h2
omit [Enc α] in
theorem zF (h:(pxr P Gl L s).2=true:=by kernel_rfl) (h2:(((pxr P Gl L s).1).H,((pxr P Gl L s).1).T,((pxr P Gl L s).1).X,(((pxr P Gl L s).1).tm.length,((pxr P Gl L s).1).m),Jia s1.tm ((pxr P Gl L s).1).tm)=(s1.H,s1.T,s1.X,(s1.tm.length,s1.m),s1.tm):=by kernel_rfl):Kp P Gl d L s fun s'=>Zr s' s1:=Jzb h h2
omit [Enc α] in
theorem zS {b c:Bool} (t:Nat) (hb:b=c) (h:Kp P Gl d (settle t c L) s Q) (hg:s.get t=.bool b:=by kernel_rfl) (hs:Jky t L=true:=by kernel_rfl):Kp P Gl d L s Q:=Jtu t hb hg hs h
theorem zI {L:List α} {i:Int} {y:α} (hy:ixO L i=some y) (h2:Kp P Gl d (Ls.drop 1) (s.put (Uq Ls) (.cptr (cellsOf y))) Q) (h:Li P Gl Ls s=Jvb (Enc.k α) (L.map cellsOf) i:=by kernel_rfl):Kp P Gl d Ls s Q:=p_ix hy h h2
end
section
variable {P:Program} {Gl:Nat→Option (List PV)} {x y:Code} {s:PSt} {Q:Exit→PSt→Prop}
theorem zT {c:Operand} {b:Bool} (hb:b=true) (hp:pwp P Gl x Q s) (h:s.ev c=.bool b:=by kernel_rfl):pwp P Gl (.cond c x y) Q s:=Xf hb h hp
theorem zU {c:Operand} {b:Bool} (hb:b=false) (hp:pwp P Gl y Q s) (h:s.ev c=.bool b:=by kernel_rfl):pwp P Gl (.cond c x y) Q s:=Tw hb h hp
theorem zQ {rs:List ResultVar} {r:PV} (h:(Jho P Gl rs s).map (fun v=>(Jar v,Cp r v))=some (true,r):=by kernel_rfl) (hl:Cs (fun _=>none) (Jmb r) r=true:=by kernel_rfl)
  (ht:(Vw r).map (fun x=>s.T x.1)=(Vw r).map fun x=>some x.2:=by kernel_rfl):Jki P Gl rs r .ret s:=Jvx h hl ht
end
section
variable {σ α β:Type} {n id:Nat} {Q:Exit→PSt→Prop} {s:PSt} {r:α⊕β}
theorem zB {J:σ→JS} {J0:α→JS} {v':σ} (h:(J v').seen s=(J v').told n:=by kernel_rfl):Gr J J0 n id Q r (.inl v') .normal s:=Jw0 h
theorem zX {J:σ→JS} {J0:α→JS} {v:α} (hok:(J0 v).ok=true:=by kernel_rfl) (h:(J0 v).seen s=(J0 v).told n:=by kernel_rfl):Gr J J0 n id Q r (.inr (.inl v)) (.exit id) s:=Jwb hok h
theorem zJ {J:α→JS} {v:α} (hok:(J v).ok=true:=by kernel_rfl) (h:(J v).seen s=(J v).told n:=by kernel_rfl):Xg (β:=β) J n Q (.inl v) .normal s:=Jyw hok h
end
section
variable {P:Program} {Gl:Nat→Option (List PV)} {d:Bool} {L Ls:List (Oper×Gd)} {s:PSt} {Q:PSt→Prop} {α:Type} [Enc α]
omit [Enc α] in
theorem zP {f:FuncId} {as:List PV} {r:PV} (hc:Kj P Gl f as r) (h2:Kp P Gl d (L.drop 1) ((addToks ((Uq L).getD 0) s (Vw r)).put (Uq L) (Pd ((Uq L).getD 0) r)) Q)
  (h:(Jlp L s).map (fun x=>(x.1,Im as x.2))=some (f,as):=by kernel_rfl) (ht:Jq5 d ((Uq L).getD 0) s.T (Vw r)=true:=by kernel_rfl):Kp P Gl d L s Q:=Jys hc h ht h2
theorem zL {L:List α} (h2:Kp P Gl d (Ls.drop 1) (s.put (Uq Ls) (.int .i64 (L.length:Nat))) Q) (h:Li P Gl Ls s=some (.int .i64 ((L.map cellsOf).length:Nat),.none):=by kernel_rfl):Kp P Gl d Ls s Q:=Jzd h h2
theorem zW {L ys M:List α} {tk:Nat} (hM:Ut L ys=some M) (h2:Kp P Gl d (Ls.drop 1) (({ s with T:=upd s.T tk (some ((M.map cellsOf).length,Enc.k α)) }:PSt).put (Uq Ls) (Jn (.own tk) M)) Q)
  (hT:s.T tk=some ((L.map cellsOf).length,Enc.k α):=by kernel_rfl) (h:Jmv P Ls s=some (tk,false,Enc.k α,Enc.b α,L.map cellsOf,ys.map cellsOf):=by kernel_rfl):Kp P Gl d Ls s Q:=Jxi hM hT h h2
end
section
variable {P:Program} {Gl:Nat→Option (List PV)} {s:PSt} {Q:Exit→PSt→Prop}
theorem zD {id:Nat} {ops:Array Oper} (h:Kp P Gl true (Jad ops) s (Up (Q .normal))) (hm:P.follows .mixedOrders=true:=by kernel_rfl) (hB:Jta (Jkf ops.toList []) ops ops.size 0 (Array.replicate ops.size false)=true:=by kernel_rfl) :
  pwp P Gl (.region id ops true) Q s:=Jv9 hm hB h
theorem zA {σ α β:Type} {r:α⊕β} {step:σ→Option (σ⊕(α⊕β))} {v:σ} {c:Code} (n id:Nat) (J:σ→JS) (J0:α→JS) (hl:Ko step v=some r)
  (hb:∀ v o,step v=some o→pwp P Gl c (Gr J J0 n id Q r o) ((J v).st n)) (h2:∀ v s',r=.inl v→Wkr s' ((J0 v).st n)→Q (.exit id) s')
  (h0:(J v).seen s=(J v).told n:=by kernel_rfl) (hok:∀ v,(J v).ok=true:=by intro _; kernel_rfl):pwp P Gl (.loop c) Q s:=Jxe n id J J0 hl h0 hok hb h2
theorem zC {f:FuncId} {fn:Func} {c:Code} {args:List PV} {r:PV} {n:Nat} {rs:List ResultVar} (hf:P.funcs[f]? = some fn) (hn:fn.ntmps=n) (h:pwp P Gl c (Jki P Gl rs r) (st0 args n))
  (hname:(fn.name == "runtime.NumGoroutine")=false:=by rfl) (hb:fn.body=some c:=by rfl) (hrs:fn.results.toList=rs:=by rfl) (hflat:args.all Zn=true:=by rfl):Kj P Gl f args r:=Jof hf hname hb hn hrs hflat h
end
end PM
