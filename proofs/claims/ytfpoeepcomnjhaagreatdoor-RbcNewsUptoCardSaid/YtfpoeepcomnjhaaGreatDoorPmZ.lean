/-
 THE PURE MACHINE, Z: short forms (what the kernel checks comes by itself), for squeeze.py.
-/
import Derived.Test.YtfpoeepcomnjhaaGreatDoorPmV
namespace PM
open Go Go.RowKit
abbrev I6 (n:Int):PV:=.int .i64 n
section
variable {P:Program} {Gl:Nat→Option (List PV)} {d:Bool} {L Ls:List (Oper×Gd)} {s s1:PSt} {Q:PSt→Prop} {α:Type} [Enc α]
omit [Enc α] in
theorem zE (h2:Q (pxr P Gl L s).1) (h:(pxr P Gl L s).2=true:=by kernel_rfl):Kl P Gl d L s (Up Q):=Kdz h h2
omit [Enc α] in
theorem zN (h2:Q s) (h:L.isEmpty=true:=by kernel_rfl):Kl P Gl d L s (Up Q):=Kds h h2
omit [Enc α] in
theorem zR (n:Nat) (h2:Kl P Gl d (L.drop n) (pxr P Gl (L.take n) s).1 Q) (h:(pxr P Gl (L.take n) s).2=true:=by kernel_rfl):Kl P Gl d L s Q:=Kdj n h h2
omit [Enc α] in
theorem zF (h:(pxr P Gl L s).2=true:=by kernel_rfl) (h2:(((pxr P Gl L s).1).H,((pxr P Gl L s).1).T,((pxr P Gl L s).1).X,(((pxr P Gl L s).1).tm.length,((pxr P Gl L s).1).m),Jjl s1.tm ((pxr P Gl L s).1).tm)=(s1.H,s1.T,s1.X,(s1.tm.length,s1.m),s1.tm):=by kernel_rfl):Kl P Gl d L s fun s'=>Cj s' s1:=Kdk h h2
omit [Enc α] in
theorem zS {b c:Bool} (t:Nat) (hb:b=c) (h:Kl P Gl d (settle t c L) s Q) (hg:s.get t=.bool b:=by kernel_rfl) (hs:Jm2 t L=true:=by kernel_rfl):Kl P Gl d L s Q:=Jyl t hb hg hs h
theorem zI {L:List α} {i:Int} {y:α} (hy:ixO L i=some y) (h2:Kl P Gl d (Ls.drop 1) (s.put (Um Ls) (.cptr (cellsOf y))) Q) (h:Oe P Gl Ls s=Jzy (Enc.k α) (L.map cellsOf) i:=by kernel_rfl):Kl P Gl d Ls s Q:=p_ix hy h h2
end
section
variable {P:Program} {Gl:Nat→Option (List PV)} {x y:Code} {s:PSt} {Q:Exit→PSt→Prop}
theorem zT {c:Operand} {b:Bool} (hb:b=true) (hp:pwp P Gl x Q s) (h:s.ev c=.bool b:=by kernel_rfl):pwp P Gl (.cond c x y) Q s:=Jbi hb h hp
theorem zU {c:Operand} {b:Bool} (hb:b=false) (hp:pwp P Gl y Q s) (h:s.ev c=.bool b:=by kernel_rfl):pwp P Gl (.cond c x y) Q s:=Jbp hb h hp
theorem zQ {rs:List ResultVar} {r:PV} (h:(Jju P Gl rs s).map (fun v=>(Jcd v,Fo r v))=some (true,r):=by kernel_rfl) (hl:Gb (fun _=>none) (Jo8 r) r=true:=by kernel_rfl)
  (ht:(Vt r).map (fun x=>s.T x.1)=(Vt r).map fun x=>some x.2:=by kernel_rfl):Jok P Gl rs r .ret s:=Jyk h hl ht
end
section
variable {σ α β:Type} {n id:Nat} {Q:Exit→PSt→Prop} {s:PSt} {r:α⊕β}
theorem zB {J:σ→JS} {J0:α→JS} {v':σ} (h:(J v').seen s=(J v').told n:=by kernel_rfl):Lm J J0 n id Q r (.inl v') .normal s:=Kba h
theorem zX {J:σ→JS} {J0:α→JS} {v:α} (hok:(J0 v).ok=true:=by kernel_rfl) (h:(J0 v).seen s=(J0 v).told n:=by kernel_rfl):Lm J J0 n id Q r (.inr (.inl v)) (.exit id) s:=Kay hok h
theorem zJ {J:α→JS} {v:α} (hok:(J v).ok=true:=by kernel_rfl) (h:(J v).seen s=(J v).told n:=by kernel_rfl):Jbs (β:=β) J n Q (.inl v) .normal s:=Kc5 hok h
end
section
variable {P:Program} {Gl:Nat→Option (List PV)} {d:Bool} {L Ls:List (Oper×Gd)} {s:PSt} {Q:PSt→Prop} {α:Type} [Enc α]
omit [Enc α] in
theorem zP {f:FuncId} {as:List PV} {r:PV} (hc:Kg P Gl f as r) (h2:Kl P Gl d (L.drop 1) ((addToks ((Um L).getD 0) s (Vt r)).put (Um L) (Tw ((Um L).getD 0) r)) Q)
  (h:(Jnd L s).map (fun x=>(x.1,Nz as x.2))=some (f,as):=by kernel_rfl) (ht:Ju9 d ((Um L).getD 0) s.T (Vt r)=true:=by kernel_rfl):Kl P Gl d L s Q:=Kcv hc h ht h2
theorem zL {L:List α} (h2:Kl P Gl d (Ls.drop 1) (s.put (Um Ls) (.int .i64 (L.length:Nat))) Q) (h:Oe P Gl Ls s=some (.int .i64 ((L.map cellsOf).length:Nat),.none):=by kernel_rfl):Kl P Gl d Ls s Q:=Kdu h h2
theorem zW {L ys M:List α} {tk:Nat} (hM:Ul L ys=some M) (h2:Kl P Gl d (Ls.drop 1) (({ s with T:=upd s.T tk (some ((M.map cellsOf).length,Enc.k α)) }:PSt).put (Um Ls) (Jk (.own tk) M)) Q)
  (hT:s.T tk=some ((L.map cellsOf).length,Enc.k α):=by kernel_rfl) (h:Jp0 P Ls s=some (tk,false,Enc.k α,Enc.b α,L.map cellsOf,ys.map cellsOf):=by kernel_rfl):Kl P Gl d Ls s Q:=Kbr hM hT h h2
end
section
variable {P:Program} {Gl:Nat→Option (List PV)} {s:PSt} {Q:Exit→PSt→Prop}
theorem zD {id:Nat} {ops:Array Oper} (h:Kl P Gl true (Jcf ops) s (Up (Q .normal))) (hm:P.follows .mixedOrders=true:=by kernel_rfl) (hB:Jwz (Jol ops.toList []) ops ops.size 0 (Array.replicate ops.size false)=true:=by kernel_rfl) :
  pwp P Gl (.region id ops true) Q s:=Jx4 hm hB h
theorem zA {σ α β:Type} {r:α⊕β} {step:σ→Option (σ⊕(α⊕β))} {v:σ} {c:Code} (n id:Nat) (J:σ→JS) (J0:α→JS) (hl:Ki step v=some r)
  (hb:∀ v o,step v=some o→pwp P Gl c (Lm J J0 n id Q r o) ((J v).st n)) (h2:∀ v s',r=.inl v→Wkr s' ((J0 v).st n)→Q (.exit id) s')
  (h0:(J v).seen s=(J v).told n:=by kernel_rfl) (hok:∀ v,(J v).ok=true:=by intro _; kernel_rfl):pwp P Gl (.loop c) Q s:=Kbq n id J J0 hl h0 hok hb h2
theorem zC {f:FuncId} {fn:Func} {c:Code} {args:List PV} {r:PV} {n:Nat} {rs:List ResultVar} (hf:P.funcs[f]? = some fn) (hn:fn.ntmps=n) (h:pwp P Gl c (Jok P Gl rs r) (st0 args n))
  (hname:(fn.name == "runtime.NumGoroutine")=false:=by rfl) (hb:fn.body=some c:=by rfl) (hrs:fn.results.toList=rs:=by rfl) (hflat:args.all Cb=true:=by rfl):Kg P Gl f args r:=Jsd hf hname hb hn hrs hflat h
end
end PM
