/-
 THE PURE MACHINE, Y: walks that go by themselves, led by what is left of the plain function (h).
-/
import Derived.Test.YtfpoeepcomnjhaaGreatDoorPmZ
import Derived.Test.YtfpoeepcomnjhaaGreatDoorPmQh
namespace PM
open Go Go.RowKit
class Ct (P:Program) (Gl:GL) {α:Type} (D:Option α) (f:outParam FuncId) (as:outParam (List PV)) (V:outParam (α->PV)):Prop where
 ok:∀ r,D=some r->Yx P Gl f as (V r)
section
variable {P:Program} {Gl:GL} {s:PSt} {x y:Code} {Q:Exit->PSt->Prop} {β:Type} {r:β} {X Y:Option β}
theorem yC{c:Operand}{b:Bool}(h:(bif b then X else Y)=some r)(h1:X=some r->pwp P Gl x Q s)(h2:Y=some r->pwp P Gl y Q s)(hs:s.ev c=.bool b:=by kernel_rfl):pwp P Gl (.cond c x y) Q s:=by
 rcases Jls h with ⟨hb,h⟩|⟨hb,h⟩
 ·exact Jb3 hb hs (h1 h)
 ·exact Jbv hb hs (h2 h)
theorem ySr{id:Nat}{ops:Array Oper}{d:Bool}(h:pwp P Gl (.region id ops d) (Joc P Gl y Q) s):pwp P Gl (.seq (.region id ops d) y) Q s:=Kj h
theorem ySs{x1 x2:Code}(h:pwp P Gl (.seq x1 x2) (Joc P Gl y Q) s):pwp P Gl (.seq (.seq x1 x2) y) Q s:=Kj h
theorem ySl{α β σ:Type}{step:σ->Option (σ⊕(α⊕β))}{v:σ}{F:α->Option β}{r:β}(_:onInl (Jp step v) F=some r)(h:pwp P Gl x (Joc P Gl y Q) s):pwp P Gl (.seq x y) Q s:=Kj h
theorem ySb{α:Type}{D:Option α}{F:α->Option β}(_:D.bind F=some r)(h:pwp P Gl x (Joc P Gl y Q) s):pwp P Gl (.seq x y) Q s:=Kj h
theorem ySc{b:Bool}(_:(bif b then X else Y)=some r)(h:pwp P Gl x (Joc P Gl y Q) s):pwp P Gl (.seq x y) Q s:=Kj h
theorem ySv{v:β}(_:some v=some r)(h:pwp P Gl x (Joc P Gl y Q) s):pwp P Gl (.seq x y) Q s:=Kj h
end
section
variable {P:Program} {Gl:GL} {d:Bool} {Ls:List (Oper×Gd)} {s s1:PSt} {Q:PSt->Prop} {α β:Type} [Enc α] {r:β} {F:α->Option β} {X Y:Option β}
theorem yI(n:Nat){L:List α}{i:Int}(h:(ixO L i).bind F=some r)(k:∀ x,F x=some r->Jy P Gl d ((Ls.drop n).drop 1) ((pxr P Gl (Ls.take n) s).1.put (Uk (Ls.drop n)) (.cptr (cellsOf x))) Q)(he:Nb P Gl (Ls.drop n) (pxr P Gl (Ls.take n) s).1=Kbe (Enc.k α) (L.map cellsOf) i:=by kernel_rfl)(hr:(pxr P Gl (Ls.take n) s).2=true:=by kernel_rfl):Jy P Gl d Ls s Q:=by
 obtain ⟨x,hx,h⟩:=Ve h;exact Oo n hr (p_ix hx he (k x h))
end
section
variable {α β σ:Type} {P:Program} {Gl:GL} {s:PSt} {Q:Exit->PSt->Prop}
def Jh9(J:α->JS)(n:Nat)(Q:Exit->PSt->Prop)(r:β)(o:α⊕β)(e:Exit)(s':PSt):Prop :=
 match o with
 | .inl v=>e=.normal/\Wkr s' ((J v).st n)
 | .inr b=>some b=some r->e≠.normal/\Q e s'
def Jd5(J:σ->JS)(J0:α->JS)(n id:Nat)(Q:Exit->PSt->Prop)(r:β)(o:σ⊕(α⊕β))(e:Exit)(s':PSt):Prop :=
 match o with
 | .inl v'=>e=.normal/\(J v').seen s'=(J v').told n
 | .inr (.inl v)=>e=.exit id/\Wkr s' ((J0 v).st n)
 | .inr (.inr b)=>some b=some r->e≠.normal/\Q e s'
theorem yJe{J:α->JS}{n:Nat}{r:β}{v:α}(hok:(J v).ok=true:=by kernel_rfl)(h:(J v).seen s=(J v).told n:=by kernel_rfl):Jh9 J n Q r (.inl v) .normal s:=⟨rfl,.of hok h⟩
theorem yJr{J:α->JS}{n:Nat}{r b:β}(h:some b=some r->Q .ret s):Jh9 J n Q r (.inr b) .ret s:=fun e=>⟨by simp,h e⟩
theorem yJx{J:α->JS}{n k:Nat}{r b:β}(h:some b=some r->Q (.exit k) s):Jh9 J n Q r (.inr b) (.exit k) s:=fun e=>⟨by simp,h e⟩
section
variable {J:σ->JS} {J0:α->JS} {n id:Nat} {r:β}
theorem yLb{v':σ}(h:(J v').seen s=(J v').told n:=by kernel_rfl):Jd5 J J0 n id Q r (.inl v') .normal s:=⟨rfl,h⟩
theorem yLe{v:α}(hok:(J0 v).ok=true:=by kernel_rfl)(h:(J0 v).seen s=(J0 v).told n:=by kernel_rfl):Jd5 J J0 n id Q r (.inr (.inl v)) (.exit id) s:=⟨rfl,.of hok h⟩
theorem yLr{b:β}(h:some b=some r->Q .ret s):Jd5 J J0 n id Q r (.inr (.inr b)) .ret s:=fun e=>⟨by simp,h e⟩
theorem yLx{b:β}{k:Nat}(h:some b=some r->Q (.exit k) s):Jd5 J J0 n id Q r (.inr (.inr b)) (.exit k) s:=fun e=>⟨by simp,h e⟩
end
end
section
variable {P:Program} {Gl:GL} {s:PSt}
variable {α β σ:Type} {Q:Exit->PSt->Prop} {n id:Nat} {r:β}
theorem vJe{J:α->JS}{o:α⊕β}{v:α}(hv:some (.inl v)=some o)(hok:(J v).ok=true:=by kernel_rfl)(h:(J v).seen s=(J v).told n:=by kernel_rfl):Jh9 J n Q r o .normal s:=by
 cases hv; exact yJe hok h
theorem vJr{J:α->JS}{o:α⊕β}{b:β}(hv:some (.inr b)=some o)(h:some b=some r->Q .ret s):Jh9 J n Q r o .ret s:=by
 cases hv; exact yJr h
theorem vJx{J:α->JS}{k:Nat}{o:α⊕β}{b:β}(hv:some (.inr b)=some o)(h:some b=some r->Q (.exit k) s):Jh9 J n Q r o (.exit k) s:=by
 cases hv; exact yJx h
variable {J:σ->JS} {J0:α->JS} {o:σ⊕(α⊕β)}
theorem vLb{v':σ}(hv:some (.inl v')=some o)(h:(J v').seen s=(J v').told n:=by kernel_rfl):Jd5 J J0 n id Q r o .normal s:=by
 cases hv; exact yLb h
theorem vLe{v:α}(hv:some (.inr (.inl v))=some o)(hok:(J0 v).ok=true:=by kernel_rfl)(h:(J0 v).seen s=(J0 v).told n:=by kernel_rfl):Jd5 J J0 n id Q r o (.exit id) s:=by
 cases hv; exact yLe hok h
theorem vLr{b:β}(hv:some (.inr (.inr b))=some o)(h:some b=some r->Q .ret s):Jd5 J J0 n id Q r o .ret s:=by
 cases hv; exact yLr h
theorem vLx{b:β}{k:Nat}(hv:some (.inr (.inr b))=some o)(h:some b=some r->Q (.exit k) s):Jd5 J J0 n id Q r o (.exit k) s:=by
 cases hv; exact yLx h
end
section
variable {P:Program} {Gl:GL} {d:Bool} {L:List (Oper×Gd)} {s:PSt} {β:Type} {r:β} {F:Bool->Option β} {X Y:Option β}
def gdT : List (Oper×Gd)->Nat
 | []=>0
 | (_,.slot t _)::_=>t
 | _::l=>gdT l
theorem yG(n:Nat){Q:PSt->Prop}{b:Bool}(h:(bif b then X else Y)=some r)(h1:X=some r->Jy P Gl d (settle (gdT (L.drop n)) true (L.drop n)) (pxr P Gl (L.take n) s).1 Q)(h2:Y=some r->Jy P Gl d (settle (gdT (L.drop n)) false (L.drop n)) (pxr P Gl (L.take n) s).1 Q)(hg:(pxr P Gl (L.take n) s).1.get (gdT (L.drop n))=.bool b:=by kernel_rfl)(hs:Je4 (gdT (L.drop n)) (L.drop n)=true:=by kernel_rfl)(hr:(pxr P Gl (L.take n) s).2=true:=by kernel_rfl):Jy P Gl d L s Q:=by
 rcases Jls h with ⟨hb,h⟩|⟨hb,h⟩
 ·exact Oo n hr (Jbx _ hb hg hs (h1 h))
 ·exact Oo n hr (Jbx _ hb hg hs (h2 h))
theorem yBe{Q:PSt->Prop}(n m t:Nat){D:Option Bool}(h:D.bind F=some r)(h1:∀ b,D=some b->Jy P Gl d ((L.drop n).take m) (pxr P Gl (L.take n) s).1 fun s'=>Yg s' (Wq m t (.bool b) (L.drop n) (pxr P Gl (L.take n) s).1))(h2:∀ b,F b=some r->Jy P Gl d ((L.drop n).drop m) (Wq m t (.bool b) (L.drop n) (pxr P Gl (L.take n) s).1) (Up Q))(hr:(pxr P Gl (L.take n) s).2=true:=by kernel_rfl):Jy P Gl d L s (Up Q):=by
 obtain ⟨b,hb,h⟩:=Ve h;exact Oo n hr (Kfu m t _ (h1 b hb) (h2 b h))
theorem yBf{s1:PSt}(n m t:Nat){D:Option Bool}(h:D.bind F=some r)(h1:∀ b,D=some b->Jy P Gl d ((L.drop n).take m) (pxr P Gl (L.take n) s).1 fun s'=>Yg s' (Wq m t (.bool b) (L.drop n) (pxr P Gl (L.take n) s).1))(h2:∀ b,F b=some r->Jy P Gl d ((L.drop n).drop m) (Wq m t (.bool b) (L.drop n) (pxr P Gl (L.take n) s).1) fun s'=>Yg s' s1)(hr:(pxr P Gl (L.take n) s).2=true:=by kernel_rfl):Jy P Gl d L s fun s'=>Yg s' s1:=by
 obtain ⟨b,hb,h⟩:=Ve h;exact Oo n hr (Kjh m t _ (h1 b hb) (h2 b h))
theorem nU{L0:List (Oper×Gd)}{s0:PSt}{m t:Nat}{v b:Bool}(hv:v=b)(h:(pxr P Gl L s).2=true:=by kernel_rfl)(h2:(((pxr P Gl L s).1).H,((pxr P Gl L s).1).T,((pxr P Gl L s).1).X,(((pxr P Gl L s).1).tm.length,((pxr P Gl L s).1).m),Jgw (Wq m t (.bool v) L0 s0).tm ((pxr P Gl L s).1).tm)=((Wq m t (.bool v) L0 s0).H,(Wq m t (.bool v) L0 s0).T,(Wq m t (.bool v) L0 s0).X,((Wq m t (.bool v) L0 s0).tm.length,(Wq m t (.bool v) L0 s0).m),(Wq m t (.bool v) L0 s0).tm):=by kernel_rfl):Jy P Gl d L s fun s'=>Yg s' (Wq m t (.bool b) L0 s0):=by
 subst hv; exact Kdz h h2
theorem nY{L0:List (Oper×Gd)}{s0:PSt}{m t:Nat}{v b:Bool}(hv:some v=some b)(h:(pxr P Gl L s).2=true:=by kernel_rfl)(h2:(((pxr P Gl L s).1).H,((pxr P Gl L s).1).T,((pxr P Gl L s).1).X,(((pxr P Gl L s).1).tm.length,((pxr P Gl L s).1).m),Jgw (Wq m t (.bool v) L0 s0).tm ((pxr P Gl L s).1).tm)=((Wq m t (.bool v) L0 s0).H,(Wq m t (.bool v) L0 s0).T,(Wq m t (.bool v) L0 s0).X,((Wq m t (.bool v) L0 s0).tm.length,(Wq m t (.bool v) L0 s0).m),(Wq m t (.bool v) L0 s0).tm):=by kernel_rfl):Jy P Gl d L s fun s'=>Yg s' (Wq m t (.bool b) L0 s0):=by
 cases hv; exact Kdz h h2
def gdN : List (Oper×Gd)->Nat
 | []=>0
 | (_,.slot _ _)::_=>0
 | _::l=>gdN l+1
theorem yOr{Q:PSt->Prop}{a b x:Bool}(h:(a||b)=x)(h1:true=x->Jy P Gl d (settle (gdT L) true (L.drop (gdN L))) (pxr P Gl (L.take (gdN L)) s).1 Q)(h2:b=x->Jy P Gl d (settle (gdT L) false (L.drop (gdN L))) (pxr P Gl (L.take (gdN L)) s).1 Q)(hg:(pxr P Gl (L.take (gdN L)) s).1.get (gdT L)=.bool a:=by kernel_rfl)(hs:Je4 (gdT L) (L.drop (gdN L))=true:=by kernel_rfl)(hr:(pxr P Gl (L.take (gdN L)) s).2=true:=by kernel_rfl):Jy P Gl d L s Q:=by
 rcases Kj9 h with ⟨hb,h⟩|⟨hb,h⟩
 ·exact Oo _ hr (Jbx _ hb hg hs (h1 h))
 ·exact Oo _ hr (Jbx _ hb hg hs (h2 h))
theorem yAn{Q:PSt->Prop}{a b x:Bool}(h:(a&&b)=x)(h1:b=x->Jy P Gl d (settle (gdT L) true (L.drop (gdN L))) (pxr P Gl (L.take (gdN L)) s).1 Q)(h2:false=x->Jy P Gl d (settle (gdT L) false (L.drop (gdN L))) (pxr P Gl (L.take (gdN L)) s).1 Q)(hg:(pxr P Gl (L.take (gdN L)) s).1.get (gdT L)=.bool a:=by kernel_rfl)(hs:Je4 (gdT L) (L.drop (gdN L))=true:=by kernel_rfl)(hr:(pxr P Gl (L.take (gdN L)) s).2=true:=by kernel_rfl):Jy P Gl d L s Q:=by
 rcases Jmp h with ⟨hb,h⟩|⟨hb,h⟩
 ·exact Oo _ hr (Jbx _ hb hg hs (h1 h))
 ·exact Oo _ hr (Jbx _ hb hg hs (h2 h))
theorem nZ{L0:List (Oper×Gd)}{s0:PSt}{m t:Nat}{v b:Bool}(hv:v=b)(w:v=b->Jy P Gl d L s fun s'=>Yg s' (Wq m t (.bool b) L0 s0):=by
 intro h
 with_reducible (repeat' (first|(refine yOr h ?_ ?_ <;> clear h <;> intro h)|(refine yAn h ?_ ?_ <;> clear h <;> intro h)|exact nU h))):Jy P Gl d L s fun s'=>Yg s' (Wq m t (.bool b) L0 s0):=w hv
def Jmf(P:Program)(L:List (Oper×Gd))(s:PSt):Nat:=((Jl7 P L s).map (·.1)).getD 0
theorem yW(n:Nat){Q:PSt->Prop}{α:Type}[Enc α]{xs ys:List α}{G:List α->Option β}(h:(Qi xs ys).bind G=some r)(k:∀ M,G M=some r->Jy P Gl d ((L.drop n).drop 1) (({ (pxr P Gl (L.take n) s).1 with T:=upd (pxr P Gl (L.take n) s).1.T (Jmf P (L.drop n) (pxr P Gl (L.take n) s).1) (some ((M.map cellsOf).length,Enc.k α)) }:PSt).put (Uk (L.drop n)) (Ji (.own (Jmf P (L.drop n) (pxr P Gl (L.take n) s).1)) M)) Q)(hT:(pxr P Gl (L.take n) s).1.T (Jmf P (L.drop n) (pxr P Gl (L.take n) s).1)=some ((xs.map cellsOf).length,Enc.k α):=by kernel_rfl)(ha:Jl7 P (L.drop n) (pxr P Gl (L.take n) s).1=some (Jmf P (L.drop n) (pxr P Gl (L.take n) s).1,false,Enc.k α,Enc.b α,xs.map cellsOf,ys.map cellsOf):=by kernel_rfl)(hr:(pxr P Gl (L.take n) s).2=true:=by kernel_rfl):Jy P Gl d L s Q:=by
 obtain ⟨M,hM,h⟩:=Ve h;exact Oo n hr (Kjb hM hT ha (k M h))
end
inductive Pl where
 | s
 | S
 | z
 | y
 | x
 | j (n:Nat) (p:Pl)
 | d (n:Nat) (row:Bool) (m f:Nat) (p:Pl)
 | e (p:Pl)
 | i (n:Nat) (p:Pl)
 | p (n:Nat) (p:Pl)
 | w (n:Nat) (p:Pl)
 | l (n:Nat) (p:Pl)
 | g (n:Nat) (p q:Pl)
 | c (p q:Pl)
 | b (n m t:Nat) (p q:Pl)
 | o (n m t k:Nat) (p:Pl)
inductive Pn : Pl->Prop
 | mk {p:Pl}:Pn p
inductive Ln {α:Type} (L:List α):Prop
 | mk
class Lf (k:Nat) (W:Bool) (E:outParam Bool):Prop where
 t:True
instance {W:Bool}:Lf 0 W W:=⟨trivial⟩
instance {k:Nat}{W x E:Bool}[Lf k W E]:Lf (k+1) (W||x) E:=⟨trivial⟩
instance {k:Nat}{W x E:Bool}[Lf k W E]:Lf (k+1) (W&&x) E:=⟨trivial⟩
section
variable {P:Program} {Gl:GL} {d:Bool} {L:List (Oper×Gd)} {s s1:PSt} {x y:Code} {β:Type} {r:β} {X Y:Option β} {p q:Pl} {n m t:Nat}
theorem nE{Q:PSt->Prop}(_:Pn (.e p))(h2:Pn p->Q (pxr P Gl L s).1)(h:(pxr P Gl L s).2=true:=by kernel_rfl):Jy P Gl d L s (Up Q):=Kjc h (h2 .mk)
theorem nC{Q:Exit->PSt->Prop}{c:Operand}{b:Bool}(_:Pn (.c p q))(h:(bif b then X else Y)=some r)(h1:Pn p->X=some r->pwp P Gl x Q s)(h2:Pn q->Y=some r->pwp P Gl y Q s)(hs:s.ev c=.bool b:=by kernel_rfl):pwp P Gl (.cond c x y) Q s:=yC h (h1 .mk) (h2 .mk) hs
theorem nI{α:Type}[Enc α]{Q:PSt->Prop}{F:α->Option β}{M:List α}{i:Int}(_:Pn (.i n p))(h:(ixO M i).bind F=some r)(k:Pn p->∀ x,F x=some r->Jy P Gl d ((L.drop n).drop 1) ((pxr P Gl (L.take n) s).1.put (Uk (L.drop n)) (.cptr (cellsOf x))) Q)(he:Nb P Gl (L.drop n) (pxr P Gl (L.take n) s).1=Kbe (Enc.k α) (M.map cellsOf) i:=by kernel_rfl)(hr:(pxr P Gl (L.take n) s).2=true:=by kernel_rfl):Jy P Gl d L s Q:=yI n h (k .mk) he hr
theorem nP{α:Type}{Q:PSt->Prop}{F:α->Option β}{D:Option α}{f:FuncId}{as:List PV}{V:α->PV}(_:Pn (.p n p))(h:D.bind F=some r)[hc:Ct P Gl D f as V](k:Pn p->∀ x,F x=some r->Jy P Gl d ((L.drop n).drop 1) ((addToks ((Uk (L.drop n)).getD 0) (pxr P Gl (L.take n) s).1 (Wc (V x))).put (Uk (L.drop n)) (Jau ((Uk (L.drop n)).getD 0) (V x))) Q)(he:(Jlz (L.drop n) (pxr P Gl (L.take n) s).1).map (fun x=>(x.1,Rg as x.2))=some (f,as):=by kernel_rfl)(ht:∀ x:α,Jwf d ((Uk (L.drop n)).getD 0) (pxr P Gl (L.take n) s).1.T (Wc (V x))=true:=by intro _; kernel_rfl)(hr:(pxr P Gl (L.take n) s).2=true:=by kernel_rfl):Jy P Gl d L s Q:=by
 obtain ⟨x,hx,h⟩:=Ve h;exact Oo n hr (Kf7 (hc.ok x hx) he (ht x) (k .mk x h))
theorem nW{α:Type}[Enc α]{Q:PSt->Prop}{xs ys:List α}{G:List α->Option β}(_:Pn (.w n p))(h:(Qi xs ys).bind G=some r)(k:Pn p->∀ M,G M=some r->Jy P Gl d ((L.drop n).drop 1) (({ (pxr P Gl (L.take n) s).1 with T:=upd (pxr P Gl (L.take n) s).1.T (Jmf P (L.drop n) (pxr P Gl (L.take n) s).1) (some ((M.map cellsOf).length,Enc.k α)) }:PSt).put (Uk (L.drop n)) (Ji (.own (Jmf P (L.drop n) (pxr P Gl (L.take n) s).1)) M)) Q)(hT:(pxr P Gl (L.take n) s).1.T (Jmf P (L.drop n) (pxr P Gl (L.take n) s).1)=some ((xs.map cellsOf).length,Enc.k α):=by kernel_rfl)(ha:Jl7 P (L.drop n) (pxr P Gl (L.take n) s).1=some (Jmf P (L.drop n) (pxr P Gl (L.take n) s).1,false,Enc.k α,Enc.b α,xs.map cellsOf,ys.map cellsOf):=by kernel_rfl)(hr:(pxr P Gl (L.take n) s).2=true:=by kernel_rfl):Jy P Gl d L s Q:=yW n h (k .mk) hT ha hr
theorem yl{α:Type}[Enc α]{Q:PSt->Prop}(n:Nat)(M:List α)(h2:Jy P Gl d ((L.drop n).drop 1) ((pxr P Gl (L.take n) s).1.put (Uk (L.drop n)) (.int .i64 (M.length:Nat))) Q)(h:Nb P Gl (L.drop n) (pxr P Gl (L.take n) s).1=some (.int .i64 ((M.map cellsOf).length:Nat),.none):=by kernel_rfl)(hr:(pxr P Gl (L.take n) s).2=true:=by kernel_rfl):Jy P Gl d L s Q:=Oo n hr (Klk h h2)
theorem nL{α:Type}[Enc α]{Q:PSt->Prop}{M:List α}(_:Pn (.l n p))(_:Ln M)(h2:Pn p->Jy P Gl d ((L.drop n).drop 1) ((pxr P Gl (L.take n) s).1.put (Uk (L.drop n)) (.int .i64 (M.length:Nat))) Q)(h:Nb P Gl (L.drop n) (pxr P Gl (L.take n) s).1=some (.int .i64 ((M.map cellsOf).length:Nat),.none):=by kernel_rfl)(hr:(pxr P Gl (L.take n) s).2=true:=by kernel_rfl):Jy P Gl d L s Q:=yl n M (h2 .mk) h hr
theorem nG{Q:PSt->Prop}{b:Bool}(_:Pn (.g n p q))(h:(bif b then X else Y)=some r)(h1:Pn p->X=some r->Jy P Gl d (settle (gdT (L.drop n)) true (L.drop n)) (pxr P Gl (L.take n) s).1 Q)(h2:Pn q->Y=some r->Jy P Gl d (settle (gdT (L.drop n)) false (L.drop n)) (pxr P Gl (L.take n) s).1 Q)(hg:(pxr P Gl (L.take n) s).1.get (gdT (L.drop n))=.bool b:=by kernel_rfl)(hs:Je4 (gdT (L.drop n)) (L.drop n)=true:=by kernel_rfl)(hr:(pxr P Gl (L.take n) s).2=true:=by kernel_rfl):Jy P Gl d L s Q:=yG n h (h1 .mk) (h2 .mk) hg hs hr
theorem nB{Q:PSt->Prop}{F:Bool->Option β}(_:Pn (.b n m t p q)){D:Option Bool}(h:D.bind F=some r)(h1:Pn p->∀ b,D=some b->Jy P Gl d ((L.drop n).take m) (pxr P Gl (L.take n) s).1 fun s'=>Yg s' (Wq m t (.bool b) (L.drop n) (pxr P Gl (L.take n) s).1))(h2:Pn q->∀ b,F b=some r->Jy P Gl d ((L.drop n).drop m) (Wq m t (.bool b) (L.drop n) (pxr P Gl (L.take n) s).1) (Up Q))(hr:(pxr P Gl (L.take n) s).2=true:=by kernel_rfl):Jy P Gl d L s (Up Q):=yBe n m t h (h1 .mk) (h2 .mk) hr
theorem nF{F:Bool->Option β}(_:Pn (.b n m t p q)){D:Option Bool}(h:D.bind F=some r)(h1:Pn p->∀ b,D=some b->Jy P Gl d ((L.drop n).take m) (pxr P Gl (L.take n) s).1 fun s'=>Yg s' (Wq m t (.bool b) (L.drop n) (pxr P Gl (L.take n) s).1))(h2:Pn q->∀ b,F b=some r->Jy P Gl d ((L.drop n).drop m) (Wq m t (.bool b) (L.drop n) (pxr P Gl (L.take n) s).1) fun s'=>Yg s' s1)(hr:(pxr P Gl (L.take n) s).2=true:=by kernel_rfl):Jy P Gl d L s fun s'=>Yg s' s1:=yBf n m t h (h1 .mk) (h2 .mk) hr
theorem nO{Q:PSt->Prop}{k:Nat}{E W:Bool}(_:Pn (.o n m t k p))(_:(bif W then X else Y)=some r)[Lf k W E](h2:Pn p->Jy P Gl d ((L.drop n).drop m) (Wq m t (.bool E) (L.drop n) (pxr P Gl (L.take n) s).1) (Up Q))(hr:(pxr P Gl (L.take n) s).2=true:=by kernel_rfl)(h1:∀ x,E=x->Jy P Gl d ((L.drop n).take m) (pxr P Gl (L.take n) s).1 fun s'=>Yg s' (Wq m t (.bool x) (L.drop n) (pxr P Gl (L.take n) s).1):=by intro x h; exact nZ h):Jy P Gl d L s (Up Q):=Oo n hr (Jcb m t E h1 (h2 .mk))
theorem nV{Q:PSt->Prop}{k:Nat}{E W:Bool}{r:Bool}(_:Pn (.o n m t k p))(_:some W=some r)[Lf k W E](h2:Pn p->Jy P Gl d ((L.drop n).drop m) (Wq m t (.bool E) (L.drop n) (pxr P Gl (L.take n) s).1) (Up Q))(hr:(pxr P Gl (L.take n) s).2=true:=by kernel_rfl)(h1:∀ x,E=x->Jy P Gl d ((L.drop n).take m) (pxr P Gl (L.take n) s).1 fun s'=>Yg s' (Wq m t (.bool x) (L.drop n) (pxr P Gl (L.take n) s).1):=by intro x h; exact nZ h):Jy P Gl d L s (Up Q):=Oo n hr (Jcb m t E h1 (h2 .mk))
theorem nT{Q:PSt->Prop}{k:Nat}{E W:Bool}{γ:Type}{c:γ}{r:γ×Bool}(_:Pn (.o n m t k p))(_:some (c,W)=some r)[Lf k W E](h2:Pn p->Jy P Gl d ((L.drop n).drop m) (Wq m t (.bool E) (L.drop n) (pxr P Gl (L.take n) s).1) (Up Q))(hr:(pxr P Gl (L.take n) s).2=true:=by kernel_rfl)(h1:∀ x,E=x->Jy P Gl d ((L.drop n).take m) (pxr P Gl (L.take n) s).1 fun s'=>Yg s' (Wq m t (.bool x) (L.drop n) (pxr P Gl (L.take n) s).1):=by intro x h; exact nZ h):Jy P Gl d L s (Up Q):=Oo n hr (Jcb m t E h1 (h2 .mk))
theorem nX{Q:PSt->Prop}{k:Nat}{E W:Bool}{α:Type}{X Y:Option α}{F:α->Option β}(_:Pn (.o n m t k p))(_:(bif W then X else Y).bind F=some r)[Lf k W E](h2:Pn p->Jy P Gl d ((L.drop n).drop m) (Wq m t (.bool E) (L.drop n) (pxr P Gl (L.take n) s).1) (Up Q))(hr:(pxr P Gl (L.take n) s).2=true:=by kernel_rfl)(h1:∀ x,E=x->Jy P Gl d ((L.drop n).take m) (pxr P Gl (L.take n) s).1 fun s'=>Yg s' (Wq m t (.bool x) (L.drop n) (pxr P Gl (L.take n) s).1):=by intro x h; exact nZ h):Jy P Gl d L s (Up Q):=Oo n hr (Jcb m t E h1 (h2 .mk))
theorem nQ{α:Type}{rs:List ResultVar}{v r:α}(V:α->PV)(hv:some v=some r)(h:(Jie P Gl rs s).map (fun x=>(Jda x,Fk (V v) x))=some (true,V v):=by kernel_rfl)(hl:Hr (fun _=>none) (Jqt (V v)) (V v)=true:=by kernel_rfl)(ht:(Wc (V v)).map (fun x=>s.T x.1)=(Wc (V v)).map fun x=>some x.2:=by kernel_rfl):Jj7 P Gl rs (V r) .ret s:=by
 cases hv; exact Kbf h hl ht
end
section
variable {s:PSt} {α β:Type} {Q:Exit->PSt->Prop} {n:Nat} {r:β}
theorem vJp{J:α->JS}{o:α⊕β}{b:β}{ch:List PanicEntry}(hv:some (.inr b)=some o)(h:some b=some r->Q (.panic ch) s):Jh9 J n Q r o (.panic ch) s:=by
 cases hv; exact fun e=>⟨by simp,h e⟩
theorem vJw{J:α->JS}{o:α⊕β}{v:α}{s1:PSt}(hv:some (.inl v)=some o)(hw:Wkr s s1)(hok:(J v).ok=true)(h:(J v).seen s1=(J v).told n):Jh9 J n Q r o .normal s:=by
 cases hv; exact ⟨rfl,hw.trans (.of hok h)⟩
theorem vLp{σ:Type}{J:σ->JS}{J0:α->JS}{id:Nat}{o:σ⊕(α⊕β)}{b:β}{ch:List PanicEntry}(hv:some (.inr (.inr b))=some o)(h:some b=some r->Q (.panic ch) s):Jd5 J J0 n id Q r o (.panic ch) s:=by
 cases hv; exact fun e=>⟨by simp,h e⟩
end
def Kb2 : List (Oper×Gd)->PSt->Nat×Nat×Nat
 | (o,_)::_,s=>match o.op with
  | .indexAddr _ x _=>match s.ev x with
   | .ex tk k _ N _ _=>(tk,k,N)
   | _=>(0,0,0)
  | _=>(0,0,0)
 | _,_=>(0,0,0)
section
variable {P:Program} {Gl:GL} {d:Bool} {L:List (Oper×Gd)} {s:PSt} {Q:PSt->Prop} {β:Type} {r:β} {p:Pl}
theorem nJ{n o m:Nat}{i:Int}{F:Nat->Option β}(_:Pn (.j n p))(h:(Wd o m i).bind F=some r)(k:Pn p->∀ j,F j=some r->Jy P Gl d ((L.drop n).drop 1) ((pxr P Gl (L.take n) s).1.put (Uk (L.drop n)) (.eref (Kb2 (L.drop n) (pxr P Gl (L.take n) s).1).1 (Kb2 (L.drop n) (pxr P Gl (L.take n) s).1).2.1 (Kb2 (L.drop n) (pxr P Gl (L.take n) s).1).2.2 j 0)) Q)(he:Nb P Gl (L.drop n) (pxr P Gl (L.take n) s).1=Jy4 (Kb2 (L.drop n) (pxr P Gl (L.take n) s).1).1 (Kb2 (L.drop n) (pxr P Gl (L.take n) s).1).2.1 (Kb2 (L.drop n) (pxr P Gl (L.take n) s).1).2.2 o m i:=by kernel_rfl)(hr:(pxr P Gl (L.take n) s).2=true:=by kernel_rfl):Jy P Gl d L s Q:=by
 obtain ⟨j,hj,h⟩:=Ve h;exact Oo n hr (Jsb hj he (k .mk j h))
theorem nD{α:Type}[Enc α]{n m f:Nat}{row:Bool}{M:List α}{N j:Nat}{F:α->Option β}(_:Pn (.d n row m f p))(h:(Vd M N j).bind F=some r)(k:Pn p->∀ y,F y=some r->Jy P Gl d ((L.drop n).drop 1) ((pxr P Gl (L.take n) s).1.put (Uk (L.drop n)) ((Jxf row m f (cellsOf y)).getD .any)) Q)(he:Nb P Gl (L.drop n) (pxr P Gl (L.take n) s).1=Jy1 row m f (Enc.k α) N j (M.map cellsOf):=by kernel_rfl)(hv:∀ y:α,Jxf row m f (cellsOf y)=some ((Jxf row m f (cellsOf y)).getD .any):=by intro _; kernel_rfl)(hr:(pxr P Gl (L.take n) s).2=true:=by kernel_rfl):Jy P Gl d L s Q:=by
 obtain ⟨y,hy,h⟩:=Ve h;exact Oo n hr (Jdv hy row m f he (hv y) (k .mk y h))
theorem yst{α:Type}[Enc α]{M:List α}{N j:Nat}{y:α}(n tk:Nat)(y':α)(f m:Nat)(hy:Vd M N j=some y)(h2:Jy P Gl d ((L.drop n).drop 1) (({ (pxr P Gl (L.take n) s).1 with X:=upd (pxr P Gl (L.take n) s).1.X tk (some (Enc.k α,Enc.b α,(M.set j y').map cellsOf)) }:PSt).put (Uk (L.drop n)) .any) Q)(he:Nb P Gl (L.drop n) (pxr P Gl (L.take n) s).1=Jy2 tk (Enc.k α) (Enc.b α) N j f m (Jki m ((cellsOf y').drop f)) (M.map cellsOf):=by kernel_rfl)(hv:(decide (f+m<=(cellsOf y).length),splice (cellsOf y) f (Jki m ((cellsOf y').drop f)))=(true,cellsOf y'):=by kernel_rfl)(hr:(pxr P Gl (L.take n) s).2=true:=by kernel_rfl):Jy P Gl d L s Q :=
 Oo n hr (Klf hy f m _ he hv h2)
end
def gt(s:PSt)(l:List Nat):List (Nat×PV):=l.map fun i=>(i,s.tm.getD i .any)
def gh(s:PSt)(l:List Nat):List (Nat×Ue):=l.map fun i=>(i,(s.H i).getD (.cells []))
def gT(s:PSt)(l:List Nat):List (Nat×(Nat×Nat)):=l.map fun i=>(i,(s.T i).getD (0,0))
def gX(s:PSt)(l:List Nat):List (Nat×(Nat×Nat×List (List PV))):=l.map fun i=>(i,(s.X i).getD (0,0,[]))
theorem zG{P:Program}{Gl:GL}{f:FuncId}{c:Code}{args:List PV}{r:PV}{rs:List ResultVar}(fn:Func)(h:pwp P Gl c (Jj7 P Gl rs r) (st0 args fn.ntmps))(hf:P.funcs[f]? = some fn:=by kernel_rfl)(hname:(fn.name == "runtime.NumGoroutine")=false:=by rfl)(hb:fn.body=some c:=by rfl)(hrs:fn.results.toList=rs:=by rfl)(hflat:args.all Cn=true:=by rfl):Yx P Gl f args r:=Jj2 hf hname hb rfl hrs hflat h
theorem kr{α:Type}{a b:α}(h:a=b:=by kernel_rfl):a=b:=h
def JS.del(J:JS)(l:List Nat):JS:=⟨J.tm.filter fun x=> !(l.any fun y=>y == x.1),J.H,J.T,J.X⟩
section
variable {α β σ:Type} {P:Program} {Gl:GL} {s:PSt} {Q:Exit->PSt->Prop}
theorem uJ{D:Option (α⊕β)}{F:α->Option β}{r:β}{x y:Code}(n:Nat)(J:PSt->α->JS)(h:onInl D F=some r)(h1:∀ o,D=some o->pwp P Gl x (Jh9 (J s) n Q r o) s)(h2:∀ v,F v=some r->pwp P Gl y Q ((J s v).st n)):pwp P Gl (.seq x y) Q s:=by
 obtain ⟨o,hD,h⟩:=Ki0 h;refine Kkf (o:=o) n (J s) (Xs (Q:=Jh9 (J s) n Q r o) (fun e s' hp=>?_) (h1 o hD)) fun v hv=>?_
 ·cases o with
  | inl v=>exact hp
  | inr b=>exact hp h
 ·subst hv; exact h2 v h
theorem uL{step:σ->Option (σ⊕(α⊕β))}{v:σ}{F:α->Option β}{r:β}{c:Code}(n id:Nat)(J:PSt->σ->JS)(J0:PSt->α->JS)(h:onInl (Jp step v) F=some r)(hb:∀ v o,step v=some o->pwp P Gl c (Jd5 (J s) (J0 s) n id Q r o) ((J s v).st n))(h2:∀ v s',F v=some r->Wkr s' ((J0 s v).st n)->Q (.exit id) s')(h0:(J s v).seen s=(J s v).told n:=by kernel_rfl)(hok:∀ v,(J s v).ok=true:=by intro _; kernel_rfl):pwp P Gl (.loop c) Q s:=by
 obtain ⟨o,hD,h⟩:=Ki0 h;refine Kh0 n id (J s) (J0 s) hD h0 hok (fun v o' hv=>Xs (fun e s' hp=>?_) (hb v o' hv)) fun v s' hv hw=>?_
 ·match o' with
  | .inl v'=>exact hp
  | .inr (.inl v)=>exact hp
  | .inr (.inr b)=>exact fun e=>hp (by rw [<- e] at h; exact h)
 ·subst hv; exact h2 v s' h hw
theorem uM{step:Int×α->Option ((Int×α)⊕(α⊕β))}{v:Int×α}{F:α->Option β}{r:β}{c:Code}(n id:Nat)(l:List Nat)(J:PSt->Int×α->JS)(h:onInl (Jp step v) F=some r)(hb:∀ v o,step v=some o->pwp P Gl c (Jd5 (J s) (fun v=>(J s (0,v)).del l) n id Q r o) ((J s v).st n))(h2:∀ v s',F v=some r->Wkr s' (((J s (0,v)).del l).st n)->Q (.exit id) s')(h0:(J s v).seen s=(J s v).told n:=by kernel_rfl)(hok:∀ v,(J s v).ok=true:=by intro _; kernel_rfl):pwp P Gl (.loop c) Q s:=uL n id J (fun s v=>(J s (0,v)).del l) h hb h2 h0 hok
theorem uN{step:Int->Option (Int⊕(Unit⊕β))}{v:Int}{F:Unit->Option β}{r:β}{c:Code}(n id:Nat)(l:List Nat)(J:PSt->Int->JS)(h:onInl (Jp step v) F=some r)(hb:∀ v o,step v=some o->pwp P Gl c (Jd5 (J s) (fun _=>(J s 0).del l) n id Q r o) ((J s v).st n))(h2:∀ v s',F v=some r->Wkr s' (((J s 0).del l).st n)->Q (.exit id) s')(h0:(J s v).seen s=(J s v).told n:=by kernel_rfl)(hok:∀ v,(J s v).ok=true:=by intro _; kernel_rfl):pwp P Gl (.loop c) Q s:=uL n id J (fun s _=>(J s 0).del l) h hb h2 h0 hok
theorem uK{step:α->Option (α⊕(α⊕β))}{v:α}{F:α->Option β}{r:β}{c:Code}(n id:Nat)(l:List Nat)(J:PSt->α->JS)(h:onInl (Jp step v) F=some r)(hb:∀ v o,step v=some o->pwp P Gl c (Jd5 (J s) (fun v=>(J s v).del l) n id Q r o) ((J s v).st n))(h2:∀ v s',F v=some r->Wkr s' (((J s v).del l).st n)->Q (.exit id) s')(h0:(J s v).seen s=(J s v).told n:=by kernel_rfl)(hok:∀ v,(J s v).ok=true:=by intro _; kernel_rfl):pwp P Gl (.loop c) Q s:=uL n id J (fun s v=>(J s v).del l) h hb h2 h0 hok
end
abbrev z1 : Pl:=.e .z
abbrev s1 : Pl:=.e .s
abbrev X1 : Pl:=.e .x
abbrev S1 : Pl:=.e .S
abbrev z2 : Pl:=.e z1
abbrev s2 : Pl:=.e s1
abbrev X2 : Pl:=.e X1
abbrev S2 : Pl:=.e S1
abbrev ec(p q:Pl):Pl:=.e (.c p q)
abbrev ei(n:Nat)(p:Pl):Pl:=.e (.i n p)
abbrev ep(n:Nat)(p:Pl):Pl:=.e (.p n p)
abbrev el(n:Nat)(p:Pl):Pl:=.e (.l n p)
abbrev ew(n:Nat)(p:Pl):Pl:=.e (.w n p)
abbrev ee(p:Pl):Pl:=.e (.e p)
theorem t0 : True:=trivial
def n0 : List Unit:=[]
theorem w1{A B:Prop}{α:Type}(L:List α)(f:Pl)(k:B)(w:Pn f->Ln L->B->A:=by
 intro pl ln k; have h:=h
 with_reducible (repeat' ((fail_if_success rename Pn .S=>q); first
  | refine Qk hs ?_
  | (refine nE pl ?_; clear pl; intro pl)
  | refine Jo ?_
  | refine ySr ?_
  | refine Wp ?_
  | (refine nC pl h ?_ ?_ <;> clear pl h <;> intro pl h)
  | refine Vb ?_
  | refine Wg ?_
  | (refine nG pl h ?_ ?_ <;> clear pl h <;> intro pl h)
  | refine Zk ?_
  | (refine nP pl h ?_; clear pl h; intro pl xx h)
  | (refine nI pl h ?_; clear pl h; intro pl xx h)
  | refine Ko ?_
  | (refine nB pl h ?_ ?_ <;> clear pl h <;> intro pl xx h)
  | (refine nL pl ln ?_; clear pl; intro pl)
  | refine Jl4 ?_
  | refine Jhg ?_
  | refine Jef ?_
  | refine Jjd ?_
  | refine Ui ?_
  | (rename Pn .z=>q; first|refine nQ Enc.pv h|refine vLb h|refine vLe h|refine vJe h|refine nY h|refine nQ (fun (x:_×_)=>.tup [Enc.pv x.1,Enc.pv x.2]) h|refine nQ (Ji _) h|refine nQ (fun (x:_×_)=>.tup [Enc.pv x.1,Ji _ x.2]) h|refine nQ (fun (x:_×_×_)=>.tup [Enc.pv x.1,Enc.pv x.2.1,Enc.pv x.2.2]) h)
  | refine zD ?_
  | (refine vLr h ?_; clear h; intro h)
  | (refine vLx h ?_; clear h; intro h)
  | (refine vJr h ?_; clear h; intro h)
  | (refine vJx h ?_; clear h; intro h)
  | (rename Pn .y=>q; exact nZ (cY h))
  | (refine nW pl h ?_; clear pl h; intro pl xx h)
  | (refine nJ pl h ?_; clear pl h; intro pl xx h)
  | (refine nD pl h ?_; clear pl h; intro pl xx h)
  | (refine nO pl h ?_; clear pl; intro pl)
  | (refine nV pl h ?_; clear pl; intro pl)
  | (refine nX pl h ?_; clear pl; intro pl)
  | (refine nT pl h ?_; clear pl; intro pl)
  | (refine nF pl h ?_ ?_ <;> clear pl h <;> intro pl xx h)
  | refine ySs ?_
  | refine ySb h ?_
  | refine ySc h ?_
  | refine ySv h ?_
  | refine ySl h ?_
  | (rename Pn .x=>pl; have q:=Ve h; clear pl h; obtain ⟨xx,hh,h⟩:=q; have pl:=Pn.mk (p:=.s))))
 all_goals (clear pl; revert h; repeat revert xx)
 try exact k):A:=w .mk .mk k
theorem w6{A B C D E F G:Prop}{α:Type}(L:List α)(f:Pl)(k:B)(l:C)(p:D)(q:E)(u:F)(v:G)(w:Pn f->Ln L->B->C->D->E->F->G->A:=by
 intro pl ln k l p q u v; have h:=h
 with_reducible (repeat' ((fail_if_success rename Pn .S=>q); first
  | refine Qk hs ?_
  | (refine nE pl ?_; clear pl; intro pl)
  | refine Jo ?_
  | refine ySr ?_
  | refine Wp ?_
  | (refine nC pl h ?_ ?_ <;> clear pl h <;> intro pl h)
  | refine Vb ?_
  | refine Wg ?_
  | (refine nG pl h ?_ ?_ <;> clear pl h <;> intro pl h)
  | refine Zk ?_
  | (refine nP pl h ?_; clear pl h; intro pl xx h)
  | (refine nI pl h ?_; clear pl h; intro pl xx h)
  | refine Ko ?_
  | (refine nB pl h ?_ ?_ <;> clear pl h <;> intro pl xx h)
  | (refine nL pl ln ?_; clear pl; intro pl)
  | refine Jl4 ?_
  | refine Jhg ?_
  | refine Jef ?_
  | refine Jjd ?_
  | refine Ui ?_
  | (rename Pn .z=>q; first|refine nQ Enc.pv h|refine vLb h|refine vLe h|refine vJe h|refine nY h|refine nQ (fun (x:_×_)=>.tup [Enc.pv x.1,Enc.pv x.2]) h|refine nQ (Ji _) h|refine nQ (fun (x:_×_)=>.tup [Enc.pv x.1,Ji _ x.2]) h|refine nQ (fun (x:_×_×_)=>.tup [Enc.pv x.1,Enc.pv x.2.1,Enc.pv x.2.2]) h)
  | refine zD ?_
  | (refine vLr h ?_; clear h; intro h)
  | (refine vLx h ?_; clear h; intro h)
  | (refine vJr h ?_; clear h; intro h)
  | (refine vJx h ?_; clear h; intro h)
  | (rename Pn .y=>q; exact nZ (cY h))
  | (refine nW pl h ?_; clear pl h; intro pl xx h)
  | (refine nJ pl h ?_; clear pl h; intro pl xx h)
  | (refine nD pl h ?_; clear pl h; intro pl xx h)
  | (refine nO pl h ?_; clear pl; intro pl)
  | (refine nV pl h ?_; clear pl; intro pl)
  | (refine nX pl h ?_; clear pl; intro pl)
  | (refine nT pl h ?_; clear pl; intro pl)
  | (refine nF pl h ?_ ?_ <;> clear pl h <;> intro pl xx h)
  | refine ySs ?_
  | refine ySb h ?_
  | refine ySc h ?_
  | refine ySv h ?_
  | refine ySl h ?_
  | (rename Pn .x=>pl; have q:=Ve h; clear pl h; obtain ⟨xx,hh,h⟩:=q; have pl:=Pn.mk (p:=.s))))
 all_goals (clear pl; revert h; repeat revert xx)
 try exact k
 try exact l
 try exact p
 try exact q
 try exact u
 try exact v):A:=w .mk .mk k l p q u v
end PM
