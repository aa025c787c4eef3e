/-
 THE PURE MACHINE, R: calls that only read lists and variables that nobody else holds: they return numbers, or a list of numbers in new memory.
-/
import Derived.Test.YtfpoeepcomnjhaaGreatDoorPmQa
namespace PM
open Go Go.RowKit
def bdV(ts:List Nat)(s:PSt)(l:Nat):Option (PV×List (Nat×Nat)):=match s.H l with
 | some (.cells cs)=>match bdL ts s cs with
  | some x=>if x.1.all PV.one=true then some (.cptr x.1,x.2) else none
  | none=>none
 | _=>none
def bdC(ts:List Nat)(s:PSt):PV->Option (PV×List (Nat×Nat))
 | .ref l o=>if o=0 then bdV ts s l else none
 | p=>some (p,[])
def Ka9(ts:List Nat)(s:PSt):List PV->Option (List PV×List (Nat×Nat))
 | []=>some ([],[])
 | p::ps=>match bdC ts s p,Ka9 ts s ps with
  | some a,some b=>some (a.1::b.1,a.2++b.2)
  | _,_=>none
def bdP(ts:List Nat)(s:PSt):PV->Option (PV×List (Nat×Nat))
 | .ref l o=>if o=0 then bdV ts s l else none
 | .fn f caps=>match Ka9 ts s caps with
  | some x=>some (.fn f x.1,x.2)
  | none=>none
 | p=>bdA ts s p
def Ka5(ts:List Nat)(s:PSt):List PV->Option (List PV×List (Nat×Nat))
 | []=>some ([],[])
 | p::ps=>match bdP ts s p,Ka5 ts s ps with
  | some a,some b=>some (a.1::b.1,a.2++b.2)
  | _,_=>none
section
variable {P:Program} {Gl:GL} {S0:Bs} {w0:World} {s:PSt} {a:Act} {g:GG}
theorem Kd.borrowR(h:Kd Gl S0 w0 s a g)(ts:List Nat):∃ S1:Ks,(∀ B o,g.S B o->S1 B o)/\(∀ B o,S1 B o->B<g.w.heap.size)/\(∀ i cs,Gl i=some cs->Fi S1 g.w cs i) /\
  (∀ t,t∈ts->∀ k b xss,s.X t=some (k,b,xss)->∀ v,Tr (g.hd t) xss.length k 0 xss.length v->Js S1 g.w (.lst .frozen k b xss) v)/\∀ l cs o,g.H l=some (.cells cs)->o<cs.length->S1 (g.φ l) o:=by
 obtain ⟨S1,b1,b2,b3,b4⟩:=h.borrow ts;refine ⟨fun B o=>S1 B o\/∃ l cs,g.H l=some (.cells cs)/\B=g.φ l/\o<cs.length,fun B o e=>.inl (b1 B o e), ?_,fun i cs e=>(b3 i cs e).mono (fun _ _ q=>.inl q) (fun _ _ _=>rfl) (fun _ _=>rfl),
  fun t ht k b xss hx v hv=>(b4 t ht k b xss hx v hv).mono (fun _ _ q=>.inl q) (fun _ _ _=>rfl) (fun _ _=>rfl),fun l cs o hl ho=>.inr ⟨l,cs,hl,rfl,ho⟩⟩
 rintro B o (e|⟨l,cs,hl,rfl,_⟩)
 ·exact b2 B o e
 ·exact (h.objs l _ hl).2.1
theorem Jws{ts:List Nat}:∀ {cs:List PV} {q:List PV×List (Nat×Nat)},bdL ts s cs=some q->q.1.length=cs.length
 | [],q,h=>by simp only [bdL] at h; cases h; rfl
 | c::cs,q,h=>by
  simp only [bdL] at h;split at h
  ·rename_i x y e1 e2;cases h;simp [Jws e2]
  ·cases h
theorem Jsr(h:Kd Gl S0 w0 s a g){ts:List Nat}{S1:Ks}(hS:∀ B o,g.S B o->S1 B o)(hb:∀ t,t∈ts->∀ k b xss,s.X t=some (k,b,xss)->∀ v,Tr (g.hd t) xss.length k 0 xss.length v->Js S1 g.w (.lst .frozen k b xss) v)(hl:∀ l cs o,g.H l=some (.cells cs)->o<cs.length->S1 (g.φ l) o){l:Nat}{q:PV×List (Nat×Nat)}(hd:bdV ts s l=some q)(he:q.2.map (·.1)=q.2.map (·.2)):Js S1 g.w q.1 (.pointer (some ⟨g.φ l,0,none⟩)):=by
 unfold bdV at hd;split at hd
 ·rename_i cs hcs;split at hd
  ·rename_i x hx;split at hd
   ·rename_i hone;cases hd;have hcs':g.H l=some (.cells cs):=by rw [h.hH]; exact hcs
    obtain ⟨_,_,_,vs,v1,v2,v3⟩:=h.objs l _ hcs';have hall:=Jnx h hS hb v1 hx he;simp only [Js];refine ⟨g.φ l,0,rfl, ?_⟩;rw [Wp];intro i c hc;obtain ⟨u,hu,hrel⟩:=hall.right hc;refine ⟨aG.1 hone c (aD hc), ?_,u,v2 i u hu,hrel⟩;rw [aV];refine hl l cs i hcs' ?_;have:=(aH.1 hc).1;rw [Jws hx] at this; exact this
   ·cases hd
  ·cases hd
 ·cases hd
theorem Jop(h:Kd Gl S0 w0 s a g){ts:List Nat}{S1:Ks}(hS:∀ B o,g.S B o->S1 B o)(hb:∀ t,t∈ts->∀ k b xss,s.X t=some (k,b,xss)->∀ v,Tr (g.hd t) xss.length k 0 xss.length v->Js S1 g.w (.lst .frozen k b xss) v)(hl:∀ l cs o,g.H l=some (.cells cs)->o<cs.length->S1 (g.φ l) o):∀ {ps:List PV} {q:List PV×List (Nat×Nat)} {vs:List Value},Ke (Xz g) ps vs->Ka9 ts s ps=some q->q.2.map (·.1)=q.2.map (·.2)->Ke (Js S1 g.w) q.1 vs
 | [],q,vs,hr,hd,_=>by
  simp only [Ka9] at hd; cases hd;rw [hr.nil_left]; exact .nil
 | c::cs,q,vs,hr,hd,he=>by
  simp only [Ka9] at hd;split at hd
  ·rename_i x y e1 e2;cases hd;obtain ⟨v,vs',rfl,h1,h2⟩:=hr.cons_left;obtain ⟨he1,he2⟩:=Jqq he;refine .cons ?_ (Jop h hS hb hl h2 e2 he2);cases c
   case ref l o=>
    simp only [bdC] at e1;split at e1
    ·rename_i ho;subst ho;simp only [Xz] at h1;rw [h1.1];exact Jsr h hS hb hl e1 he1
    ·cases e1
   all_goals
    simp only [bdC] at e1;cases e1;simp only [Xz] at h1;exact h1.mono hS (fun _ _ _=>rfl) (fun _ _=>rfl)
  ·cases hd
theorem Jz3(h:Kd Gl S0 w0 s a g){ts:List Nat}{S1:Ks}(hS:∀ B o,g.S B o->S1 B o)(hb:∀ t,t∈ts->∀ k b xss,s.X t=some (k,b,xss)->∀ v,Tr (g.hd t) xss.length k 0 xss.length v->Js S1 g.w (.lst .frozen k b xss) v)(hl:∀ l cs o,g.H l=some (.cells cs)->o<cs.length->S1 (g.φ l) o){p:PV}{q:PV×List (Nat×Nat)}{v:Value}(hr:Rel g p v)(hd:bdP ts s p=some q)(he:q.2.map (·.1)=q.2.map (·.2)):Js S1 g.w q.1 v:=by
 have hA:(∀ vs,p≠.tup vs)->Km g p v:=fun hn=>by cases p <;> first|exact hr|exact absurd rfl (hn _)
 have old:bdA ts s p=some q->Js S1 g.w q.1 v:=fun e=>Jth h hS hb (hA fun vs ev=>by subst ev; simp [bdA,bd1,Bw] at e) e he;cases p
 case ref l o=>
  simp only [bdP] at hd;split at hd
  ·rename_i ho;subst ho;rw [Mi] at hr;obtain ⟨rfl,_⟩:=hr;exact Jsr h hS hb hl hd he
  ·cases hd
 case fn f caps=>
  simp only [bdP] at hd;split at hd
  ·rename_i x hx;cases hd;have hr:Kh g (.fn f caps) v:=hA fun vs ev=>by cases ev
   simp only [Kh] at hr;obtain ⟨arr,rfl,h1⟩:=hr;simp only [Js];exact ⟨arr,rfl,(Vr _ _).2 (Jop h hS hb hl h1 hx he)⟩
  ·cases hd
 all_goals exact old hd
theorem Jpq(h:Kd Gl S0 w0 s a g){ts:List Nat}{S1:Ks}(hS:∀ B o,g.S B o->S1 B o)(hb:∀ t,t∈ts->∀ k b xss,s.X t=some (k,b,xss)->∀ v,Tr (g.hd t) xss.length k 0 xss.length v->Js S1 g.w (.lst .frozen k b xss) v)(hl:∀ l cs o,g.H l=some (.cells cs)->o<cs.length->S1 (g.φ l) o):∀ {ps:List PV} {q:List PV×List (Nat×Nat)} {vs:List Value},Ke (Rel g) ps vs->Ka5 ts s ps=some q->q.2.map (·.1)=q.2.map (·.2)->Ke (Js S1 g.w) q.1 vs
 | [],q,vs,hr,hd,_=>by
  simp only [Ka5] at hd; cases hd;rw [hr.nil_left]; exact .nil
 | c::cs,q,vs,hr,hd,he=>by
  simp only [Ka5] at hd;split at hd
  ·rename_i x y e1 e2;cases hd;obtain ⟨v,vs',rfl,h1,h2⟩:=hr.cons_left;obtain ⟨he1,he2⟩:=Jqq he;exact .cons (Jz3 h hS hb hl h1 e1 he1) (Jpq h hS hb hl h2 e2 he2)
  ·cases hd
def Ro(ts:List Nat):List (Oper×Gd)->PSt->Option (FuncId×List PV×List (Nat×Nat))
 | (o,.always)::_,s=>match Vd o.op with
  | some (x,args)=>match s.ev x with
   | .fn f caps=>if caps.all Db=true then (Ka5 ts s (args.map s.ev++caps)).map fun q=>(f,q) else none
   | _=>none
  | none=>none
 | _,_=>none
theorem Kgl{Ls:List (Oper×Gd)}{f:FuncId}{as:List PV}{o:Oper}{rest:List (Oper×Gd)}(ts:List Nat)(hL:Ls=(o,.always)::rest)(hF:Jsd P f)(h0:(Ro ts Ls s).map (fun x=>(x.1,Oh as x.2.1,x.2.2.map (·.1)))=(Ro ts Ls s).map (fun x=>(f,as,x.2.2.map (·.2))))(hs0:(Ro ts Ls s).isSome=true)(hg:Kd Gl S0 w0 s a g) :
  Jc4 o.op=false/\∃ vs:List Value,(execOp a.eval o).run P g.w=.ok (.enter f vs.toArray) g.w/\∃ S1:Ks,(∀ B o,g.S B o->S1 B o)/\(∀ B o,S1 B o->B<g.w.heap.size)/\(∀ i cs,Gl i=some cs->Fi S1 g.w cs i)/\Ke (Js S1 g.w) as vs:=by
 subst hL;obtain ⟨y0,h⟩:=aJ.1 hs0;rw [h] at h0;obtain ⟨f0,qs,eqs⟩:=y0;simp only [aZ,aO,aK] at h0;obtain ⟨rfl,hdc,heq⟩:=h0;simp only [Ro] at h;split at h
 ·rename_i x args hco;split at h
  ·rename_i f' caps e1;split at h
   ·rename_i hcapok;obtain ⟨qs',e3,h'⟩:=aC.1 h;simp only [aK] at h';obtain ⟨rfl,h'⟩:=h';subst h';obtain ⟨c,hop,hcal,hargs⟩:=Ym hco;obtain ⟨fn,hfn1,hfn2,hfn3⟩:=hF;refine ⟨by rw [hop]; rfl, ?_⟩;have hx:=hg.ev x;rw [e1] at hx;simp only [Rel,Km,Kh] at hx;obtain ⟨arr,hfv,hcaps⟩:=hx;have hcapsR:Ke (Rel g) caps arr.toList:=⟨hcaps.1,fun i p v hp hv=>by
     have h1:=hcaps.2 i p v hp hv;have h2:=aG.1 hcapok p (aD hp);cases p <;> simp only [Db] at h2 <;> try cases h2
     all_goals exact h1⟩
    have hall:Ke (Rel g) (args.map s.ev++caps) (args.map a.eval++arr.toList):=Ke.append ⟨by simp,fun i p v hp hv=>by
     rw [aL] at hp hv;cases hi:args[i]? with
     | none=>rw [hi] at hp; cases hp
     | some y=>rw [hi] at hp hv; cases hp; cases hv; exact hg.ev y⟩ hcapsR
    obtain ⟨S1,b1,b2,b3,b4,b5⟩:=hg.borrowR ts;have hD:=Nd (ps:=as) (Jpq hg b1 b4 b5 hall e3 heq);rw [hdc] at hD;refine ⟨args.map a.eval++arr.toList, ?_,S1,b1,b2,b3,hD⟩;have hname:fn.name ≠ "runtime.NumGoroutine" := by simpa using hfn2
    have hbody:fn.body≠none:=fun e=>by rw [e] at hfn3; cases hfn3
    have hca:c.args.map a.eval++arr=(args.map a.eval++arr.toList).toArray:=cA.1 (by simp [hargs]);simp [execOp,hop,resolve,hcal,hfv,Deferred.ofValue,invoke,callFunc,run_program,hfn1,hname,hbody]
    simpa using hca
   ·cases h
  ·cases h
 ·cases h
theorem Kf4{ts:List Nat}{Ls:List (Oper×Gd)}(hs0:(Ro ts Ls s).isSome=true):∃ o rest,Ls=(o,.always)::rest:=by
 unfold Ro at hs0;split at hs0
 ·exact ⟨_,_,rfl⟩
 ·cases hs0
theorem Kco{Ls:List (Oper×Gd)}{Q:PSt->Prop}{f:FuncId}{as:List PV}{r:PV}(ts:List Nat)(hc:Yr P Gl f as r)(h0:(Ro ts Ls s).map (fun x=>(x.1,Oh as x.2.1,x.2.2.map (·.1)))=(Ro ts Ls s).map (fun x=>(f,as,x.2.2.map (·.2))))(hs0:(Ro ts Ls s).isSome=true)(hs:Jxz r=true)(h2:Ju P Gl false (Ls.drop 1) (s.put (Qk Ls) r) Q):Ju P Gl false Ls s Q:=by
 obtain ⟨o,rest,rfl⟩:=Kf4 hs0
 by_cases hm:Jc4 o.op=false
 ·refine Tn (n:=s) (v:=r) hm ?_ h2;intro S0 w0 a g K Q' hg hK;obtain ⟨_,vs,hrun,S1,b1,b2,b3,hD⟩:=Kgl ts rfl hc.1 h0 hs0 hg;unfold Oper.wp;rw [hrun];refine (hc.2 S1 g.w _ b2 b3 (by simpa using hD)).mono fun e w' he=>?_;obtain ⟨v,g',rfl,rfl,ha⟩:=he;obtain ⟨k1,k2⟩:=hg.grow' ha.below;exact hK v { g with w:=g'.w } k1 k2 (Jnp hs ha.rel)
 ·have:Vd o.op=none:=by cases hop:o.op <;> simp [Jc4,hop] at hm <;> rfl
  simp [Ro,this] at hs0
theorem Jui{S S':Ks}{w w':World}{p:PV}{v:Value}(hs:Jhp p=true)(h:Js S w p v):Js S' w' p v:=by
 cases p <;> simp only [Jhp,aP] at hs <;> (simp only [Js] at h ⊢; exact h)
theorem Kgq{α:Type}[Enc α](hsc:∀ x:α,(cellsOf x).all Jhp=true)(L:List α){S S':Ks}{w w':World}{us:List Value}(h:Ke (fun p v=>Js S w p v/\p.one=true) (L.map cellsOf).flatten us):Ke (fun p v=>Js S' w' p v/\p.one=true) (L.map cellsOf).flatten us:=by
 refine ⟨h.1,fun i p v hp hv=>?_⟩;obtain ⟨h1,h2⟩:=h.2 i p v hp hv;obtain ⟨cs,hcs,hpm⟩:=List.mem_flatten.1 (aD hp);obtain ⟨x,_,rfl⟩:=bT.1 hcs;exact ⟨Jui (aG.1 (hsc x) p hpm) h1,h2⟩
end
end PM
