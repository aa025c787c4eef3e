/-
 THE PURE MACHINE, R: calls that only read lists and variables that nobody else holds: they return numbers, or a list of numbers in new memory.
-/
import Derived.Test.YtfpoeepcomnjhaaGreatDoorPmQa
namespace PM
open Go Go.RowKit
def bdV(ts:List Nat)(s:PSt)(l:Nat):Option (PV×List (Nat×Nat)):=match s.H l with
 | some (.cells cs)=>match bdL ts s cs with
  | some x=>if x.1.all PV.one=true then some (.cptr x.1,x.2) else none
  | none=>none
 | _=>none
def bdC(ts:List Nat)(s:PSt):PV->Option (PV×List (Nat×Nat))
 | .ref l o=>if o=0 then bdV ts s l else none
 | p=>some (p,[])
def Kgc(ts:List Nat)(s:PSt):List PV->Option (List PV×List (Nat×Nat))
 | []=>some ([],[])
 | p::ps=>match bdC ts s p,Kgc ts s ps with
  | some a,some b=>some (a.1::b.1,a.2++b.2)
  | _,_=>none
def bdP(ts:List Nat)(s:PSt):PV->Option (PV×List (Nat×Nat))
 | .ref l o=>if o=0 then bdV ts s l else none
 | .fn f caps=>match Kgc ts s caps with
  | some x=>some (.fn f x.1,x.2)
  | none=>none
 | p=>bdA ts s p
def Kfo(ts:List Nat)(s:PSt):List PV->Option (List PV×List (Nat×Nat))
 | []=>some ([],[])
 | p::ps=>match bdP ts s p,Kfo ts s ps with
  | some a,some b=>some (a.1::b.1,a.2++b.2)
  | _,_=>none
section
variable {P:Program} {Gl:GL} {S0:Bs} {w0:World} {s:PSt} {a:Act} {g:GG}
theorem Kh.borrowR(h:Kh Gl S0 w0 s a g)(ts:List Nat):∃ S1:Qa,(∀ B o,g.S B o->S1 B o)/\(∀ B o,S1 B o->B<g.w.heap.size)/\(∀ i cs,Gl i=some cs->Gw S1 g.w cs i) /\
  (∀ t,t∈ts->∀ k b xss,s.X t=some (k,b,xss)->∀ v,Jba (g.hd t) xss.length k 0 xss.length v->Jv S1 g.w (.lst .frozen k b xss) v)/\∀ l cs o,g.H l=some (.cells cs)->o<cs.length->S1 (g.φ l) o:=by
 obtain ⟨S1,b1,b2,b3,b4⟩:=h.borrow ts;refine ⟨fun B o=>S1 B o\/∃ l cs,g.H l=some (.cells cs)/\B=g.φ l/\o<cs.length,fun B o e=>.inl (b1 B o e), ?_,fun i cs e=>(b3 i cs e).mono (fun _ _ q=>.inl q) (fun _ _ _=>rfl) (fun _ _=>rfl),
  fun t ht k b xss hx v hv=>(b4 t ht k b xss hx v hv).mono (fun _ _ q=>.inl q) (fun _ _ _=>rfl) (fun _ _=>rfl),fun l cs o hl ho=>.inr ⟨l,cs,hl,rfl,ho⟩⟩
 rintro B o (e|⟨l,cs,hl,rfl,_⟩)
 ·exact b2 B o e
 ·exact (h.objs l _ hl).2.1
theorem Kav{ts:List Nat}:∀ {cs:List PV} {q:List PV×List (Nat×Nat)},bdL ts s cs=some q->q.1.length=cs.length
 | [],q,h=>by simp only [bdL] at h; cases h; rfl
 | c::cs,q,h=>by
  simp only [bdL] at h;split at h
  ·rename_i x y e1 e2;cases h;simp [Kav e2]
  ·cases h
theorem Jwo(h:Kh Gl S0 w0 s a g){ts:List Nat}{S1:Qa}(hS:∀ B o,g.S B o->S1 B o)(hb:∀ t,t∈ts->∀ k b xss,s.X t=some (k,b,xss)->∀ v,Jba (g.hd t) xss.length k 0 xss.length v->Jv S1 g.w (.lst .frozen k b xss) v)(hl:∀ l cs o,g.H l=some (.cells cs)->o<cs.length->S1 (g.φ l) o){l:Nat}{q:PV×List (Nat×Nat)}(hd:bdV ts s l=some q)(he:q.2.map (·.1)=q.2.map (·.2)):Jv S1 g.w q.1 (.pointer (some ⟨g.φ l,0,none⟩)):=by
 unfold bdV at hd;split at hd
 ·rename_i cs hcs;split at hd
  ·rename_i x hx;split at hd
   ·rename_i hone;cases hd;have hcs':g.H l=some (.cells cs):=by rw [h.hH]; exact hcs
    obtain ⟨_,_,_,vs,v1,v2,v3⟩:=h.objs l _ hcs';have hall:=Jox h hS hb v1 hx he;simp only [Jv];refine ⟨g.φ l,0,rfl, ?_⟩;rw [Yd];intro i c hc;obtain ⟨u,hu,hrel⟩:=hall.right hc;refine ⟨aK.1 hone c (aC hc), ?_,u,v2 i u hu,hrel⟩;rw [aW];refine hl l cs i hcs' ?_;have:=(aG.1 hc).1;rw [Kav hx] at this; exact this
   ·cases hd
  ·cases hd
 ·cases hd
theorem Jsc(h:Kh Gl S0 w0 s a g){ts:List Nat}{S1:Qa}(hS:∀ B o,g.S B o->S1 B o)(hb:∀ t,t∈ts->∀ k b xss,s.X t=some (k,b,xss)->∀ v,Jba (g.hd t) xss.length k 0 xss.length v->Jv S1 g.w (.lst .frozen k b xss) v)(hl:∀ l cs o,g.H l=some (.cells cs)->o<cs.length->S1 (g.φ l) o):∀ {ps:List PV} {q:List PV×List (Nat×Nat)} {vs:List Value},Kg (Jbr g) ps vs->Kgc ts s ps=some q->q.2.map (·.1)=q.2.map (·.2)->Kg (Jv S1 g.w) q.1 vs
 | [],q,vs,hr,hd,_=>by
  simp only [Kgc] at hd; cases hd;rw [hr.nil_left]; exact .nil
 | c::cs,q,vs,hr,hd,he=>by
  simp only [Kgc] at hd;split at hd
  ·rename_i x y e1 e2;cases hd;obtain ⟨v,vs',rfl,h1,h2⟩:=hr.cons_left;obtain ⟨he1,he2⟩:=Jtt he;refine .cons ?_ (Jsc h hS hb hl h2 e2 he2);cases c
   case ref l o=>
    simp only [bdC] at e1;split at e1
    ·rename_i ho;subst ho;simp only [Jbr] at h1;rw [h1.1];exact Jwo h hS hb hl e1 he1
    ·cases e1
   all_goals
    simp only [bdC] at e1;cases e1;simp only [Jbr] at h1;exact h1.mono hS (fun _ _ _=>rfl) (fun _ _=>rfl)
  ·cases hd
theorem Ker(h:Kh Gl S0 w0 s a g){ts:List Nat}{S1:Qa}(hS:∀ B o,g.S B o->S1 B o)(hb:∀ t,t∈ts->∀ k b xss,s.X t=some (k,b,xss)->∀ v,Jba (g.hd t) xss.length k 0 xss.length v->Jv S1 g.w (.lst .frozen k b xss) v)(hl:∀ l cs o,g.H l=some (.cells cs)->o<cs.length->S1 (g.φ l) o){p:PV}{q:PV×List (Nat×Nat)}{v:Value}(hr:Rel g p v)(hd:bdP ts s p=some q)(he:q.2.map (·.1)=q.2.map (·.2)):Jv S1 g.w q.1 v:=by
 have hA:(∀ vs,p≠.tup vs)->Ks g p v:=fun hn=>by cases p <;> first|exact hr|exact absurd rfl (hn _)
 have old:bdA ts s p=some q->Jv S1 g.w q.1 v:=fun e=>Jw4 h hS hb (hA fun vs ev=>by subst ev; simp [bdA,bd1,Cs] at e) e he;cases p
 case ref l o=>
  simp only [bdP] at hd;split at hd
  ·rename_i ho;subst ho;rw [Oh] at hr;obtain ⟨rfl,_⟩:=hr;exact Jwo h hS hb hl hd he
  ·cases hd
 case fn f caps=>
  simp only [bdP] at hd;split at hd
  ·rename_i x hx;cases hd;have hr:Kk g (.fn f caps) v:=hA fun vs ev=>by cases ev
   simp only [Kk] at hr;obtain ⟨arr,rfl,h1⟩:=hr;simp only [Jv];exact ⟨arr,rfl,(Wj _ _).2 (Jsc h hS hb hl h1 hx he)⟩
  ·cases hd
 all_goals exact old hd
theorem Js4(h:Kh Gl S0 w0 s a g){ts:List Nat}{S1:Qa}(hS:∀ B o,g.S B o->S1 B o)(hb:∀ t,t∈ts->∀ k b xss,s.X t=some (k,b,xss)->∀ v,Jba (g.hd t) xss.length k 0 xss.length v->Jv S1 g.w (.lst .frozen k b xss) v)(hl:∀ l cs o,g.H l=some (.cells cs)->o<cs.length->S1 (g.φ l) o):∀ {ps:List PV} {q:List PV×List (Nat×Nat)} {vs:List Value},Kg (Rel g) ps vs->Kfo ts s ps=some q->q.2.map (·.1)=q.2.map (·.2)->Kg (Jv S1 g.w) q.1 vs
 | [],q,vs,hr,hd,_=>by
  simp only [Kfo] at hd; cases hd;rw [hr.nil_left]; exact .nil
 | c::cs,q,vs,hr,hd,he=>by
  simp only [Kfo] at hd;split at hd
  ·rename_i x y e1 e2;cases hd;obtain ⟨v,vs',rfl,h1,h2⟩:=hr.cons_left;obtain ⟨he1,he2⟩:=Jtt he;exact .cons (Ker h hS hb hl h1 e1 he1) (Js4 h hS hb hl h2 e2 he2)
  ·cases hd
def Xk(ts:List Nat):List (Oper×Gd)->PSt->Option (FuncId×List PV×List (Nat×Nat))
 | (o,.always)::_,s=>match Vx o.op with
  | some (x,args)=>match s.ev x with
   | .fn f caps=>if caps.all Ev=true then (Kfo ts s (args.map s.ev++caps)).map fun q=>(f,q) else none
   | _=>none
  | none=>none
 | _,_=>none
theorem Klu{Ls:List (Oper×Gd)}{f:FuncId}{as:List PV}{o:Oper}{rest:List (Oper×Gd)}(ts:List Nat)(hL:Ls=(o,.always)::rest)(hF:Jv6 P f)(h0:(Xk ts Ls s).map (fun x=>(x.1,Rg as x.2.1,x.2.2.map (·.1)))=(Xk ts Ls s).map (fun x=>(f,as,x.2.2.map (·.2))))(hs0:(Xk ts Ls s).isSome=true)(hg:Kh Gl S0 w0 s a g) :
  Je3 o.op=false/\∃ vs:List Value,(execOp a.eval o).run P g.w=.ok (.enter f vs.toArray) g.w/\∃ S1:Qa,(∀ B o,g.S B o->S1 B o)/\(∀ B o,S1 B o->B<g.w.heap.size)/\(∀ i cs,Gl i=some cs->Gw S1 g.w cs i)/\Kg (Jv S1 g.w) as vs:=by
 subst hL;obtain ⟨y0,h⟩:=aL.1 hs0;rw [h] at h0;obtain ⟨f0,qs,eqs⟩:=y0;simp only [bH,aP,aM] at h0;obtain ⟨rfl,hdc,heq⟩:=h0;simp only [Xk] at h;split at h
 ·rename_i x args hco;split at h
  ·rename_i f' caps e1;split at h
   ·rename_i hcapok;obtain ⟨qs',e3,h'⟩:=aD.1 h;simp only [aM] at h';obtain ⟨rfl,h'⟩:=h';subst h';obtain ⟨c,hop,hcal,hargs⟩:=Zg hco;obtain ⟨fn,hfn1,hfn2,hfn3⟩:=hF;refine ⟨by rw [hop]; rfl, ?_⟩;have hx:=hg.ev x;rw [e1] at hx;simp only [Rel,Ks,Kk] at hx;obtain ⟨arr,hfv,hcaps⟩:=hx;have hcapsR:Kg (Rel g) caps arr.toList:=⟨hcaps.1,fun i p v hp hv=>by
     have h1:=hcaps.2 i p v hp hv;have h2:=aK.1 hcapok p (aC hp);cases p <;> simp only [Ev] at h2 <;> try cases h2
     all_goals exact h1⟩
    have hall:Kg (Rel g) (args.map s.ev++caps) (args.map a.eval++arr.toList):=Kg.append ⟨by simp,fun i p v hp hv=>by
     rw [aN] at hp hv;cases hi:args[i]? with
     | none=>rw [hi] at hp; cases hp
     | some y=>rw [hi] at hp hv; cases hp; cases hv; exact hg.ev y⟩ hcapsR
    obtain ⟨S1,b1,b2,b3,b4,b5⟩:=hg.borrowR ts;have hD:=Ox (ps:=as) (Js4 hg b1 b4 b5 hall e3 heq);rw [hdc] at hD;refine ⟨args.map a.eval++arr.toList, ?_,S1,b1,b2,b3,hD⟩;have hname:fn.name ≠ "runtime.NumGoroutine" := by simpa using hfn2
    have hbody:fn.body≠none:=fun e=>by rw [e] at hfn3; cases hfn3
    have hca:c.args.map a.eval++arr=(args.map a.eval++arr.toList).toArray:=cM.1 (by simp [hargs]);simp [execOp,hop,resolve,hcal,hfv,Deferred.ofValue,invoke,callFunc,run_program,hfn1,hname,hbody]
    simpa using hca
   ·cases h
  ·cases h
 ·cases h
theorem Kl0{ts:List Nat}{Ls:List (Oper×Gd)}(hs0:(Xk ts Ls s).isSome=true):∃ o rest,Ls=(o,.always)::rest:=by
 unfold Xk at hs0;split at hs0
 ·exact ⟨_,_,rfl⟩
 ·cases hs0
theorem Kit{Ls:List (Oper×Gd)}{Q:PSt->Prop}{f:FuncId}{as:List PV}{r:PV}(ts:List Nat)(hc:Yx P Gl f as r)(h0:(Xk ts Ls s).map (fun x=>(x.1,Rg as x.2.1,x.2.2.map (·.1)))=(Xk ts Ls s).map (fun x=>(f,as,x.2.2.map (·.2))))(hs0:(Xk ts Ls s).isSome=true)(hs:Kcd r=true)(h2:Jy P Gl false (Ls.drop 1) (s.put (Uk Ls) r) Q):Jy P Gl false Ls s Q:=by
 obtain ⟨o,rest,rfl⟩:=Kl0 hs0
 by_cases hm:Je3 o.op=false
 ·refine Jay (n:=s) (v:=r) hm ?_ h2;intro S0 w0 a g K Q' hg hK;obtain ⟨_,vs,hrun,S1,b1,b2,b3,hD⟩:=Klu ts rfl hc.1 h0 hs0 hg;unfold Oper.wp;rw [hrun];refine (hc.2 S1 g.w _ b2 b3 (by simpa using hD)).mono fun e w' he=>?_;obtain ⟨v,g',rfl,rfl,ha⟩:=he;obtain ⟨k1,k2⟩:=hg.grow' ha.below;exact hK v { g with w:=g'.w } k1 k2 (Jqa hs ha.rel)
 ·have:Vx o.op=none:=by cases hop:o.op <;> simp [Je3,hop] at hm <;> rfl
  simp [Xk,this] at hs0
theorem Jzr{S S':Qa}{w w':World}{p:PV}{v:Value}(hs:Jkc p=true)(h:Jv S w p v):Jv S' w' p v:=by
 cases p <;> simp only [Jkc,aQ] at hs <;> (simp only [Jv] at h ⊢; exact h)
theorem Kmg{α:Type}[Enc α](hsc:∀ x:α,(cellsOf x).all Jkc=true)(L:List α){S S':Qa}{w w':World}{us:List Value}(h:Kg (fun p v=>Jv S w p v/\p.one=true) (L.map cellsOf).flatten us):Kg (fun p v=>Jv S' w' p v/\p.one=true) (L.map cellsOf).flatten us:=by
 refine ⟨h.1,fun i p v hp hv=>?_⟩;obtain ⟨h1,h2⟩:=h.2 i p v hp hv;obtain ⟨cs,hcs,hpm⟩:=List.mem_flatten.1 (aC hp);obtain ⟨x,_,rfl⟩:=bN.1 hcs;exact ⟨Jzr (aK.1 (hsc x) p hpm) h1,h2⟩
end
end PM
