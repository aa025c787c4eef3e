import Derived.Test.YtfpoeepcomnjhaaGreatDoorPmJ
import Derived.KernelRfl
/-
 THE PURE MACHINE, N: code, loops, whole functions.
-/
namespace PM
open Go Go.RowKit
inductive Gd where
 | always
 | slot (t:Nat) (want:Bool)
 | never
 | bad
def Jd0(ops:Array Oper)(o:Oper):Gd :=
 match o.guard with
 | none=>.always
 | some (j,w)=>match (ops[j]?).bind (·.dst) with
  | some t=>.slot t w
  | none=>.bad
def Jeg(ops:Array Oper):List (Oper×Gd):=ops.toList.map fun o=>(o,Jd0 ops o)
def Be(g:Gd)(s:PSt)(yes no:Prop):Prop :=
 match g with
 | .always=>yes
 | .slot t w=>match s.get t with
  | .bool b=>(b=w->yes)/\(b = !w->no)
  | .tup []=>no
  | _=>False
 | .never=>no
 | .bad=>False
def Jy(P:Program)(Gl:GL)(draw:Bool):List (Oper×Gd)->PSt->(PSt->Prop)->Prop
 | [],s,Q=>Q s
 | (o,gd)::r,s,Q=>Be gd s (Jat P Gl draw o s fun s'=>Jy P Gl draw r s' Q) (Jy P Gl draw r (s.put o.dst (.tup [])) Q)
section
variable {P:Program} {Gl:GL} {S0:Bs} {w0:World} {s:PSt} {a:Act} {g:GG} {w:World}
theorem Rel.und(g:GG):Rel g (.tup []) undef:=by
 simp only [Rel];exact ⟨#[],rfl,.nil⟩
theorem Kh.slotUnd(h:Kh Gl S0 w0 s a g){t:Nat}(hb:s.get t=.tup []):∀ b,a.tmps[t]? ≠ some (.bool b):=by
 intro b hab;have h1:=h.get t;rw [hb] at h1;simp only [Rel] at h1;obtain ⟨arr,h2,_⟩:=h1;rw [cW,hab] at h2;cases h2
theorem Kh.slotBool(h:Kh Gl S0 w0 s a g){t:Nat}{b:Bool}(hb:s.get t=.bool b):a.tmps[t]? = some (.bool b):=by
 have h1:=h.get t;rw [hb,Wy] at h1
 by_cases ht:t<a.tmps.size
 ·rw [Array.getElem?_eq_getElem ht] at *
  simpa [ht] using h1
 ·exfalso;rw [cW,Array.getElem?_eq_none oG] at h1;simp [undef] at h1
theorem Jbe(h:Kh Gl S0 w0 s a g){ops:Array Oper}{o:Oper}{yes no:Prop}(hs:Be (Jd0 ops o) s yes no) :
  (Region.wanted o (yielded ops a.tmps)=true/\yes)\/(Region.wanted o (yielded ops a.tmps)=false/\no):=by
 unfold Be Jd0 at hs;unfold Region.wanted;cases hg:o.guard with
 | none=>simp only [hg] at hs; exact .inl ⟨rfl,hs⟩
 | some jw=>
  obtain ⟨j,want⟩:=jw;simp only [hg] at hs;cases hd:(ops[j]?).bind (·.dst) with
  | none=>simp [hd] at hs
  | some t=>
   simp only [hd] at hs;split at hs
   ·rename_i b hb;have hy:yielded ops a.tmps j=some b:=by
     unfold yielded;rw [hd];simp only [aA];rw [h.slotBool hb]
    simp only [hy];cases b <;> cases want <;> simp_all
   ·rename_i hb;have hy:yielded ops a.tmps j=none:=by
     unfold yielded;rw [hd];simp only [aA];have:=h.slotUnd hb;split
     ·rename_i b hb'; exact absurd hb' (this b)
     ·rfl
    simp only [hy];exact .inr ⟨by simp,hs⟩
   ·exact hs.elim
theorem Jir{ops:Array Oper}{Q':Exit->Act->World->Prop}{Q:PSt->Prop}(hQ:∀ s' a' w',Q s'->Inv Gl S0 w0 s' a' w'->Q' .normal a' w') :
  ∀ (l:List Oper) (s:PSt) (a:Act) (w:World),Inv Gl S0 w0 s a w->Jy P Gl false (l.map fun o=>(o,Jd0 ops o)) s Q->wpList P ops Q' l a w
 | [],s,a,w,h,hp=>hQ s a w hp h
 | o::l,s,a,w,h,hp=>by
  obtain ⟨g,rfl,h⟩:=h;unfold wpList;simp only [bT,Jy] at hp;rcases Jbe h hp with ⟨h1,h2⟩|⟨h1,h2⟩
  ·rw [if_pos h1];exact .inl (Si h h2 fun s' a' w' hs' hi'=>Jir hQ l s' a' w' hi' hs')
  ·rw [if_neg (by rw [h1]; simp)];exact Jir hQ l _ _ _ ⟨g,rfl,h.put _ (Rel.und _)⟩ h2
def pwp(P:Program)(Gl:GL)(c:Code)(Q:Exit->PSt->Prop)(s:PSt):Prop :=
 ∀ (S0:Bs) (w0:World) (a:Act) (w:World),Inv Gl S0 w0 s a w->c.wp P (fun e a' w'=>∃ s',Q e s'/\Inv Gl S0 w0 s' a' w') a w
theorem Zl{c:Code}{Q Q':Exit->Act->World->Prop}(h:∀ e a w,Q e a w->Q' e a w)(hw:c.wp P Q a w):c.wp P Q' a w :=
 fun b k cs=>let ⟨e,a',w',hq,r⟩:=hw b k cs; ⟨e,a',w',h _ _ _ hq,r⟩
section
variable {Q Q':Exit->PSt->Prop} {c x y:Code}
theorem Xs(h:∀ e s,Q e s->Q' e s)(hw:pwp P Gl c Q s):pwp P Gl c Q' s :=
 fun S0 w0 a w hi=>Zl (fun _ _ _ ⟨s',q,i⟩=>⟨s',h _ _ q,i⟩) (hw S0 w0 a w hi)
theorem Vb(h:Q .normal s):pwp P Gl .skip Q s:=fun _ _ _ _ hi=>wp_skip ⟨s,h,hi⟩
theorem Jjd{id:Nat}(h:Q (.exit id) s):pwp P Gl (.exit id) Q s:=fun _ _ _ _ hi=>wp_exit ⟨s,h,hi⟩
theorem Wg(h:Q .ret s):pwp P Gl .ret Q s:=fun _ _ _ _ hi=>wp_ret ⟨s,h,hi⟩
def Joc(P:Program)(Gl:GL)(y:Code)(Q:Exit->PSt->Prop):Exit->PSt->Prop
 | .normal,s=>pwp P Gl y Q s
 | e,s=>Q e s
theorem Kj(h:pwp P Gl x (Joc P Gl y Q) s):pwp P Gl (.seq x y) Q s:=fun S0 w0 a w hi=>
 wp_seq (Zl (fun e _ _ ⟨s',q,i⟩=>by
  cases e <;> simp only [Exit.then]
  case normal=>exact q S0 w0 _ _ i
  all_goals exact ⟨s',q,i⟩) (h S0 w0 a w hi))
theorem Jw2{c:Operand}{b:Bool}(hb:s.ev c=.bool b)(ht:b=true->pwp P Gl x Q s)(hf:b=false->pwp P Gl y Q s):pwp P Gl (.cond c x y) Q s:=fun S0 w0 a w hi=>by
 obtain ⟨g,rfl,hg⟩:=hi;have:=hg.ev c;rw [hb,Wy] at this;exact wp_cond_split this (fun e=>ht e S0 w0 a g.w ⟨g,rfl,hg⟩) (fun e=>hf e S0 w0 a g.w ⟨g,rfl,hg⟩)
theorem Jbi{c:Operand}{e:Bool}(hb:s.ev c=.ub e)(ht:e=true->pwp P Gl x Q s)(hf:pwp P Gl y Q s):pwp P Gl (.cond c x y) Q s:=fun S0 w0 a w hi=>by
 obtain ⟨g,rfl,hg⟩:=hi;have:=hg.ev c;rw [hb] at this;obtain ⟨b,h1,h2⟩:∃ b:Bool,a.eval c=.bool b/\(b=true->e=true):=this;exact wp_cond_split h1 (fun q=>ht (h2 q) S0 w0 a g.w ⟨g,rfl,hg⟩) (fun _=>hf S0 w0 a g.w ⟨g,rfl,hg⟩)
def Jed(id:Nat)(Q:Exit->PSt->Prop):Exit->PSt->Prop
 | .exit id',s=>if id'=id then Q .normal s else Q (.exit id') s
 | e,s=>Q e s
theorem Ko{id:Nat}(h:pwp P Gl c (Jed id Q) s):pwp P Gl (.block id c) Q s:=fun S0 w0 a w hi=>
 wp_block (Zl (fun e a w ⟨s',q,i⟩=>by
  cases e <;> simp only [Exit.inBlock]
  case exit id' =>
   simp only [Jed] at q;split
   ·rename_i h1; rw [if_pos h1] at q; exact ⟨s',q,i⟩
   ·rename_i h1; rw [if_neg h1] at q; exact ⟨s',q,i⟩
  all_goals exact ⟨s',q,i⟩) (h S0 w0 a w hi))
def Kly(I:Nat->PSt->Prop)(n:Nat)(Q:Exit->PSt->Prop):Exit->PSt->Prop
 | .normal,s=>∃ m s',m<n/\I m s'/\Jgv s s'
 | e,s=>Q e s
theorem Kgm(I:Nat->PSt->Prop)(n:Nat){s':PSt}(h0:I n s')(hw:Jgv s s')(hr:∀ n s,I n s->pwp P Gl c (Kly I n Q) s):pwp P Gl (.loop c) Q s:=by
 intro S0 w0 a w hi;have key:∀ n (a:Act) (w:World),(∃ s,I n s/\Inv Gl S0 w0 s a w)->∀ (b:Frame) (k:List Item) (cs:List Frame),
   ∃ e a' w',(∃ s',Q e s'/\Inv Gl S0 w0 s' a' w')/\Arrives P (lone (b.at a (.code c::.inLoop c::k)) cs w) b k cs e a' w':=by
  intro n;induction n using Nat.strongRecOn with
  | _ n ih=>
   rintro a w ⟨s,hI,hi⟩ b k cs;obtain ⟨e,a1,w1,⟨s1,hq,hi1⟩,harr⟩:=hr n s hI S0 w0 a w hi b (.inLoop c::k) cs;cases e with
   | normal=>
    obtain ⟨m,s2,hm,hI2,hw2⟩:=hq;obtain ⟨e2,a2,w2,hq2,harr2⟩:=ih m hm a1 w1 ⟨s2,hI2,hi1.weak hw2⟩ b k cs;exact ⟨e2,a2,w2,hq2,.of_steps (Steps.trans harr (.one step_inLoop)) harr2⟩
   | exit id=>exact ⟨_,a1,w1,⟨s1,hq,hi1⟩,.pass (x:=.inLoop c) rfl (fun _ _=>.inl sG) harr⟩
   | goto l=>exact ⟨_,a1,w1,⟨s1,hq,hi1⟩,.pass (x:=.inLoop c) rfl (fun _ _=>.inl sG) harr⟩
   | ret=>exact ⟨_,a1,w1,⟨s1,hq,hi1⟩,.pass (x:=.inLoop c) rfl (fun _ _=>.inl sG) harr⟩
   | panic ch=>exact ⟨_,a1,w1,⟨s1,hq,hi1⟩,.pass (x:=.inLoop c) rfl (fun _ _=>.inl sG) harr⟩
   | outgrown=>exact ⟨_,a1,w1,⟨s1,hq,hi1⟩,.pass (x:=.inLoop c) rfl (fun _ _=>.inl sG) harr⟩
 intro b k cs;obtain ⟨e,a',w',hq,harr⟩:=key n a w ⟨s',h0,hi.weak hw⟩ b k cs;exact ⟨e,a',w',hq,.of_steps (.one step_loop) harr⟩
end
def Sq(P:Program)(Gl:GL)(s:PSt):List ResultVar->Option (List PV)
 | []=>some []
 | .tmp t::r=>(Sq P Gl s r).map (s.get t::·)
 | .cell x t::r=>match Jdk P Gl s.H s.X t (s.get x),Sq P Gl s r with
  | some p,some ps=>some (p::ps)
  | _,_=>none
def Kbv : PV->Bool
 | .tup _=>false
 | _=>true
def Jmb : List PV->Option PV
 | [x]=>some x
 | vs=>if vs.all Kbv=true then some (.tup vs) else none
def Jqt(r:PV):Nat->Option (Nat×Nat):=fun t=>(Wc r).lookup t
def Mg(P:Program)(Gl:GL)(rs:List ResultVar)(r:PV)(s:PSt):Prop :=
 ∃ vs pv,Sq P Gl s rs=some vs/\Jmb vs=some pv/\WkV (fun _=>none) (Jqt r) pv r/\∀ x∈Wc r,s.T x.1=some x.2
def Jj7(P:Program)(Gl:GL)(rs:List ResultVar)(r:PV):Exit->PSt->Prop
 | .normal,s=>Mg P Gl rs r s
 | .ret,s=>Mg P Gl rs r s
 | _,_=>False
theorem Jj6{t:TypeId}{p r:PV}{v:Value}(he:Jdk P Gl s.H s.X t p=some r)(hv:Rel g p v):∃ ad,v=.pointer (some ad):=by
 cases p <;> simp only [Jdk] at he <;> try cases he
 case eref=>
  simp only [Rel,Ks,Kk] at hv;obtain ⟨⟨B,o,rfl⟩,_⟩:=hv;exact ⟨_,rfl⟩
 ·rw [Oh] at hv; exact ⟨_,hv.1⟩
 ·rw [Sk] at hv; obtain ⟨B,o,e,_⟩:=hv; exact ⟨_,e⟩
 ·rw [Tn] at hv; exact ⟨_,hv⟩
def Ka9(tmps:Array Value):ResultVar->Sem Value
 | .tmp t=>pure (tmps.getD t undef)
 | .cell x t=>do loadVar t (<- asAddr (tmps.getD x undef))
theorem Fp(fn:Func)(tmps:Array Value):results fn tmps=(do
  let vs <- fn.results.mapM (Ka9 tmps)
  pure (if h:vs.size=1 then vs[0] else .tuple vs)):=rfl
theorem Pe(h:Kh Gl S0 w0 s a g):∀ (rs:List ResultVar) (ps:List PV),Sq P Gl s rs=some ps ->
  ∃ vs,(rs.mapM (Ka9 a.tmps)).run P g.w=.ok vs g.w/\Kg (Rel g) ps vs
 | [],ps,he=>by simp only [Sq] at he; cases he; exact ⟨[],by simp,.nil⟩
 | .tmp t::rs,ps,he=>by
  simp only [Sq] at he;obtain ⟨ps',h1,rfl⟩:=aD.1 he;obtain ⟨vs,h2,h3⟩:=Pe h rs ps' h1;exact ⟨_::vs,by simp only [List.mapM_cons,Ka9,Sem.run_bind,Sem.run_pure,h2,Result.andThen_ok],.cons (h.get t) h3⟩
 | .cell x t::rs,ps,he=>by
  simp only [Sq] at he;split at he
  ·rename_i p ps' h1 h2;cases he;obtain ⟨vs,h3,h4⟩:=Pe h rs ps' h2;obtain ⟨z,h5,h6⟩:=Jpq h h1 (h.get x);obtain ⟨ad,had⟩:=Jj6 h1 (h.get x);have h7:(loadVar t ad).run P g.w=.ok z g.w:=by
    rw [had] at h5
    simpa [Instr.loadAt,Instr.sureAddr] using h5
   exact ⟨z::vs,by rw [List.mapM_cons,Sem.run_bind,Ka9,had]; simp only [asAddr,Sem.run_bind,Sem.run_pure,h7,h3,Result.andThen_ok],.cons h6 h4⟩
  ·cases he
theorem Mt{t:Nat}{x:Nat×Nat}:∀ {l:List (Nat×(Nat×Nat))},l.lookup t=some x->(t,x)∈l
 | [],h=>by cases h
 | (t',y)::l,h=>by
  rw [List.lookup_cons] at h;split at h
  ·rename_i he;cases h;have:t=t':=by simpa using he
   subst this; simp
  ·exact eA _ (Mt h)
theorem Jdj{t:Nat}{x:Nat×Nat}:∀ {l:List (Nat×(Nat×Nat))},(∀ y∈l,y.1=t->y.2=x)->(t,x)∈l->l.lookup t=some x
 | [],_,h=>by cases h
 | (t',y)::l,hf,h=>by
  rw [List.lookup_cons];split
  ·rename_i he;have:t=t':=by simpa using he
   subst this;exact congrArg some (hf (t,y) sG rfl)
  ·rename_i he;rcases bD.1 h with h|h
   ·cases h; simp at he
   ·exact Jdj (fun y hy=>hf y (by simp [hy])) h
theorem Jeh{ps:List PV}{pv:PV}{vs:List Value}(h:Jmb ps=some pv)(hr:Kg (Rel g) ps vs):Rel g pv (if h:vs.toArray.size=1 then vs.toArray[0] else .tuple vs.toArray):=by
 unfold Jmb at h;split at h
 ·rename_i x;cases h;obtain ⟨v,vs',rfl,h1,h2⟩:=hr.cons_left;rw [h2.nil_left]
  simpa using h1
 ·rename_i hne;split at h
  ·rename_i hall;cases h;have hlen:¬ vs.toArray.size=1:=by
    intro e;have:ps.length=1:=by rw [hr.1]; simpa using e
    match ps,this,hne with
    | [x],_,hne=>exact hne x rfl
   rw [dif_neg hlen];simp only [Rel];refine ⟨_,rfl,hr.1,fun i x y hx hy=>?_⟩;have h1:=hr.2 i x y hx hy;have h2:=aK.1 hall x (aC hx);cases x <;> first|exact h1|(simp [Kbv] at h2)
  ·cases h
def Cn : PV->Bool
 | .agg cs=>cs.all PV.one
 | .tup _=>false
 | .any=>false
 | _=>true
theorem Rel.ofData{p:PV}{v:Value}(h:Jv g.S g.w p v)(hf:Cn p=true):Rel g p v:=by
 cases p
 case agg cs=>
  simp only [Jv] at h;obtain ⟨arr,h1,h2⟩:=h;simp only [Rel,Ks];refine ⟨arr,h1,((Wj _ _).1 h2).1,fun i x y hx hy=>?_⟩;have h3:=((Wj _ _).1 h2).2 i x y hx hy;have h4:=aK.1 hf x (aC hx);exact ⟨.of_data h3 h4,(h3.oneCell h4).1⟩
 case tup vs=>simp [Cn] at hf
 case any=>simp [Cn] at hf
 all_goals exact .of1 (.of_data h rfl)
def st0(args:List PV)(n:Nat):PSt:=⟨args++List.replicate (n - args.length) .any,fun _=>none,fun _=>none,fun _=>none,0⟩
theorem Jj2{f:FuncId}{fn:Func}{c:Code}{args:List PV}{r:PV}{n:Nat}{rs:List ResultVar}(hf:P.funcs[f]? = some fn)(hname:(fn.name == "runtime.NumGoroutine")=false)(hb:fn.body=some c)(hn:fn.ntmps=n)(hrs:fn.results.toList=rs)(hflat:args.all Cn=true)(h:pwp P Gl c (Jj7 P Gl rs r) (st0 args n)):Yx P Gl f args r:=by
 refine ⟨⟨fn,hf,hname,by rw [hb]; rfl⟩,fun S w vs hS hglob hargs=>?_⟩;subst hn; subst hrs;refine calls_of_wp hf hb ?_;have hsz:args.length=vs.size:=by rw [hargs.1]; simp
 have hinit:Inv Gl ⟨S,fun _ _=>False,fun _ _ _=>False,[],[]⟩ w (st0 args fn.ntmps) { tmps:=vs++Array.replicate (fn.ntmps - vs.size) undef,defers:=[] } w:=by
  refine ⟨⟨S,w,fun _=>0,fun _=>undef,fun _=>none,fun _=>none⟩,rfl,{ hH:=rfl,hT:=rfl,defers:=rfl,len:=by simp [st0,hsz],tm:=fun i p v hp hv=>?_,sub:=fun _ _ h=>h,new:=fun _ _ h=>.inl h,lt:=hS,below:=Wr.refl _ _,objs:=(fun l ob e=>by cases e),inj:=(fun l l' e=>by cases e),owns:=(fun t n k e=>by cases e),ownsEx:=(fun t t' B hs=>by obtain ⟨_,_,_,_,e,_⟩:=hs; cases e),ownsObj:=(fun t B l hs=>by obtain ⟨_,_,_,_,e,_⟩:=hs; cases e),glob:=hglob,exs:=(fun t k b xss e=>by cases e),exsEx:=(fun t t' B hs=>by have:=hs.1; cases this),fix:=fun _ _ e=>e.elim,fixT:=fun _ _ _ e=>e.elim }⟩;simp only [st0] at hp;simp only [bE,cB] at hv;rw [aU] at hp
  by_cases hi:i<args.length
  ·rw [if_pos hi] at hp;rw [cN oG] at hv;exact Rel.ofData (g:=⟨S,w,_,_,_,_⟩) (hargs.2 i p v hp (by simpa using hv)) (aK.1 hflat p (aC hp))
  ·rw [if_neg hi,cE] at hp;split at hp
   ·cases hp; trivial
   ·cases hp
 refine Zl (fun e a' w' hq=>?_) (h ⟨S,fun _ _=>False,fun _ _ _=>False,[],[]⟩ w _ w hinit);obtain ⟨s',hq,g,rfl,hg⟩:=hq;have fin:Mg P Gl fn.results.toList r s'->a'.defers=[]/\∃ v,(results fn a'.tmps).run P g.w=.ok v g.w/\∃ v_1 g',Ending.returned v=.returned v_1/\g'.w=g.w/\Gf S w r v_1 g':=by
  rintro ⟨ps,pv,h1,h2,h3,h4⟩;refine ⟨hg.defers, ?_⟩;obtain ⟨us,r1,r2⟩:=Pe hg _ _ h1;have hcut:Cut g (fun _=>none) (Jqt r):=⟨fun t x hx=>by
   have:=h4 _ (Mt hx);rw [hg.hT]; exact this,fun l cs _ e=>(by cases e)⟩
  refine ⟨_, ?_,_,{ g with H:=fun _=>none,T:=Jqt r },rfl,rfl,⟨hg.below.toBelow (fun _ e=>e.elim (fun q=>q.elim fun _ q=>q) fun q=>by obtain ⟨_,_,_,q,_⟩:=q; exact q),hg.sub,fun B o hB=>(hg.new B o hB).imp id fun e=>⟨e.resolve_right (fun e=>e.elim (fun q=>q.elim fun _ q=>q) fun q=>by obtain ⟨_,_,_,q,_⟩:=q; exact q),hg.lt B o hB⟩,fun _=>rfl,fun t n k=>⟨fun e=>Mt e,fun e=>Jdj (fun y hy hyt=>?_) e⟩,(Jeh h2 r2).weak hcut h3,fun t n k e=>hg.owns t n k (hcut.T t _ e),fun t t' B hs hs'=>?_⟩⟩
  ·rw [Fp,cF];simp only [Sem.run_bind,Sem.run_map,r1,Result.andThen_ok,Sem.run_pure]
  ·have e1:=h4 y hy;have e2:=h4 _ e;rw [hyt] at e1;rw [e1] at e2
   simpa using e2
  ·obtain ⟨n,k,off,cap,e1,e2,e3⟩:=hs;obtain ⟨n',k',off',cap',e1',e2',e3'⟩:=hs';exact hg.ownsEx t t' B ⟨n,k,off,cap,hcut.T t _ e1,e2,e3⟩ ⟨n',k',off',cap',hcut.T t' _ e1',e2',e3'⟩
 cases e with
 | normal=>exact fin hq
 | ret=>exact fin hq
 | exit id=>exact hq.elim
 | goto l=>exact hq.elim
 | panic ch=>exact hq.elim
 | outgrown=>exact hq.elim
end
end PM
namespace PM
open Go Go.RowKit
def pxr(P:Program)(Gl:GL):List (Oper×Gd)->PSt->PSt×Bool
 | [],s=>(s,true)
 | (o,.always)::r,s=>match Vx o.op with
  | none=>match evO P Gl o.dst o.op s.ev s.H s.T s.X with
   | some (v,e)=>pxr P Gl r ((e.app s).put o.dst v)
   | none=>(s,false)
  | some _=>(s,false)
 | (o,.never)::r,s=>pxr P Gl r (s.put o.dst (.tup []))
 | (o,.slot t _)::r,s=>match s.get t with
  | .tup []=>pxr P Gl r (s.put o.dst (.tup []))
  | _=>(s,false)
 | (_,.bad)::_,s=>(s,false)
section
variable {P:Program} {Gl:GL} {d:Bool} {L:List (Oper×Gd)} {s:PSt} {Q:PSt->Prop}
theorem Jgm : ∀ (l1 l2:List (Oper×Gd)) (s:PSt),(pxr P Gl l1 s).2=true->Jy P Gl d l2 (pxr P Gl l1 s).1 Q->Jy P Gl d (l1++l2) s Q
 | [],l2,s,_,h=>h
 | (o,.always)::r,l2,s,h1,h2=>by
  simp only [bO,Jy,Be];refine .inl ?_;simp only [Xp];unfold pxr at h1 h2;cases hc:Vx o.op with
  | some y=>simp [hc] at h1
  | none=>
   simp only [hc] at h1 h2 ⊢;cases he:evO P Gl o.dst o.op s.ev s.H s.T s.X with
   | none=>simp [he] at h1
   | some y=>
    simp only [he] at h1 h2 ⊢;exact ⟨y,rfl,Jgm r l2 _ h1 h2⟩
 | (o,.never)::r,l2,s,h1,h2=>by
  simp only [bO,Jy,Be];exact Jgm r l2 _ h1 h2
 | (o,.slot t w)::r,l2,s,h1,h2=>by
  simp only [bO,Jy,Be];unfold pxr at h1 h2;split at h1
  ·rename_i hu;simp only [hu] at h2 ⊢;exact Jgm r l2 _ h1 h2
  ·cases h1
 | (o,.bad)::r,l2,s,h1,h2=>by simp [pxr] at h1
theorem Oo(n:Nat)(h:(pxr P Gl (L.take n) s).2=true)(h2:Jy P Gl d (L.drop n) (pxr P Gl (L.take n) s).1 Q):Jy P Gl d L s Q:=by
 have:=Jgm (d:=d) (Q:=Q) (L.take n) (L.drop n) s h h2
 rwa [bB] at this
theorem Kiy(h:(pxr P Gl L s).2=true)(h2:Q (pxr P Gl L s).1):Jy P Gl d L s Q:=by
 have:=Jgm (d:=d) (Q:=Q) L [] s h h2
 rwa [bE] at this
def Nb(P:Program)(Gl:GL):List (Oper×Gd)->PSt->Option (PV×Eff)
 | (o,.always)::_,s=>match Vx o.op with
  | none=>evO P Gl o.dst o.op s.ev s.H s.T s.X
  | some _=>none
 | _,_=>none
def Uk : List (Oper×Gd)->Option Nat
 | (o,_)::_=>o.dst
 | []=>none
theorem Cu{v:PV}{e:Eff}(h:Nb P Gl L s=some (v,e))(h2:Jy P Gl d (L.drop 1) ((e.app s).put (Uk L) v) Q):Jy P Gl d L s Q:=by
 match L,h,h2 with
 | (o,.always)::r,h,h2=>
  simp only [Nb] at h;simp only [Jy,Be];refine .inl ?_;simp only [Xp];cases hc:Vx o.op with
  | some y=>simp [hc] at h
  | none=>simp only [hc] at h ⊢; exact ⟨(v,e),h,h2⟩
def Ea(p q:PV):PV :=
 match p with
 | .any=>.any
 | .lst .frozen k b _=>match q with
  | .lst (.own _) k b xss=>.lst .frozen k b xss
  | .lst .full k b xss=>.lst .frozen k b xss
  | .nil=>.lst .frozen k b []
  | q=>q
 | .lst .full k b _=>match q with
  | .nil=>.lst .full k b []
  | q=>q
 | _=>q
def Jcr : List PV->List PV->List PV
 | p::ps,q::qs=>Ea p q::Jcr ps qs
 | _,qs=>qs
def Le(p q:PV):PV :=
 match p with
 | .agg ps=>match q with
  | .agg qs=>.agg (Jcr ps qs)
  | q=>q
 | p=>Ea p q
def Jbn : List PV->List PV->List PV
 | p::ps,q::qs=>Le p q::Jbn ps qs
 | _,qs=>qs
def Fk(p q:PV):PV :=
 match p with
 | .tup ps=>match q with
  | .tup qs=>.tup (Jbn ps qs)
  | q=>q
 | p=>Le p q
def Juq(p q:Ue):Ue :=
 match p with
 | .cells ps=>match q with
  | .cells qs=>.cells (Jcr ps qs)
  | q=>q
 | .map _=>q
 | .iter _ _=>q
 | .miter _ _ _ _=>q
 | .mapo _ _ _ _=>q
section
variable {H:Nat->Option Ue} {T:Nat->Option (Nat×Nat)}
theorem Jre(p q:PV):Ea p q=q\/Wk1 H T q (Ea p q):=by
 unfold Ea;split
 ·exact .inr (.any _)
 ·split
  ·exact .inr (.thaw _ _ _ _)
  ·exact .inr (.full _ _ _)
  ·exact .inr (.nil _ _ _ (.inl rfl))
  ·exact .inl rfl
 ·split
  ·exact .inr (.nil _ _ _ (.inr rfl))
  ·exact .inl rfl
 ·exact .inl rfl
theorem Jqf{p q:PV}(h:Pa H T (Ea p q)=true):Wk1 H T q (Ea p q):=by
 rcases Jre (H:=H) (T:=T) p q with e|e
 ·rw [e] at h ⊢; exact .same _ h
 ·exact e
theorem Jil : ∀ {ps qs:List PV},(Jcr ps qs).all (Pa H T)=true->Kg (Wk1 H T) qs (Jcr ps qs)
 | p::ps,q::qs,h=>by
  simp only [Jcr,List.all_cons,aI] at h ⊢;exact .cons (Jqf h.1) (Jil h.2)
 | [],qs,h=>by
  simp only [Jcr] at h ⊢;exact ⟨rfl,fun i x y hx hy=>by rw [hx] at hy; cases hy; exact .same _ (aK.1 h x (aC hx))⟩
 | p::ps,[],h=>by simp only [Jcr]; exact .nil
theorem Wk1.wkA{p q:PV}(h:Wk1 H T p q)(hp:∀ vs,p≠.tup vs)(hq:∀ cs,p=.agg cs->q=.any):WkA H T p q:=by
 cases h with
 | any=>exact .any _
 | same _ h=>
  refine .same _ ?_ hp;cases p <;> first|exact h|(have:=hq _ rfl; cases this)
 | thaw=>exact .thaw _ _ _ _
 | full=>exact .full _ _ _
 | nil o k b ho=>exact .nil _ _ _ ho
theorem Jwl(p:PV)(cs:List PV):Ea p (.agg cs)=.agg cs\/p=.any:=by
 unfold Ea;split
 ·exact .inr rfl
 all_goals exact .inl rfl
theorem Jme(p q:PV):Ea p q=q\/Ea p q=.any\/(Ea p q).one=true:=by
 unfold Ea;split
 ·exact .inr (.inl rfl)
 ·split <;> first|exact .inr (.inr rfl)|exact .inl rfl
 ·split <;> first|exact .inr (.inr rfl)|exact .inl rfl
 ·exact .inl rfl
theorem Kfn{p:PV}(h:p.one=true\/p=.any):Jcf H T p=Pa H T p:=by
 cases p <;> first|rfl|(rcases h with h|h <;> cases h)
theorem Jw7{p q:PV}(hq:∀ vs,q≠.tup vs)(h:Jcf H T (Ea p q)=true):WkA H T q (Ea p q):=by
 rcases Jme p q with e|e|e
 ·rw [e] at h ⊢; exact .same _ h hq
 ·rw [e]; exact .any _
 ·rw [Kfn (.inl e)] at h;refine Wk1.wkA (Jqf h) hq fun cs hc=>?_;subst hc;rcases Jwl p cs with e'|rfl
  ·rw [e'] at e; cases e
  ·rfl
theorem Jpm{p q:PV}(hq:∀ vs,q≠.tup vs)(h:Jcf H T (Le p q)=true):WkA H T q (Le p q):=by
 cases p
 case agg ps=>
  cases q
  case agg qs=>
   simp only [Le,Jcf] at h ⊢;exact .agg _ _ (Jil h)
  all_goals (simp only [Le] at h ⊢; exact .same _ h hq)
 all_goals (simp only [Le] at h ⊢; exact Jw7 hq h)
theorem Jmg : ∀ {ps qs:List PV},(∀ q∈qs,∀ vs,q≠.tup vs)->(Jbn ps qs).all (Jcf H T)=true->Kg (WkA H T) qs (Jbn ps qs)
 | p::ps,q::qs,hq,h=>by
  simp only [Jbn,List.all_cons,aI] at h ⊢;exact .cons (Jpm (hq q sG) h.1) (Jmg (fun q hq'=>hq q (by simp [hq'])) h.2)
 | [],qs,hq,h=>by
  simp only [Jbn] at h ⊢;exact ⟨rfl,fun i x y hx hy=>by rw [hx] at hy; cases hy; exact .same _ (aK.1 h x (aC hx)) (hq x (aC hx))⟩
 | p::ps,[],hq,h=>by simp only [Jbn]; exact .nil
def Jda : PV->Bool
 | .tup vs=>vs.all Kbv
 | _=>true
theorem Kf0{q:PV}(h:Kbv q=true)(vs:List PV):q≠.tup vs:=fun e=>by subst e; cases h
theorem Jy8{p q:PV}(hq:∀ vs,q≠.tup vs)(vs:List PV):Le p q≠.tup vs:=by
 intro hz;have other:∀ p,Ea p q≠.tup vs:=fun p hz=>by
  rcases Jme p q with e|e|e
  ·exact hq vs (e.symm.trans hz)
  ·rw [hz] at e; cases e
  ·rw [hz] at e; cases e
 cases p
 case agg ps=>
  cases q
  case tup vs'=>exact hq vs' rfl
  all_goals (simp only [Le] at hz; cases hz)
 all_goals (simp only [Le] at hz; exact other _ hz)
theorem Jck{p q:PV}(hn:Jda q=true)(h:Hr H T (Fk p q)=true):WkV H T q (Fk p q):=by
 have other:∀ p:PV,(∀ vs,q≠.tup vs)->Hr H T (Le p q)=true->WkV H T q (Le p q):=fun p hq h=>by
  refine .part _ _ (Jpm hq ?_);have hne:=Jy8 (p:=p) hq;generalize Le p q=z at h hne;cases z
  case tup vs=>exact absurd rfl (hne vs)
  all_goals exact h
 by_cases hq:∃ vs,q=.tup vs
 ·obtain ⟨qs,rfl⟩:=hq
  by_cases hp:∃ ps,p=.tup ps
  ·obtain ⟨ps,rfl⟩:=hp;simp only [Fk,Hr] at h ⊢;exact .tup _ _ (Jmg (fun q hq=>Kf0 (aK.1 hn q hq)) h)
  ·by_cases ha:p=.any
   ·subst ha; exact .any _
   ·have e:Fk p (.tup qs)=.tup qs:=by
     cases p <;> first|exact absurd rfl ha|exact absurd ⟨_,rfl⟩ hp|rfl|skip
     rename_i o k b xss;cases o <;> rfl
    rw [e] at h ⊢;exact .same _ h
 ·have hq':∀ vs,q≠.tup vs:=fun vs e=>hq ⟨vs,e⟩;cases p
  case tup ps=>
   have e:Fk (.tup ps) q=q:=by cases q <;> first|rfl|exact absurd rfl (hq' _)
   rw [e] at h ⊢;exact .same _ h
  all_goals (simp only [Fk] at h ⊢; exact other _ hq' h)
end
end
end PM
namespace PM
open Go Go.RowKit
structure JS where
 tm:List (Nat×PV)
 H:List (Nat×Ue)
 T:List (Nat×(Nat×Nat))
 X:List (Nat×(Nat×Nat×List (List PV)))
def Jcm{α:Type}(l:List (Nat×α)):Nat->Option α:=fun i=>l.lookup i
def Jif(l:List (Nat×PV)):Nat->Nat->List PV
 | 0,_=>[]
 | n+1,i=>(l.lookup i).getD .any::Jif l n (i+1)
def JS.st(n:Nat)(j:JS):PSt:=⟨Jif j.tm (n % 100000) 0,Jcm j.H,Jcm j.T,Jcm j.X,n / 100000⟩
def Jfb(H:Nat->Option Ue)(T:Nat->Option (Nat×Nat)):Ue->Bool
 | .cells cs=>cs.all (Pa H T)
 | .map _=>true
 | .iter _ _=>true
 | .miter _ _ _ _=>true
 | .mapo _ _ _ _=>false
def JS.ok(j:JS):Bool:=(j.tm.all fun x=>Hr (Jcm j.H) (Jcm j.T) x.2)&&(j.H.all fun x=>Jfb (Jcm j.H) (Jcm j.T) x.2)&&(j.X.all fun x=>(Jcm j.T x.1).isSome)
def JS.seen(j:JS)(s:PSt):(Nat×Nat)×Bool×List PV×List (Option Ue)×List (Option (Nat×Nat))×List (Option (Nat×Nat×List (List PV))) :=
 ((s.tm.length,s.m),j.tm.all (fun x=>Jda (s.tm.getD x.1 .any)),j.tm.map (fun x=>Fk x.2 (s.tm.getD x.1 .any)),j.H.map (fun x=>(s.H x.1).map (Juq x.2)),j.T.map (fun x=>s.T x.1),j.X.map fun x=>s.X x.1)
def JS.told(n:Nat)(j:JS):(Nat×Nat)×Bool×List PV×List (Option Ue)×List (Option (Nat×Nat))×List (Option (Nat×Nat×List (List PV))) :=
 ((n % 100000,n / 100000),true,j.tm.map (·.2),j.H.map (fun x=>some x.2),j.T.map (fun x=>some x.2),j.X.map fun x=>some x.2)
section
variable {P:Program} {Gl:GL} {s:PSt} {n:Nat} {j:JS}
theorem Ok{α:Type}{l:List (Nat×α)}{i:Nat}{x:α}(h:l.lookup i=some x):(i,x)∈l:=by
 induction l with
 | nil=>cases h
 | cons y l ih=>
  obtain ⟨k,y⟩:=y;rw [List.lookup_cons] at h
  by_cases e:i == k
  ·rw [e] at h; simp at h; have:i=k:=by simpa using e
   subst this; subst h; simp
  ·simp [e] at h; exact eA _ (ih h)
theorem Jdf(l:List (Nat×PV)):∀ (n i:Nat),(Jif l n i).length=n
 | 0,_=>rfl
 | n+1,i=>by simp [Jif,Jdf l n]
theorem Jid(l:List (Nat×PV)):∀ (n i k:Nat),k<n->(Jif l n i)[k]? = some ((l.lookup (i+k)).getD .any)
 | 0,_,_,h=>by omega
 | n+1,i,0,_=>by simp [Jif]
 | n+1,i,k+1,h=>by
  simp only [Jif,dI];rw [Jid l n (i+1) k oG,show i+1+k=i+(k+1) by omega]
theorem Jqc{H:Nat->Option Ue}{T:Nat->Option (Nat×Nat)}{p q:Ue}(h:Jfb H T (Juq p q)=true):WkO H T q (Juq p q):=by
 have same:∀ q,Jfb H T q=true->WkO H T q q:=fun q h=>by
  cases q with
  | cells cs=>exact .cells _ _ ⟨rfl,fun i x y hx hy=>by rw [hx] at hy; cases hy; exact .same _ (aK.1 h x (aC hx))⟩
  | map es=>exact .map _
  | iter b pos=>exact .iter _ _
  | miter ks vs left cur=>exact .miter _ _ _ _
  | mapo es k b tk=>cases h
 cases p with
 | cells ps=>
  cases q with
  | cells qs=>exact .cells _ _ (Jil h)
  | map es=>exact same _ h
  | iter b pos=>exact same _ h
  | miter ks vs left cur=>exact same _ h
  | mapo es k b tk=>exact same _ h
 | map es=>exact same _ h
 | iter b pos=>exact same _ h
 | miter ks vs left cur=>exact same _ h
 | mapo es k b tk=>exact same _ h
theorem Jad{α β:Type}{f g:α->β}:∀ {l:List α},l.map f=l.map g->∀ x∈l,f x=g x
 | [],_,x,hx=>by cases hx
 | y::l,h,x,hx=>by
  simp only [bT,eN] at h;rcases bD.1 hx with rfl|hx
  ·exact h.1
  ·exact Jad h.2 x hx
theorem JS.weaker(hok:j.ok=true)(h:j.seen s=j.told n):Jgv s (j.st n):=by
 simp only [JS.seen,JS.told,aM] at h;obtain ⟨h1,h2,h3,h4,h5,h6'⟩:=h;simp only [JS.ok,aI] at hok;obtain ⟨hok,hokX⟩:=hok;have hn1:n % 100000=s.tm.length:=h1.1.symm;have hn2:n / 100000=s.m:=h1.2.symm;refine ⟨⟨by simp [JS.st,Jdf,hn1],fun i q p hq hp=>?_⟩,fun l ob' hob=>?_,fun t x hx=>?_,fun t x hx=>⟨Jad h6' _ (Ok hx),aK.1 hokX _ (Ok hx)⟩,hn2⟩
 ·have hi:i<n % 100000:=by rw [hn1]; exact (aG.1 hq).1
  simp only [JS.st] at hp;rw [Jid _ _ _ _ hi,aW] at hp;cases hl:j.tm.lookup i with
  | none=>rw [hl] at hp; cases hp; exact .any _
  | some p' =>
   rw [hl] at hp;have hpp:p'=p:=by simpa using hp
   subst hpp;have hm:=Ok hl;have e:=Jad h3 _ hm;have hg:s.tm.getD i .any=q:=by rw [bQ,hq]; rfl
   simp only [hg] at e;have hn:=aK.1 h2 _ hm;have hlive:=aK.1 hok.1 _ hm;simp only [hg] at hn;have:=Jck (p:=p') (q:=q) (H:=Jcm j.H) (T:=Jcm j.T) hn (by rw [e]; exact hlive)
   rwa [e] at this
 ·have hm:=Ok hob;have e:=Jad h4 _ hm;obtain ⟨ob,h6,h7⟩:=aD.1 e;refine ⟨ob,h6, ?_⟩;have:=Jqc (p:=ob') (q:=ob) (H:=Jcm j.H) (T:=Jcm j.T) (by rw [h7]; exact aK.1 hok.2 _ hm)
  rwa [h7] at this
 ·exact Jad h5 _ (Ok hx)
section
variable {Q:Exit->PSt->Prop} {x y:Code} {id k:Nat}
theorem Jo(h:pwp P Gl y Q s):Joc P Gl y Q .normal s:=h
theorem Jef(h:Q (.exit k) s):Joc P Gl y Q (.exit k) s:=h
theorem Zk(h:Q .ret s):Joc P Gl y Q .ret s:=h
theorem Jhg(h:Q .normal s):Jed id Q .normal s:=h
theorem Jl4(h:Q .ret s):Jed id Q .ret s:=h
theorem Ui(h:Q .normal s):Jed id Q (.exit id) s:=by simpa [Jed] using h
theorem Jus(hk:(k == id)=false)(h:Q (.exit k) s):Jed id Q (.exit k) s:=by
 have:k≠id:=by simpa using hk
 simpa [Jed,this] using h
theorem Jb3{c:Operand}{b:Bool}(hb:b=true)(h:s.ev c=.bool b)(hp:pwp P Gl x Q s):pwp P Gl (.cond c x y) Q s:=Jw2 h (fun _=>hp) (fun e=>by rw [hb] at e; cases e)
theorem Jbv{c:Operand}{b:Bool}(hb:b=false)(h:s.ev c=.bool b)(hp:pwp P Gl y Q s):pwp P Gl (.cond c x y) Q s:=Jw2 h (fun e=>by rw [hb] at e; cases e) (fun _=>hp)
end
section
variable {d:Bool} {L:List (Oper×Gd)} {Q:PSt->Prop}
def sop(t:Nat)(b:Bool)(o:Oper):Oper :=
 match o.op with
 | .pick (.tmp t') x y=>if t' == t then { o with op:=.move (if b=true then x else y) } else o
 | _=>o
theorem Ju5(t:Nat)(b:Bool)(o:Oper):(sop t b o).dst=o.dst:=by
 unfold sop; split
 ·split <;> rfl
 ·rfl
theorem Kgi{t:Nat}{b:Bool}{o:Oper}{K:PSt->Prop}(hg:s.get t=.bool b)(h:Xp P Gl d (sop t b o) s K):Xp P Gl d o s K:=by
 unfold sop at h;split at h
 ·rename_i t' x y hop;split at h
  ·rename_i ht;have ht:t'=t:=by simpa using ht
   subst ht;simp only [Xp,Vx,evO,Cg,aQ,if_false,ev1] at h;simp only [Xp,hop,Vx,evO,Cg,aQ,if_false,ev1];have:s.ev (.tmp t')=.bool b:=hg;rw [this];cases b <;> simpa using h
  ·exact h
 ·exact h
theorem Kj0{t:Nat}{b:Bool}{o:Oper}(h:Je3 (sop t b o).op=false):sop t b o=o:=by
 unfold sop at h ⊢;split
 ·rename_i t' x y hop;split
  ·rename_i ht;simp only [hop] at h;rw [if_pos ht] at h;simp [Je3] at h
  ·rfl
 ·rfl
def settle(t:Nat)(b:Bool):List (Oper×Gd)->List (Oper×Gd)
 | []=>[]
 | (o,.slot t' w)::r=>(sop t b o,if t' == t then (if b == w then .always else .never) else .slot t' w)::settle t b r
 | (o,.always)::r=>(sop t b o,.always)::settle t b r
 | (o,.never)::r=>(sop t b o,.never)::settle t b r
 | (o,.bad)::r=>(sop t b o,.bad)::settle t b r
def Je4(t:Nat):List (Oper×Gd)->Bool
 | []=>true
 | (o,_)::r=>(o.dst != some t)&&Je4 t r
theorem Od{t:Nat}{dst:Option Nat}{v:PV}(h:(dst != some t)=true):(s.put dst v).get t=s.get t:=by
 cases dst with
 | none=>rfl
 | some i=>
  have hit:i≠t:=by simpa using h
  by_cases hi:i+s.m<s.tm.length
  ·rw [s.put_in v hi]
   by_cases ht:t+s.m<s.tm.length
   ·rw [PSt.get_in s ht,PSt.get_in _ (by simpa using ht),bQ,bQ,cQ hit]
   ·rw [PSt.get_out s ht,PSt.get_out _ (by simpa using ht)]
  ·rw [s.put_out v hi]
theorem Jp3(d:Nat):∀ (l:List (Nat×(Nat×Nat))) (s:PSt),(addToks d s l).tm=s.tm
 | [],s=>rfl
 | (t,x)::r,s=>by simp only [addToks]; rw [Jp3 d r]
theorem Jr6(d:Nat):∀ (l:List (Nat×(Nat×Nat))) (s:PSt),(addToks d s l).m=s.m
 | [],s=>rfl
 | (t,x)::r,s=>by simp only [addToks]; rw [Jr6 d r]
theorem Ld{t:Nat}{b:Bool}:∀ (L:List (Oper×Gd)) (s:PSt),Je4 t L=true->s.get t=.bool b->Jy P Gl d (settle t b L) s Q->Jy P Gl d L s Q
 | [],s,_,_,h=>h
 | (o,g)::r,s,hs,hg,h=>by
  simp only [Je4,aI] at hs;have rest:∀ v,Jy P Gl d (settle t b r) (s.put o.dst v) Q->Jy P Gl d r (s.put o.dst v) Q:=fun v h=>Ld r _ hs.2 ((Od hs.1).trans hg) h;have step:Jat P Gl d (sop t b o) s (fun s'=>Jy P Gl d (settle t b r) s' Q)->Jat P Gl d o s (fun s'=>Jy P Gl d r s' Q):=by
   rintro (h|⟨d1,d2,C,n,v,h1,h2⟩)
   rotate_left
   ·have e:=Kj0 d2;rw [e] at d2 h1 h2;refine .inr ⟨d1,d2,C,n,v,h1,fun x hx=>Ld r _ hs.2 ?_ (h2 x hx)⟩;rw [Od hs.1];exact hg
   refine .inl ?_;have h:=Kgi hg h;revert h;unfold Xp;split
   ·rintro (⟨f,caps,as,rr,e1,e2,e3,e4,e5,e6,e7⟩|⟨f,caps,as,rr,ts,eqs,e1,e2,e3,e4,e5,e6,e7,e8⟩)
    ·refine .inl ⟨f,caps,as,rr,e1,e2,e3,e4,e5,e6,Ld r _ hs.2 ?_ e7⟩;rw [Od hs.1];rw [<- hg]; unfold PSt.get; rw [Jp3,Jr6]
    ·refine .inr ⟨f,caps,as,rr,ts,eqs,e1,e2,e3,e4,e5,e6,e7,Ld r _ hs.2 ?_ e8⟩;rw [Od hs.1]; exact hg
   ·rintro ⟨x,e1,e2⟩;refine ⟨x,e1,Ld r _ hs.2 ?_ e2⟩;rw [Od hs.1];rw [<- hg]; cases x.2 <;> rfl
  cases g with
  | always=>simp only [settle,Jy,Be] at h ⊢; exact step h
  | never=>simp only [settle,Jy,Be,Ju5] at h ⊢; exact rest _ h
  | bad=>simp only [settle,Jy,Be] at h
  | slot t' w=>
   simp only [settle] at h
   by_cases ht:t'=t
   ·subst ht;simp only [beq_self_eq_true,if_true] at h;simp only [Jy,Be,hg]
    by_cases hw:b=w
    ·subst hw;simp only [beq_self_eq_true,if_true,Jy,Be] at h;exact ⟨fun _=>step h,fun e=>by cases b <;> cases e⟩
    ·rw [if_neg (by simpa using hw)] at h;simp only [Jy,Be,Ju5] at h;exact ⟨fun e=>absurd e hw,fun _=>rest _ h⟩
   ·rw [if_neg (by simpa using ht)] at h;simp only [Jy,Be,Ju5] at h ⊢;split
    ·rename_i b' hb';simp only [hb'] at h;exact ⟨fun e=>step (h.1 e),fun e=>rest _ (h.2 e)⟩
    ·rename_i hu;simp only [hu] at h;exact rest _ h
    ·rename_i hne hnu;split at h
     ·rename_i b' hb'; exact absurd hb' (hne _)
     ·rename_i hu; exact absurd hu hnu
     ·exact h
theorem Jbx{b c:Bool}(t:Nat)(hb:b=c)(hg:s.get t=.bool b)(hs:Je4 t L=true)(h:Jy P Gl d (settle t c L) s Q):Jy P Gl d L s Q:=by
 subst hb; exact Ld L s hs hg h
def wipe : List (Oper×Gd)->PSt->PSt
 | [],s=>s
 | (o,_)::r,s=>wipe r (s.put o.dst .any)
theorem Ow : ∀ (l1 l2:List (Oper×Gd)) (s:PSt),Jy P Gl d l1 s (fun s'=>Jy P Gl d l2 s' Q)->Jy P Gl d (l1++l2) s Q
 | [],l2,s,h=>h
 | (o,g)::r,l2,s,h=>by
  simp only [bO,Jy] at h ⊢;have step:Jat P Gl d o s (fun s'=>Jy P Gl d r s' fun s'=>Jy P Gl d l2 s' Q)->Jat P Gl d o s (fun s'=>Jy P Gl d (r++l2) s' Q):=by
   rintro (h|⟨d1,d2,C,n,v,h1,h2⟩)
   rotate_left
   ·exact .inr ⟨d1,d2,C,n,v,h1,fun x hx=>Ow r l2 _ (h2 x hx)⟩
   refine .inl ?_;revert h;unfold Xp;split
   ·rintro (⟨f,caps,as,rr,e1,e2,e3,e4,e5,e6,e7⟩|⟨f,caps,as,rr,ts,eqs,e1,e2,e3,e4,e5,e6,e7,e8⟩)
    ·exact .inl ⟨f,caps,as,rr,e1,e2,e3,e4,e5,e6,Ow r l2 _ e7⟩
    ·exact .inr ⟨f,caps,as,rr,ts,eqs,e1,e2,e3,e4,e5,e6,e7,Ow r l2 _ e8⟩
   ·rintro ⟨x,e1,e2⟩;exact ⟨x,e1,Ow r l2 _ e2⟩
  have rest:=Ow r l2 (s.put o.dst (.tup []));cases g with
  | always=>exact step h
  | never=>exact rest h
  | bad=>exact h
  | slot t w=>
   simp only [Be] at h ⊢;split at h
   ·exact ⟨fun e=>step (h.1 e),fun e=>rest (h.2 e)⟩
   ·exact rest h
   ·exact h.elim
end
end
end PM
namespace PM
open Go Go.RowKit
section
variable {P:Program} {Gl:GL} {H:Nat->Option Ue} {T:Nat->Option (Nat×Nat)} {X:XT} {ρ ρ':Operand->PV}
theorem Jnz{α:Type}(h:∀ x,ρ x=ρ' x\/ρ x=.any):∀ (l:List (α×Operand)),l.map (fun x=>(x.1,ρ x.2))=l.map (fun x=>(x.1,ρ' x.2))\/∃ x∈l.map (fun x=>(x.1,ρ x.2)),x.2=.any
 | []=>.inl rfl
 | y::l=>by
  rcases h y.2 with e|e
  ·rcases Jnz h l with e'|⟨z,hz,hz'⟩
   ·exact .inl (by simp [e,e'])
   ·exact .inr ⟨z,by simp only [bT,bD]; exact .inr hz,hz'⟩
  ·exact .inr ⟨(y.1,ρ y.2),by simp,e⟩
theorem Jhb(h:∀ x,ρ x=ρ' x\/ρ x=.any):∀ (l:List Operand),l.map ρ=l.map ρ'\/.any∈l.map ρ
 | []=>.inl rfl
 | y::l=>by
  rcases h y with e|e
  ·rcases Jhb h l with e'|e'
   ·exact .inl (by simp [e,e'])
   ·exact .inr (by simp only [bT,bD]; exact .inr e')
  ·exact .inr (by simp [e])
theorem Jr9{pl:List (Nat×Nat)}:∀ {ps:List (Nat×PV)} {cs:List PV},(∃ x∈ps,x.2=.any)->Jmd pl ps cs=none
 | [],_,h=>by obtain ⟨x,hx,_⟩:=h; cases hx
 | (i,p)::ps,cs,h=>by
  obtain ⟨x,hx,hxa⟩:=h;simp only [Jmd];split
  ·split
   ·rename_i hc;rcases bD.1 hx with rfl|hx
    ·simp only at hxa; subst hxa;exact absurd hc.2.2 (by simp [PV.cells,Jmd.PV.okCell,PV.one])
    ·exact Jr9 ⟨x,hx,hxa⟩
   ·rfl
  ·rfl
theorem Jmv{k:Nat}:∀ {ps:List (Nat×PV)} {j:Nat},(∃ x∈ps,x.2=.any)->Rh k ps j=none
 | [],_,h=>by obtain ⟨x,hx,_⟩:=h; cases hx
 | (i,p)::ps,j,h=>by
  obtain ⟨x,hx,hxa⟩:=h;simp only [Rh];split
  ·rcases bD.1 hx with rfl|hx
   ·simp only at hxa; subst hxa;simp [PV.cells,Iv,Cs]
   ·rw [Jmv ⟨x,hx,hxa⟩];split <;> simp_all
  ·rfl
theorem Jms : ∀ {ps:List PV},.any∈ps->Sg ps=none
 | p::ps,h=>by
  simp only [Sg];rcases bD.1 h with rfl|h
  ·simp [Oi,Cs]
  ·rw [Jms h];split <;> simp_all
theorem Jzm{op:BinOp}{t:TypeId}{q:PV}:Joi P op t .any q=none:=by unfold Joi; rfl
theorem Jy0{op:BinOp}{t:TypeId}{p:PV}:Joi P op t p .any=none:=by unfold Joi; cases p <;> rfl
theorem Nz{n:Nat}:bnd (some .any) n=none:=rfl
theorem Jp1(h:∀ x,ρ x=ρ' x\/ρ x=.any)(x:Option Operand):x.map ρ=x.map ρ'\/x.map ρ=some .any:=by
 cases x with
 | none=>exact .inl rfl
 | some x=>exact (h x).imp (fun e=>by simp [e]) (fun e=>by simp [e])
theorem Jx3{t:TypeId}{lo hi mx:Option PV}{p:PV}(h:lo=some .any\/hi=some .any\/mx=some .any\/p=.any)(hne:Ja9 P t lo hi mx p≠none)(hstr:mx=some .any->∀ s,p≠.str s):False:=by
 apply hne;unfold Ja9;cases p
 case lst o k b xss=>
  rcases h with rfl|rfl|rfl|h
  ·simp only [Nz]; split <;> simp_all
  ·simp only [Nz]; split <;> simp_all
  ·simp only [Nz]; split <;> simp_all
  ·cases h
 case nil=>
  rcases h with rfl|rfl|rfl|h
  ·simp only [Nz]; split <;> simp_all
  ·simp only [Nz]; split <;> simp_all
  ·simp only [Nz]; split <;> simp_all
  ·cases h
 case str s=>
  rcases h with rfl|rfl|h|h
  ·simp only [Nz]
  ·simp only [Nz]; split <;> simp_all
  ·exact absurd rfl (hstr h s)
  ·cases h
 case sl l o len k b=>
  rcases h with rfl|rfl|rfl|h
  ·simp only [Nz]; split <;> simp_all
  ·simp only [Nz]; split <;> simp_all
  ·show (match Jb9 P t,bnd lo 0,bnd hi len with
    | some (_,_,k',_),some a,some h=>if k'=k/\a<=h/\h<=len/\(some PV.any:Option PV)=none then some (PV.sl l (o+a) (h - a) k b) else none
    | _,_,_=>none)=none
   split
   ·rw [if_neg sG]
   ·rfl
  ·cases h
 case ex l k b N o len=>
  rcases h with rfl|rfl|rfl|h
  ·simp only [Nz]; split <;> simp_all
  ·simp only [Nz]; split <;> simp_all
  ·show (match Jb9 P t,bnd lo 0,bnd hi len with
    | some (_,_,k',_),some a,some h=>if k'=k/\a<=h/\h<=len/\(some PV.any:Option PV)=none then some (PV.ex l k b N (o+a) (h - a)) else none
    | _,_,_=>none)=none
   split
   ·rw [if_neg sG]
   ·rfl
  ·cases h
 all_goals rfl
theorem Jk6{t:TypeId}{i:PV}:Xu P t .any i=none:=by cases i <;> rfl
theorem Jkp{t:TypeId}{p:PV}:Xu P t p .any=none:=by cases p <;> rfl
theorem Jux{t:TypeId}{i:PV}:Jj1 P t .any i=none:=by cases i <;> rfl
theorem Jt7{t:TypeId}{p:PV}:Jj1 P t p .any=none:=by cases p <;> rfl
theorem Jh4{m:Bool}{q:PV}:Xy m .any q=none:=by cases q <;> rfl
theorem Jh5{m:Bool}{p:PV}:Xy m p .any=none:=by cases p <;> rfl
theorem Jj8{dst:Option Nat}{t t':TypeId}{x y:PV}(h:x=.any\/y=.any):Jai P dst T t t' x y=none:=by
 unfold Jai;split
 ·rcases h with rfl|rfl
  ·split <;> rfl
  ·rfl
 ·rfl
theorem Jjf(d:TypeDesc):Hx d .any=false:=by cases d <;> rfl
theorem Jjc{t:TypeId}{es:List (PV×PV)}{ok:Bool}:Pw P t es .any ok=none:=by
 unfold Pw;split
 ·rw [if_neg (by rw [Jjf]; exact bI)]
 ·rfl
theorem Jrr{t:TypeId}{es:List (PV×List (List PV))}{k b:Nat}{tk:Nat->Nat}{ok:Bool}:Jbg P t es k b tk .any ok=none:=by
 unfold Jbg;split
 ·rw [if_neg (by rw [Jjf]; exact bI)]
 ·rfl
theorem Jzj{d:TypeDesc}{l:Nat}{es:List (PV×List (List PV))}{k b:Nat}{tk:Nat->Nat}{x:PV}:Jgb d l es k b tk .any x=none:=by
 unfold Jgb;split
 ·rw [if_neg (by rw [Jjf]; simp)]
 ·rfl
theorem Kd6(h:∀ x,ρ x=ρ' x\/ρ x=.any){op:Op}{v:PV}(he:ev1 P Gl op ρ H X=some v):∃ v',ev1 P Gl op ρ' H X=some v'/\(v=v'\/v=.any):=by
 cases op <;> simp only [ev1] at he ⊢ <;> try cases he
 case move.refl x=>exact ⟨_,rfl,h x⟩
 case assign.refl x=>exact ⟨_,rfl,h x⟩
 case pick c x y=>
  rcases h c with e|e
  ·rw [<- e];split at he
   ·cases he;refine ⟨_,rfl, ?_⟩;split
    ·exact h x
    ·exact h y
   ·cases he
  ·rw [e] at he; cases he
 case lookup t x k ok=>
  rcases h x with e|e
  ·rcases h k with e'|e'
   ·rw [<- e,<- e']; exact ⟨v,he,.inl rfl⟩
   ·rw [e'] at he;split at he
    ·split at he
     ·rw [Jjc] at he; cases he
     ·rw [Jrr] at he; cases he
     ·cases he
    ·rw [Jjc] at he; cases he
    ·cases he
  ·rw [e] at he; cases he
 case nilCheck x=>
  rcases h x with e|e
  ·rw [<- e]; exact ⟨v,he,.inl rfl⟩
  ·rw [e] at he; cases he
 case binOp op t x y u=>
  rcases h x with e|e
  ·rcases h y with e'|e'
   ·rw [<- e,<- e']; exact ⟨v,he,.inl rfl⟩
   ·rw [e',Jy0] at he; cases he
  ·rw [e,Jzm] at he; cases he
 case unOp op t x=>
  rcases h x with e|e
  ·rw [<- e]; exact ⟨v,he,.inl rfl⟩
  ·rw [e] at he; cases he
 case convert src dst x=>
  rcases h x with e|e
  ·rw [<- e]; exact ⟨v,he,.inl rfl⟩
  ·rw [e] at he; cases he
 case fieldAddr t x f=>
  rcases h x with e|e
  ·rw [<- e]; exact ⟨v,he,.inl rfl⟩
  ·rw [e] at he; cases he
 case field t x f=>
  rcases h x with e|e
  ·rw [<- e]; exact ⟨v,he,.inl rfl⟩
  ·rw [e] at he; cases he
 case indexAddr t x i=>
  rcases h x with e|e
  ·rcases h i with e'|e'
   ·rw [<- e,<- e']; exact ⟨v,he,.inl rfl⟩
   ·rw [e',Jkp] at he; cases he
  ·rw [e,Jk6] at he; cases he
 case index t x i=>
  rcases h x with e|e
  ·rcases h i with e'|e'
   ·rw [<- e,<- e']; exact ⟨v,he,.inl rfl⟩
   ·rw [e',Jt7] at he; cases he
  ·rw [e,Jux] at he; cases he
 case load t x=>
  rcases h x with e|e
  ·rw [<- e]; exact ⟨v,he,.inl rfl⟩
  ·rw [e] at he; cases he
 case extract x i=>
  rcases h x with e|e
  ·rw [<- e]; exact ⟨v,he,.inl rfl⟩
  ·rw [e] at he; cases he
 case slice t x lo hi mx=>
  have nope:∀ {q},Ja9 P t (lo.map ρ) (hi.map ρ) (mx.map ρ) (ρ x)=some q->(lo.map ρ=some .any\/hi.map ρ=some .any\/mx.map ρ=some .any\/ρ x=.any)->False:=fun {q} hq hc=>by
   refine Jx3 hc (by rw [hq]; simp) fun hm s hs=>?_;rw [hs,hm] at hq;simp only [Ja9] at hq;split at hq
   ·simp at hq
   ·cases hq
  rcases Jp1 h lo with e1|e1
  ·rcases Jp1 h hi with e2|e2
   ·rcases Jp1 h mx with e3|e3
    ·rcases h x with e4|e4
     ·rw [<- e1,<- e2,<- e3,<- e4]; exact ⟨v,he,.inl rfl⟩
     ·exact (nope he (.inr (.inr (.inr e4)))).elim
    ·exact (nope he (.inr (.inr (.inl e3)))).elim
   ·exact (nope he (.inr (.inl e2))).elim
  ·exact (nope he (.inl e1)).elim
 case build t parts=>
  rcases Jnz h parts.toList with e|e
  ·rw [<- e]; exact ⟨v,he,.inl rfl⟩
  ·exfalso;unfold Jnw at he;split at he
   ·rw [Jr9 e] at he; cases he
   ·rename_i h1 h2 h3 h4;obtain ⟨i,hi,_⟩:=e;rw [h3] at hi;exact absurd hi sG
   ·cases he
 case makeFunc fn first caps=>
  cases fn <;> simp only at he ⊢ <;> try cases he
  rcases Jhb h caps.toList with e|e
  ·rw [<- e]; exact ⟨v,he,.inl rfl⟩
  ·exfalso;split at he
   ·rename_i hc;have:=aK.1 hc.2 _ e;cases this
   ·cases he
 case call c=>
  split at he
  ·rename_i x t h1 h2 h3;rcases h x with e|e
   ·rw [<- e]; exact ⟨v,he,.inl rfl⟩
   ·rw [e] at he; cases he
  ·rename_i x y h1 h2;rcases h x with e|e
   ·rcases h y with e'|e'
    ·rw [<- e,<- e']; exact ⟨v,he,.inl rfl⟩
    ·rw [e',Jh5] at he; cases he
   ·rw [e,Jh4] at he; cases he
  ·rename_i x y h1 h2;rcases h x with e|e
   ·rcases h y with e'|e'
    ·rw [<- e,<- e']; exact ⟨v,he,.inl rfl⟩
    ·rw [e',Jh5] at he; cases he
   ·rw [e,Jh4] at he; cases he
  ·cases he
theorem Kfi(h:∀ x,ρ x=ρ' x\/ρ x=.any){dst:Option Nat}{op:Op}{v:PV×Eff}(he:evE P dst op ρ H T X=some v):evE P dst op ρ' H T X=some v:=by
 cases op <;> simp only [evE] at he ⊢ <;> try cases he
 case alloc t=>exact he
 case box t x=>
  rcases h x with e|e
  ·rw [<- e]; exact he
  ·rw [e] at he;split at he
   ·simp [Rd,PV.one] at he
   ·cases he
 case store t x y=>
  rcases h x with e|e
  ·rcases h y with e'|e'
   ·rw [<- e,<- e']; exact he
   ·rw [e'] at he;split at he
    ·split at he
     ·simp [Rd,PV.one] at he
     ·cases he
    ·split at he
     ·simp [Rd,PV.one] at he
     ·cases he
    ·cases he
  ·rw [e] at he; cases he
 case buildSlice t n parts=>
  rcases Jnz h parts.toList with e|e
  ·rw [<- e]; exact he
  ·rw [Jmv e] at he;split at he
   ·rename_i h2; cases h2
   ·cases he
 case makeMap t r=>exact he
 case makeSlice t n c=>
  rcases h n with e|e
  ·rcases h c with e'|e'
   ·rw [<- e,<- e']; exact he
   ·rw [e'] at he;split at he
    ·rename_i h4; cases h4
    ·cases he
  ·rw [e] at he;split at he
   ·rename_i h3 _; cases h3
   ·cases he
 case mapUpdate t m k x=>
  rcases h m with e|e
  ·rcases h k with e'|e'
   ·rcases h x with e2|e2
    ·rw [<- e,<- e',<- e2]; exact he
    ·rw [e2] at he;split at he
     ·split at he
      ·rename_i h3; cases h3
      ·rename_i h3; cases h3
      ·cases he
     ·cases he
   ·rw [e'] at he;split at he
    ·split at he
     ·rw [if_neg (by rw [Jjf]; simp)] at he; cases he
     ·rw [Jzj] at he; cases he
     ·cases he
    ·cases he
  ·rw [e] at he; cases he
 case call c=>
  split at he
  ·rename_i x y t t' h1 h2 h3;rcases h x with e|e
   ·rcases h y with e'|e'
    ·rw [<- e,<- e']; exact he
    ·rw [Jj8 (.inr e')] at he; cases he
   ·rw [Jj8 (.inl e)] at he; cases he
  ·cases he
theorem Ked(h:∀ x,ρ x=ρ' x\/ρ x=.any){dst:Option Nat}{op:Op}{v:PV×Eff}(he:evO P Gl dst op ρ H T X=some v):∃ v',evO P Gl dst op ρ' H T X=some (v',v.2)/\(v.1=v'\/v.1=.any):=by
 unfold evO at he ⊢;split at he
 ·rename_i hm;rw [if_pos hm];exact ⟨v.1,Kfi h he,.inl rfl⟩
 ·rename_i hm;rw [if_neg hm];obtain ⟨u,h1,rfl⟩:=aD.1 he;obtain ⟨v',h2,h3⟩:=Kd6 h h1;exact ⟨v',by rw [h2]; rfl,h3⟩
end
theorem Jwy{ts:List Nat}{s:PSt}:∀ {ps:List PV},PV.any∈ps->Jek ts s ps=none
 | [],h=>by cases h
 | p::ps,h=>by
  rcases bD.1 h with rfl|h
  ·simp [Jek,bdA,bd1,Cs]
  ·rw [Jek,Jwy h];cases bdA ts s p <;> rfl
theorem Jrv(ts:List Nat){s s':PSt}(h:∀ t,t∈ts->s'.X t=s.X t/\s'.T t=s.T t)(p:PV):bd1 ts s' p=bd1 ts s p:=by
 cases p
 case ex t k b N o n=>
  simp only [bd1];cases hc:ts.contains t with
  | false=>rfl
  | true=>
   obtain ⟨h1,h2⟩:=h t (by simpa using hc);rw [h1,h2]
 all_goals rfl
theorem Jsr(ts:List Nat){s s':PSt}(h:∀ t,t∈ts->s'.X t=s.X t/\s'.T t=s.T t):∀ ps:List PV,bdL ts s' ps=bdL ts s ps
 | []=>rfl
 | p::ps=>by rw [bdL,bdL,Jrv ts h,Jsr ts h ps]
theorem Kcu(ts:List Nat){s s':PSt}(h:∀ t,t∈ts->s'.X t=s.X t/\s'.T t=s.T t)(p:PV):bdA ts s' p=bdA ts s p:=by
 cases p
 case agg cs=>simp only [bdA]; rw [Jsr ts h]
 all_goals
  simp only [bdA];exact Jrv ts h _
theorem Jmc(ts:List Nat){s s':PSt}(h:∀ t,t∈ts->s'.X t=s.X t/\s'.T t=s.T t):∀ ps:List PV,Jek ts s' ps=Jek ts s ps
 | []=>rfl
 | p::ps=>by rw [Jek,Jek,Kcu ts h,Jmc ts h ps]
theorem Jy7(ts:List Nat){s s':PSt}(hT:s.T=s'.T)(hX:s.X=s'.X)(ps:List PV):Jek ts s ps=Jek ts s' ps:=(Jmc ts (fun _ _=>⟨by rw [hX],by rw [hT]⟩) ps).symm
structure Yg (s s1:PSt):Prop where
 H:s.H=s1.H
 T:s.T=s1.T
 X:s.X=s1.X
 tm:Kg (fun q p=>p=q\/p=.any) s.tm s1.tm
 m:s.m=s1.m
def Up(Q:PSt->Prop)(s:PSt):Prop:=∃ s1,Yg s s1/\Q s1
section
variable {P:Program} {Gl:GL} {s s1 s2:PSt} {Q:PSt->Prop} {d:Bool} {L:List (Oper×Gd)}
theorem Yg.refl(s:PSt):Yg s s:=⟨rfl,rfl,rfl,⟨rfl,fun i x y hx hy=>by rw [hx] at hy; cases hy; exact .inl rfl⟩,rfl⟩
theorem Yg.trans(h:Yg s s1)(h':Yg s1 s2):Yg s s2:=by
 refine ⟨h.H.trans h'.H,h.T.trans h'.T,h.X.trans h'.X,⟨h.tm.1.trans h'.tm.1,fun i x z hx hz=>?_⟩,h.m.trans h'.m⟩;obtain ⟨y,hy,hyz⟩:=h'.tm.left hz;rcases hyz with rfl|rfl
 ·exact h.tm.2 i x _ hx hy
 ·exact .inr rfl
theorem Up.intro(h:Q s):Up Q s:=⟨s,Yg.refl s,h⟩
theorem Up.fade(hf:Yg s s1)(h:Up Q s1):Up Q s:=let ⟨s2,h1,h2⟩:=h; ⟨s2,hf.trans h1,h2⟩
theorem Yg.get(hf:Yg s s1)(i:Nat):s1.get i=s.get i\/s1.get i=.any:=by
 have hl:=hf.tm.1;have hm:=hf.m
 by_cases hi:i+s.m<s.tm.length
 ·rw [s.get_in hi,s1.get_in oG];have:=hf.tm.2 i s.tm[i] s1.tm[i] (aB oG) (aB oG);rw [bQ,bQ,aB (show i<s.tm.length by omega),aB (show i<s1.tm.length by omega)]
  simpa using this
 ·right
  exact s1.get_out oG
theorem Yg.ev(hf:Yg s s1)(x:Operand):s1.ev x=s.ev x\/s1.ev x=.any:=by
 cases x with
 | tmp t=>exact hf.get t
 | const v=>exact .inl rfl
 | global g=>exact .inl rfl
 | func f=>exact .inl rfl
theorem Yg.put(hf:Yg s s1)(dst:Option Nat){p q:PV}(h:p=q\/p=.any):Yg (s.put dst q) (s1.put dst p):=by
 cases dst with
 | none=>exact hf
 | some i=>
  have hl:=hf.tm.1;have hm:=hf.m
  by_cases hi:i+s.m<s.tm.length
  ·rw [s.put_in q hi,s1.put_in p oG];refine ⟨hf.H,hf.T,hf.X,⟨by simpa using hl,fun j x y hx hy=>?_⟩,hm⟩;simp only [cO] at hx hy
   by_cases hij:i=j
   ·rw [if_pos hij] at hx hy;split at hx
    ·split at hy
     ·cases hx; cases hy; exact h
     ·cases hy
    ·cases hx
   ·rw [if_neg hij] at hx hy; exact hf.tm.2 j x y hx hy
  ·rw [s.put_out q hi,s1.put_out p oG]; exact hf
theorem Yg.eff(hf:Yg s s1)(e:Eff):Yg (e.app s) (e.app s1):=by
 cases e with
 | none=>exact hf
 | obj l ob=>exact ⟨by simp [Eff.app,hf.H],hf.T,hf.X,hf.tm,hf.m⟩
 | tok t n k=>exact ⟨hf.H,by simp [Eff.app,hf.T],hf.X,hf.tm,hf.m⟩
 | xs t x=>exact ⟨hf.H,hf.T,by simp [Eff.app,hf.X],hf.tm,hf.m⟩
theorem Yg.toks(dd:Nat):∀ (l:List (Nat×(Nat×Nat))) {s s1:PSt},Yg s s1->Yg (addToks dd s l) (addToks dd s1 l)
 | [],_,_,h=>h
 | (t,x)::r,s,s1,h=>Yg.toks dd r ⟨h.H,by simp [h.T],h.X,h.tm,h.m⟩
theorem Kh.fade{S0:Bs}{w0:World}{a:Act}{g:GG}(hg:Kh Gl S0 w0 s a g)(hf:Yg s s1):Kh Gl S0 w0 s1 a g:=by
 refine { hg with hH:=hg.hH.trans hf.H,hT:=hg.hT.trans hf.T,exs:=hf.X▸hg.exs,exsEx:=hf.X▸hg.exsEx,len:=⟨by rw [<- hf.tm.1,<- hf.m]; exact hg.len.1,by rw [<- hf.m]; exact hg.len.2⟩,tm:=fun i p v hp hv=>?_ };obtain ⟨q,hq,e⟩:=hf.tm.left hp;rcases e with rfl|rfl
 ·exact hg.tm i _ v hq hv
 ·exact Rel.any _ _
theorem Kbd.fade{o:Oper}{C:Nat->Prop}{n:Nat->PSt}{v:PV}(h:Kbd P Gl o s1 C n v)(hf:Yg s s1):Kbd P Gl o s C n v:=fun S0 w0 a g K Q hg hK=>
 h S0 w0 a g K Q (hg.fade hf) fun x z g' hx e1 e2 e3=>hK x z g' hx { e1 with len:=hg.len,tm:=fun i p v hp hv=>(hg.tm i p v hp hv).mono e2 } e2 e3
theorem Jbh(hQ:∀ s s1,Yg s s1->Q s1->Q s):∀ (L:List (Oper×Gd)) {s s1:PSt},Yg s s1->Jy P Gl d L s1 Q->Jy P Gl d L s Q
 | [],s,s1,hf,h=>hQ _ _ hf h
 | (o,g)::r,s,s1,hf,h=>by
  have rest:Jy P Gl d r (s1.put o.dst (.tup [])) Q->Jy P Gl d r (s.put o.dst (.tup [])) Q:=fun h=>Jbh hQ r (hf.put _ (.inl rfl)) h;have step:Jat P Gl d o s1 (fun s'=>Jy P Gl d r s' Q)->Jat P Gl d o s (fun s'=>Jy P Gl d r s' Q):=by
   rintro (h|⟨d1,d2,C,n,v,h1,h2⟩)
   rotate_left
   ·refine .inr ⟨d1,d2,C,n,v,h1.fade hf,fun x hx=>Jbh hQ r (Yg.put (s:=Jap s (n x)) (s1:=Jap s1 (n x)) ⟨rfl,rfl,rfl,hf.tm,hf.m⟩ _ (.inl rfl)) (h2 x hx)⟩
   refine .inl ?_;revert h;unfold Xp;split
   ·rename_i x args hc;have hx:∀ {f caps},s1.ev x=.fn f caps->s.ev x=.fn f caps:=fun {f caps} e1=>by
     rcases hf.ev x with e|e
     ·rw [<- e]; exact e1
     ·rw [e] at e1; cases e1
    rintro (⟨f,caps,as,rr,e1,e2,e3,e4,e5,e6,e7⟩|⟨f,caps,as,rr,ts,eqs,e1,e2,e3,e4,e5,e6,e7,e8⟩)
    ·have hargs:args.map s1.ev=args.map s.ev:=by
      rcases Jhb hf.ev args with e|e
      ·exact e
      ·rw [Jms (by simp [e])] at e3; cases e3
     refine .inl ⟨f,caps,as,rr,hx e1,e2,by rw [<- hargs]; exact e3,e4,by rw [hf.T]; exact e5,e6,Jbh hQ r ((Yg.toks _ _ hf).put _ (.inl rfl)) e7⟩
    ·have hargs:args.map s1.ev=args.map s.ev:=by
      rcases Jhb hf.ev args with e|e
      ·exact e
      ·rw [Jwy (by simp [e])] at e3; cases e3
     refine .inr ⟨f,caps,as,rr,ts,eqs,hx e1,e2,by rw [<- hargs,Jy7 ts hf.T hf.X]; exact e3,e4,e5,e6,e7,Jbh hQ r (hf.put _ (.inl rfl)) e8⟩
   ·rintro ⟨x,e1,e2⟩;rw [<- hf.H,<- hf.T,<- hf.X] at e1;obtain ⟨v',h1,h2⟩:=Ked hf.ev e1;exact ⟨_,h1,Jbh hQ r ((hf.eff _).put _ h2) e2⟩
  simp only [Jy] at h ⊢;cases g with
  | always=>exact step h
  | never=>exact rest h
  | bad=>exact h
  | slot t w=>
   simp only [Be] at h ⊢;rcases hf.get t with e|e
   ·rw [<- e];split at h
    ·exact ⟨fun e=>step (h.1 e),fun e=>rest (h.2 e)⟩
    ·exact rest h
    ·exact h.elim
   ·rw [e] at h; exact h.elim
theorem Lo{Q Q':PSt->Prop}(hQ:∀ s,Q s->Q' s):∀ (L:List (Oper×Gd)) (s:PSt),Jy P Gl d L s Q->Jy P Gl d L s Q'
 | [],s,h=>hQ _ h
 | (o,g)::r,s,h=>by
  have rest:=Lo hQ r (s.put o.dst (.tup []));have step:Jat P Gl d o s (fun s'=>Jy P Gl d r s' Q)->Jat P Gl d o s (fun s'=>Jy P Gl d r s' Q'):=by
   rintro (h|⟨d1,d2,C,n,v,h1,h2⟩)
   rotate_left
   ·exact .inr ⟨d1,d2,C,n,v,h1,fun x hx=>Lo hQ r _ (h2 x hx)⟩
   refine .inl ?_;revert h;unfold Xp;split
   ·rintro (⟨f,caps,as,rr,e1,e2,e3,e4,e5,e6,e7⟩|⟨f,caps,as,rr,ts,eqs,e1,e2,e3,e4,e5,e6,e7,e8⟩)
    ·exact .inl ⟨f,caps,as,rr,e1,e2,e3,e4,e5,e6,Lo hQ r _ e7⟩
    ·exact .inr ⟨f,caps,as,rr,ts,eqs,e1,e2,e3,e4,e5,e6,e7,Lo hQ r _ e8⟩
   ·rintro ⟨x,e1,e2⟩;exact ⟨x,e1,Lo hQ r _ e2⟩
  simp only [Jy] at h ⊢;cases g with
  | always=>exact step h
  | never=>exact rest h
  | bad=>exact h
  | slot t w=>
   simp only [Be] at h ⊢;split
   ·rename_i b hb;simp only [hb] at h;exact ⟨fun e=>step (h.1 e),fun e=>rest (h.2 e)⟩
   ·rename_i hu;simp only [hu] at h;exact rest h
   ·rename_i hne hnu;split at h
    ·rename_i b hb; exact absurd hb (hne _)
    ·rename_i hu; exact absurd hu hnu
    ·exact h
theorem Klj(m:Nat)(s1:PSt)(h1:Jy P Gl d (L.take m) s fun s'=>Yg s' s1)(h2:Jy P Gl d (L.drop m) s1 (Up Q)):Jy P Gl d L s (Up Q):=by
 have:=Ow (P:=P) (Gl:=Gl) (d:=d) (Q:=Up Q) (L.take m) (L.drop m) s (Lo (fun s' hf=>Jbh (fun _ _ hf h=>Up.fade hf h) _ hf h2) _ _ h1)
 rwa [bB] at this
end
end PM
namespace PM
open Go Go.RowKit
section
variable {P:Program} {Gl:GL} {s s1:PSt} {d:Bool} {L:List (Oper×Gd)}
theorem Inv.fade{S0:Bs}{w0 w:World}{a:Act}(h:Inv Gl S0 w0 s a w)(hf:Yg s s1):Inv Gl S0 w0 s1 a w:=by
 obtain ⟨g,rfl,hg⟩:=h;refine ⟨g,rfl,{ hg with hH:=hg.hH.trans hf.H,hT:=hg.hT.trans hf.T,exs:=hf.X▸hg.exs,exsEx:=hf.X▸hg.exsEx,len:=⟨by rw [<- hf.tm.1,<- hf.m]; exact hg.len.1,by rw [<- hf.m]; exact hg.len.2⟩,tm:=fun i p v hp hv=>?_ }⟩;obtain ⟨q,hq,e⟩:=hf.tm.left hp;rcases e with rfl|rfl
 ·exact hg.tm i _ v hq hv
 ·exact Rel.any _ _
section
variable {Q:Exit->PSt->Prop} {id:Nat} {ops:Array Oper}
theorem Wp(h:Jy P Gl false (Jeg ops) s (Up (Q .normal))):pwp P Gl (.region id ops false) Q s:=fun S0 w0 a w hi=>
 wp_region_list (Jir (S0:=S0) (w0:=w0) (fun _ _ _ q i=>let ⟨s2,h1,h2⟩:=q; ⟨s2,h2,i.fade h1⟩) ops.toList s a w hi h)
end
section
variable {Q:PSt->Prop}
theorem Kjc(h:(pxr P Gl L s).2=true)(h2:Q (pxr P Gl L s).1):Jy P Gl d L s (Up Q):=Kiy h (.intro h2)
theorem Klg(h:L.isEmpty=true)(h2:Q s):Jy P Gl d L s (Up Q):=by
 have:L=[]:=by simpa using h
 subst this; exact .intro h2
def Jgw : List PV->List PV->List PV
 | p::ps,q::qs=>(match p with|.any=>.any|_=>q)::Jgw ps qs
 | _,qs=>qs
theorem Jmq : ∀ {ps qs:List PV},Jgw ps qs=ps->qs.length=ps.length->Kg (fun q p=>p=q\/p=.any) qs ps
 | [],[],_,_=>.nil
 | p::ps,q::qs,h,hl=>by
  simp only [Jgw,eN] at h;refine .cons ?_ (Jmq h.2 (by simpa using hl));have h1:=h.1;split at h1
  ·exact .inr rfl
  ·exact .inl h1.symm
theorem Khd(h:(s.H,s.T,s.X,(s.tm.length,s.m),Jgw s1.tm s.tm)=(s1.H,s1.T,s1.X,(s1.tm.length,s1.m),s1.tm)):Yg s s1:=by
 simp only [aM] at h;exact ⟨h.1,h.2.1,h.2.2.1,Jmq h.2.2.2.2 h.2.2.2.1.1,h.2.2.2.1.2⟩
def Wq(m t:Nat)(v:PV)(L:List (Oper×Gd))(s:PSt):PSt:=(wipe (L.take m) s).put (some t) v
theorem Kfu(m t:Nat)(v:PV)(h1:Jy P Gl d (L.take m) s fun s'=>Yg s' (Wq m t v L s))(h2:Jy P Gl d (L.drop m) (Wq m t v L s) (Up Q)):Jy P Gl d L s (Up Q):=Klj m _ h1 h2
theorem Kdz(h:(pxr P Gl L s).2=true)(h2:(((pxr P Gl L s).1).H,((pxr P Gl L s).1).T,((pxr P Gl L s).1).X,(((pxr P Gl L s).1).tm.length,((pxr P Gl L s).1).m),Jgw s1.tm ((pxr P Gl L s).1).tm)=(s1.H,s1.T,s1.X,(s1.tm.length,s1.m),s1.tm)):Jy P Gl d L s fun s'=>Yg s' s1 :=
 Kiy h (Khd h2)
def Ju7(p q:PV):PV :=
 match p with
 | .lst .frozen k b _=>match q with
  | .lst .full k b xss=>.lst .frozen k b xss
  | .nil=>.lst .frozen k b []
  | q=>q
 | .lst .full k b _=>match q with
  | .nil=>.lst .full k b []
  | q=>q
 | _=>q
def Kgf : List PV->List PV->List PV
 | p::ps,q::qs=>Ju7 p q::Kgf ps qs
 | _,qs=>qs
def Jwj(p q:PV):PV :=
 match p with
 | .agg ps=>match q with
  | .agg qs=>.agg (Kgf ps qs)
  | q=>q
 | p=>Ju7 p q
def Rg : List PV->List PV->List PV
 | p::ps,q::qs=>Jwj p q::Rg ps qs
 | _,qs=>qs
theorem Jog{S:Qa}{w:World}{p q:PV}{v:Value}(h:Jv S w q v):Jv S w (Ju7 p q) v:=by
 unfold Ju7;split
 ·split
  ·exact Jv.unfull h
  ·exact Jv.ofNil _ _ (.inl rfl) h
  ·exact h
 ·split
  ·exact Jv.ofNil _ _ (.inr rfl) h
  ·exact h
 ·exact h
theorem Jyh{S:Qa}{w:World}:∀ {ps qs:List PV} {vs:List Value},Kg (Jv S w) qs vs->Kg (Jv S w) (Kgf ps qs) vs
 | p::ps,q::qs,vs,h=>by
  obtain ⟨v,vs',rfl,h1,h2⟩:=h.cons_left;exact .cons (Jog h1) (Jyh h2)
 | [],_,_,h=>h
 | _::_,[],_,h=>h
theorem Jvy{S:Qa}{w:World}{p q:PV}{v:Value}(h:Jv S w q v):Jv S w (Jwj p q) v:=by
 unfold Jwj;split
 ·split
  ·simp only [Jv] at h ⊢;obtain ⟨arr,e,h⟩:=h;exact ⟨arr,e,(Wj _ _).2 (Jyh ((Wj _ _).1 h))⟩
  ·exact h
 ·exact Jog h
theorem Ox{S:Qa}{w:World}:∀ {ps qs:List PV} {vs:List Value},Kg (Jv S w) qs vs->Kg (Jv S w) (Rg ps qs) vs
 | p::ps,q::qs,vs,h=>by
  obtain ⟨v,vs',rfl,h1,h2⟩:=h.cons_left;exact .cons (Jvy h1) (Ox h2)
 | [],_,_,h=>h
 | _::_,[],_,h=>h
theorem Yx.coerce{f:FuncId}{as qs:List PV}{r:PV}(h:Yx P Gl f as r)(e:Rg as qs=as):Yx P Gl f qs r :=
 ⟨h.1,fun S w vs hS hG hr=>h.2 S w vs hS hG (by rw [<- e]; exact Ox hr)⟩
def Jlz : List (Oper×Gd)->PSt->Option (FuncId×List PV)
 | (o,.always)::_,s=>match Vx o.op with
  | some (x,args)=>match s.ev x with
   | .fn f caps=>if caps.all Ev=true then (Sg (args.map s.ev++caps)).map fun qs=>(f,qs) else none
   | _=>none
  | none=>none
 | _,_=>none
def Jwf(draw:Bool)(dd:Nat)(T:Nat->Option (Nat×Nat)):List (Nat×(Nat×Nat))->Bool
 | []=>true
 | (t,x)::r=> !draw&&(T (1000 * dd+t)).isNone&&((r.all fun x=>x.1 != t)&&x.2 != 0)&&Jwf draw dd T r
theorem Jd2{draw:Bool}{dd:Nat}{T:Nat->Option (Nat×Nat)}:∀ {l:List (Nat×(Nat×Nat))},Jwf draw dd T l=true->Dj dd T l/\(draw=true->l=[])
 | [],_=>⟨trivial,fun _=>rfl⟩
 | (t,x)::r,h=>by
  rw [Jwf,aI,aI,aI,bL] at h;obtain ⟨⟨⟨h1,h2⟩,h3⟩,h4⟩:=h;exact ⟨⟨by simpa using h2,h3,(Jd2 h4).1⟩,fun e=>by rw [e] at h1; cases h1⟩
theorem Kf7{f:FuncId}{as:List PV}{r:PV}(hc:Yx P Gl f as r)(h:(Jlz L s).map (fun x=>(x.1,Rg as x.2))=some (f,as))(ht:Jwf d ((Uk L).getD 0) s.T (Wc r)=true)(h2:Jy P Gl d (L.drop 1) ((addToks ((Uk L).getD 0) s (Wc r)).put (Uk L) (Jau ((Uk L).getD 0) r)) Q):Jy P Gl d L s Q:=by
 obtain ⟨y,h3,h4⟩:=aD.1 h
 match L,h3,ht,h2 with
 | (o,.always)::rest,h3,ht,h2=>
  simp only [Jlz] at h3;simp only [Jy,Be];refine .inl ?_;simp only [Xp];cases hco:Vx o.op with
  | none=>simp [hco] at h3
  | some xa=>
   obtain ⟨x,args⟩:=xa;simp only [hco] at h3 ⊢;split at h3
   ·rename_i f' caps hx;split at h3
    ·rename_i hcap;obtain ⟨qs,h5,rfl⟩:=aD.1 h3;simp only [aM] at h4;obtain ⟨rfl,h6⟩:=h4;exact .inl ⟨f',caps,qs,r,hx,hcap,h5,hc.coerce h6,(Jd2 ht).1,(Jd2 ht).2,h2⟩
    ·cases h3
   ·cases h3
end
def Jie(P:Program)(Gl:GL)(rs:List ResultVar)(s:PSt):Option PV:=(Sq P Gl s rs).bind Jmb
theorem Kjk{rs:List ResultVar}{r:PV}(h:(Jie P Gl rs s).map (fun v=>(Jda v,Fk r v))=some (true,r))(hl:Hr (fun _=>none) (Jqt r) r=true)(ht:(Wc r).map (fun x=>s.T x.1)=(Wc r).map fun x=>some x.2):Mg P Gl rs r s:=by
 obtain ⟨pv,h1,h2⟩:=aD.1 h;obtain ⟨vs,h3,h4⟩:=bF.1 h1;simp only [aM] at h2;refine ⟨vs,pv,h3,h4, ?_,fun x hx=>Jad ht x hx⟩;have:=Jck (p:=r) (q:=pv) (H:=fun _=>none) (T:=Jqt r) h2.1 (by rw [h2.2]; exact hl)
 rwa [h2.2] at this
theorem Kbf{rs:List ResultVar}{r:PV}(h:(Jie P Gl rs s).map (fun v=>(Jda v,Fk r v))=some (true,r))(hl:Hr (fun _=>none) (Jqt r) r=true)(ht:(Wc r).map (fun x=>s.T x.1)=(Wc r).map fun x=>some x.2):Jj7 P Gl rs r .ret s:=Kjk h hl ht
end
section
variable {σ ρ:Type}
inductive Jha (step:σ->Option (σ⊕ρ)):Nat->σ->ρ->Prop
 | done {s:σ} {r:ρ} (h:step s=some (.inr r)):Jha step 0 s r
 | more {s s':σ} {r:ρ} {n:Nat} (h:step s=some (.inl s')) (hn:Jha step n s' r):Jha step (n+1) s r
theorem Jha.det{step:σ->Option (σ⊕ρ)}{n m:Nat}{s:σ}{r r':ρ}(h:Jha step n s r)(h':Jha step m s r'):r=r':=by
 induction h generalizing m with
 | done h=>
  cases h' with
  | done h1=>rw [h] at h1; cases h1; rfl
  | more h1 _=>rw [h] at h1; cases h1
 | more h _ ih=>
  cases h' with
  | done h1=>rw [h] at h1; cases h1
  | more h1 h2=>rw [h] at h1; cases h1; exact ih h2
open Classical in
noncomputable def Jh0(step:σ->Option (σ⊕ρ))(s:σ):Option ρ:=if h:∃ r n,Jha step n s r then some (choose h) else none
theorem Og{step:σ->Option (σ⊕ρ)}{s:σ}{r:ρ}:Jh0 step s=some r↔∃ n,Jha step n s r:=by
 unfold Jh0;constructor
 ·intro h;split at h
  ·rename_i hx;cases h;exact Classical.choose_spec hx
  ·cases h
 ·rintro ⟨n,hn⟩;have hx:∃ r n,Jha step n s r:=⟨r,n,hn⟩
  rw [dif_pos hx];obtain ⟨m,hm⟩:=Classical.choose_spec hx;exact congrArg some (hm.det hn)
theorem Jvz(step:σ->Option (σ⊕ρ))(s:σ):Jh0 step s=(step s).bind fun o=>match o with|.inl s'=>Jh0 step s'|.inr r=>some r:=by
 cases hs:step s with
 | none=>
  cases h:Jh0 step s with
  | none=>rfl
  | some r=>
   obtain ⟨n,hn⟩:=Og.1 h;cases hn with
   | done h1=>rw [hs] at h1; cases h1
   | more h1 _=>rw [hs] at h1; cases h1
 | some o=>
  simp only [aA];cases o with
  | inr r=>exact Og.2 ⟨0,.done hs⟩
  | inl s' =>
   simp only;cases h:Jh0 step s' with
   | some r=>
    obtain ⟨n,hn⟩:=Og.1 h;exact Og.2 ⟨n+1,.more hs hn⟩
   | none=>
    cases h':Jh0 step s with
    | none=>rfl
    | some r=>
     exfalso;obtain ⟨n,hn⟩:=Og.1 h';cases hn with
     | done h1=>rw [hs] at h1; cases h1
     | more h1 h2=>
      rw [hs] at h1; cases h1;rw [Og.2 ⟨_,h2⟩] at h; cases h
noncomputable def Ka7(step:σ->Option (σ⊕ρ)):Nat->σ->Option ρ
 | 0,s=>Jh0 step s
 | n+1,s=>match step s with
  | some (.inl s')=>Ka7 step n s'
  | some (.inr r)=>some r
  | none=>none
theorem Jvn(step:σ->Option (σ⊕ρ)):∀ n s,Ka7 step n s=Jh0 step s
 | 0,_=>rfl
 | n+1,s=>by
  rw [Jvz,Ka7];cases step s with
  | none=>rfl
  | some o=>cases o with
   | inl s'=>exact Jvn step n s'
   | inr r=>rfl
noncomputable def Jp(step:σ->Option (σ⊕ρ))(s:σ):Option ρ:=Ka7 step 65536 s
theorem Kaw(step:σ->Option (σ⊕ρ))(s:σ):Jp step s=Jh0 step s:=Jvn step 65536 s
theorem Jz6{step:σ->Option (σ⊕ρ)}{s:σ}{r:ρ}:Jp step s=some r↔∃ n,Jha step n s r:=by rw [Kaw]; exact Og
theorem Jot(step:σ->Option (σ⊕ρ))(s:σ):Jp step s=(step s).bind fun o=>match o with|.inl s'=>Jp step s'|.inr r=>some r:=by
 simp only [Kaw]; exact Jvz step s
def Kgz(J:σ->JS)(n:Nat)(Q:Exit->PSt->Prop)(r:ρ)(o:σ⊕ρ)(e:Exit)(s':PSt):Prop :=
 match o with
 | .inl v'=>e=.normal/\(J v').seen s'=(J v').told n
 | .inr r'=>r'=r->e≠.normal/\Q e s'
section
variable {P:Program} {Gl:GL} {s:PSt} {Q:Exit->PSt->Prop} {J:σ->JS} {n k:Nat} {r r':ρ} {v':σ}
theorem Kkp{step:σ->Option (σ⊕ρ)}{v:σ}{c:Code}(n:Nat)(J:σ->JS)(hl:Jp step v=some r)(h0:(J v).seen s=(J v).told n)(hok:∀ v,(J v).ok=true)(hb:∀ v o,step v=some o->pwp P Gl c (Kgz J n Q r o) ((J v).st n)):pwp P Gl (.loop c) Q s:=by
 obtain ⟨m,hm⟩:=Jz6.1 hl;refine Kgm (fun m s=>∃ v,Jha step m v r/\s=(J v).st n) m ⟨v,hm,rfl⟩ (JS.weaker (hok v) h0) ?_;rintro m _ ⟨v,hv,rfl⟩;cases hv with
 | done h1=>
  refine Xs (fun e s' hp=>?_) (hb v _ h1);obtain ⟨h2,h3⟩:=hp rfl;cases e <;> first|exact absurd rfl h2|exact h3
 | more h1 h2=>
  refine Xs (fun e s' hp=>?_) (hb v _ h1);obtain ⟨rfl,h3⟩:=hp;exact ⟨_,_,Nat.lt_succ_self _,⟨_,h2,rfl⟩,JS.weaker (hok _) h3⟩
end
end
end PM
