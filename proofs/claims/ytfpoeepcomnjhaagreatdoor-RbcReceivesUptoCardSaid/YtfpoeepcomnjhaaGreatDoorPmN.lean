import Derived.Test.YtfpoeepcomnjhaaGreatDoorPmJ
import Derived.KernelRfl
/-
 THE PURE MACHINE, N: code, loops, whole functions.
-/
namespace PM
open Go Go.RowKit
inductive Gd where
 | always
 | slot (t:Nat) (want:Bool)
 | never
 | bad
def Jb8(ops:Array Oper)(o:Oper):Gd :=
 match o.guard with
 | none=>.always
 | some (j,w)=>match (ops[j]?).bind (·.dst) with
  | some t=>.slot t w
  | none=>.bad
def Jda(ops:Array Oper):List (Oper×Gd):=ops.toList.map fun o=>(o,Jb8 ops o)
def Zj(g:Gd)(s:PSt)(yes no:Prop):Prop :=
 match g with
 | .always=>yes
 | .slot t w=>match s.get t with
  | .bool b=>(b=w->yes)/\(b = !w->no)
  | .tup []=>no
  | _=>False
 | .never=>no
 | .bad=>False
def Ju(P:Program)(Gl:GL)(draw:Bool):List (Oper×Gd)->PSt->(PSt->Prop)->Prop
 | [],s,Q=>Q s
 | (o,gd)::r,s,Q=>Zj gd s (Sy P Gl draw o s fun s'=>Ju P Gl draw r s' Q) (Ju P Gl draw r (s.put o.dst (.tup [])) Q)
section
variable {P:Program} {Gl:GL} {S0:Bs} {w0:World} {s:PSt} {a:Act} {g:GG} {w:World}
theorem Rel.und(g:GG):Rel g (.tup []) undef:=by
 simp only [Rel];exact ⟨#[],rfl,.nil⟩
theorem Kd.slotUnd(h:Kd Gl S0 w0 s a g){t:Nat}(hb:s.get t=.tup []):∀ b,a.tmps[t]? ≠ some (.bool b):=by
 intro b hab;have h1:=h.get t;rw [hb] at h1;simp only [Rel] at h1;obtain ⟨arr,h2,_⟩:=h1;rw [cJ,hab] at h2;cases h2
theorem Kd.slotBool(h:Kd Gl S0 w0 s a g){t:Nat}{b:Bool}(hb:s.get t=.bool b):a.tmps[t]? = some (.bool b):=by
 have h1:=h.get t;rw [hb,Wf] at h1
 by_cases ht:t<a.tmps.size
 ·rw [Array.getElem?_eq_getElem ht] at *
  simpa [ht] using h1
 ·exfalso;rw [cJ,Array.getElem?_eq_none oG] at h1;simp [undef] at h1
theorem Xe(h:Kd Gl S0 w0 s a g){ops:Array Oper}{o:Oper}{yes no:Prop}(hs:Zj (Jb8 ops o) s yes no) :
  (Region.wanted o (yielded ops a.tmps)=true/\yes)\/(Region.wanted o (yielded ops a.tmps)=false/\no):=by
 unfold Zj Jb8 at hs;unfold Region.wanted;cases hg:o.guard with
 | none=>simp only [hg] at hs; exact .inl ⟨rfl,hs⟩
 | some jw=>
  obtain ⟨j,want⟩:=jw;simp only [hg] at hs;cases hd:(ops[j]?).bind (·.dst) with
  | none=>simp [hd] at hs
  | some t=>
   simp only [hd] at hs;split at hs
   ·rename_i b hb;have hy:yielded ops a.tmps j=some b:=by
     unfold yielded;rw [hd];simp only [aA];rw [h.slotBool hb]
    simp only [hy];cases b <;> cases want <;> simp_all
   ·rename_i hb;have hy:yielded ops a.tmps j=none:=by
     unfold yielded;rw [hd];simp only [aA];have:=h.slotUnd hb;split
     ·rename_i b hb'; exact absurd hb' (this b)
     ·rfl
    simp only [hy];exact .inr ⟨by simp,hs⟩
   ·exact hs.elim
theorem Jgu{ops:Array Oper}{Q':Exit->Act->World->Prop}{Q:PSt->Prop}(hQ:∀ s' a' w',Q s'->Inv Gl S0 w0 s' a' w'->Q' .normal a' w') :
  ∀ (l:List Oper) (s:PSt) (a:Act) (w:World),Inv Gl S0 w0 s a w->Ju P Gl false (l.map fun o=>(o,Jb8 ops o)) s Q->wpList P ops Q' l a w
 | [],s,a,w,h,hp=>hQ s a w hp h
 | o::l,s,a,w,h,hp=>by
  obtain ⟨g,rfl,h⟩:=h;unfold wpList;simp only [bJ,Ju] at hp;rcases Xe h hp with ⟨h1,h2⟩|⟨h1,h2⟩
  ·rw [if_pos h1];exact .inl (Nv h h2 fun s' a' w' hs' hi'=>Jgu hQ l s' a' w' hi' hs')
  ·rw [if_neg (by rw [h1]; simp)];exact Jgu hQ l _ _ _ ⟨g,rfl,h.put _ (Rel.und _)⟩ h2
def pwp(P:Program)(Gl:GL)(c:Code)(Q:Exit->PSt->Prop)(s:PSt):Prop :=
 ∀ (S0:Bs) (w0:World) (a:Act) (w:World),Inv Gl S0 w0 s a w->c.wp P (fun e a' w'=>∃ s',Q e s'/\Inv Gl S0 w0 s' a' w') a w
theorem Yv{c:Code}{Q Q':Exit->Act->World->Prop}(h:∀ e a w,Q e a w->Q' e a w)(hw:c.wp P Q a w):c.wp P Q' a w :=
 fun b k cs=>let ⟨e,a',w',hq,r⟩:=hw b k cs; ⟨e,a',w',h _ _ _ hq,r⟩
section
variable {Q Q':Exit->PSt->Prop} {c x y:Code}
theorem Si(h:∀ e s,Q e s->Q' e s)(hw:pwp P Gl c Q s):pwp P Gl c Q' s :=
 fun S0 w0 a w hi=>Yv (fun _ _ _ ⟨s',q,i⟩=>⟨s',h _ _ q,i⟩) (hw S0 w0 a w hi)
theorem Qv(h:Q .normal s):pwp P Gl .skip Q s:=fun _ _ _ _ hi=>wp_skip ⟨s,h,hi⟩
theorem Jd9{id:Nat}(h:Q (.exit id) s):pwp P Gl (.exit id) Q s:=fun _ _ _ _ hi=>wp_exit ⟨s,h,hi⟩
theorem Vw(h:Q .ret s):pwp P Gl .ret Q s:=fun _ _ _ _ hi=>wp_ret ⟨s,h,hi⟩
def Jm7(P:Program)(Gl:GL)(y:Code)(Q:Exit->PSt->Prop):Exit->PSt->Prop
 | .normal,s=>pwp P Gl y Q s
 | e,s=>Q e s
theorem Kb(h:pwp P Gl x (Jm7 P Gl y Q) s):pwp P Gl (.seq x y) Q s:=fun S0 w0 a w hi=>
 wp_seq (Yv (fun e _ _ ⟨s',q,i⟩=>by
  cases e <;> simp only [Exit.then]
  case normal=>exact q S0 w0 _ _ i
  all_goals exact ⟨s',q,i⟩) (h S0 w0 a w hi))
theorem Jr7{c:Operand}{b:Bool}(hb:s.ev c=.bool b)(ht:b=true->pwp P Gl x Q s)(hf:b=false->pwp P Gl y Q s):pwp P Gl (.cond c x y) Q s:=fun S0 w0 a w hi=>by
 obtain ⟨g,rfl,hg⟩:=hi;have:=hg.ev c;rw [hb,Wf] at this;exact wp_cond_split this (fun e=>ht e S0 w0 a g.w ⟨g,rfl,hg⟩) (fun e=>hf e S0 w0 a g.w ⟨g,rfl,hg⟩)
theorem Tw{c:Operand}{e:Bool}(hb:s.ev c=.ub e)(ht:e=true->pwp P Gl x Q s)(hf:pwp P Gl y Q s):pwp P Gl (.cond c x y) Q s:=fun S0 w0 a w hi=>by
 obtain ⟨g,rfl,hg⟩:=hi;have:=hg.ev c;rw [hb] at this;obtain ⟨b,h1,h2⟩:∃ b:Bool,a.eval c=.bool b/\(b=true->e=true):=this;exact wp_cond_split h1 (fun q=>ht (h2 q) S0 w0 a g.w ⟨g,rfl,hg⟩) (fun _=>hf S0 w0 a g.w ⟨g,rfl,hg⟩)
def Jdd(id:Nat)(Q:Exit->PSt->Prop):Exit->PSt->Prop
 | .exit id',s=>if id'=id then Q .normal s else Q (.exit id') s
 | e,s=>Q e s
theorem Kk{id:Nat}(h:pwp P Gl c (Jdd id Q) s):pwp P Gl (.block id c) Q s:=fun S0 w0 a w hi=>
 wp_block (Yv (fun e a w ⟨s',q,i⟩=>by
  cases e <;> simp only [Exit.inBlock]
  case exit id' =>
   simp only [Jdd] at q;split
   ·rename_i h1; rw [if_pos h1] at q; exact ⟨s',q,i⟩
   ·rename_i h1; rw [if_neg h1] at q; exact ⟨s',q,i⟩
  all_goals exact ⟨s',q,i⟩) (h S0 w0 a w hi))
def Kfp(I:Nat->PSt->Prop)(n:Nat)(Q:Exit->PSt->Prop):Exit->PSt->Prop
 | .normal,s=>∃ m s',m<n/\I m s'/\Je4 s s'
 | e,s=>Q e s
theorem Jyi(I:Nat->PSt->Prop)(n:Nat){s':PSt}(h0:I n s')(hw:Je4 s s')(hr:∀ n s,I n s->pwp P Gl c (Kfp I n Q) s):pwp P Gl (.loop c) Q s:=by
 intro S0 w0 a w hi;have key:∀ n (a:Act) (w:World),(∃ s,I n s/\Inv Gl S0 w0 s a w)->∀ (b:Frame) (k:List Item) (cs:List Frame),
   ∃ e a' w',(∃ s',Q e s'/\Inv Gl S0 w0 s' a' w')/\Arrives P (lone (b.at a (.code c::.inLoop c::k)) cs w) b k cs e a' w':=by
  intro n;induction n using Nat.strongRecOn with
  | _ n ih=>
   rintro a w ⟨s,hI,hi⟩ b k cs;obtain ⟨e,a1,w1,⟨s1,hq,hi1⟩,harr⟩:=hr n s hI S0 w0 a w hi b (.inLoop c::k) cs;cases e with
   | normal=>
    obtain ⟨m,s2,hm,hI2,hw2⟩:=hq;obtain ⟨e2,a2,w2,hq2,harr2⟩:=ih m hm a1 w1 ⟨s2,hI2,hi1.weak hw2⟩ b k cs;exact ⟨e2,a2,w2,hq2,.of_steps (Steps.trans harr (.one step_inLoop)) harr2⟩
   | exit id=>exact ⟨_,a1,w1,⟨s1,hq,hi1⟩,.pass (x:=.inLoop c) rfl (fun _ _=>.inl sG) harr⟩
   | goto l=>exact ⟨_,a1,w1,⟨s1,hq,hi1⟩,.pass (x:=.inLoop c) rfl (fun _ _=>.inl sG) harr⟩
   | ret=>exact ⟨_,a1,w1,⟨s1,hq,hi1⟩,.pass (x:=.inLoop c) rfl (fun _ _=>.inl sG) harr⟩
   | panic ch=>exact ⟨_,a1,w1,⟨s1,hq,hi1⟩,.pass (x:=.inLoop c) rfl (fun _ _=>.inl sG) harr⟩
   | outgrown=>exact ⟨_,a1,w1,⟨s1,hq,hi1⟩,.pass (x:=.inLoop c) rfl (fun _ _=>.inl sG) harr⟩
 intro b k cs;obtain ⟨e,a',w',hq,harr⟩:=key n a w ⟨s',h0,hi.weak hw⟩ b k cs;exact ⟨e,a',w',hq,.of_steps (.one step_loop) harr⟩
end
def Pi(P:Program)(Gl:GL)(s:PSt):List ResultVar->Option (List PV)
 | []=>some []
 | .tmp t::r=>(Pi P Gl s r).map (s.get t::·)
 | .cell x t::r=>match Jbw P Gl s.H s.X t (s.get x),Pi P Gl s r with
  | some p,some ps=>some (p::ps)
  | _,_=>none
def Jwv : PV->Bool
 | .tup _=>false
 | _=>true
def Jjy : List PV->Option PV
 | [x]=>some x
 | vs=>if vs.all Jwv=true then some (.tup vs) else none
def Jm0(r:PV):Nat->Option (Nat×Nat):=fun t=>(Vj r).lookup t
def Ib(P:Program)(Gl:GL)(rs:List ResultVar)(r:PV)(s:PSt):Prop :=
 ∃ vs pv,Pi P Gl s rs=some vs/\Jjy vs=some pv/\WkV (fun _=>none) (Jm0 r) pv r/\∀ x∈Vj r,s.T x.1=some x.2
def Jh0(P:Program)(Gl:GL)(rs:List ResultVar)(r:PV):Exit->PSt->Prop
 | .normal,s=>Ib P Gl rs r s
 | .ret,s=>Ib P Gl rs r s
 | _,_=>False
theorem Jhv{t:TypeId}{p r:PV}{v:Value}(he:Jbw P Gl s.H s.X t p=some r)(hv:Rel g p v):∃ ad,v=.pointer (some ad):=by
 cases p <;> simp only [Jbw] at he <;> try cases he
 case eref=>
  simp only [Rel,Km,Kh] at hv;obtain ⟨⟨B,o,rfl⟩,_⟩:=hv;exact ⟨_,rfl⟩
 ·rw [Mi] at hv; exact ⟨_,hv.1⟩
 ·rw [Oc] at hv; obtain ⟨B,o,e,_⟩:=hv; exact ⟨_,e⟩
 ·rw [Rk] at hv; exact ⟨_,hv⟩
def Jwr(tmps:Array Value):ResultVar->Sem Value
 | .tmp t=>pure (tmps.getD t undef)
 | .cell x t=>do loadVar t (<- asAddr (tmps.getD x undef))
theorem Dy(fn:Func)(tmps:Array Value):results fn tmps=(do
  let vs <- fn.results.mapM (Jwr tmps)
  pure (if h:vs.size=1 then vs[0] else .tuple vs)):=rfl
theorem Mv(h:Kd Gl S0 w0 s a g):∀ (rs:List ResultVar) (ps:List PV),Pi P Gl s rs=some ps ->
  ∃ vs,(rs.mapM (Jwr a.tmps)).run P g.w=.ok vs g.w/\Ke (Rel g) ps vs
 | [],ps,he=>by simp only [Pi] at he; cases he; exact ⟨[],by simp,.nil⟩
 | .tmp t::rs,ps,he=>by
  simp only [Pi] at he;obtain ⟨ps',h1,rfl⟩:=aC.1 he;obtain ⟨vs,h2,h3⟩:=Mv h rs ps' h1;exact ⟨_::vs,by simp only [List.mapM_cons,Jwr,Sem.run_bind,Sem.run_pure,h2,Result.andThen_ok],.cons (h.get t) h3⟩
 | .cell x t::rs,ps,he=>by
  simp only [Pi] at he;split at he
  ·rename_i p ps' h1 h2;cases he;obtain ⟨vs,h3,h4⟩:=Mv h rs ps' h2;obtain ⟨z,h5,h6⟩:=Jlm h h1 (h.get x);obtain ⟨ad,had⟩:=Jhv h1 (h.get x);have h7:(loadVar t ad).run P g.w=.ok z g.w:=by
    rw [had] at h5
    simpa [Instr.loadAt,Instr.sureAddr] using h5
   exact ⟨z::vs,by rw [List.mapM_cons,Sem.run_bind,Jwr,had]; simp only [asAddr,Sem.run_bind,Sem.run_pure,h7,h3,Result.andThen_ok],.cons h6 h4⟩
  ·cases he
theorem Iy{t:Nat}{x:Nat×Nat}:∀ {l:List (Nat×(Nat×Nat))},l.lookup t=some x->(t,x)∈l
 | [],h=>by cases h
 | (t',y)::l,h=>by
  rw [List.lookup_cons] at h;split at h
  ·rename_i he;cases h;have:t=t':=by simpa using he
   subst this; simp
  ·exact dC _ (Iy h)
theorem Jbq{t:Nat}{x:Nat×Nat}:∀ {l:List (Nat×(Nat×Nat))},(∀ y∈l,y.1=t->y.2=x)->(t,x)∈l->l.lookup t=some x
 | [],_,h=>by cases h
 | (t',y)::l,hf,h=>by
  rw [List.lookup_cons];split
  ·rename_i he;have:t=t':=by simpa using he
   subst this;exact congrArg some (hf (t,y) sG rfl)
  ·rename_i he;rcases bG.1 h with h|h
   ·cases h; simp at he
   ·exact Jbq (fun y hy=>hf y (by simp [hy])) h
theorem Jc6{ps:List PV}{pv:PV}{vs:List Value}(h:Jjy ps=some pv)(hr:Ke (Rel g) ps vs):Rel g pv (if h:vs.toArray.size=1 then vs.toArray[0] else .tuple vs.toArray):=by
 unfold Jjy at h;split at h
 ·rename_i x;cases h;obtain ⟨v,vs',rfl,h1,h2⟩:=hr.cons_left;rw [h2.nil_left]
  simpa using h1
 ·rename_i hne;split at h
  ·rename_i hall;cases h;have hlen:¬ vs.toArray.size=1:=by
    intro e;have:ps.length=1:=by rw [hr.1]; simpa using e
    match ps,this,hne with
    | [x],_,hne=>exact hne x rfl
   rw [dif_neg hlen];simp only [Rel];refine ⟨_,rfl,hr.1,fun i x y hx hy=>?_⟩;have h1:=hr.2 i x y hx hy;have h2:=aG.1 hall x (aD hx);cases x <;> first|exact h1|(simp [Jwv] at h2)
  ·cases h
def Bp : PV->Bool
 | .agg cs=>cs.all PV.one
 | .tup _=>false
 | .any=>false
 | _=>true
theorem Rel.ofData{p:PV}{v:Value}(h:Js g.S g.w p v)(hf:Bp p=true):Rel g p v:=by
 cases p
 case agg cs=>
  simp only [Js] at h;obtain ⟨arr,h1,h2⟩:=h;simp only [Rel,Km];refine ⟨arr,h1,((Vr _ _).1 h2).1,fun i x y hx hy=>?_⟩;have h3:=((Vr _ _).1 h2).2 i x y hx hy;have h4:=aG.1 hf x (aD hx);exact ⟨.of_data h3 h4,(h3.oneCell h4).1⟩
 case tup vs=>simp [Bp] at hf
 case any=>simp [Bp] at hf
 all_goals exact .of1 (.of_data h rfl)
def st0(args:List PV)(n:Nat):PSt:=⟨args++List.replicate (n - args.length) .any,fun _=>none,fun _=>none,fun _=>none,0⟩
theorem Jic{f:FuncId}{fn:Func}{c:Code}{args:List PV}{r:PV}{n:Nat}{rs:List ResultVar}(hf:P.funcs[f]? = some fn)(hname:(fn.name == "runtime.NumGoroutine")=false)(hb:fn.body=some c)(hn:fn.ntmps=n)(hrs:fn.results.toList=rs)(hflat:args.all Bp=true)(h:pwp P Gl c (Jh0 P Gl rs r) (st0 args n)):Yr P Gl f args r:=by
 refine ⟨⟨fn,hf,hname,by rw [hb]; rfl⟩,fun S w vs hS hglob hargs=>?_⟩;subst hn; subst hrs;refine calls_of_wp hf hb ?_;have hsz:args.length=vs.size:=by rw [hargs.1]; simp
 have hinit:Inv Gl ⟨S,fun _ _=>False,fun _ _ _=>False,[],[]⟩ w (st0 args fn.ntmps) { tmps:=vs++Array.replicate (fn.ntmps - vs.size) undef,defers:=[] } w:=by
  refine ⟨⟨S,w,fun _=>0,fun _=>undef,fun _=>none,fun _=>none⟩,rfl,{ hH:=rfl,hT:=rfl,defers:=rfl,len:=by simp [st0,hsz],tm:=fun i p v hp hv=>?_,sub:=fun _ _ h=>h,new:=fun _ _ h=>.inl h,lt:=hS,below:=Wa.refl _ _,objs:=(fun l ob e=>by cases e),inj:=(fun l l' e=>by cases e),owns:=(fun t n k e=>by cases e),ownsEx:=(fun t t' B hs=>by obtain ⟨_,_,_,_,e,_⟩:=hs; cases e),ownsObj:=(fun t B l hs=>by obtain ⟨_,_,_,_,e,_⟩:=hs; cases e),glob:=hglob,exs:=(fun t k b xss e=>by cases e),exsEx:=(fun t t' B hs=>by have:=hs.1; cases this),fix:=fun _ _ e=>e.elim,fixT:=fun _ _ _ e=>e.elim }⟩;simp only [st0] at hp;simp only [bL,bR] at hv;rw [aR] at hp
  by_cases hi:i<args.length
  ·rw [if_pos hi] at hp;rw [cC oG] at hv;exact Rel.ofData (g:=⟨S,w,_,_,_,_⟩) (hargs.2 i p v hp (by simpa using hv)) (aG.1 hflat p (aD hp))
  ·rw [if_neg hi,bS] at hp;split at hp
   ·cases hp; trivial
   ·cases hp
 refine Yv (fun e a' w' hq=>?_) (h ⟨S,fun _ _=>False,fun _ _ _=>False,[],[]⟩ w _ w hinit);obtain ⟨s',hq,g,rfl,hg⟩:=hq;have fin:Ib P Gl fn.results.toList r s'->a'.defers=[]/\∃ v,(results fn a'.tmps).run P g.w=.ok v g.w/\∃ v_1 g',Ending.returned v=.returned v_1/\g'.w=g.w/\Et S w r v_1 g':=by
  rintro ⟨ps,pv,h1,h2,h3,h4⟩;refine ⟨hg.defers, ?_⟩;obtain ⟨us,r1,r2⟩:=Mv hg _ _ h1;have hcut:Cut g (fun _=>none) (Jm0 r):=⟨fun t x hx=>by
   have:=h4 _ (Iy hx);rw [hg.hT]; exact this,fun l cs _ e=>(by cases e)⟩
  refine ⟨_, ?_,_,{ g with H:=fun _=>none,T:=Jm0 r },rfl,rfl,⟨hg.below.toBelow (fun _ e=>e.elim (fun q=>q.elim fun _ q=>q) fun q=>by obtain ⟨_,_,_,q,_⟩:=q; exact q),hg.sub,fun B o hB=>(hg.new B o hB).imp id fun e=>⟨e.resolve_right (fun e=>e.elim (fun q=>q.elim fun _ q=>q) fun q=>by obtain ⟨_,_,_,q,_⟩:=q; exact q),hg.lt B o hB⟩,fun _=>rfl,fun t n k=>⟨fun e=>Iy e,fun e=>Jbq (fun y hy hyt=>?_) e⟩,(Jc6 h2 r2).weak hcut h3,fun t n k e=>hg.owns t n k (hcut.T t _ e),fun t t' B hs hs'=>?_⟩⟩
  ·rw [Dy,bU];simp only [Sem.run_bind,Sem.run_map,r1,Result.andThen_ok,Sem.run_pure]
  ·have e1:=h4 y hy;have e2:=h4 _ e;rw [hyt] at e1;rw [e1] at e2
   simpa using e2
  ·obtain ⟨n,k,off,cap,e1,e2,e3⟩:=hs;obtain ⟨n',k',off',cap',e1',e2',e3'⟩:=hs';exact hg.ownsEx t t' B ⟨n,k,off,cap,hcut.T t _ e1,e2,e3⟩ ⟨n',k',off',cap',hcut.T t' _ e1',e2',e3'⟩
 cases e with
 | normal=>exact fin hq
 | ret=>exact fin hq
 | exit id=>exact hq.elim
 | goto l=>exact hq.elim
 | panic ch=>exact hq.elim
 | outgrown=>exact hq.elim
end
end PM
namespace PM
open Go Go.RowKit
def pxr(P:Program)(Gl:GL):List (Oper×Gd)->PSt->PSt×Bool
 | [],s=>(s,true)
 | (o,.always)::r,s=>match Vd o.op with
  | none=>match evO P Gl o.dst o.op s.ev s.H s.T s.X with
   | some (v,e)=>pxr P Gl r ((e.app s).put o.dst v)
   | none=>(s,false)
  | some _=>(s,false)
 | (o,.never)::r,s=>pxr P Gl r (s.put o.dst (.tup []))
 | (o,.slot t _)::r,s=>match s.get t with
  | .tup []=>pxr P Gl r (s.put o.dst (.tup []))
  | _=>(s,false)
 | (_,.bad)::_,s=>(s,false)
section
variable {P:Program} {Gl:GL} {d:Bool} {L:List (Oper×Gd)} {s:PSt} {Q:PSt->Prop}
theorem Je7 : ∀ (l1 l2:List (Oper×Gd)) (s:PSt),(pxr P Gl l1 s).2=true->Ju P Gl d l2 (pxr P Gl l1 s).1 Q->Ju P Gl d (l1++l2) s Q
 | [],l2,s,_,h=>h
 | (o,.always)::r,l2,s,h1,h2=>by
  simp only [cB,Ju,Zj];refine .inl ?_;simp only [Ru];unfold pxr at h1 h2;cases hc:Vd o.op with
  | some y=>simp [hc] at h1
  | none=>
   simp only [hc] at h1 h2 ⊢;cases he:evO P Gl o.dst o.op s.ev s.H s.T s.X with
   | none=>simp [he] at h1
   | some y=>
    simp only [he] at h1 h2 ⊢;exact ⟨y,rfl,Je7 r l2 _ h1 h2⟩
 | (o,.never)::r,l2,s,h1,h2=>by
  simp only [cB,Ju,Zj];exact Je7 r l2 _ h1 h2
 | (o,.slot t w)::r,l2,s,h1,h2=>by
  simp only [cB,Ju,Zj];unfold pxr at h1 h2;split at h1
  ·rename_i hu;simp only [hu] at h2 ⊢;exact Je7 r l2 _ h1 h2
  ·cases h1
 | (o,.bad)::r,l2,s,h1,h2=>by simp [pxr] at h1
theorem Mp(n:Nat)(h:(pxr P Gl (L.take n) s).2=true)(h2:Ju P Gl d (L.drop n) (pxr P Gl (L.take n) s).1 Q):Ju P Gl d L s Q:=by
 have:=Je7 (d:=d) (Q:=Q) (L.take n) (L.drop n) s h h2
 rwa [bZ] at this
theorem Kds(h:(pxr P Gl L s).2=true)(h2:Q (pxr P Gl L s).1):Ju P Gl d L s Q:=by
 have:=Je7 (d:=d) (Q:=Q) L [] s h h2
 rwa [bL] at this
def Ix(P:Program)(Gl:GL):List (Oper×Gd)->PSt->Option (PV×Eff)
 | (o,.always)::_,s=>match Vd o.op with
  | none=>evO P Gl o.dst o.op s.ev s.H s.T s.X
  | some _=>none
 | _,_=>none
def Qk : List (Oper×Gd)->Option Nat
 | (o,_)::_=>o.dst
 | []=>none
theorem Bu{v:PV}{e:Eff}(h:Ix P Gl L s=some (v,e))(h2:Ju P Gl d (L.drop 1) ((e.app s).put (Qk L) v) Q):Ju P Gl d L s Q:=by
 match L,h,h2 with
 | (o,.always)::r,h,h2=>
  simp only [Ix] at h;simp only [Ju,Zj];refine .inl ?_;simp only [Ru];cases hc:Vd o.op with
  | some y=>simp [hc] at h
  | none=>simp only [hc] at h ⊢; exact ⟨(v,e),h,h2⟩
def Cy(p q:PV):PV :=
 match p with
 | .any=>.any
 | .lst .frozen k b _=>match q with
  | .lst (.own _) k b xss=>.lst .frozen k b xss
  | .lst .full k b xss=>.lst .frozen k b xss
  | .nil=>.lst .frozen k b []
  | q=>q
 | .lst .full k b _=>match q with
  | .nil=>.lst .full k b []
  | q=>q
 | _=>q
def Ja0 : List PV->List PV->List PV
 | p::ps,q::qs=>Cy p q::Ja0 ps qs
 | _,qs=>qs
def Hk(p q:PV):PV :=
 match p with
 | .agg ps=>match q with
  | .agg qs=>.agg (Ja0 ps qs)
  | q=>q
 | p=>Cy p q
def Xy : List PV->List PV->List PV
 | p::ps,q::qs=>Hk p q::Xy ps qs
 | _,qs=>qs
def Ec(p q:PV):PV :=
 match p with
 | .tup ps=>match q with
  | .tup qs=>.tup (Xy ps qs)
  | q=>q
 | p=>Hk p q
def Jqs(p q:Qg):Qg :=
 match p with
 | .cells ps=>match q with
  | .cells qs=>.cells (Ja0 ps qs)
  | q=>q
 | .map _=>q
 | .iter _ _=>q
 | .miter _ _ _ _=>q
 | .mapo _ _ _ _=>q
section
variable {H:Nat->Option Qg} {T:Nat->Option (Nat×Nat)}
theorem Joe(p q:PV):Cy p q=q\/Wk1 H T q (Cy p q):=by
 unfold Cy;split
 ·exact .inr (.any _)
 ·split
  ·exact .inr (.thaw _ _ _ _)
  ·exact .inr (.full _ _ _)
  ·exact .inr (.nil _ _ _ (.inl rfl))
  ·exact .inl rfl
 ·split
  ·exact .inr (.nil _ _ _ (.inr rfl))
  ·exact .inl rfl
 ·exact .inl rfl
theorem Jmf{p q:PV}(h:Nh H T (Cy p q)=true):Wk1 H T q (Cy p q):=by
 rcases Joe (H:=H) (T:=T) p q with e|e
 ·rw [e] at h ⊢; exact .same _ h
 ·exact e
theorem Jgw : ∀ {ps qs:List PV},(Ja0 ps qs).all (Nh H T)=true->Ke (Wk1 H T) qs (Ja0 ps qs)
 | p::ps,q::qs,h=>by
  simp only [Ja0,List.all_cons,aF] at h ⊢;exact .cons (Jmf h.1) (Jgw h.2)
 | [],qs,h=>by
  simp only [Ja0] at h ⊢;exact ⟨rfl,fun i x y hx hy=>by rw [hx] at hy; cases hy; exact .same _ (aG.1 h x (aD hx))⟩
 | p::ps,[],h=>by simp only [Ja0]; exact .nil
theorem Wk1.wkA{p q:PV}(h:Wk1 H T p q)(hp:∀ vs,p≠.tup vs)(hq:∀ cs,p=.agg cs->q=.any):WkA H T p q:=by
 cases h with
 | any=>exact .any _
 | same _ h=>
  refine .same _ ?_ hp;cases p <;> first|exact h|(have:=hq _ rfl; cases this)
 | thaw=>exact .thaw _ _ _ _
 | full=>exact .full _ _ _
 | nil o k b ho=>exact .nil _ _ _ ho
theorem Jr9(p:PV)(cs:List PV):Cy p (.agg cs)=.agg cs\/p=.any:=by
 unfold Cy;split
 ·exact .inr rfl
 all_goals exact .inl rfl
theorem Jkl(p q:PV):Cy p q=q\/Cy p q=.any\/(Cy p q).one=true:=by
 unfold Cy;split
 ·exact .inr (.inl rfl)
 ·split <;> first|exact .inr (.inr rfl)|exact .inl rfl
 ·split <;> first|exact .inr (.inr rfl)|exact .inl rfl
 ·exact .inl rfl
theorem Kaf{p:PV}(h:p.one=true\/p=.any):Jak H T p=Nh H T p:=by
 cases p <;> first|rfl|(rcases h with h|h <;> cases h)
theorem Jtn{p q:PV}(hq:∀ vs,q≠.tup vs)(h:Jak H T (Cy p q)=true):WkA H T q (Cy p q):=by
 rcases Jkl p q with e|e|e
 ·rw [e] at h ⊢; exact .same _ h hq
 ·rw [e]; exact .any _
 ·rw [Kaf (.inl e)] at h;refine Wk1.wkA (Jmf h) hq fun cs hc=>?_;subst hc;rcases Jr9 p cs with e'|rfl
  ·rw [e'] at e; cases e
  ·rfl
theorem Jm2{p q:PV}(hq:∀ vs,q≠.tup vs)(h:Jak H T (Hk p q)=true):WkA H T q (Hk p q):=by
 cases p
 case agg ps=>
  cases q
  case agg qs=>
   simp only [Hk,Jak] at h ⊢;exact .agg _ _ (Jgw h)
  all_goals (simp only [Hk] at h ⊢; exact .same _ h hq)
 all_goals (simp only [Hk] at h ⊢; exact Jtn hq h)
theorem Jka : ∀ {ps qs:List PV},(∀ q∈qs,∀ vs,q≠.tup vs)->(Xy ps qs).all (Jak H T)=true->Ke (WkA H T) qs (Xy ps qs)
 | p::ps,q::qs,hq,h=>by
  simp only [Xy,List.all_cons,aF] at h ⊢;exact .cons (Jm2 (hq q sG) h.1) (Jka (fun q hq'=>hq q (by simp [hq'])) h.2)
 | [],qs,hq,h=>by
  simp only [Xy] at h ⊢;exact ⟨rfl,fun i x y hx hy=>by rw [hx] at hy; cases hy; exact .same _ (aG.1 h x (aD hx)) (hq x (aD hx))⟩
 | p::ps,[],hq,h=>by simp only [Xy]; exact .nil
def Jbz : PV->Bool
 | .tup vs=>vs.all Jwv
 | _=>true
theorem Jzy{q:PV}(h:Jwv q=true)(vs:List PV):q≠.tup vs:=fun e=>by subst e; cases h
theorem Jug{p q:PV}(hq:∀ vs,q≠.tup vs)(vs:List PV):Hk p q≠.tup vs:=by
 intro hz;have other:∀ p,Cy p q≠.tup vs:=fun p hz=>by
  rcases Jkl p q with e|e|e
  ·exact hq vs (e.symm.trans hz)
  ·rw [hz] at e; cases e
  ·rw [hz] at e; cases e
 cases p
 case agg ps=>
  cases q
  case tup vs'=>exact hq vs' rfl
  all_goals (simp only [Hk] at hz; cases hz)
 all_goals (simp only [Hk] at hz; exact other _ hz)
theorem Xw{p q:PV}(hn:Jbz q=true)(h:Fj H T (Ec p q)=true):WkV H T q (Ec p q):=by
 have other:∀ p:PV,(∀ vs,q≠.tup vs)->Fj H T (Hk p q)=true->WkV H T q (Hk p q):=fun p hq h=>by
  refine .part _ _ (Jm2 hq ?_);have hne:=Jug (p:=p) hq;generalize Hk p q=z at h hne;cases z
  case tup vs=>exact absurd rfl (hne vs)
  all_goals exact h
 by_cases hq:∃ vs,q=.tup vs
 ·obtain ⟨qs,rfl⟩:=hq
  by_cases hp:∃ ps,p=.tup ps
  ·obtain ⟨ps,rfl⟩:=hp;simp only [Ec,Fj] at h ⊢;exact .tup _ _ (Jka (fun q hq=>Jzy (aG.1 hn q hq)) h)
  ·by_cases ha:p=.any
   ·subst ha; exact .any _
   ·have e:Ec p (.tup qs)=.tup qs:=by
     cases p <;> first|exact absurd rfl ha|exact absurd ⟨_,rfl⟩ hp|rfl|skip
     rename_i o k b xss;cases o <;> rfl
    rw [e] at h ⊢;exact .same _ h
 ·have hq':∀ vs,q≠.tup vs:=fun vs e=>hq ⟨vs,e⟩;cases p
  case tup ps=>
   have e:Ec (.tup ps) q=q:=by cases q <;> first|rfl|exact absurd rfl (hq' _)
   rw [e] at h ⊢;exact .same _ h
  all_goals (simp only [Ec] at h ⊢; exact other _ hq' h)
end
end
end PM
namespace PM
open Go Go.RowKit
structure JS where
 tm:List (Nat×PV)
 H:List (Nat×Qg)
 T:List (Nat×(Nat×Nat))
 X:List (Nat×(Nat×Nat×List (List PV)))
def Jau{α:Type}(l:List (Nat×α)):Nat->Option α:=fun i=>l.lookup i
def Jg4(l:List (Nat×PV)):Nat->Nat->List PV
 | 0,_=>[]
 | n+1,i=>(l.lookup i).getD .any::Jg4 l n (i+1)
def JS.st(n:Nat)(j:JS):PSt:=⟨Jg4 j.tm (n % 100000) 0,Jau j.H,Jau j.T,Jau j.X,n / 100000⟩
def Jdi(H:Nat->Option Qg)(T:Nat->Option (Nat×Nat)):Qg->Bool
 | .cells cs=>cs.all (Nh H T)
 | .map _=>true
 | .iter _ _=>true
 | .miter _ _ _ _=>true
 | .mapo _ _ _ _=>false
def JS.ok(j:JS):Bool:=(j.tm.all fun x=>Fj (Jau j.H) (Jau j.T) x.2)&&(j.H.all fun x=>Jdi (Jau j.H) (Jau j.T) x.2)&&(j.X.all fun x=>(Jau j.T x.1).isSome)
def JS.seen(j:JS)(s:PSt):(Nat×Nat)×Bool×List PV×List (Option Qg)×List (Option (Nat×Nat))×List (Option (Nat×Nat×List (List PV))) :=
 ((s.tm.length,s.m),j.tm.all (fun x=>Jbz (s.tm.getD x.1 .any)),j.tm.map (fun x=>Ec x.2 (s.tm.getD x.1 .any)),j.H.map (fun x=>(s.H x.1).map (Jqs x.2)),j.T.map (fun x=>s.T x.1),j.X.map fun x=>s.X x.1)
def JS.told(n:Nat)(j:JS):(Nat×Nat)×Bool×List PV×List (Option Qg)×List (Option (Nat×Nat))×List (Option (Nat×Nat×List (List PV))) :=
 ((n % 100000,n / 100000),true,j.tm.map (·.2),j.H.map (fun x=>some x.2),j.T.map (fun x=>some x.2),j.X.map fun x=>some x.2)
section
variable {P:Program} {Gl:GL} {s:PSt} {n:Nat} {j:JS}
theorem Mh{α:Type}{l:List (Nat×α)}{i:Nat}{x:α}(h:l.lookup i=some x):(i,x)∈l:=by
 induction l with
 | nil=>cases h
 | cons y l ih=>
  obtain ⟨k,y⟩:=y;rw [List.lookup_cons] at h
  by_cases e:i == k
  ·rw [e] at h; simp at h; have:i=k:=by simpa using e
   subst this; subst h; simp
  ·simp [e] at h; exact dC _ (ih h)
theorem Jbr(l:List (Nat×PV)):∀ (n i:Nat),(Jg4 l n i).length=n
 | 0,_=>rfl
 | n+1,i=>by simp [Jg4,Jbr l n]
theorem Jgy(l:List (Nat×PV)):∀ (n i k:Nat),k<n->(Jg4 l n i)[k]? = some ((l.lookup (i+k)).getD .any)
 | 0,_,_,h=>by omega
 | n+1,i,0,_=>by simp [Jg4]
 | n+1,i,k+1,h=>by
  simp only [Jg4,cU];rw [Jgy l n (i+1) k oG,show i+1+k=i+(k+1) by omega]
theorem Jnz{H:Nat->Option Qg}{T:Nat->Option (Nat×Nat)}{p q:Qg}(h:Jdi H T (Jqs p q)=true):WkO H T q (Jqs p q):=by
 have same:∀ q,Jdi H T q=true->WkO H T q q:=fun q h=>by
  cases q with
  | cells cs=>exact .cells _ _ ⟨rfl,fun i x y hx hy=>by rw [hx] at hy; cases hy; exact .same _ (aG.1 h x (aD hx))⟩
  | map es=>exact .map _
  | iter b pos=>exact .iter _ _
  | miter ks vs left cur=>exact .miter _ _ _ _
  | mapo es k b tk=>cases h
 cases p with
 | cells ps=>
  cases q with
  | cells qs=>exact .cells _ _ (Jgw h)
  | map es=>exact same _ h
  | iter b pos=>exact same _ h
  | miter ks vs left cur=>exact same _ h
  | mapo es k b tk=>exact same _ h
 | map es=>exact same _ h
 | iter b pos=>exact same _ h
 | miter ks vs left cur=>exact same _ h
 | mapo es k b tk=>exact same _ h
theorem Sf{α β:Type}{f g:α->β}:∀ {l:List α},l.map f=l.map g->∀ x∈l,f x=g x
 | [],_,x,hx=>by cases hx
 | y::l,h,x,hx=>by
  simp only [bJ,dS] at h;rcases bG.1 hx with rfl|hx
  ·exact h.1
  ·exact Sf h.2 x hx
theorem JS.weaker(hok:j.ok=true)(h:j.seen s=j.told n):Je4 s (j.st n):=by
 simp only [JS.seen,JS.told,aK] at h;obtain ⟨h1,h2,h3,h4,h5,h6'⟩:=h;simp only [JS.ok,aF] at hok;obtain ⟨hok,hokX⟩:=hok;have hn1:n % 100000=s.tm.length:=h1.1.symm;have hn2:n / 100000=s.m:=h1.2.symm;refine ⟨⟨by simp [JS.st,Jbr,hn1],fun i q p hq hp=>?_⟩,fun l ob' hob=>?_,fun t x hx=>?_,fun t x hx=>⟨Sf h6' _ (Mh hx),aG.1 hokX _ (Mh hx)⟩,hn2⟩
 ·have hi:i<n % 100000:=by rw [hn1]; exact (aH.1 hq).1
  simp only [JS.st] at hp;rw [Jgy _ _ _ _ hi,aV] at hp;cases hl:j.tm.lookup i with
  | none=>rw [hl] at hp; cases hp; exact .any _
  | some p' =>
   rw [hl] at hp;have hpp:p'=p:=by simpa using hp
   subst hpp;have hm:=Mh hl;have e:=Sf h3 _ hm;have hg:s.tm.getD i .any=q:=by rw [bD,hq]; rfl
   simp only [hg] at e;have hn:=aG.1 h2 _ hm;have hlive:=aG.1 hok.1 _ hm;simp only [hg] at hn;have:=Xw (p:=p') (q:=q) (H:=Jau j.H) (T:=Jau j.T) hn (by rw [e]; exact hlive)
   rwa [e] at this
 ·have hm:=Mh hob;have e:=Sf h4 _ hm;obtain ⟨ob,h6,h7⟩:=aC.1 e;refine ⟨ob,h6, ?_⟩;have:=Jnz (p:=ob') (q:=ob) (H:=Jau j.H) (T:=Jau j.T) (by rw [h7]; exact aG.1 hok.2 _ hm)
  rwa [h7] at this
 ·exact Sf h5 _ (Mh hx)
section
variable {Q:Exit->PSt->Prop} {x y:Code} {id k:Nat}
theorem Jm(h:pwp P Gl y Q s):Jm7 P Gl y Q .normal s:=h
theorem Jai(h:Q (.exit k) s):Jm7 P Gl y Q (.exit k) s:=h
theorem Yw(h:Q .ret s):Jm7 P Gl y Q .ret s:=h
theorem Jf3(h:Q .normal s):Jdd id Q .normal s:=h
theorem Jkn(h:Q .ret s):Jdd id Q .ret s:=h
theorem Qa(h:Q .normal s):Jdd id Q (.exit id) s:=by simpa [Jdd] using h
theorem Jh3(hk:(k == id)=false)(h:Q (.exit k) s):Jdd id Q (.exit k) s:=by
 have:k≠id:=by simpa using hk
 simpa [Jdd,this] using h
theorem Jad{c:Operand}{b:Bool}(hb:b=true)(h:s.ev c=.bool b)(hp:pwp P Gl x Q s):pwp P Gl (.cond c x y) Q s:=Jr7 h (fun _=>hp) (fun e=>by rw [hb] at e; cases e)
theorem Jap{c:Operand}{b:Bool}(hb:b=false)(h:s.ev c=.bool b)(hp:pwp P Gl y Q s):pwp P Gl (.cond c x y) Q s:=Jr7 h (fun e=>by rw [hb] at e; cases e) (fun _=>hp)
end
section
variable {d:Bool} {L:List (Oper×Gd)} {Q:PSt->Prop}
def sop(t:Nat)(b:Bool)(o:Oper):Oper :=
 match o.op with
 | .pick (.tmp t') x y=>if t' == t then { o with op:=.move (if b=true then x else y) } else o
 | _=>o
theorem Jra(t:Nat)(b:Bool)(o:Oper):(sop t b o).dst=o.dst:=by
 unfold sop; split
 ·split <;> rfl
 ·rfl
theorem Jys{t:Nat}{b:Bool}{o:Oper}{K:PSt->Prop}(hg:s.get t=.bool b)(h:Ru P Gl d (sop t b o) s K):Ru P Gl d o s K:=by
 unfold sop at h;split at h
 ·rename_i t' x y hop;split at h
  ·rename_i ht;have ht:t'=t:=by simpa using ht
   subst ht;simp only [Ru,Vd,evO,Bn,aP,if_false,ev1] at h;simp only [Ru,hop,Vd,evO,Bn,aP,if_false,ev1];have:s.ev (.tmp t')=.bool b:=hg;rw [this];cases b <;> simpa using h
  ·exact h
 ·exact h
theorem Kfe{t:Nat}{b:Bool}{o:Oper}(h:Jc4 (sop t b o).op=false):sop t b o=o:=by
 unfold sop at h ⊢;split
 ·rename_i t' x y hop;split
  ·rename_i ht;simp only [hop] at h;rw [if_pos ht] at h;simp [Jc4] at h
  ·rfl
 ·rfl
def settle(t:Nat)(b:Bool):List (Oper×Gd)->List (Oper×Gd)
 | []=>[]
 | (o,.slot t' w)::r=>(sop t b o,if t' == t then (if b == w then .always else .never) else .slot t' w)::settle t b r
 | (o,.always)::r=>(sop t b o,.always)::settle t b r
 | (o,.never)::r=>(sop t b o,.never)::settle t b r
 | (o,.bad)::r=>(sop t b o,.bad)::settle t b r
def Jc0(t:Nat):List (Oper×Gd)->Bool
 | []=>true
 | (o,_)::r=>(o.dst != some t)&&Jc0 t r
theorem Mj{t:Nat}{dst:Option Nat}{v:PV}(h:(dst != some t)=true):(s.put dst v).get t=s.get t:=by
 cases dst with
 | none=>rfl
 | some i=>
  have hit:i≠t:=by simpa using h
  by_cases hi:i+s.m<s.tm.length
  ·rw [s.put_in v hi]
   by_cases ht:t+s.m<s.tm.length
   ·rw [PSt.get_in s ht,PSt.get_in _ (by simpa using ht),bD,bD,List.getElem?_set_ne hit]
   ·rw [PSt.get_out s ht,PSt.get_out _ (by simpa using ht)]
  ·rw [s.put_out v hi]
theorem Jl1(d:Nat):∀ (l:List (Nat×(Nat×Nat))) (s:PSt),(addToks d s l).tm=s.tm
 | [],s=>rfl
 | (t,x)::r,s=>by simp only [addToks]; rw [Jl1 d r]
theorem Joq(d:Nat):∀ (l:List (Nat×(Nat×Nat))) (s:PSt),(addToks d s l).m=s.m
 | [],s=>rfl
 | (t,x)::r,s=>by simp only [addToks]; rw [Joq d r]
theorem Gy{t:Nat}{b:Bool}:∀ (L:List (Oper×Gd)) (s:PSt),Jc0 t L=true->s.get t=.bool b->Ju P Gl d (settle t b L) s Q->Ju P Gl d L s Q
 | [],s,_,_,h=>h
 | (o,g)::r,s,hs,hg,h=>by
  simp only [Jc0,aF] at hs;have rest:∀ v,Ju P Gl d (settle t b r) (s.put o.dst v) Q->Ju P Gl d r (s.put o.dst v) Q:=fun v h=>Gy r _ hs.2 ((Mj hs.1).trans hg) h;have step:Sy P Gl d (sop t b o) s (fun s'=>Ju P Gl d (settle t b r) s' Q)->Sy P Gl d o s (fun s'=>Ju P Gl d r s' Q):=by
   rintro (h|⟨d1,d2,C,n,v,h1,h2⟩)
   rotate_left
   ·have e:=Kfe d2;rw [e] at d2 h1 h2;refine .inr ⟨d1,d2,C,n,v,h1,fun x hx=>Gy r _ hs.2 ?_ (h2 x hx)⟩;rw [Mj hs.1];exact hg
   refine .inl ?_;have h:=Jys hg h;revert h;unfold Ru;split
   ·rintro (⟨f,caps,as,rr,e1,e2,e3,e4,e5,e6,e7⟩|⟨f,caps,as,rr,ts,eqs,e1,e2,e3,e4,e5,e6,e7,e8⟩)
    ·refine .inl ⟨f,caps,as,rr,e1,e2,e3,e4,e5,e6,Gy r _ hs.2 ?_ e7⟩;rw [Mj hs.1];rw [<- hg]; unfold PSt.get; rw [Jl1,Joq]
    ·refine .inr ⟨f,caps,as,rr,ts,eqs,e1,e2,e3,e4,e5,e6,e7,Gy r _ hs.2 ?_ e8⟩;rw [Mj hs.1]; exact hg
   ·rintro ⟨x,e1,e2⟩;refine ⟨x,e1,Gy r _ hs.2 ?_ e2⟩;rw [Mj hs.1];rw [<- hg]; cases x.2 <;> rfl
  cases g with
  | always=>simp only [settle,Ju,Zj] at h ⊢; exact step h
  | never=>simp only [settle,Ju,Zj,Jra] at h ⊢; exact rest _ h
  | bad=>simp only [settle,Ju,Zj] at h
  | slot t' w=>
   simp only [settle] at h
   by_cases ht:t'=t
   ·subst ht;simp only [beq_self_eq_true,if_true] at h;simp only [Ju,Zj,hg]
    by_cases hw:b=w
    ·subst hw;simp only [beq_self_eq_true,if_true,Ju,Zj] at h;exact ⟨fun _=>step h,fun e=>by cases b <;> cases e⟩
    ·rw [if_neg (by simpa using hw)] at h;simp only [Ju,Zj,Jra] at h;exact ⟨fun e=>absurd e hw,fun _=>rest _ h⟩
   ·rw [if_neg (by simpa using ht)] at h;simp only [Ju,Zj,Jra] at h ⊢;split
    ·rename_i b' hb';simp only [hb'] at h;exact ⟨fun e=>step (h.1 e),fun e=>rest _ (h.2 e)⟩
    ·rename_i hu;simp only [hu] at h;exact rest _ h
    ·rename_i hne hnu;split at h
     ·rename_i b' hb'; exact absurd hb' (hne _)
     ·rename_i hu; exact absurd hu hnu
     ·exact h
theorem Xr{b c:Bool}(t:Nat)(hb:b=c)(hg:s.get t=.bool b)(hs:Jc0 t L=true)(h:Ju P Gl d (settle t c L) s Q):Ju P Gl d L s Q:=by
 subst hb; exact Gy L s hs hg h
def wipe : List (Oper×Gd)->PSt->PSt
 | [],s=>s
 | (o,_)::r,s=>wipe r (s.put o.dst .any)
theorem Na : ∀ (l1 l2:List (Oper×Gd)) (s:PSt),Ju P Gl d l1 s (fun s'=>Ju P Gl d l2 s' Q)->Ju P Gl d (l1++l2) s Q
 | [],l2,s,h=>h
 | (o,g)::r,l2,s,h=>by
  simp only [cB,Ju] at h ⊢;have step:Sy P Gl d o s (fun s'=>Ju P Gl d r s' fun s'=>Ju P Gl d l2 s' Q)->Sy P Gl d o s (fun s'=>Ju P Gl d (r++l2) s' Q):=by
   rintro (h|⟨d1,d2,C,n,v,h1,h2⟩)
   rotate_left
   ·exact .inr ⟨d1,d2,C,n,v,h1,fun x hx=>Na r l2 _ (h2 x hx)⟩
   refine .inl ?_;revert h;unfold Ru;split
   ·rintro (⟨f,caps,as,rr,e1,e2,e3,e4,e5,e6,e7⟩|⟨f,caps,as,rr,ts,eqs,e1,e2,e3,e4,e5,e6,e7,e8⟩)
    ·exact .inl ⟨f,caps,as,rr,e1,e2,e3,e4,e5,e6,Na r l2 _ e7⟩
    ·exact .inr ⟨f,caps,as,rr,ts,eqs,e1,e2,e3,e4,e5,e6,e7,Na r l2 _ e8⟩
   ·rintro ⟨x,e1,e2⟩;exact ⟨x,e1,Na r l2 _ e2⟩
  have rest:=Na r l2 (s.put o.dst (.tup []));cases g with
  | always=>exact step h
  | never=>exact rest h
  | bad=>exact h
  | slot t w=>
   simp only [Zj] at h ⊢;split at h
   ·exact ⟨fun e=>step (h.1 e),fun e=>rest (h.2 e)⟩
   ·exact rest h
   ·exact h.elim
end
end
end PM
namespace PM
open Go Go.RowKit
section
variable {P:Program} {Gl:GL} {H:Nat->Option Qg} {T:Nat->Option (Nat×Nat)} {X:XT} {ρ ρ':Operand->PV}
theorem Jng{α:Type}(h:∀ x,ρ x=ρ' x\/ρ x=.any):∀ (l:List (α×Operand)),l.map (fun x=>(x.1,ρ x.2))=l.map (fun x=>(x.1,ρ' x.2))\/∃ x∈l.map (fun x=>(x.1,ρ x.2)),x.2=.any
 | []=>.inl rfl
 | y::l=>by
  rcases h y.2 with e|e
  ·rcases Jng h l with e'|⟨z,hz,hz'⟩
   ·exact .inl (by simp [e,e'])
   ·exact .inr ⟨z,by simp only [bJ,bG]; exact .inr hz,hz'⟩
  ·exact .inr ⟨(y.1,ρ y.2),by simp,e⟩
theorem Jfp(h:∀ x,ρ x=ρ' x\/ρ x=.any):∀ (l:List Operand),l.map ρ=l.map ρ'\/.any∈l.map ρ
 | []=>.inl rfl
 | y::l=>by
  rcases h y with e|e
  ·rcases Jfp h l with e'|e'
   ·exact .inl (by simp [e,e'])
   ·exact .inr (by simp only [bJ,bG]; exact .inr e')
  ·exact .inr (by simp [e])
theorem Jpw{pl:List (Nat×Nat)}:∀ {ps:List (Nat×PV)} {cs:List PV},(∃ x∈ps,x.2=.any)->Jj1 pl ps cs=none
 | [],_,h=>by obtain ⟨x,hx,_⟩:=h; cases hx
 | (i,p)::ps,cs,h=>by
  obtain ⟨x,hx,hxa⟩:=h;simp only [Jj1];split
  ·split
   ·rename_i hc;rcases bG.1 hx with rfl|hx
    ·simp only at hxa; subst hxa;exact absurd hc.2.2 (by simp [PV.cells,Jj1.PV.okCell,PV.one])
    ·exact Jpw ⟨x,hx,hxa⟩
   ·rfl
  ·rfl
theorem Jkk{k:Nat}:∀ {ps:List (Nat×PV)} {j:Nat},(∃ x∈ps,x.2=.any)->Oq k ps j=none
 | [],_,h=>by obtain ⟨x,hx,_⟩:=h; cases hx
 | (i,p)::ps,j,h=>by
  obtain ⟨x,hx,hxa⟩:=h;simp only [Oq];split
  ·rcases bG.1 hx with rfl|hx
   ·simp only at hxa; subst hxa;simp [PV.cells,Gm,Bw]
   ·rw [Jkk ⟨x,hx,hxa⟩];split <;> simp_all
  ·rfl
theorem Jkf : ∀ {ps:List PV},.any∈ps->Ni ps=none
 | p::ps,h=>by
  simp only [Ni];rcases bG.1 h with rfl|h
  ·simp [Mg,Bw]
  ·rw [Jkf h];split <;> simp_all
theorem Ju4{op:BinOp}{t:TypeId}{q:PV}:Jn3 P op t .any q=none:=by unfold Jn3; rfl
theorem Jut{op:BinOp}{t:TypeId}{p:PV}:Jn3 P op t p .any=none:=by unfold Jn3; cases p <;> rfl
theorem Lm{n:Nat}:bnd (some .any) n=none:=rfl
theorem Jn1(h:∀ x,ρ x=ρ' x\/ρ x=.any)(x:Option Operand):x.map ρ=x.map ρ'\/x.map ρ=some .any:=by
 cases x with
 | none=>exact .inl rfl
 | some x=>exact (h x).imp (fun e=>by simp [e]) (fun e=>by simp [e])
theorem Jsb{t:TypeId}{lo hi mx:Option PV}{p:PV}(h:lo=some .any\/hi=some .any\/mx=some .any\/p=.any)(hne:Tv P t lo hi mx p≠none)(hstr:mx=some .any->∀ s,p≠.str s):False:=by
 apply hne;unfold Tv;cases p
 case lst o k b xss=>
  rcases h with rfl|rfl|rfl|h
  ·simp only [Lm]; split <;> simp_all
  ·simp only [Lm]; split <;> simp_all
  ·simp only [Lm]; split <;> simp_all
  ·cases h
 case nil=>
  rcases h with rfl|rfl|rfl|h
  ·simp only [Lm]; split <;> simp_all
  ·simp only [Lm]; split <;> simp_all
  ·simp only [Lm]; split <;> simp_all
  ·cases h
 case str s=>
  rcases h with rfl|rfl|h|h
  ·simp only [Lm]
  ·simp only [Lm]; split <;> simp_all
  ·exact absurd rfl (hstr h s)
  ·cases h
 case sl l o len k b=>
  rcases h with rfl|rfl|rfl|h
  ·simp only [Lm]; split <;> simp_all
  ·simp only [Lm]; split <;> simp_all
  ·show (match Xs P t,bnd lo 0,bnd hi len with
    | some (_,_,k',_),some a,some h=>if k'=k/\a<=h/\h<=len/\(some PV.any:Option PV)=none then some (PV.sl l (o+a) (h - a) k b) else none
    | _,_,_=>none)=none
   split
   ·rw [if_neg sG]
   ·rfl
  ·cases h
 case ex l k b N o len=>
  rcases h with rfl|rfl|rfl|h
  ·simp only [Lm]; split <;> simp_all
  ·simp only [Lm]; split <;> simp_all
  ·show (match Xs P t,bnd lo 0,bnd hi len with
    | some (_,_,k',_),some a,some h=>if k'=k/\a<=h/\h<=len/\(some PV.any:Option PV)=none then some (PV.ex l k b N (o+a) (h - a)) else none
    | _,_,_=>none)=none
   split
   ·rw [if_neg sG]
   ·rfl
  ·cases h
 all_goals rfl
theorem Jjn{t:TypeId}{i:PV}:Sb P t .any i=none:=by cases i <;> rfl
theorem Jiv{t:TypeId}{p:PV}:Sb P t p .any=none:=by cases p <;> rfl
theorem Jq0{t:TypeId}{i:PV}:Jhm P t .any i=none:=by cases i <;> rfl
theorem Jp2{t:TypeId}{p:PV}:Jhm P t p .any=none:=by cases p <;> rfl
theorem Jgg{m:Bool}{q:PV}:Rq m .any q=none:=by cases q <;> rfl
theorem Jgd{m:Bool}{p:PV}:Rq m p .any=none:=by cases p <;> rfl
theorem Jib{dst:Option Nat}{t t':TypeId}{x y:PV}(h:x=.any\/y=.any):Se P dst T t t' x y=none:=by
 unfold Se;split
 ·rcases h with rfl|rfl
  ·split <;> rfl
  ·rfl
 ·rfl
theorem Jie(d:TypeDesc):Gq d .any=false:=by cases d <;> rfl
theorem Jhy{t:TypeId}{es:List (PV×PV)}{ok:Bool}:Nn P t es .any ok=none:=by
 unfold Nn;split
 ·rw [if_neg (by rw [Jie]; exact cF)]
 ·rfl
theorem Jn8{t:TypeId}{es:List (PV×List (List PV))}{k b:Nat}{tk:Nat->Nat}{ok:Bool}:Xa P t es k b tk .any ok=none:=by
 unfold Xa;split
 ·rw [if_neg (by rw [Jie]; exact cF)]
 ·rfl
theorem Jun{d:TypeDesc}{l:Nat}{es:List (PV×List (List PV))}{k b:Nat}{tk:Nat->Nat}{x:PV}:Je2 d l es k b tk .any x=none:=by
 unfold Je2;split
 ·rw [if_neg (by rw [Jie]; simp)]
 ·rfl
theorem Ka8(h:∀ x,ρ x=ρ' x\/ρ x=.any){op:Op}{v:PV}(he:ev1 P Gl op ρ H X=some v):∃ v',ev1 P Gl op ρ' H X=some v'/\(v=v'\/v=.any):=by
 cases op <;> simp only [ev1] at he ⊢ <;> try cases he
 case move.refl x=>exact ⟨_,rfl,h x⟩
 case assign.refl x=>exact ⟨_,rfl,h x⟩
 case pick c x y=>
  rcases h c with e|e
  ·rw [<- e];split at he
   ·cases he;refine ⟨_,rfl, ?_⟩;split
    ·exact h x
    ·exact h y
   ·cases he
  ·rw [e] at he; cases he
 case lookup t x k ok=>
  rcases h x with e|e
  ·rcases h k with e'|e'
   ·rw [<- e,<- e']; exact ⟨v,he,.inl rfl⟩
   ·rw [e'] at he;split at he
    ·split at he
     ·rw [Jhy] at he; cases he
     ·rw [Jn8] at he; cases he
     ·cases he
    ·rw [Jhy] at he; cases he
    ·cases he
  ·rw [e] at he; cases he
 case nilCheck x=>
  rcases h x with e|e
  ·rw [<- e]; exact ⟨v,he,.inl rfl⟩
  ·rw [e] at he; cases he
 case binOp op t x y u=>
  rcases h x with e|e
  ·rcases h y with e'|e'
   ·rw [<- e,<- e']; exact ⟨v,he,.inl rfl⟩
   ·rw [e',Jut] at he; cases he
  ·rw [e,Ju4] at he; cases he
 case unOp op t x=>
  rcases h x with e|e
  ·rw [<- e]; exact ⟨v,he,.inl rfl⟩
  ·rw [e] at he; cases he
 case convert src dst x=>
  rcases h x with e|e
  ·rw [<- e]; exact ⟨v,he,.inl rfl⟩
  ·rw [e] at he; cases he
 case fieldAddr t x f=>
  rcases h x with e|e
  ·rw [<- e]; exact ⟨v,he,.inl rfl⟩
  ·rw [e] at he; cases he
 case field t x f=>
  rcases h x with e|e
  ·rw [<- e]; exact ⟨v,he,.inl rfl⟩
  ·rw [e] at he; cases he
 case indexAddr t x i=>
  rcases h x with e|e
  ·rcases h i with e'|e'
   ·rw [<- e,<- e']; exact ⟨v,he,.inl rfl⟩
   ·rw [e',Jiv] at he; cases he
  ·rw [e,Jjn] at he; cases he
 case index t x i=>
  rcases h x with e|e
  ·rcases h i with e'|e'
   ·rw [<- e,<- e']; exact ⟨v,he,.inl rfl⟩
   ·rw [e',Jp2] at he; cases he
  ·rw [e,Jq0] at he; cases he
 case load t x=>
  rcases h x with e|e
  ·rw [<- e]; exact ⟨v,he,.inl rfl⟩
  ·rw [e] at he; cases he
 case extract x i=>
  rcases h x with e|e
  ·rw [<- e]; exact ⟨v,he,.inl rfl⟩
  ·rw [e] at he; cases he
 case slice t x lo hi mx=>
  have nope:∀ {q},Tv P t (lo.map ρ) (hi.map ρ) (mx.map ρ) (ρ x)=some q->(lo.map ρ=some .any\/hi.map ρ=some .any\/mx.map ρ=some .any\/ρ x=.any)->False:=fun {q} hq hc=>by
   refine Jsb hc (by rw [hq]; simp) fun hm s hs=>?_;rw [hs,hm] at hq;simp only [Tv] at hq;split at hq
   ·simp at hq
   ·cases hq
  rcases Jn1 h lo with e1|e1
  ·rcases Jn1 h hi with e2|e2
   ·rcases Jn1 h mx with e3|e3
    ·rcases h x with e4|e4
     ·rw [<- e1,<- e2,<- e3,<- e4]; exact ⟨v,he,.inl rfl⟩
     ·exact (nope he (.inr (.inr (.inr e4)))).elim
    ·exact (nope he (.inr (.inr (.inl e3)))).elim
   ·exact (nope he (.inr (.inl e2))).elim
  ·exact (nope he (.inl e1)).elim
 case build t parts=>
  rcases Jng h parts.toList with e|e
  ·rw [<- e]; exact ⟨v,he,.inl rfl⟩
  ·exfalso;unfold Jli at he;split at he
   ·rw [Jpw e] at he; cases he
   ·rename_i h1 h2 h3 h4;obtain ⟨i,hi,_⟩:=e;rw [h3] at hi;exact absurd hi sG
   ·cases he
 case makeFunc fn first caps=>
  cases fn <;> simp only at he ⊢ <;> try cases he
  rcases Jfp h caps.toList with e|e
  ·rw [<- e]; exact ⟨v,he,.inl rfl⟩
  ·exfalso;split at he
   ·rename_i hc;have:=aG.1 hc.2 _ e;cases this
   ·cases he
 case call c=>
  split at he
  ·rename_i x t h1 h2 h3;rcases h x with e|e
   ·rw [<- e]; exact ⟨v,he,.inl rfl⟩
   ·rw [e] at he; cases he
  ·rename_i x y h1 h2;rcases h x with e|e
   ·rcases h y with e'|e'
    ·rw [<- e,<- e']; exact ⟨v,he,.inl rfl⟩
    ·rw [e',Jgd] at he; cases he
   ·rw [e,Jgg] at he; cases he
  ·rename_i x y h1 h2;rcases h x with e|e
   ·rcases h y with e'|e'
    ·rw [<- e,<- e']; exact ⟨v,he,.inl rfl⟩
    ·rw [e',Jgd] at he; cases he
   ·rw [e,Jgg] at he; cases he
  ·cases he
theorem Jyq(h:∀ x,ρ x=ρ' x\/ρ x=.any){dst:Option Nat}{op:Op}{v:PV×Eff}(he:evE P dst op ρ H T X=some v):evE P dst op ρ' H T X=some v:=by
 cases op <;> simp only [evE] at he ⊢ <;> try cases he
 case alloc t=>exact he
 case box t x=>
  rcases h x with e|e
  ·rw [<- e]; exact he
  ·rw [e] at he;split at he
   ·simp [Ny,PV.one] at he
   ·cases he
 case store t x y=>
  rcases h x with e|e
  ·rcases h y with e'|e'
   ·rw [<- e,<- e']; exact he
   ·rw [e'] at he;split at he
    ·split at he
     ·simp [Ny,PV.one] at he
     ·cases he
    ·split at he
     ·simp [Ny,PV.one] at he
     ·cases he
    ·cases he
  ·rw [e] at he; cases he
 case buildSlice t n parts=>
  rcases Jng h parts.toList with e|e
  ·rw [<- e]; exact he
  ·rw [Jkk e] at he;split at he
   ·rename_i h2; cases h2
   ·cases he
 case makeMap t r=>exact he
 case makeSlice t n c=>
  rcases h n with e|e
  ·rcases h c with e'|e'
   ·rw [<- e,<- e']; exact he
   ·rw [e'] at he;split at he
    ·rename_i h4; cases h4
    ·cases he
  ·rw [e] at he;split at he
   ·rename_i h3 _; cases h3
   ·cases he
 case mapUpdate t m k x=>
  rcases h m with e|e
  ·rcases h k with e'|e'
   ·rcases h x with e2|e2
    ·rw [<- e,<- e',<- e2]; exact he
    ·rw [e2] at he;split at he
     ·split at he
      ·rename_i h3; cases h3
      ·rename_i h3; cases h3
      ·cases he
     ·cases he
   ·rw [e'] at he;split at he
    ·split at he
     ·rw [if_neg (by rw [Jie]; simp)] at he; cases he
     ·rw [Jun] at he; cases he
     ·cases he
    ·cases he
  ·rw [e] at he; cases he
 case call c=>
  split at he
  ·rename_i x y t t' h1 h2 h3;rcases h x with e|e
   ·rcases h y with e'|e'
    ·rw [<- e,<- e']; exact he
    ·rw [Jib (.inr e')] at he; cases he
   ·rw [Jib (.inl e)] at he; cases he
  ·cases he
theorem Jzt(h:∀ x,ρ x=ρ' x\/ρ x=.any){dst:Option Nat}{op:Op}{v:PV×Eff}(he:evO P Gl dst op ρ H T X=some v):∃ v',evO P Gl dst op ρ' H T X=some (v',v.2)/\(v.1=v'\/v.1=.any):=by
 unfold evO at he ⊢;split at he
 ·rename_i hm;rw [if_pos hm];exact ⟨v.1,Jyq h he,.inl rfl⟩
 ·rename_i hm;rw [if_neg hm];obtain ⟨u,h1,rfl⟩:=aC.1 he;obtain ⟨v',h2,h3⟩:=Ka8 h h1;exact ⟨v',by rw [h2]; rfl,h3⟩
end
theorem Jt5{ts:List Nat}{s:PSt}:∀ {ps:List PV},PV.any∈ps->Jcm ts s ps=none
 | [],h=>by cases h
 | p::ps,h=>by
  rcases bG.1 h with rfl|h
  ·simp [Jcm,bdA,bd1,Bw]
  ·rw [Jcm,Jt5 h];cases bdA ts s p <;> rfl
theorem Jpg(ts:List Nat){s s':PSt}(h:∀ t,t∈ts->s'.X t=s.X t/\s'.T t=s.T t)(p:PV):bd1 ts s' p=bd1 ts s p:=by
 cases p
 case ex t k b N o n=>
  simp only [bd1];cases hc:ts.contains t with
  | false=>rfl
  | true=>
   obtain ⟨h1,h2⟩:=h t (by simpa using hc);rw [h1,h2]
 all_goals rfl
theorem Jpe(ts:List Nat){s s':PSt}(h:∀ t,t∈ts->s'.X t=s.X t/\s'.T t=s.T t):∀ ps:List PV,bdL ts s' ps=bdL ts s ps
 | []=>rfl
 | p::ps=>by rw [bdL,bdL,Jpg ts h,Jpe ts h ps]
theorem Jxh(ts:List Nat){s s':PSt}(h:∀ t,t∈ts->s'.X t=s.X t/\s'.T t=s.T t)(p:PV):bdA ts s' p=bdA ts s p:=by
 cases p
 case agg cs=>simp only [bdA]; rw [Jpe ts h]
 all_goals
  simp only [bdA];exact Jpg ts h _
theorem Jkc(ts:List Nat){s s':PSt}(h:∀ t,t∈ts->s'.X t=s.X t/\s'.T t=s.T t):∀ ps:List PV,Jcm ts s' ps=Jcm ts s ps
 | []=>rfl
 | p::ps=>by rw [Jcm,Jcm,Jxh ts h,Jkc ts h ps]
theorem Jvi(ts:List Nat){s s':PSt}(hT:s.T=s'.T)(hX:s.X=s'.X)(ps:List PV):Jcm ts s ps=Jcm ts s' ps:=(Jkc ts (fun _ _=>⟨by rw [hX],by rw [hT]⟩) ps).symm
structure Wr (s s1:PSt):Prop where
 H:s.H=s1.H
 T:s.T=s1.T
 X:s.X=s1.X
 tm:Ke (fun q p=>p=q\/p=.any) s.tm s1.tm
 m:s.m=s1.m
def Up(Q:PSt->Prop)(s:PSt):Prop:=∃ s1,Wr s s1/\Q s1
section
variable {P:Program} {Gl:GL} {s s1 s2:PSt} {Q:PSt->Prop} {d:Bool} {L:List (Oper×Gd)}
theorem Wr.refl(s:PSt):Wr s s:=⟨rfl,rfl,rfl,⟨rfl,fun i x y hx hy=>by rw [hx] at hy; cases hy; exact .inl rfl⟩,rfl⟩
theorem Wr.trans(h:Wr s s1)(h':Wr s1 s2):Wr s s2:=by
 refine ⟨h.H.trans h'.H,h.T.trans h'.T,h.X.trans h'.X,⟨h.tm.1.trans h'.tm.1,fun i x z hx hz=>?_⟩,h.m.trans h'.m⟩;obtain ⟨y,hy,hyz⟩:=h'.tm.left hz;rcases hyz with rfl|rfl
 ·exact h.tm.2 i x _ hx hy
 ·exact .inr rfl
theorem Up.intro(h:Q s):Up Q s:=⟨s,Wr.refl s,h⟩
theorem Up.fade(hf:Wr s s1)(h:Up Q s1):Up Q s:=let ⟨s2,h1,h2⟩:=h; ⟨s2,hf.trans h1,h2⟩
theorem Wr.get(hf:Wr s s1)(i:Nat):s1.get i=s.get i\/s1.get i=.any:=by
 have hl:=hf.tm.1;have hm:=hf.m
 by_cases hi:i+s.m<s.tm.length
 ·rw [s.get_in hi,s1.get_in oG];have:=hf.tm.2 i s.tm[i] s1.tm[i] (aB oG) (aB oG);rw [bD,bD,aB (show i<s.tm.length by omega),aB (show i<s1.tm.length by omega)]
  simpa using this
 ·right
  exact s1.get_out oG
theorem Wr.ev(hf:Wr s s1)(x:Operand):s1.ev x=s.ev x\/s1.ev x=.any:=by
 cases x with
 | tmp t=>exact hf.get t
 | const v=>exact .inl rfl
 | global g=>exact .inl rfl
 | func f=>exact .inl rfl
theorem Wr.put(hf:Wr s s1)(dst:Option Nat){p q:PV}(h:p=q\/p=.any):Wr (s.put dst q) (s1.put dst p):=by
 cases dst with
 | none=>exact hf
 | some i=>
  have hl:=hf.tm.1;have hm:=hf.m
  by_cases hi:i+s.m<s.tm.length
  ·rw [s.put_in q hi,s1.put_in p oG];refine ⟨hf.H,hf.T,hf.X,⟨by simpa using hl,fun j x y hx hy=>?_⟩,hm⟩;simp only [cD] at hx hy
   by_cases hij:i=j
   ·rw [if_pos hij] at hx hy;split at hx
    ·split at hy
     ·cases hx; cases hy; exact h
     ·cases hy
    ·cases hx
   ·rw [if_neg hij] at hx hy; exact hf.tm.2 j x y hx hy
  ·rw [s.put_out q hi,s1.put_out p oG]; exact hf
theorem Wr.eff(hf:Wr s s1)(e:Eff):Wr (e.app s) (e.app s1):=by
 cases e with
 | none=>exact hf
 | obj l ob=>exact ⟨by simp [Eff.app,hf.H],hf.T,hf.X,hf.tm,hf.m⟩
 | tok t n k=>exact ⟨hf.H,by simp [Eff.app,hf.T],hf.X,hf.tm,hf.m⟩
 | xs t x=>exact ⟨hf.H,hf.T,by simp [Eff.app,hf.X],hf.tm,hf.m⟩
theorem Wr.toks(dd:Nat):∀ (l:List (Nat×(Nat×Nat))) {s s1:PSt},Wr s s1->Wr (addToks dd s l) (addToks dd s1 l)
 | [],_,_,h=>h
 | (t,x)::r,s,s1,h=>Wr.toks dd r ⟨h.H,by simp [h.T],h.X,h.tm,h.m⟩
theorem Kd.fade{S0:Bs}{w0:World}{a:Act}{g:GG}(hg:Kd Gl S0 w0 s a g)(hf:Wr s s1):Kd Gl S0 w0 s1 a g:=by
 refine { hg with hH:=hg.hH.trans hf.H,hT:=hg.hT.trans hf.T,exs:=hf.X▸hg.exs,exsEx:=hf.X▸hg.exsEx,len:=⟨by rw [<- hf.tm.1,<- hf.m]; exact hg.len.1,by rw [<- hf.m]; exact hg.len.2⟩,tm:=fun i p v hp hv=>?_ };obtain ⟨q,hq,e⟩:=hf.tm.left hp;rcases e with rfl|rfl
 ·exact hg.tm i _ v hq hv
 ·exact Rel.any _ _
theorem Jw6.fade{o:Oper}{C:Nat->Prop}{n:Nat->PSt}{v:PV}(h:Jw6 P Gl o s1 C n v)(hf:Wr s s1):Jw6 P Gl o s C n v:=fun S0 w0 a g K Q hg hK=>
 h S0 w0 a g K Q (hg.fade hf) fun x z g' hx e1 e2 e3=>hK x z g' hx { e1 with len:=hg.len,tm:=fun i p v hp hv=>(hg.tm i p v hp hv).mono e2 } e2 e3
theorem Tz(hQ:∀ s s1,Wr s s1->Q s1->Q s):∀ (L:List (Oper×Gd)) {s s1:PSt},Wr s s1->Ju P Gl d L s1 Q->Ju P Gl d L s Q
 | [],s,s1,hf,h=>hQ _ _ hf h
 | (o,g)::r,s,s1,hf,h=>by
  have rest:Ju P Gl d r (s1.put o.dst (.tup [])) Q->Ju P Gl d r (s.put o.dst (.tup [])) Q:=fun h=>Tz hQ r (hf.put _ (.inl rfl)) h;have step:Sy P Gl d o s1 (fun s'=>Ju P Gl d r s' Q)->Sy P Gl d o s (fun s'=>Ju P Gl d r s' Q):=by
   rintro (h|⟨d1,d2,C,n,v,h1,h2⟩)
   rotate_left
   ·refine .inr ⟨d1,d2,C,n,v,h1.fade hf,fun x hx=>Tz hQ r (Wr.put (s:=So s (n x)) (s1:=So s1 (n x)) ⟨rfl,rfl,rfl,hf.tm,hf.m⟩ _ (.inl rfl)) (h2 x hx)⟩
   refine .inl ?_;revert h;unfold Ru;split
   ·rename_i x args hc;have hx:∀ {f caps},s1.ev x=.fn f caps->s.ev x=.fn f caps:=fun {f caps} e1=>by
     rcases hf.ev x with e|e
     ·rw [<- e]; exact e1
     ·rw [e] at e1; cases e1
    rintro (⟨f,caps,as,rr,e1,e2,e3,e4,e5,e6,e7⟩|⟨f,caps,as,rr,ts,eqs,e1,e2,e3,e4,e5,e6,e7,e8⟩)
    ·have hargs:args.map s1.ev=args.map s.ev:=by
      rcases Jfp hf.ev args with e|e
      ·exact e
      ·rw [Jkf (by simp [e])] at e3; cases e3
     refine .inl ⟨f,caps,as,rr,hx e1,e2,by rw [<- hargs]; exact e3,e4,by rw [hf.T]; exact e5,e6,Tz hQ r ((Wr.toks _ _ hf).put _ (.inl rfl)) e7⟩
    ·have hargs:args.map s1.ev=args.map s.ev:=by
      rcases Jfp hf.ev args with e|e
      ·exact e
      ·rw [Jt5 (by simp [e])] at e3; cases e3
     refine .inr ⟨f,caps,as,rr,ts,eqs,hx e1,e2,by rw [<- hargs,Jvi ts hf.T hf.X]; exact e3,e4,e5,e6,e7,Tz hQ r (hf.put _ (.inl rfl)) e8⟩
   ·rintro ⟨x,e1,e2⟩;rw [<- hf.H,<- hf.T,<- hf.X] at e1;obtain ⟨v',h1,h2⟩:=Jzt hf.ev e1;exact ⟨_,h1,Tz hQ r ((hf.eff _).put _ h2) e2⟩
  simp only [Ju] at h ⊢;cases g with
  | always=>exact step h
  | never=>exact rest h
  | bad=>exact h
  | slot t w=>
   simp only [Zj] at h ⊢;rcases hf.get t with e|e
   ·rw [<- e];split at h
    ·exact ⟨fun e=>step (h.1 e),fun e=>rest (h.2 e)⟩
    ·exact rest h
    ·exact h.elim
   ·rw [e] at h; exact h.elim
theorem Gw{Q Q':PSt->Prop}(hQ:∀ s,Q s->Q' s):∀ (L:List (Oper×Gd)) (s:PSt),Ju P Gl d L s Q->Ju P Gl d L s Q'
 | [],s,h=>hQ _ h
 | (o,g)::r,s,h=>by
  have rest:=Gw hQ r (s.put o.dst (.tup []));have step:Sy P Gl d o s (fun s'=>Ju P Gl d r s' Q)->Sy P Gl d o s (fun s'=>Ju P Gl d r s' Q'):=by
   rintro (h|⟨d1,d2,C,n,v,h1,h2⟩)
   rotate_left
   ·exact .inr ⟨d1,d2,C,n,v,h1,fun x hx=>Gw hQ r _ (h2 x hx)⟩
   refine .inl ?_;revert h;unfold Ru;split
   ·rintro (⟨f,caps,as,rr,e1,e2,e3,e4,e5,e6,e7⟩|⟨f,caps,as,rr,ts,eqs,e1,e2,e3,e4,e5,e6,e7,e8⟩)
    ·exact .inl ⟨f,caps,as,rr,e1,e2,e3,e4,e5,e6,Gw hQ r _ e7⟩
    ·exact .inr ⟨f,caps,as,rr,ts,eqs,e1,e2,e3,e4,e5,e6,e7,Gw hQ r _ e8⟩
   ·rintro ⟨x,e1,e2⟩;exact ⟨x,e1,Gw hQ r _ e2⟩
  simp only [Ju] at h ⊢;cases g with
  | always=>exact step h
  | never=>exact rest h
  | bad=>exact h
  | slot t w=>
   simp only [Zj] at h ⊢;split
   ·rename_i b hb;simp only [hb] at h;exact ⟨fun e=>step (h.1 e),fun e=>rest (h.2 e)⟩
   ·rename_i hu;simp only [hu] at h;exact rest h
   ·rename_i hne hnu;split at h
    ·rename_i b hb; exact absurd hb (hne _)
    ·rename_i hu; exact absurd hu hnu
    ·exact h
theorem Kgg(m:Nat)(s1:PSt)(h1:Ju P Gl d (L.take m) s fun s'=>Wr s' s1)(h2:Ju P Gl d (L.drop m) s1 (Up Q)):Ju P Gl d L s (Up Q):=by
 have:=Na (P:=P) (Gl:=Gl) (d:=d) (Q:=Up Q) (L.take m) (L.drop m) s (Gw (fun s' hf=>Tz (fun _ _ hf h=>Up.fade hf h) _ hf h2) _ _ h1)
 rwa [bZ] at this
end
end PM
namespace PM
open Go Go.RowKit
section
variable {P:Program} {Gl:GL} {s s1:PSt} {d:Bool} {L:List (Oper×Gd)}
theorem Inv.fade{S0:Bs}{w0 w:World}{a:Act}(h:Inv Gl S0 w0 s a w)(hf:Wr s s1):Inv Gl S0 w0 s1 a w:=by
 obtain ⟨g,rfl,hg⟩:=h;refine ⟨g,rfl,{ hg with hH:=hg.hH.trans hf.H,hT:=hg.hT.trans hf.T,exs:=hf.X▸hg.exs,exsEx:=hf.X▸hg.exsEx,len:=⟨by rw [<- hf.tm.1,<- hf.m]; exact hg.len.1,by rw [<- hf.m]; exact hg.len.2⟩,tm:=fun i p v hp hv=>?_ }⟩;obtain ⟨q,hq,e⟩:=hf.tm.left hp;rcases e with rfl|rfl
 ·exact hg.tm i _ v hq hv
 ·exact Rel.any _ _
section
variable {Q:Exit->PSt->Prop} {id:Nat} {ops:Array Oper}
theorem Vn(h:Ju P Gl false (Jda ops) s (Up (Q .normal))):pwp P Gl (.region id ops false) Q s:=fun S0 w0 a w hi=>
 wp_region_list (Jgu (S0:=S0) (w0:=w0) (fun _ _ _ q i=>let ⟨s2,h1,h2⟩:=q; ⟨s2,h2,i.fade h1⟩) ops.toList s a w hi h)
end
section
variable {Q:PSt->Prop}
theorem Kdg(h:(pxr P Gl L s).2=true)(h2:Q (pxr P Gl L s).1):Ju P Gl d L s (Up Q):=Kds h (.intro h2)
theorem Kfu(h:L.isEmpty=true)(h2:Q s):Ju P Gl d L s (Up Q):=by
 have:L=[]:=by simpa using h
 subst this; exact .intro h2
def Jez : List PV->List PV->List PV
 | p::ps,q::qs=>(match p with|.any=>.any|_=>q)::Jez ps qs
 | _,qs=>qs
theorem Jke : ∀ {ps qs:List PV},Jez ps qs=ps->qs.length=ps.length->Ke (fun q p=>p=q\/p=.any) qs ps
 | [],[],_,_=>.nil
 | p::ps,q::qs,h,hl=>by
  simp only [Jez,dS] at h;refine .cons ?_ (Jke h.2 (by simpa using hl));have h1:=h.1;split at h1
  ·exact .inr rfl
  ·exact .inl h1.symm
theorem Kbw(h:(s.H,s.T,s.X,(s.tm.length,s.m),Jez s1.tm s.tm)=(s1.H,s1.T,s1.X,(s1.tm.length,s1.m),s1.tm)):Wr s s1:=by
 simp only [aK] at h;exact ⟨h.1,h.2.1,h.2.2.1,Jke h.2.2.2.2 h.2.2.2.1.1,h.2.2.2.1.2⟩
def Vx(m t:Nat)(v:PV)(L:List (Oper×Gd))(s:PSt):PSt:=(wipe (L.take m) s).put (some t) v
theorem Jzg(m t:Nat)(v:PV)(h1:Ju P Gl d (L.take m) s fun s'=>Wr s' (Vx m t v L s))(h2:Ju P Gl d (L.drop m) (Vx m t v L s) (Up Q)):Ju P Gl d L s (Up Q):=Kgg m _ h1 h2
theorem Jyt(h:(pxr P Gl L s).2=true)(h2:(((pxr P Gl L s).1).H,((pxr P Gl L s).1).T,((pxr P Gl L s).1).X,(((pxr P Gl L s).1).tm.length,((pxr P Gl L s).1).m),Jez s1.tm ((pxr P Gl L s).1).tm)=(s1.H,s1.T,s1.X,(s1.tm.length,s1.m),s1.tm)):Ju P Gl d L s fun s'=>Wr s' s1 :=
 Kds h (Kbw h2)
def Jqc(p q:PV):PV :=
 match p with
 | .lst .frozen k b _=>match q with
  | .lst .full k b xss=>.lst .frozen k b xss
  | .nil=>.lst .frozen k b []
  | q=>q
 | .lst .full k b _=>match q with
  | .nil=>.lst .full k b []
  | q=>q
 | _=>q
def Kax : List PV->List PV->List PV
 | p::ps,q::qs=>Jqc p q::Kax ps qs
 | _,qs=>qs
def Js2(p q:PV):PV :=
 match p with
 | .agg ps=>match q with
  | .agg qs=>.agg (Kax ps qs)
  | q=>q
 | p=>Jqc p q
def Oh : List PV->List PV->List PV
 | p::ps,q::qs=>Js2 p q::Oh ps qs
 | _,qs=>qs
theorem Jlp{S:Ks}{w:World}{p q:PV}{v:Value}(h:Js S w q v):Js S w (Jqc p q) v:=by
 unfold Jqc;split
 ·split
  ·exact Js.unfull h
  ·exact Js.ofNil _ _ (.inl rfl) h
  ·exact h
 ·split
  ·exact Js.ofNil _ _ (.inr rfl) h
  ·exact h
 ·exact h
theorem Jsn{S:Ks}{w:World}:∀ {ps qs:List PV} {vs:List Value},Ke (Js S w) qs vs->Ke (Js S w) (Kax ps qs) vs
 | p::ps,q::qs,vs,h=>by
  obtain ⟨v,vs',rfl,h1,h2⟩:=h.cons_left;exact .cons (Jlp h1) (Jsn h2)
 | [],_,_,h=>h
 | _::_,[],_,h=>h
theorem Jtp{S:Ks}{w:World}{p q:PV}{v:Value}(h:Js S w q v):Js S w (Js2 p q) v:=by
 unfold Js2;split
 ·split
  ·simp only [Js] at h ⊢;obtain ⟨arr,e,h⟩:=h;exact ⟨arr,e,(Vr _ _).2 (Jsn ((Vr _ _).1 h))⟩
  ·exact h
 ·exact Jlp h
theorem Nd{S:Ks}{w:World}:∀ {ps qs:List PV} {vs:List Value},Ke (Js S w) qs vs->Ke (Js S w) (Oh ps qs) vs
 | p::ps,q::qs,vs,h=>by
  obtain ⟨v,vs',rfl,h1,h2⟩:=h.cons_left;exact .cons (Jtp h1) (Nd h2)
 | [],_,_,h=>h
 | _::_,[],_,h=>h
theorem Yr.coerce{f:FuncId}{as qs:List PV}{r:PV}(h:Yr P Gl f as r)(e:Oh as qs=as):Yr P Gl f qs r :=
 ⟨h.1,fun S w vs hS hG hr=>h.2 S w vs hS hG (by rw [<- e]; exact Nd hr)⟩
def Jjm : List (Oper×Gd)->PSt->Option (FuncId×List PV)
 | (o,.always)::_,s=>match Vd o.op with
  | some (x,args)=>match s.ev x with
   | .fn f caps=>if caps.all Db=true then (Ni (args.map s.ev++caps)).map fun qs=>(f,qs) else none
   | _=>none
  | none=>none
 | _,_=>none
def Jt8(draw:Bool)(dd:Nat)(T:Nat->Option (Nat×Nat)):List (Nat×(Nat×Nat))->Bool
 | []=>true
 | (t,x)::r=> !draw&&(T (1000 * dd+t)).isNone&&((r.all fun x=>x.1 != t)&&x.2 != 0)&&Jt8 draw dd T r
theorem Jb5{draw:Bool}{dd:Nat}{T:Nat->Option (Nat×Nat)}:∀ {l:List (Nat×(Nat×Nat))},Jt8 draw dd T l=true->Cg dd T l/\(draw=true->l=[])
 | [],_=>⟨trivial,fun _=>rfl⟩
 | (t,x)::r,h=>by
  rw [Jt8,aF,aF,aF,bK] at h;obtain ⟨⟨⟨h1,h2⟩,h3⟩,h4⟩:=h;exact ⟨⟨by simpa using h2,h3,(Jb5 h4).1⟩,fun e=>by rw [e] at h1; cases h1⟩
theorem Kab{f:FuncId}{as:List PV}{r:PV}(hc:Yr P Gl f as r)(h:(Jjm L s).map (fun x=>(x.1,Oh as x.2))=some (f,as))(ht:Jt8 d ((Qk L).getD 0) s.T (Vj r)=true)(h2:Ju P Gl d (L.drop 1) ((addToks ((Qk L).getD 0) s (Vj r)).put (Qk L) (Sz ((Qk L).getD 0) r)) Q):Ju P Gl d L s Q:=by
 obtain ⟨y,h3,h4⟩:=aC.1 h
 match L,h3,ht,h2 with
 | (o,.always)::rest,h3,ht,h2=>
  simp only [Jjm] at h3;simp only [Ju,Zj];refine .inl ?_;simp only [Ru];cases hco:Vd o.op with
  | none=>simp [hco] at h3
  | some xa=>
   obtain ⟨x,args⟩:=xa;simp only [hco] at h3 ⊢;split at h3
   ·rename_i f' caps hx;split at h3
    ·rename_i hcap;obtain ⟨qs,h5,rfl⟩:=aC.1 h3;simp only [aK] at h4;obtain ⟨rfl,h6⟩:=h4;exact .inl ⟨f',caps,qs,r,hx,hcap,h5,hc.coerce h6,(Jb5 ht).1,(Jb5 ht).2,h2⟩
    ·cases h3
   ·cases h3
end
def Jg2(P:Program)(Gl:GL)(rs:List ResultVar)(s:PSt):Option PV:=(Pi P Gl s rs).bind Jjy
theorem Kdn{rs:List ResultVar}{r:PV}(h:(Jg2 P Gl rs s).map (fun v=>(Jbz v,Ec r v))=some (true,r))(hl:Fj (fun _=>none) (Jm0 r) r=true)(ht:(Vj r).map (fun x=>s.T x.1)=(Vj r).map fun x=>some x.2):Ib P Gl rs r s:=by
 obtain ⟨pv,h1,h2⟩:=aC.1 h;obtain ⟨vs,h3,h4⟩:=aT.1 h1;simp only [aK] at h2;refine ⟨vs,pv,h3,h4, ?_,fun x hx=>Sf ht x hx⟩;have:=Xw (p:=r) (q:=pv) (H:=fun _=>none) (T:=Jm0 r) h2.1 (by rw [h2.2]; exact hl)
 rwa [h2.2] at this
theorem Jvw{rs:List ResultVar}{r:PV}(h:(Jg2 P Gl rs s).map (fun v=>(Jbz v,Ec r v))=some (true,r))(hl:Fj (fun _=>none) (Jm0 r) r=true)(ht:(Vj r).map (fun x=>s.T x.1)=(Vj r).map fun x=>some x.2):Jh0 P Gl rs r .ret s:=Kdn h hl ht
end
section
variable {σ ρ:Type}
inductive Jet (step:σ->Option (σ⊕ρ)):Nat->σ->ρ->Prop
 | done {s:σ} {r:ρ} (h:step s=some (.inr r)):Jet step 0 s r
 | more {s s':σ} {r:ρ} {n:Nat} (h:step s=some (.inl s')) (hn:Jet step n s' r):Jet step (n+1) s r
theorem Jet.det{step:σ->Option (σ⊕ρ)}{n m:Nat}{s:σ}{r r':ρ}(h:Jet step n s r)(h':Jet step m s r'):r=r':=by
 induction h generalizing m with
 | done h=>
  cases h' with
  | done h1=>rw [h] at h1; cases h1; rfl
  | more h1 _=>rw [h] at h1; cases h1
 | more h _ ih=>
  cases h' with
  | done h1=>rw [h] at h1; cases h1
  | more h1 h2=>rw [h] at h1; cases h1; exact ih h2
open Classical in
noncomputable def Jgo(step:σ->Option (σ⊕ρ))(s:σ):Option ρ:=if h:∃ r n,Jet step n s r then some (choose h) else none
theorem Mc{step:σ->Option (σ⊕ρ)}{s:σ}{r:ρ}:Jgo step s=some r↔∃ n,Jet step n s r:=by
 unfold Jgo;constructor
 ·intro h;split at h
  ·rename_i hx;cases h;exact Classical.choose_spec hx
  ·cases h
 ·rintro ⟨n,hn⟩;have hx:∃ r n,Jet step n s r:=⟨r,n,hn⟩
  rw [dif_pos hx];obtain ⟨m,hm⟩:=Classical.choose_spec hx;exact congrArg some (hm.det hn)
theorem Jr1(step:σ->Option (σ⊕ρ))(s:σ):Jgo step s=(step s).bind fun o=>match o with|.inl s'=>Jgo step s'|.inr r=>some r:=by
 cases hs:step s with
 | none=>
  cases h:Jgo step s with
  | none=>rfl
  | some r=>
   obtain ⟨n,hn⟩:=Mc.1 h;cases hn with
   | done h1=>rw [hs] at h1; cases h1
   | more h1 _=>rw [hs] at h1; cases h1
 | some o=>
  simp only [aA];cases o with
  | inr r=>exact Mc.2 ⟨0,.done hs⟩
  | inl s' =>
   simp only;cases h:Jgo step s' with
   | some r=>
    obtain ⟨n,hn⟩:=Mc.1 h;exact Mc.2 ⟨n+1,.more hs hn⟩
   | none=>
    cases h':Jgo step s with
    | none=>rfl
    | some r=>
     exfalso;obtain ⟨n,hn⟩:=Mc.1 h';cases hn with
     | done h1=>rw [hs] at h1; cases h1
     | more h1 h2=>
      rw [hs] at h1; cases h1;rw [Mc.2 ⟨_,h2⟩] at h; cases h
noncomputable def Jwm(step:σ->Option (σ⊕ρ)):Nat->σ->Option ρ
 | 0,s=>Jgo step s
 | n+1,s=>match step s with
  | some (.inl s')=>Jwm step n s'
  | some (.inr r)=>some r
  | none=>none
theorem Jtw(step:σ->Option (σ⊕ρ)):∀ n s,Jwm step n s=Jgo step s
 | 0,_=>rfl
 | n+1,s=>by
  rw [Jr1,Jwm];cases step s with
  | none=>rfl
  | some o=>cases o with
   | inl s'=>exact Jtw step n s'
   | inr r=>rfl
noncomputable def Jq(step:σ->Option (σ⊕ρ))(s:σ):Option ρ:=Jwm step 65536 s
theorem Jw1(step:σ->Option (σ⊕ρ))(s:σ):Jq step s=Jgo step s:=Jtw step 65536 s
theorem Jup{step:σ->Option (σ⊕ρ)}{s:σ}{r:ρ}:Jq step s=some r↔∃ n,Jet step n s r:=by rw [Jw1]; exact Mc
theorem Jnj(step:σ->Option (σ⊕ρ))(s:σ):Jq step s=(step s).bind fun o=>match o with|.inl s'=>Jq step s'|.inr r=>some r:=by
 simp only [Jw1]; exact Jr1 step s
def Jy3(J:σ->JS)(n:Nat)(Q:Exit->PSt->Prop)(r:ρ)(o:σ⊕ρ)(e:Exit)(s':PSt):Prop :=
 match o with
 | .inl v'=>e=.normal/\(J v').seen s'=(J v').told n
 | .inr r'=>r'=r->e≠.normal/\Q e s'
section
variable {P:Program} {Gl:GL} {s:PSt} {Q:Exit->PSt->Prop} {J:σ->JS} {n k:Nat} {r r':ρ} {v':σ}
theorem Ke1{step:σ->Option (σ⊕ρ)}{v:σ}{c:Code}(n:Nat)(J:σ->JS)(hl:Jq step v=some r)(h0:(J v).seen s=(J v).told n)(hok:∀ v,(J v).ok=true)(hb:∀ v o,step v=some o->pwp P Gl c (Jy3 J n Q r o) ((J v).st n)):pwp P Gl (.loop c) Q s:=by
 obtain ⟨m,hm⟩:=Jup.1 hl;refine Jyi (fun m s=>∃ v,Jet step m v r/\s=(J v).st n) m ⟨v,hm,rfl⟩ (JS.weaker (hok v) h0) ?_;rintro m _ ⟨v,hv,rfl⟩;cases hv with
 | done h1=>
  refine Si (fun e s' hp=>?_) (hb v _ h1);obtain ⟨h2,h3⟩:=hp rfl;cases e <;> first|exact absurd rfl h2|exact h3
 | more h1 h2=>
  refine Si (fun e s' hp=>?_) (hb v _ h1);obtain ⟨rfl,h3⟩:=hp;exact ⟨_,_,Nat.lt_succ_self _,⟨_,h2,rfl⟩,JS.weaker (hok _) h3⟩
end
end
end PM
