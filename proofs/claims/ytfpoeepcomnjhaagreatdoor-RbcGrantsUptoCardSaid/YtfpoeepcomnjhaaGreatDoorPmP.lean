/-
 THE PURE MACHINE, P: panics whose value is known (a type and numbers), and what recover hands on.
-/
import Derived.Test.YtfpoeepcomnjhaaGreatDoorPmQh
namespace PM
open Go Go.RowKit
abbrev Ifc:=TypeId×List (IntKind×Int)
def Jlv(y:Ifc)(ch:List PanicEntry):Prop:=ch=[{ v:=Ju0 (some y),recovered:=false }]
def Jqh(P:Program)(Gl:GL)(f:FuncId)(args:List PV)(o:Ifc⊕PV):Prop :=
 Jv6 P f/\∀ (S:Qa) (w:World) (vs:Array Value),(∀ B o,S B o->B<w.heap.size)->(∀ i cs,Gl i=some cs->Gw S w cs i)->Kg (Jv S w) args vs.toList ->
  Calls P f vs w fun e w'=>(∃ r v g',o=.inr r/\e=.returned v/\g'.w=w'/\Gf S w r v g')\/(∃ y ch g',o=.inl y/\e=.panicked ch/\Jlv y ch/\g'.w=w'/\Gf S w (.tup []) (.tuple #[]) g')
def Kbp{α β:Type}(D:Option (Int⊕α))(z:Int->Option β)(f:α->Option β):Option β:=D.bind fun o=>match o with
 | .inl e=>z e
 | .inr r=>f r
theorem Kkc{α β:Type}{D:Option (Int⊕α)}{z:Int->Option β}{f:α->Option β}{b:β}(h:Kbp D z f=some b):(∃ e,D=some (.inl e)/\z e=some b)\/∃ r,D=some (.inr r)/\f r=some b:=by
 unfold Kbp at h;obtain ⟨o,h1,h2⟩:=bF.1 h;cases o with
 | inl e=>exact .inl ⟨e,h1,h2⟩
 | inr r=>exact .inr ⟨r,h1,h2⟩
def panR{α:Type}(t:TypeId)(f:α->PV):Int⊕α->Ifc⊕PV
 | .inl e=>.inl (t,[(.i64,e)])
 | .inr r=>.inr (f r)
section
variable {P:Program} {Gl:GL} {s:PSt}
def Kgl(P:Program)(Gl:GL)(rs:List ResultVar)(o:Ifc⊕PV):Exit->PSt->Prop
 | .normal,s|.ret,s=>∃ r,o=.inr r/\Mg P Gl rs r s
 | .panic ch,_=>∃ y,o=.inl y/\Jlv y ch
 | _,_=>False
theorem Jrg{f:FuncId}{fn:Func}{c:Code}{args:List PV}{o:Ifc⊕PV}{n:Nat}{rs:List ResultVar}(hf:P.funcs[f]? = some fn)(hname:(fn.name == "runtime.NumGoroutine")=false)(hb:fn.body=some c)(hn:fn.ntmps=n)(hrs:fn.results.toList=rs)(hflat:args.all Cn=true)(h:pwp P Gl c (Kgl P Gl rs o) (st0 args n)):Jqh P Gl f args o:=by
 refine ⟨⟨fn,hf,hname,by rw [hb]; rfl⟩,fun S w vs hS hglob hargs=>?_⟩;subst hn; subst hrs;refine calls_of_wp hf hb ?_;refine Zl (fun e a' w' hq=>?_) (h ⟨S,fun _ _=>False,fun _ _ _=>False,[],[]⟩ w _ w (Jhe hS hglob hargs hflat));obtain ⟨s',hq,g,rfl,hg⟩:=hq;have fin:(∃ r,o=.inr r/\Mg P Gl fn.results.toList r s')->a'.defers=[]/\∃ v,(results fn a'.tmps).run P g.w=.ok v g.w/\((∃ r v' g',o=.inr r/\Ending.returned v=.returned v'/\g'.w=g.w/\Gf S w r v' g')\/(∃ y ch g',o=.inl y/\Ending.returned v=.panicked ch/\Jlv y ch/\g'.w=g.w/\Gf S w (.tup []) (.tuple #[]) g')):=by
  rintro ⟨r,ho,hr⟩;obtain ⟨v,q1,v',g',q2,q3,q4⟩:=Xm (fn:=fn) hg hr;exact ⟨hg.defers,v,q1,.inl ⟨r,v',g',ho,q2,q3,q4⟩⟩
 cases e with
 | normal=>exact fin hq
 | ret=>exact fin hq
 | exit id=>exact hq.elim
 | goto l=>exact hq.elim
 | panic ch=>exact ⟨hg.defers,let ⟨y,h1,h2⟩:=hq; .inr ⟨y,ch,{ g with H:=fun _=>none,T:=fun _=>none },h1,rfl,h2,rfl,Jrz hg⟩⟩
 | outgrown=>exact hq.elim
theorem Jn6{rs:List ResultVar}{y:Ifc}{ch:List PanicEntry}(h:Jlv y ch):Kgl P Gl rs (.inl y) (.panic ch) s:=⟨y,rfl,h⟩
variable {ops:Array Oper} {Q:Exit->PSt->Prop}
theorem Jyb{f:FuncId}{as:List PV}{o:Ifc⊕PV}{L:List Oper}(hc:Jqh P Gl f as o)(h:(Jhi L s).map (fun x=>(x.1,Rg as x.2))=some (f,as))(h1:∀ r,o=.inr r->Dj ((Jgh L).getD 0) s.T (Wc r)/\wlE P Gl ops (L.drop 1) ((addToks ((Jgh L).getD 0) s (Wc r)).put (Jgh L) (Jau ((Jgh L).getD 0) r)) Q)(h2:∀ y,o=.inl y->∀ ch,Jlv y ch->Q (.panic ch) s):wlE P Gl ops L s Q:=by
 cases L with
 | nil=>cases h
 | cons p r=>
  obtain ⟨⟨f',as'⟩,hh,heq⟩:=aD.1 h;simp only [aM] at heq;obtain ⟨rfl,heq⟩:=heq;obtain ⟨⟨f'',AS⟩,hh1,hh2⟩:=bF.1 hh;obtain ⟨d,hd,hd2⟩:=aD.1 hh2;simp only [aM] at hd2;obtain ⟨rfl,rfl⟩:=hd2;simp only [Jxk] at hh1;split at hh1
  ·rename_i x args hg hco;split at hh1
   ·rename_i f' caps e1;split at hh1
    rotate_left
    ·cases hh1
    rename_i hcap;simp only [aP,aM] at hh1;obtain ⟨rfl,rfl⟩:=hh1;obtain ⟨cl,hop,hcal,hargs⟩:=Zg hco;intro S0 w0 a w Q' hQ hi;obtain ⟨g,rfl,hI⟩:=hi;have hx:=hI.ev x;rw [e1] at hx;simp only [Rel,Ks,Kk] at hx;obtain ⟨arr,hfv,hcaps⟩:=hx;have hall:Kg (Rel g) (args.map s.ev++caps) ((cl.args.map a.eval++arr).toList):=by
     rw [cV,eJ,hargs];refine Kg.append ⟨by simp,fun i p v hp hv=>?_⟩ ⟨hcaps.1,fun i p v hp hv=>?_⟩
     ·rw [aN] at hp hv;cases hi:args[i]? with
      | none=>rw [hi] at hp; cases hp
      | some y=>rw [hi] at hp hv; cases hp; cases hv; exact hI.ev y
     ·have hpv:=hcaps.2 i p v hp hv;have h2:=aK.1 hcap p (aC hp);cases p <;> simp only [Ev] at h2 <;> try cases h2
      all_goals exact hpv
    obtain ⟨⟨fn,hf,hname,hb⟩,hcall⟩:=hc;have hrun:(execOp a.eval p).run P g.w=.ok (.enter f' (cl.args.map a.eval++arr)) g.w:=by
     have hne:fn.name ≠ "runtime.NumGoroutine" := by simpa using hname
     have hbody:fn.body≠none:=fun e=>by rw [e] at hb; cases hb
     simp [execOp,hop,resolve,hcal,hfv,Deferred.ofValue,invoke,callFunc,run_program,hf,hne,hbody]
    have hD0:=Li hall hd;have hD:Kg (Jv g.S g.w) as (cl.args.map a.eval++arr).toList:=by have:=Ox (ps:=as) hD0; rw [heq] at this; exact this
    unfold wpList;have hw:Region.wanted p (yielded ops a.tmps)=true:=by unfold Region.wanted; rw [hg]
    rw [if_pos hw]
    left
    unfold Oper.wp;rw [hrun];refine (hcall g.S g.w _ hI.lt hI.glob hD).mono fun e w' he=>?_;rcases he with ⟨r',v,g',ho,rfl,rfl,ha⟩|⟨y,ch,g',ho,rfl,hpan,rfl,ha⟩
    ·obtain ⟨k1,k2⟩:=h1 r' ho;obtain ⟨g2,q1,q2,q3⟩:=hI.after ha (p.dst.getD 0) k1;exact k2 S0 w0 _ _ Q' hQ ⟨g2,q2,q1.put _ q3⟩
    ·obtain ⟨g2,q1,q2,-⟩:=hI.after ha 0 (by simp [Wc,Dj]);simp only [Wc,List.flatMap_nil,addToks] at q1;exact hQ _ _ _ _ (h2 y ho ch hpan) ⟨g2,q2,q1⟩
   ·cases hh1
  ·cases hh1
theorem Kff{f:FuncId}{as:List PV}{r:PV}{L:List Oper}(hc:Jqh P Gl f as (.inr r))(h:(Jhi L s).map (fun x=>(x.1,Rg as x.2))=some (f,as))(ht:Jwf false ((Jgh L).getD 0) s.T (Wc r)=true)(h1:wlE P Gl ops (L.drop 1) ((addToks ((Jgh L).getD 0) s (Wc r)).put (Jgh L) (Jau ((Jgh L).getD 0) r)) Q):wlE P Gl ops L s Q :=
 Jyb hc h (fun r' e=>by cases e; exact ⟨(Jd2 ht).1,h1⟩) (fun y e=>by cases e)
theorem Kfx{f:FuncId}{as:List PV}{y:Ifc}{L:List Oper}(hc:Jqh P Gl f as (.inl y))(h:(Jhi L s).map (fun x=>(x.1,Rg as x.2))=some (f,as))(h2:∀ ch,Jlv y ch->Q (.panic ch) s):wlE P Gl ops L s Q :=
 Jyb hc h (fun r' e=>by cases e) (fun y' e=>by cases e; exact h2)
def Jo8 : List PV->Option (List (IntKind×Int))
 | []=>some []
 | .int k n::r=>(Jo8 r).map fun x=>(k,n)::x
 | _::_=>none
theorem Jmi{g:GG}:∀ {cs:List PV} {x:List (IntKind×Int)} {vs:List Value},Jo8 cs=some x->Kg (Yr g) cs vs->vs=x.map fun y=>Value.int y.1 y.2
 | [],x,vs,h,hv=>by
  simp [Jo8] at h; subst h; rw [hv.nil_left]; rfl
 | c::cs,x,vs,h,hv=>by
  obtain ⟨v,vs',rfl,h1,h2⟩:=hv.cons_left;cases c <;> simp only [Jo8] at h <;> try cases h
  case int k n=>
   obtain ⟨x',hx,rfl⟩:=aD.1 h;have e:v=.int k n:=by simpa [Yr,Kk,Jv] using h1.1
   rw [Jmi hx h2,e]; rfl
def Kgv(P:Program):List Oper->PSt->Option (Nat×Ifc)
 | [o1,o2],s=>match o1.guard,o1.dst,o1.op,o2.guard,o2.op with
  | none,some d,.makeInterface t x,none,.panic (.tmp d')=>match s.ev x with
   | .agg cs=>if (d' == d&&decide (d+s.m<s.tm.length)&&Jtz (P.underlying t))=true then (Jo8 cs).map fun y=>(d,t,y) else none
   | _=>none
  | _,_,_,_,_=>none
 | _,_=>none
theorem Jj5{L:List Oper}{d:Nat}{y:Ifc}(h:Kgv P L s=some (d,y))(hQ:∀ ch,Jlv y ch->Q (.panic ch) (s.put (some d) .any)):wlE P Gl ops L s Q:=by
 unfold Kgv at h;split at h
 ·rename_i o1 o2;split at h
  ·rename_i d0 t x d' hg1 hd1 hop1 hg2 hop2;split at h
   ·rename_i cs hev;split at h
    ·rename_i hc;obtain ⟨ns,hns,hy⟩:=aD.1 h;cases hy;simp only [aI,beq_iff_eq,decide_eq_true_eq] at hc;obtain ⟨⟨rfl,hlt⟩,hif⟩:=hc;intro S0 w0 a w Q' hQ' hi;obtain ⟨g,rfl,hI⟩:=hi;have hlen:=hI.len.1;have hda:d'<a.tmps.size:=by rw [hlen] at hlt; exact Nat.lt_of_add_lt_add_right hlt
     have hx:=hI.ev x;rw [hev] at hx;obtain ⟨arr,hxv,hxa⟩:=hx;have hxe:a.eval x=.agg (ns.map fun y=>Value.int y.1 y.2).toArray:=by
      rw [hxv,<- Jmi hns hxa]
     have hw1:Region.wanted o1 (yielded ops a.tmps)=true:=by unfold Region.wanted; rw [hg1]
     have hrun1:(execOp a.eval o1).run P g.w=.ok (.value (.iface t (a.eval x))) g.w:=by
      cases hu:P.underlying t with
      | none=>rw [hu] at hif; cases hif
      | some D=>
       rw [hu] at hif;cases D <;> first|(cases hif; done)|simp [execOp,hop1,Instr.makeInterface,run_underlying hu]
     unfold wpList;rw [if_pos hw1]
     left
     unfold Oper.wp;rw [hrun1,Oper.upon_value,hd1];unfold wpList;have hw2:∀ y,Region.wanted o2 y=true:=fun y=>by unfold Region.wanted; rw [hg2]
     rw [if_pos (hw2 _)]
     left
     unfold Oper.wp;have hev:(a.put (some d') (.iface t (a.eval x))).eval (.tmp d')=.iface t (a.eval x):=by simp [Act.put,Act.eval,hda]
     have hrun2:(execOp (a.put (some d') (.iface t (a.eval x))).eval o2).run P g.w=.halt (.panic (.iface t (a.eval x))) g.w:=by
      simp only [execOp,hop2,hev]
      rfl
     rw [hrun2];exact hQ' _ _ _ _ (hQ _ (by unfold Jlv Ju0; rw [hxe])) ⟨g,rfl,hI.put _ (by trivial)⟩
    ·cases h
   ·cases h
  ·cases h
 ·cases h
end
section
variable {P:Program} {Gl:GL} {s:PSt}
def Kei(P:Program)(Gl:GL)(x:Option Ifc)(c:Code)(Q:Exit->PSt->Prop)(s:PSt):Prop :=
 ∀ (S0:Bs) (w0:World) (a:Act) (w:World) (c0:Frame) (cs:List Frame),Inv Gl S0 w0 s a w->(∀ y,x=some y->∃ ch,Jlv y ch/\c0.mode=.panicking ch)->(x=none->c0.mode=.returning) ->
  c.wpS P (fun e a' cs' w'=>(∃ s',Q e s'/\Inv Gl S0 w0 s' a' w')/\∃ u',cs'={ c0 with mode:=u' }::cs/\Go.settle u'=.returning) a (c0::cs) w
theorem Jxz{x:Option Ifc}{c:Code}{Q:Exit->PSt->Prop}{s':PSt}(hw:Wkr s s')(h:Kei P Gl x c Q s'):Kei P Gl x c Q s:=fun S0 w0 a w c0 cs hi=>h S0 w0 a w c0 cs (hw Gl S0 w0 a w hi)
structure Kh7 (P:Program) (o0 o1:Oper) (d0 d1:Nat):Prop where
 g0:o0.guard=none
 g1:o1.guard=none
 e0:o0.dst=some d0
 e1:o1.dst=some d1
 r0:∀ (a:Act) (w:World),(execOp a.eval o0).run P w=.ok .recover w
 r1:∀ (a:Act) (w:World),(execOp a.eval o1).run P w=.ok (.value (a.eval (.tmp d0))) w
theorem Jqg{x:Option Ifc}{id d0 d1:Nat}{o0 o1:Oper}{y:Code}{Q:Exit->PSt->Prop}(ho:Kh7 P o0 o1 d0 d1)(hd:decide (d0+s.m<s.tm.length)=true)(h:pwp P Gl y Q ((s.put (some d0) (.ifc x)).put (some d1) (.ifc x))) :
  Kei P Gl x (.seq (.region id #[o0,o1] false) y) Q s:=by
 intro S0 w0 a w c0 cs hi hp hn;apply wpS_seq;apply wpS_region;obtain ⟨g,rfl,hI⟩:=hi;have hlen:=hI.len.1;have hda:d0<a.tmps.size:=by have:=of_decide_eq_true hd; omega
 have hw0:∀ y,Region.wanted o0 y=true:=fun y=>by unfold Region.wanted; rw [ho.g0]
 have hw1:∀ y,Region.wanted o1 y=true:=fun y=>by unfold Region.wanted; rw [ho.g1]
 have e2:List.range (#[o0,o1]:Array Oper).size=[0,1]:=rfl;rw [e2];have fin:∀ (cs1:List Frame),(∃ u',cs1={ c0 with mode:=u' }::cs/\Go.settle u'=.returning) ->
   wpOpsS P #[o0,o1] (Exit.thenS (y.wpS P fun e a' cs' w'=>(∃ s',Q e s'/\Inv Gl S0 w0 s' a' w')/\∃ u',cs'={ c0 with mode:=u' }::cs/\Go.settle u'=.returning) fun e a' cs' w'=>(∃ s',Q e s'/\Inv Gl S0 w0 s' a' w')/\∃ u',cs'={ c0 with mode:=u' }::cs/\Go.settle u'=.returning) [1] (a.put (some d0) (Ju0 x)) cs1 g.w:=by
  intro cs1 hcs;have hx:(#[o0,o1]:Array Oper)[1]? = some o1:=rfl;unfold wpOpsS;rw [hx];simp only [hw1,if_true,ho.r1,Oper.upon_value,ho.e1,Jqd hda];unfold wpOpsS;simp only [Exit.thenS];refine wpS_of_wp ?_;have h2:=h S0 w0 ((a.put (some d0) (Ju0 x)).put (some d1) (Ju0 x)) g.w ⟨g,rfl,(hI.put (some d0) (p:=.ifc x) (by simp only [Rel,Ks,Kk])).put (some d1) (by simp only [Rel,Ks,Kk])⟩;exact Zl (fun e a' w' hq=>⟨hq,hcs⟩) h2
 unfold wpOpsS;have hx:(#[o0,o1]:Array Oper)[0]? = some o0:=rfl;rw [hx];simp only [hw0,if_true,ho.r0];cases x with
 | some y=>
  obtain ⟨ch,hch,hm⟩:=hp y rfl;unfold Jlv at hch;subst hch;simp only [recoverD,hm,ho.e0];exact fin _ ⟨_,rfl,by simp [Go.settle]⟩
 | none=>
  have hm:=hn rfl;simp only [recoverD,hm,ho.e0];exact fin _ ⟨.returning,by rw [<- hm],rfl⟩
def Jlf(P:Program)(Gl:GL)(rs:List ResultVar)(r:PV)(x:Option Ifc)(s:PSt):Prop :=
 ∃ f caps fn c,s.tm.getLast? = some (.fn f caps)/\s.m=1/\caps.all Ev=true/\P.funcs[f]? = some fn/\(fn.name == "runtime.NumGoroutine")=false/\fn.body=some c/\fn.results.toList=[]/\Kei P Gl x c (Jja P Gl rs r) (Ou fn.ntmps caps s)
def Jyp(P:Program)(Gl:GL)(rs:List ResultVar)(r:PV):Exit->PSt->Prop
 | .normal,s|.ret,s=>Jlf P Gl rs r none s
 | .panic ch,s=>∃ y,Jlv y ch/\Jlf P Gl rs r (some y) s
 | _,_=>False
theorem Jrc{f:FuncId}{fn:Func}{c:Code}{args:List PV}{r:PV}{n:Nat}{rs:List ResultVar}(hf:P.funcs[f]? = some fn)(hname:(fn.name == "runtime.NumGoroutine")=false)(hb:fn.body=some c)(hn:fn.ntmps=n)(hrs:fn.results.toList=rs)(hflat:args.all Cn=true)(h:Jzp P Gl c (Jj7 P Gl rs r) (Jyp P Gl rs r) (st0 args n)):Yx P Gl f args r:=by
 refine ⟨⟨fn,hf,hname,by rw [hb]; rfl⟩,fun S w vs hS hglob hargs=>?_⟩;subst hn; subst hrs;refine calls_of_wp_defers hf hb ?_;refine Zl (fun e a' w' hq=>?_) (h ⟨S,fun _ _=>False,fun _ _ _=>False,[],[]⟩ w _ w rfl rfl (Jhe hS hglob hargs hflat));rcases hq with ⟨s',hq,g,rfl,hg⟩|⟨s',fv,cap,hq,g,rfl,hg⟩
 ·have fin:Mg P Gl fn.results.toList r s'->Leaves P fn a'.tmps (fun e w'=>∃ v g',e=.returned v/\g'.w=w'/\Gf S w r v g') a'.defers .returning g.w:=fun q=>by
   rw [hg.defers];exact Xm hg q
  cases e with
  | normal=>exact fin hq
  | ret=>exact fin hq
  | exit id=>exact hq.elim
  | goto l=>exact hq.elim
  | panic ch=>exact hq.elim
  | outgrown=>exact hq.elim
 ·have fin:∀ (x:Option Ifc) (u:FrameMode),u≠.run->(∀ y,x=some y->∃ ch,Jlv y ch/\u=.panicking ch)->(x=none->u=.returning)->Jlf P Gl fn.results.toList r x s'->Leaves P fn a'.tmps (fun e w'=>∃ v g',e=.returned v/\g'.w=w'/\Gf S w r v g') a'.defers u g.w:=fun x u hu hp hnp q=>by
   obtain ⟨f2,caps,fn2,c2,k1,k2,k3,k4,k5,k6,k7,k8⟩:=q;rw [hg.defers];have hl:=hg.len;have hl1:s'.tm.length=a'.tmps.size+1:=by rw [hl.1,k2]
   have hlast:s'.tm[a'.tmps.size]? = some (.fn f2 caps):=by
    rw [eC] at k1
    rwa [hl1,dQ] at k1
   have hfr:=hg.tm a'.tmps.size _ (.func fv #[] cap) hlast (by
    show (a'.tmps.toList++[Value.func fv #[] cap])[a'.tmps.size]? = _;rw [bW sG]; simp)
   simp only [Rel,Ks,Kk] at hfr;obtain ⟨arr,hfv,hcaps⟩:=hfr;cases hfv;have hne:fn2.name ≠ "runtime.NumGoroutine" := by simpa using k5
   have hbody:fn2.body≠none:=fun e=>by rw [e] at k6; cases k6
   refine leaves_cons (f:=f2) (args:=cap) hu (by simp [invoke,callFunc,run_program,k4,hne,hbody]) ?_;have hall:Kg (Rel g) caps cap.toList:=⟨hcaps.1,fun i p v hp hv=>by
    have hpv:=hcaps.2 i p v hp hv;have h2:=aK.1 k3 p (aC hp);cases p <;> simp only [Ev] at h2 <;> try cases h2
    all_goals exact hpv⟩
   refine CallsD.mono (callsD_of_wpS (R:=fun e u' w'=>∃ v,e=.returned v/\Go.settle u'=.returning/\Leaves P fn a'.tmps (fun e w'=>∃ v g',e=.returned v/\g'.w=w'/\Gf S w r v g') [] .returning w') k4 k6 fun c₀ cs hu=>?_) ?_
   ·have hsz2:caps.length=cap.size:=by rw [hall.1]; simp
    have hinit2:Inv Gl ⟨S,fun _ _=>False,fun _ _ _=>False,a'.tmps.toList++[Value.func (.func f2) #[] cap],[]⟩ w (Ou fn2.ntmps caps s') { tmps:=cap++Array.replicate (fn2.ntmps - cap.size) undef,defers:=[] } g.w:=by
     refine ⟨g,rfl,{ hg with defers:=rfl,len:=⟨?_, ?_⟩,tm:=fun i p v hp hv=>?_ }⟩
     ·simp only [Ou,aH,eS,dU,eW,hsz2]
     ·show (a'.tmps.toList++[Value.func (.func f2) #[] cap]).length=s'.tm.length;rw [aH,bJ]; simp only [cC]; omega
     ·simp only [Ou] at hp;have hl2:(caps++List.replicate (fn2.ntmps - caps.length) PV.any).length=(cap++Array.replicate (fn2.ntmps - cap.size) undef).toList.length:=by
       simp [hsz2]
      rw [aU] at hp;have hv:((cap++Array.replicate (fn2.ntmps - cap.size) undef).toList++(a'.tmps.toList++[Value.func (.func f2) #[] cap]))[i]? = some v:=hv;rw [aU,<- hl2] at hv
      by_cases hi:i<(caps++List.replicate (fn2.ntmps - caps.length) PV.any).length
      ·rw [if_pos hi] at hp hv;rw [aU] at hp
       by_cases hi2:i<caps.length
       ·rw [if_pos hi2] at hp;rw [cV,bM (by rw [<- hall.1]; exact hi2)] at hv;exact hall.2 i p v hp hv
       ·rw [if_neg hi2,cE] at hp;split at hp
        ·cases hp; trivial
        ·cases hp
      ·rw [if_neg hi] at hp hv;exact hg.tm _ p v hp hv
    refine Jxs (k8 _ w _ g.w c₀ cs hinit2 (fun y e=>by rw [hu]; exact hp y e) (fun e=>by rw [hu]; exact hnp e)) ?_;rintro e3 a3 cs3 w3 ⟨⟨s3,hq3,g3,rfl,hg3⟩,u3,rfl,hset⟩;have fin3:Mg P Gl fn.results.toList r { s3 with tm:=s3.tm.drop (s3.tm.length - s3.m),m:=1 }->a3.defers=[]/\∃ u',({ c₀ with mode:=u3 }:Frame)::cs={ c₀ with mode:=u' }::cs/\∃ v,(results fn2 a3.tmps).run P g3.w=.ok v g3.w/\∃ v2,Ending.returned v=.returned v2/\Go.settle u'=.returning/\Leaves P fn a'.tmps (fun e w'=>∃ v g',e=.returned v/\g'.w=w'/\Gf S w r v g') [] .returning g3.w:=fun q=>by
     have hl3:=hg3.len;have hm3:s3.m=a'.tmps.size+1:=by
      have e:(a'.tmps.toList++[Value.func (.func f2) #[] cap]).length=s3.m:=hl3.2;rw [aH,bJ] at e;simp only [cC] at e; omega
     have hbase:Kh Gl ⟨S,fun _ _=>False,fun _ _ _=>False,[Value.func (.func f2) #[] cap],[]⟩ w { s3 with tm:=s3.tm.drop (s3.tm.length - s3.m),m:=1 } { tmps:=a'.tmps,defers:=[] } g3:=by
      refine { hg3 with defers:=rfl,len:=⟨?_,rfl⟩,tm:=fun i p v hp hv=>?_ }
      ·show (s3.tm.drop (s3.tm.length - s3.m)).length=a'.tmps.size+1;rw [cI]; omega
      ·have hp:(s3.tm.drop (s3.tm.length - s3.m))[i]? = some p:=hp;rw [cK] at hp;refine hg3.tm _ p v hp ?_;show (a3.tmps.toList++(a'.tmps.toList++[Value.func (.func f2) #[] cap]))[_]? = some v;have e:s3.tm.length - s3.m=a3.tmps.toList.length:=by rw [bJ]; omega
       rw [e,bW oG,cD];exact hv
     refine ⟨hg3.defers,u3,rfl,.tuple #[], ?_,_,rfl,hset,Xm (a':={ tmps:=a'.tmps,defers:=[] }) hbase q⟩;rw [Fp,cF,k7];simp
    cases e3 with
    | normal=>exact fin3 hq3
    | ret=>exact fin3 hq3
    | exit id=>exact hq3.elim
    | goto l=>exact hq3.elim
    | panic ch=>exact hq3.elim
    | outgrown=>exact hq3.elim
   ·rintro e3 u3 w3 ⟨v3,rfl,hset,hL⟩;show Leaves _ _ _ _ [] (Go.settle u3) w3;rw [hset]; exact hL
  cases e with
  | normal=>exact fin none .returning sG (fun _ e=>by cases e) (fun _=>rfl) hq
  | ret=>exact fin none .returning sG (fun _ e=>by cases e) (fun _=>rfl) hq
  | exit id=>exact hq.elim
  | goto l=>exact hq.elim
  | panic ch=>exact let ⟨y,h1,h2⟩:=hq; fin (some y) (.panicking ch) sG (fun y' e=>by cases e; exact ⟨ch,h1,rfl⟩) (fun e=>by cases e) h2
  | outgrown=>exact hq.elim
theorem Kaq{f n:Nat}{caps:List PV}{fn:Func}{c:Code}{rs:List ResultVar}{r:PV}{x:Option Ifc}(h:(s.tm.getLast?,s.m,caps.all Ev)=(some (.fn f caps),1,true))(hf:P.funcs[f]? = some fn)(hname:(fn.name == "runtime.NumGoroutine")=false)(hb:fn.body=some c)(hn:fn.ntmps=n)(hres:fn.results.toList=[])(h2:Kei P Gl x c (Jja P Gl rs r) (Ou n caps s)):Jlf P Gl rs r x s:=by
 subst hn;simp only [aM] at h;exact ⟨f,caps,fn,c,h.1,h.2.1,h.2.2,hf,hname,hb,hres,h2⟩
theorem Kj3{rs:List ResultVar}{r:PV}(h:Jlf P Gl rs r none s):Jyp P Gl rs r .ret s:=h
theorem Kjx{rs:List ResultVar}{r:PV}{ch:List PanicEntry}{y:Ifc}(hc:Jlv y ch)(h:Jlf P Gl rs r (some y) s):Jyp P Gl rs r (.panic ch) s:=⟨y,hc,h⟩
variable {Ls:List (Oper×Gd)} {Q:PSt->Prop}
def Ki5 : List (Oper×Gd)->PSt->Option (TypeId×Bool)
 | (o,.always)::_,s=>match o.op with
  | .binOp .neq t (.tmp x) (.const .nilIface) _=>match s.ev (.tmp x) with
   | .ifc y=>some (t,y.isSome)
   | _=>none
  | _=>none
 | _,_=>none
theorem Ki9{t:TypeId}{b:Bool}(h:Ki5 Ls s=some (t,b))(hT:P.underlying t=some (.interface (P.methodsAt t)))(h2:Jy P Gl false (Ls.drop 1) (s.put (Uk Ls) (.bool b)) Q):Jy P Gl false Ls s Q:=by
 unfold Ki5 at h;split at h
 ·rename_i s0 o rest;split at h
  ·rename_i t' x t2 hop;split at h
   ·rename_i y e1;cases h;refine Jay (n:=s) (v:=.bool y.isSome) (by rw [hop]; rfl) ?_ h2;intro S0 w0 a g K Q' hg hK;have hx:=hg.ev (.tmp x);rw [e1] at hx;simp only [Rel,Ks,Kk] at hx;have hfull:(execOp a.eval o).run P g.w=.ok (.value (.bool y.isSome)) g.w:=by
     simp only [execOp,hop];rw [hx];cases y with
     | none=>simp [go_sem,Ju0,run_neq_nil_nil _ _ hT]
     | some y=>simp [go_sem,Ju0,run_neq_held_nil _ _ _ _ hT]
    unfold Oper.wp;rw [hfull];exact hK _ g hg (GLe.refl g) (by simp [Rel,Ks,Kk,Jv])
   ·cases h
  ·cases h
 ·cases h
def Kjl(P:Program):List (Oper×Gd)->PSt->Option (List (IntKind×Int))
 | (o,.always)::_,s=>match o.op with
  | .typeAssert x _ t true=>match s.ev x with
   | .ifc (some (t',cs))=>if (t' == t&&Jtz (P.underlying t))=true then some cs else none
   | _=>none
  | _=>none
 | _,_=>none
theorem Klc{cs:List (IntKind×Int)}(h:Kjl P Ls s=some cs)(h2:Jy P Gl false (Ls.drop 1) (s.put (Uk Ls) (.tup [.agg (cs.map fun y=>.int y.1 y.2),.bool true])) Q):Jy P Gl false Ls s Q:=by
 unfold Kjl at h;split at h
 ·rename_i s0 o rest;split at h
  ·rename_i x xT t hop;split at h
   ·rename_i t' cs' e1;split at h
    ·rename_i hc;cases h;simp only [aI,beq_iff_eq] at hc;obtain ⟨rfl,hif⟩:=hc;refine Jay (n:=s) (v:=PV.tup [PV.agg (cs.map fun (y:IntKind×Int)=>PV.int y.1 y.2),PV.bool true]) (by rw [hop]; rfl) ?_ h2;intro S0 w0 a g K Q' hg hK;have hx:=hg.ev x;rw [e1] at hx;simp only [Rel,Ks,Kk] at hx;have hfull:(execOp a.eval o).run P g.w=.ok (.value (.tuple #[.agg (cs.map fun y=>Value.int y.1 y.2).toArray,.bool true])) g.w:=by
      cases hu:P.underlying t' with
      | none=>rw [hu] at hif; cases hif
      | some D=>
       rw [hu] at hif;cases D <;> first|(cases hif; done)|simp [execOp,hop,Instr.typeAssert,run_underlying hu,hx,Ju0]
     unfold Oper.wp;rw [hfull];refine hK _ g hg (GLe.refl g) ⟨_,rfl, ?_⟩;refine ⟨by simp,fun i p v hp hv=>?_⟩
     match i with
     | 0=>
      simp at hp hv; subst hp; subst hv;refine ⟨_,rfl,by simp,fun j q u hq hu=>?_⟩;rw [aN] at hq;rw [aN] at hu;cases hj:cs[j]? with
      | none=>rw [hj] at hq; cases hq
      | some z=>rw [hj] at hq hu; cases hq; cases hu; exact ⟨by simp [Kk,Jv],rfl⟩
     | 1=>simp at hp hv; subst hp; subst hv; simp [Ks,Kk,Jv]
     | i+2=>simp at hp
    ·cases h
   ·cases h
  ·cases h
 ·cases h
end
end PM
