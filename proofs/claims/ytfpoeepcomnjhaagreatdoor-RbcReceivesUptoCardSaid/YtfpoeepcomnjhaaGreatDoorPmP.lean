/-
 THE PURE MACHINE, P: panics whose value is known (a type and numbers), and what recover hands on.
-/
import Derived.Test.YtfpoeepcomnjhaaGreatDoorPmQh
namespace PM
open Go Go.RowKit
abbrev Ifc:=TypeId×List (IntKind×Int)
def Jjk(y:Ifc)(ch:List PanicEntry):Prop:=ch=[{ v:=Jq4 (some y),recovered:=false }]
def Jn5(P:Program)(Gl:GL)(f:FuncId)(args:List PV)(o:Ifc⊕PV):Prop :=
 Jsd P f/\∀ (S:Ks) (w:World) (vs:Array Value),(∀ B o,S B o->B<w.heap.size)->(∀ i cs,Gl i=some cs->Fi S w cs i)->Ke (Js S w) args vs.toList ->
  Calls P f vs w fun e w'=>(∃ r v g',o=.inr r/\e=.returned v/\g'.w=w'/\Et S w r v g')\/(∃ y ch g',o=.inl y/\e=.panicked ch/\Jjk y ch/\g'.w=w'/\Et S w (.tup []) (.tuple #[]) g')
def Kam{α β:Type}(D:Option (Int⊕α))(z:Int->Option β)(f:α->Option β):Option β:=D.bind fun o=>match o with
 | .inl e=>z e
 | .inr r=>f r
theorem Kep{α β:Type}{D:Option (Int⊕α)}{z:Int->Option β}{f:α->Option β}{b:β}(h:Kam D z f=some b):(∃ e,D=some (.inl e)/\z e=some b)\/∃ r,D=some (.inr r)/\f r=some b:=by
 unfold Kam at h;obtain ⟨o,h1,h2⟩:=aT.1 h;cases o with
 | inl e=>exact .inl ⟨e,h1,h2⟩
 | inr r=>exact .inr ⟨r,h1,h2⟩
def panR{α:Type}(t:TypeId)(f:α->PV):Int⊕α->Ifc⊕PV
 | .inl e=>.inl (t,[(.i64,e)])
 | .inr r=>.inr (f r)
section
variable {P:Program} {Gl:GL} {s:PSt}
def Jy5(P:Program)(Gl:GL)(rs:List ResultVar)(o:Ifc⊕PV):Exit->PSt->Prop
 | .normal,s|.ret,s=>∃ r,o=.inr r/\Ib P Gl rs r s
 | .panic ch,_=>∃ y,o=.inl y/\Jjk y ch
 | _,_=>False
theorem Jon{f:FuncId}{fn:Func}{c:Code}{args:List PV}{o:Ifc⊕PV}{n:Nat}{rs:List ResultVar}(hf:P.funcs[f]? = some fn)(hname:(fn.name == "runtime.NumGoroutine")=false)(hb:fn.body=some c)(hn:fn.ntmps=n)(hrs:fn.results.toList=rs)(hflat:args.all Bp=true)(h:pwp P Gl c (Jy5 P Gl rs o) (st0 args n)):Jn5 P Gl f args o:=by
 refine ⟨⟨fn,hf,hname,by rw [hb]; rfl⟩,fun S w vs hS hglob hargs=>?_⟩;subst hn; subst hrs;refine calls_of_wp hf hb ?_;refine Yv (fun e a' w' hq=>?_) (h ⟨S,fun _ _=>False,fun _ _ _=>False,[],[]⟩ w _ w (Jf1 hS hglob hargs hflat));obtain ⟨s',hq,g,rfl,hg⟩:=hq;have fin:(∃ r,o=.inr r/\Ib P Gl fn.results.toList r s')->a'.defers=[]/\∃ v,(results fn a'.tmps).run P g.w=.ok v g.w/\((∃ r v' g',o=.inr r/\Ending.returned v=.returned v'/\g'.w=g.w/\Et S w r v' g')\/(∃ y ch g',o=.inl y/\Ending.returned v=.panicked ch/\Jjk y ch/\g'.w=g.w/\Et S w (.tup []) (.tuple #[]) g')):=by
  rintro ⟨r,ho,hr⟩;obtain ⟨v,q1,v',g',q2,q3,q4⟩:=Sd (fn:=fn) hg hr;exact ⟨hg.defers,v,q1,.inl ⟨r,v',g',ho,q2,q3,q4⟩⟩
 cases e with
 | normal=>exact fin hq
 | ret=>exact fin hq
 | exit id=>exact hq.elim
 | goto l=>exact hq.elim
 | panic ch=>exact ⟨hg.defers,let ⟨y,h1,h2⟩:=hq; .inr ⟨y,ch,{ g with H:=fun _=>none,T:=fun _=>none },h1,rfl,h2,rfl,Jo3 hg⟩⟩
 | outgrown=>exact hq.elim
theorem Jlt{rs:List ResultVar}{y:Ifc}{ch:List PanicEntry}(h:Jjk y ch):Jy5 P Gl rs (.inl y) (.panic ch) s:=⟨y,rfl,h⟩
variable {ops:Array Oper} {Q:Exit->PSt->Prop}
theorem Js8{f:FuncId}{as:List PV}{o:Ifc⊕PV}{L:List Oper}(hc:Jn5 P Gl f as o)(h:(Jfq L s).map (fun x=>(x.1,Oh as x.2))=some (f,as))(h1:∀ r,o=.inr r->Cg ((Jfc L).getD 0) s.T (Vj r)/\wlE P Gl ops (L.drop 1) ((addToks ((Jfc L).getD 0) s (Vj r)).put (Jfc L) (Sz ((Jfc L).getD 0) r)) Q)(h2:∀ y,o=.inl y->∀ ch,Jjk y ch->Q (.panic ch) s):wlE P Gl ops L s Q:=by
 cases L with
 | nil=>cases h
 | cons p r=>
  obtain ⟨⟨f',as'⟩,hh,heq⟩:=aC.1 h;simp only [aK] at heq;obtain ⟨rfl,heq⟩:=heq;obtain ⟨⟨f'',AS⟩,hh1,hh2⟩:=aT.1 hh;obtain ⟨d,hd,hd2⟩:=aC.1 hh2;simp only [aK] at hd2;obtain ⟨rfl,rfl⟩:=hd2;simp only [Jrz] at hh1;split at hh1
  ·rename_i x args hg hco;split at hh1
   ·rename_i f' caps e1;split at hh1
    rotate_left
    ·cases hh1
    rename_i hcap;simp only [aO,aK] at hh1;obtain ⟨rfl,rfl⟩:=hh1;obtain ⟨cl,hop,hcal,hargs⟩:=Ym hco;intro S0 w0 a w Q' hQ hi;obtain ⟨g,rfl,hI⟩:=hi;have hx:=hI.ev x;rw [e1] at hx;simp only [Rel,Km,Kh] at hx;obtain ⟨arr,hfv,hcaps⟩:=hx;have hall:Ke (Rel g) (args.map s.ev++caps) ((cl.args.map a.eval++arr).toList):=by
     rw [cI,dM,hargs];refine Ke.append ⟨by simp,fun i p v hp hv=>?_⟩ ⟨hcaps.1,fun i p v hp hv=>?_⟩
     ·rw [aL] at hp hv;cases hi:args[i]? with
      | none=>rw [hi] at hp; cases hp
      | some y=>rw [hi] at hp hv; cases hp; cases hv; exact hI.ev y
     ·have hpv:=hcaps.2 i p v hp hv;have h2:=aG.1 hcap p (aD hp);cases p <;> simp only [Db] at h2 <;> try cases h2
      all_goals exact hpv
    obtain ⟨⟨fn,hf,hname,hb⟩,hcall⟩:=hc;have hrun:(execOp a.eval p).run P g.w=.ok (.enter f' (cl.args.map a.eval++arr)) g.w:=by
     have hne:fn.name ≠ "runtime.NumGoroutine" := by simpa using hname
     have hbody:fn.body≠none:=fun e=>by rw [e] at hb; cases hb
     simp [execOp,hop,resolve,hcal,hfv,Deferred.ofValue,invoke,callFunc,run_program,hf,hne,hbody]
    have hD0:=Hq hall hd;have hD:Ke (Js g.S g.w) as (cl.args.map a.eval++arr).toList:=by have:=Nd (ps:=as) hD0; rw [heq] at this; exact this
    unfold wpList;have hw:Region.wanted p (yielded ops a.tmps)=true:=by unfold Region.wanted; rw [hg]
    rw [if_pos hw]
    left
    unfold Oper.wp;rw [hrun];refine (hcall g.S g.w _ hI.lt hI.glob hD).mono fun e w' he=>?_;rcases he with ⟨r',v,g',ho,rfl,rfl,ha⟩|⟨y,ch,g',ho,rfl,hpan,rfl,ha⟩
    ·obtain ⟨k1,k2⟩:=h1 r' ho;obtain ⟨g2,q1,q2,q3⟩:=hI.after ha (p.dst.getD 0) k1;exact k2 S0 w0 _ _ Q' hQ ⟨g2,q2,q1.put _ q3⟩
    ·obtain ⟨g2,q1,q2,-⟩:=hI.after ha 0 (by simp [Vj,Cg]);simp only [Vj,List.flatMap_nil,addToks] at q1;exact hQ _ _ _ _ (h2 y ho ch hpan) ⟨g2,q2,q1⟩
   ·cases hh1
  ·cases hh1
theorem Kbc{f:FuncId}{as:List PV}{r:PV}{L:List Oper}(hc:Jn5 P Gl f as (.inr r))(h:(Jfq L s).map (fun x=>(x.1,Oh as x.2))=some (f,as))(ht:Jt8 false ((Jfc L).getD 0) s.T (Vj r)=true)(h1:wlE P Gl ops (L.drop 1) ((addToks ((Jfc L).getD 0) s (Vj r)).put (Jfc L) (Sz ((Jfc L).getD 0) r)) Q):wlE P Gl ops L s Q :=
 Js8 hc h (fun r' e=>by cases e; exact ⟨(Jb5 ht).1,h1⟩) (fun y e=>by cases e)
theorem Jzk{f:FuncId}{as:List PV}{y:Ifc}{L:List Oper}(hc:Jn5 P Gl f as (.inl y))(h:(Jfq L s).map (fun x=>(x.1,Oh as x.2))=some (f,as))(h2:∀ ch,Jjk y ch->Q (.panic ch) s):wlE P Gl ops L s Q :=
 Js8 hc h (fun r' e=>by cases e) (fun y' e=>by cases e; exact h2)
def Jls : List PV->Option (List (IntKind×Int))
 | []=>some []
 | .int k n::r=>(Jls r).map fun x=>(k,n)::x
 | _::_=>none
theorem Jjz{g:GG}:∀ {cs:List PV} {x:List (IntKind×Int)} {vs:List Value},Jls cs=some x->Ke (Ya g) cs vs->vs=x.map fun y=>Value.int y.1 y.2
 | [],x,vs,h,hv=>by
  simp [Jls] at h; subst h; rw [hv.nil_left]; rfl
 | c::cs,x,vs,h,hv=>by
  obtain ⟨v,vs',rfl,h1,h2⟩:=hv.cons_left;cases c <;> simp only [Jls] at h <;> try cases h
  case int k n=>
   obtain ⟨x',hx,rfl⟩:=aC.1 h;have e:v=.int k n:=by simpa [Ya,Kh,Js] using h1.1
   rw [Jjz hx h2,e]; rfl
def Kag(P:Program):List Oper->PSt->Option (Nat×Ifc)
 | [o1,o2],s=>match o1.guard,o1.dst,o1.op,o2.guard,o2.op with
  | none,some d,.makeInterface t x,none,.panic (.tmp d')=>match s.ev x with
   | .agg cs=>if (d' == d&&decide (d+s.m<s.tm.length)&&Jqn (P.underlying t))=true then (Jls cs).map fun y=>(d,t,y) else none
   | _=>none
  | _,_,_,_,_=>none
 | _,_=>none
theorem Jin{L:List Oper}{d:Nat}{y:Ifc}(h:Kag P L s=some (d,y))(hQ:∀ ch,Jjk y ch->Q (.panic ch) (s.put (some d) .any)):wlE P Gl ops L s Q:=by
 unfold Kag at h;split at h
 ·rename_i o1 o2;split at h
  ·rename_i d0 t x d' hg1 hd1 hop1 hg2 hop2;split at h
   ·rename_i cs hev;split at h
    ·rename_i hc;obtain ⟨ns,hns,hy⟩:=aC.1 h;cases hy;simp only [aF,beq_iff_eq,decide_eq_true_eq] at hc;obtain ⟨⟨rfl,hlt⟩,hif⟩:=hc;intro S0 w0 a w Q' hQ' hi;obtain ⟨g,rfl,hI⟩:=hi;have hlen:=hI.len.1;have hda:d'<a.tmps.size:=by rw [hlen] at hlt; exact Nat.lt_of_add_lt_add_right hlt
     have hx:=hI.ev x;rw [hev] at hx;obtain ⟨arr,hxv,hxa⟩:=hx;have hxe:a.eval x=.agg (ns.map fun y=>Value.int y.1 y.2).toArray:=by
      rw [hxv,<- Jjz hns hxa]
     have hw1:Region.wanted o1 (yielded ops a.tmps)=true:=by unfold Region.wanted; rw [hg1]
     have hrun1:(execOp a.eval o1).run P g.w=.ok (.value (.iface t (a.eval x))) g.w:=by
      cases hu:P.underlying t with
      | none=>rw [hu] at hif; cases hif
      | some D=>
       rw [hu] at hif;cases D <;> first|(cases hif; done)|simp [execOp,hop1,Instr.makeInterface,run_underlying hu]
     unfold wpList;rw [if_pos hw1]
     left
     unfold Oper.wp;rw [hrun1,Oper.upon_value,hd1];unfold wpList;have hw2:∀ y,Region.wanted o2 y=true:=fun y=>by unfold Region.wanted; rw [hg2]
     rw [if_pos (hw2 _)]
     left
     unfold Oper.wp;have hev:(a.put (some d') (.iface t (a.eval x))).eval (.tmp d')=.iface t (a.eval x):=by simp [Act.put,Act.eval,hda]
     have hrun2:(execOp (a.put (some d') (.iface t (a.eval x))).eval o2).run P g.w=.halt (.panic (.iface t (a.eval x))) g.w:=by
      simp only [execOp,hop2,hev]
      rfl
     rw [hrun2];exact hQ' _ _ _ _ (hQ _ (by unfold Jjk Jq4; rw [hxe])) ⟨g,rfl,hI.put _ (by trivial)⟩
    ·cases h
   ·cases h
  ·cases h
 ·cases h
end
section
variable {P:Program} {Gl:GL} {s:PSt}
def Jy8(P:Program)(Gl:GL)(x:Option Ifc)(c:Code)(Q:Exit->PSt->Prop)(s:PSt):Prop :=
 ∀ (S0:Bs) (w0:World) (a:Act) (w:World) (c0:Frame) (cs:List Frame),Inv Gl S0 w0 s a w->(∀ y,x=some y->∃ ch,Jjk y ch/\c0.mode=.panicking ch)->(x=none->c0.mode=.returning) ->
  c.wpS P (fun e a' cs' w'=>(∃ s',Q e s'/\Inv Gl S0 w0 s' a' w')/\∃ u',cs'={ c0 with mode:=u' }::cs/\Go.settle u'=.returning) a (c0::cs) w
theorem Jso{x:Option Ifc}{c:Code}{Q:Exit->PSt->Prop}{s':PSt}(hw:Wkr s s')(h:Jy8 P Gl x c Q s'):Jy8 P Gl x c Q s:=fun S0 w0 a w c0 cs hi=>h S0 w0 a w c0 cs (hw Gl S0 w0 a w hi)
structure Kbi (P:Program) (o0 o1:Oper) (d0 d1:Nat):Prop where
 g0:o0.guard=none
 g1:o1.guard=none
 e0:o0.dst=some d0
 e1:o1.dst=some d1
 r0:∀ (a:Act) (w:World),(execOp a.eval o0).run P w=.ok .recover w
 r1:∀ (a:Act) (w:World),(execOp a.eval o1).run P w=.ok (.value (a.eval (.tmp d0))) w
theorem Jml{x:Option Ifc}{id d0 d1:Nat}{o0 o1:Oper}{y:Code}{Q:Exit->PSt->Prop}(ho:Kbi P o0 o1 d0 d1)(hd:decide (d0+s.m<s.tm.length)=true)(h:pwp P Gl y Q ((s.put (some d0) (.ifc x)).put (some d1) (.ifc x))) :
  Jy8 P Gl x (.seq (.region id #[o0,o1] false) y) Q s:=by
 intro S0 w0 a w c0 cs hi hp hn;apply wpS_seq;apply wpS_region;obtain ⟨g,rfl,hI⟩:=hi;have hlen:=hI.len.1;have hda:d0<a.tmps.size:=by have:=of_decide_eq_true hd; omega
 have hw0:∀ y,Region.wanted o0 y=true:=fun y=>by unfold Region.wanted; rw [ho.g0]
 have hw1:∀ y,Region.wanted o1 y=true:=fun y=>by unfold Region.wanted; rw [ho.g1]
 have e2:List.range (#[o0,o1]:Array Oper).size=[0,1]:=rfl;rw [e2];have fin:∀ (cs1:List Frame),(∃ u',cs1={ c0 with mode:=u' }::cs/\Go.settle u'=.returning) ->
   wpOpsS P #[o0,o1] (Exit.thenS (y.wpS P fun e a' cs' w'=>(∃ s',Q e s'/\Inv Gl S0 w0 s' a' w')/\∃ u',cs'={ c0 with mode:=u' }::cs/\Go.settle u'=.returning) fun e a' cs' w'=>(∃ s',Q e s'/\Inv Gl S0 w0 s' a' w')/\∃ u',cs'={ c0 with mode:=u' }::cs/\Go.settle u'=.returning) [1] (a.put (some d0) (Jq4 x)) cs1 g.w:=by
  intro cs1 hcs;have hx:(#[o0,o1]:Array Oper)[1]? = some o1:=rfl;unfold wpOpsS;rw [hx];simp only [hw1,if_true,ho.r1,Oper.upon_value,ho.e1,Jnw hda];unfold wpOpsS;simp only [Exit.thenS];refine wpS_of_wp ?_;have h2:=h S0 w0 ((a.put (some d0) (Jq4 x)).put (some d1) (Jq4 x)) g.w ⟨g,rfl,(hI.put (some d0) (p:=.ifc x) (by simp only [Rel,Km,Kh])).put (some d1) (by simp only [Rel,Km,Kh])⟩;exact Yv (fun e a' w' hq=>⟨hq,hcs⟩) h2
 unfold wpOpsS;have hx:(#[o0,o1]:Array Oper)[0]? = some o0:=rfl;rw [hx];simp only [hw0,if_true,ho.r0];cases x with
 | some y=>
  obtain ⟨ch,hch,hm⟩:=hp y rfl;unfold Jjk at hch;subst hch;simp only [recoverD,hm,ho.e0];exact fin _ ⟨_,rfl,by simp [Go.settle]⟩
 | none=>
  have hm:=hn rfl;simp only [recoverD,hm,ho.e0];exact fin _ ⟨.returning,by rw [<- hm],rfl⟩
def Jiy(P:Program)(Gl:GL)(rs:List ResultVar)(r:PV)(x:Option Ifc)(s:PSt):Prop :=
 ∃ f caps fn c,s.tm.getLast? = some (.fn f caps)/\s.m=1/\caps.all Db=true/\P.funcs[f]? = some fn/\(fn.name == "runtime.NumGoroutine")=false/\fn.body=some c/\fn.results.toList=[]/\Jy8 P Gl x c (Jg6 P Gl rs r) (Ms fn.ntmps caps s)
def Jur(P:Program)(Gl:GL)(rs:List ResultVar)(r:PV):Exit->PSt->Prop
 | .normal,s|.ret,s=>Jiy P Gl rs r none s
 | .panic ch,s=>∃ y,Jjk y ch/\Jiy P Gl rs r (some y) s
 | _,_=>False
theorem Joc{f:FuncId}{fn:Func}{c:Code}{args:List PV}{r:PV}{n:Nat}{rs:List ResultVar}(hf:P.funcs[f]? = some fn)(hname:(fn.name == "runtime.NumGoroutine")=false)(hb:fn.body=some c)(hn:fn.ntmps=n)(hrs:fn.results.toList=rs)(hflat:args.all Bp=true)(h:Ju3 P Gl c (Jh0 P Gl rs r) (Jur P Gl rs r) (st0 args n)):Yr P Gl f args r:=by
 refine ⟨⟨fn,hf,hname,by rw [hb]; rfl⟩,fun S w vs hS hglob hargs=>?_⟩;subst hn; subst hrs;refine calls_of_wp_defers hf hb ?_;refine Yv (fun e a' w' hq=>?_) (h ⟨S,fun _ _=>False,fun _ _ _=>False,[],[]⟩ w _ w rfl rfl (Jf1 hS hglob hargs hflat));rcases hq with ⟨s',hq,g,rfl,hg⟩|⟨s',fv,cap,hq,g,rfl,hg⟩
 ·have fin:Ib P Gl fn.results.toList r s'->Leaves P fn a'.tmps (fun e w'=>∃ v g',e=.returned v/\g'.w=w'/\Et S w r v g') a'.defers .returning g.w:=fun q=>by
   rw [hg.defers];exact Sd hg q
  cases e with
  | normal=>exact fin hq
  | ret=>exact fin hq
  | exit id=>exact hq.elim
  | goto l=>exact hq.elim
  | panic ch=>exact hq.elim
  | outgrown=>exact hq.elim
 ·have fin:∀ (x:Option Ifc) (u:FrameMode),u≠.run->(∀ y,x=some y->∃ ch,Jjk y ch/\u=.panicking ch)->(x=none->u=.returning)->Jiy P Gl fn.results.toList r x s'->Leaves P fn a'.tmps (fun e w'=>∃ v g',e=.returned v/\g'.w=w'/\Et S w r v g') a'.defers u g.w:=fun x u hu hp hnp q=>by
   obtain ⟨f2,caps,fn2,c2,k1,k2,k3,k4,k5,k6,k7,k8⟩:=q;rw [hg.defers];have hl:=hg.len;have hl1:s'.tm.length=a'.tmps.size+1:=by rw [hl.1,k2]
   have hlast:s'.tm[a'.tmps.size]? = some (.fn f2 caps):=by
    rw [dH] at k1
    rwa [hl1,dT] at k1
   have hfr:=hg.tm a'.tmps.size _ (.func fv #[] cap) hlast (by
    show (a'.tmps.toList++[Value.func fv #[] cap])[a'.tmps.size]? = _;rw [cK sG]; simp)
   simp only [Rel,Km,Kh] at hfr;obtain ⟨arr,hfv,hcaps⟩:=hfr;cases hfv;have hne:fn2.name ≠ "runtime.NumGoroutine" := by simpa using k5
   have hbody:fn2.body≠none:=fun e=>by rw [e] at k6; cases k6
   refine leaves_cons (f:=f2) (args:=cap) hu (by simp [invoke,callFunc,run_program,k4,hne,hbody]) ?_;have hall:Ke (Rel g) caps cap.toList:=⟨hcaps.1,fun i p v hp hv=>by
    have hpv:=hcaps.2 i p v hp hv;have h2:=aG.1 k3 p (aD hp);cases p <;> simp only [Db] at h2 <;> try cases h2
    all_goals exact hpv⟩
   refine CallsD.mono (callsD_of_wpS (R:=fun e u' w'=>∃ v,e=.returned v/\Go.settle u'=.returning/\Leaves P fn a'.tmps (fun e w'=>∃ v g',e=.returned v/\g'.w=w'/\Et S w r v g') [] .returning w') k4 k6 fun c₀ cs hu=>?_) ?_
   ·have hsz2:caps.length=cap.size:=by rw [hall.1]; simp
    have hinit2:Inv Gl ⟨S,fun _ _=>False,fun _ _ _=>False,a'.tmps.toList++[Value.func (.func f2) #[] cap],[]⟩ w (Ms fn2.ntmps caps s') { tmps:=cap++Array.replicate (fn2.ntmps - cap.size) undef,defers:=[] } g.w:=by
     refine ⟨g,rfl,{ hg with defers:=rfl,len:=⟨?_, ?_⟩,tm:=fun i p v hp hv=>?_ }⟩
     ·simp only [Ms,aM,dW,dE,dY,hsz2]
     ·show (a'.tmps.toList++[Value.func (.func f2) #[] cap]).length=s'.tm.length;rw [aM,bB]; simp only [bY]; omega
     ·simp only [Ms] at hp;have hl2:(caps++List.replicate (fn2.ntmps - caps.length) PV.any).length=(cap++Array.replicate (fn2.ntmps - cap.size) undef).toList.length:=by
       simp [hsz2]
      rw [aR] at hp;have hv:((cap++Array.replicate (fn2.ntmps - cap.size) undef).toList++(a'.tmps.toList++[Value.func (.func f2) #[] cap]))[i]? = some v:=hv;rw [aR,<- hl2] at hv
      by_cases hi:i<(caps++List.replicate (fn2.ntmps - caps.length) PV.any).length
      ·rw [if_pos hi] at hp hv;rw [aR] at hp
       by_cases hi2:i<caps.length
       ·rw [if_pos hi2] at hp;rw [cI,bI (by rw [<- hall.1]; exact hi2)] at hv;exact hall.2 i p v hp hv
       ·rw [if_neg hi2,bS] at hp;split at hp
        ·cases hp; trivial
        ·cases hp
      ·rw [if_neg hi] at hp hv;exact hg.tm _ p v hp hv
    refine Jsk (k8 _ w _ g.w c₀ cs hinit2 (fun y e=>by rw [hu]; exact hp y e) (fun e=>by rw [hu]; exact hnp e)) ?_;rintro e3 a3 cs3 w3 ⟨⟨s3,hq3,g3,rfl,hg3⟩,u3,rfl,hset⟩;have fin3:Ib P Gl fn.results.toList r { s3 with tm:=s3.tm.drop (s3.tm.length - s3.m),m:=1 }->a3.defers=[]/\∃ u',({ c₀ with mode:=u3 }:Frame)::cs={ c₀ with mode:=u' }::cs/\∃ v,(results fn2 a3.tmps).run P g3.w=.ok v g3.w/\∃ v2,Ending.returned v=.returned v2/\Go.settle u'=.returning/\Leaves P fn a'.tmps (fun e w'=>∃ v g',e=.returned v/\g'.w=w'/\Et S w r v g') [] .returning g3.w:=fun q=>by
     have hl3:=hg3.len;have hm3:s3.m=a'.tmps.size+1:=by
      have e:(a'.tmps.toList++[Value.func (.func f2) #[] cap]).length=s3.m:=hl3.2;rw [aM,bB] at e;simp only [bY] at e; omega
     have hbase:Kd Gl ⟨S,fun _ _=>False,fun _ _ _=>False,[Value.func (.func f2) #[] cap],[]⟩ w { s3 with tm:=s3.tm.drop (s3.tm.length - s3.m),m:=1 } { tmps:=a'.tmps,defers:=[] } g3:=by
      refine { hg3 with defers:=rfl,len:=⟨?_,rfl⟩,tm:=fun i p v hp hv=>?_ }
      ·show (s3.tm.drop (s3.tm.length - s3.m)).length=a'.tmps.size+1;rw [bV]; omega
      ·have hp:(s3.tm.drop (s3.tm.length - s3.m))[i]? = some p:=hp;rw [cH] at hp;refine hg3.tm _ p v hp ?_;show (a3.tmps.toList++(a'.tmps.toList++[Value.func (.func f2) #[] cap]))[_]? = some v;have e:s3.tm.length - s3.m=a3.tmps.toList.length:=by rw [bB]; omega
       rw [e,cK oG,cP];exact hv
     refine ⟨hg3.defers,u3,rfl,.tuple #[], ?_,_,rfl,hset,Sd (a':={ tmps:=a'.tmps,defers:=[] }) hbase q⟩;rw [Dy,bU,k7];simp
    cases e3 with
    | normal=>exact fin3 hq3
    | ret=>exact fin3 hq3
    | exit id=>exact hq3.elim
    | goto l=>exact hq3.elim
    | panic ch=>exact hq3.elim
    | outgrown=>exact hq3.elim
   ·rintro e3 u3 w3 ⟨v3,rfl,hset,hL⟩;show Leaves _ _ _ _ [] (Go.settle u3) w3;rw [hset]; exact hL
  cases e with
  | normal=>exact fin none .returning sG (fun _ e=>by cases e) (fun _=>rfl) hq
  | ret=>exact fin none .returning sG (fun _ e=>by cases e) (fun _=>rfl) hq
  | exit id=>exact hq.elim
  | goto l=>exact hq.elim
  | panic ch=>exact let ⟨y,h1,h2⟩:=hq; fin (some y) (.panicking ch) sG (fun y' e=>by cases e; exact ⟨ch,h1,rfl⟩) (fun e=>by cases e) h2
  | outgrown=>exact hq.elim
theorem Jwo{f n:Nat}{caps:List PV}{fn:Func}{c:Code}{rs:List ResultVar}{r:PV}{x:Option Ifc}(h:(s.tm.getLast?,s.m,caps.all Db)=(some (.fn f caps),1,true))(hf:P.funcs[f]? = some fn)(hname:(fn.name == "runtime.NumGoroutine")=false)(hb:fn.body=some c)(hn:fn.ntmps=n)(hres:fn.results.toList=[])(h2:Jy8 P Gl x c (Jg6 P Gl rs r) (Ms n caps s)):Jiy P Gl rs r x s:=by
 subst hn;simp only [aK] at h;exact ⟨f,caps,fn,c,h.1,h.2.1,h.2.2,hf,hname,hb,hres,h2⟩
theorem Ke4{rs:List ResultVar}{r:PV}(h:Jiy P Gl rs r none s):Jur P Gl rs r .ret s:=h
theorem Kem{rs:List ResultVar}{r:PV}{ch:List PanicEntry}{y:Ifc}(hc:Jjk y ch)(h:Jiy P Gl rs r (some y) s):Jur P Gl rs r (.panic ch) s:=⟨y,hc,h⟩
variable {Ls:List (Oper×Gd)} {Q:PSt->Prop}
def Kc9 : List (Oper×Gd)->PSt->Option (TypeId×Bool)
 | (o,.always)::_,s=>match o.op with
  | .binOp .neq t (.tmp x) (.const .nilIface) _=>match s.ev (.tmp x) with
   | .ifc y=>some (t,y.isSome)
   | _=>none
  | _=>none
 | _,_=>none
theorem Kda{t:TypeId}{b:Bool}(h:Kc9 Ls s=some (t,b))(hT:P.underlying t=some (.interface (P.methodsAt t)))(h2:Ju P Gl false (Ls.drop 1) (s.put (Qk Ls) (.bool b)) Q):Ju P Gl false Ls s Q:=by
 unfold Kc9 at h;split at h
 ·rename_i s0 o rest;split at h
  ·rename_i t' x t2 hop;split at h
   ·rename_i y e1;cases h;refine Tn (n:=s) (v:=.bool y.isSome) (by rw [hop]; rfl) ?_ h2;intro S0 w0 a g K Q' hg hK;have hx:=hg.ev (.tmp x);rw [e1] at hx;simp only [Rel,Km,Kh] at hx;have hfull:(execOp a.eval o).run P g.w=.ok (.value (.bool y.isSome)) g.w:=by
     simp only [execOp,hop];rw [hx];cases y with
     | none=>simp [go_sem,Jq4,run_neq_nil_nil _ _ hT]
     | some y=>simp [go_sem,Jq4,run_neq_held_nil _ _ _ _ hT]
    unfold Oper.wp;rw [hfull];exact hK _ g hg (GLe.refl g) (by simp [Rel,Km,Kh,Js])
   ·cases h
  ·cases h
 ·cases h
def Kdd(P:Program):List (Oper×Gd)->PSt->Option (List (IntKind×Int))
 | (o,.always)::_,s=>match o.op with
  | .typeAssert x _ t true=>match s.ev x with
   | .ifc (some (t',cs))=>if (t' == t&&Jqn (P.underlying t))=true then some cs else none
   | _=>none
  | _=>none
 | _,_=>none
theorem Kgk{cs:List (IntKind×Int)}(h:Kdd P Ls s=some cs)(h2:Ju P Gl false (Ls.drop 1) (s.put (Qk Ls) (.tup [.agg (cs.map fun y=>.int y.1 y.2),.bool true])) Q):Ju P Gl false Ls s Q:=by
 unfold Kdd at h;split at h
 ·rename_i s0 o rest;split at h
  ·rename_i x xT t hop;split at h
   ·rename_i t' cs' e1;split at h
    ·rename_i hc;cases h;simp only [aF,beq_iff_eq] at hc;obtain ⟨rfl,hif⟩:=hc;refine Tn (n:=s) (v:=PV.tup [PV.agg (cs.map fun (y:IntKind×Int)=>PV.int y.1 y.2),PV.bool true]) (by rw [hop]; rfl) ?_ h2;intro S0 w0 a g K Q' hg hK;have hx:=hg.ev x;rw [e1] at hx;simp only [Rel,Km,Kh] at hx;have hfull:(execOp a.eval o).run P g.w=.ok (.value (.tuple #[.agg (cs.map fun y=>Value.int y.1 y.2).toArray,.bool true])) g.w:=by
      cases hu:P.underlying t' with
      | none=>rw [hu] at hif; cases hif
      | some D=>
       rw [hu] at hif;cases D <;> first|(cases hif; done)|simp [execOp,hop,Instr.typeAssert,run_underlying hu,hx,Jq4]
     unfold Oper.wp;rw [hfull];refine hK _ g hg (GLe.refl g) ⟨_,rfl, ?_⟩;refine ⟨by simp,fun i p v hp hv=>?_⟩
     match i with
     | 0=>
      simp at hp hv; subst hp; subst hv;refine ⟨_,rfl,by simp,fun j q u hq hu=>?_⟩;rw [aL] at hq;rw [aL] at hu;cases hj:cs[j]? with
      | none=>rw [hj] at hq; cases hq
      | some z=>rw [hj] at hq hu; cases hq; cases hu; exact ⟨by simp [Kh,Js],rfl⟩
     | 1=>simp at hp hv; subst hp; subst hv; simp [Km,Kh,Js]
     | i+2=>simp at hp
    ·cases h
   ·cases h
  ·cases h
 ·cases h
end
end PM
